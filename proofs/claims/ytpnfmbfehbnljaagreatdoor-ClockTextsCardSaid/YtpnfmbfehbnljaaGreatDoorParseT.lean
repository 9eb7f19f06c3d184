/- The clock's Parse and Text. -/
import Derived.Test.YtpnfmbfehbnljaaGreatDoorTimeOf
import Derived.Test.YtpnfmbfehbnljaaGreatDoorClock3
import Derived.Test.YtpnfmbfehbnljaaGreatDoorDigits
import Derived.Test.YtpnfmbfehbnljaaGreatDoorDateP
set_option linter.unusedVariables false
set_option maxHeartbeats 4000000
namespace Go.Proofs.YtpnfmbfehbnljaaGreatDoor
open Go.RowKit

theorem timeS_bd (l : List UInt8) : 0 ≤ (timeS l).1 ∧ (timeS l).1 ≤ 4000000000 := by
  unfold timeS
  dsimp only
  split
  · decide
  · have b0 := nN_bd (nth (Lib.split (Lib.cut l [46]).1 [58]) 0)
    have b1 := nN_bd (nth (Lib.split (Lib.cut l [46]).1 [58]) 1)
    have b2 := nN_bd (nth (Lib.split (Lib.cut l [46]).1 [58]) 2)
    have b3 := nN_bd (Lib.cut l [46]).2.1
    dsimp only
    split <;> omega
def parseT (l : List UInt8) : Int × Int := match dateP (Lib.cut l [32]).1 with
  | some x => if (Lib.cut l [32]).2.2 = true ∧ (timeS (Lib.cut l [32]).2.1).2 = true then atS x.1 x.2.1 x.2.2 (timeS (Lib.cut l [32]).2.1).1 else (0, 7)
  | none => (0, 7)
theorem parseT_c (l : List UInt8) (hl : l.length ≤ 1000000) : ContIn Tryz.prog Laid 9 [strV l] (numE (parseT l).1 (parseT l).2) := fun w hI => by
  have h0 := cut_c l [32] (by omega)
  have hcb := cut_bd l [32]
  obtain ⟨a, ha⟩ : ∃ a, (Lib.cut l [32]).1 = a := ⟨_, rfl⟩
  obtain ⟨p, hp⟩ : ∃ p, (Lib.cut l [32]).2.1 = p := ⟨_, rfl⟩
  obtain ⟨b, hb⟩ : ∃ b, (Lib.cut l [32]).2.2 = b := ⟨_, rfl⟩
  rw [ha, hp, hb] at h0
  rw [ha, hp] at hcb
  have h1 := Parse_c a (by omega)
  have h2 := clock_c p (by omega)
  have hb2 := timeS_bd p
  cases hd : dateP a with
  | none =>
    have hr : parseT l = (0, 7) := by unfold parseT; rw [ha, hd]
    rw [hd] at h1
    have h1' : ContIn Tryz.prog Laid 30 [strV a] (.tuple [dateV 0 0 0, .int .i64 7].toArray) := h1
    refine enter0 Tryz.func9 rfl rfl rfl ?_
    repeat' (first
    | (show YK _ _ _ _ _ _ _; first | refine YK.mk (y_callIn (h0) (fun _ hw => hI.keep hw.ext) ⟨rfl, rfl, rfl⟩ (by decide +kernel)) ?_ | refine YK.mk (y_callIn (h1') (fun _ hw => hI.keep hw.ext) ⟨rfl, rfl⟩ (by decide +kernel)) ?_ | refine YK.mk (y_callIn (h2) (fun _ hw => hI.keep hw.ext) ⟨rfl, rfl⟩ (by decide +kernel)) ?_)
    | (show YK _ _ _ _ _ _ _; refine YK.ofV vAuto ?_)
    | (show VK _ _ _ _ _ _ _; refine VK.mk vAuto ?_)
    | (show RS _ _ _ _ _ _ _ _; first | (refine nxRS ?_) | (refine nxRS1 fun _ => ?_))
    | (show RM _ _ _ _ _ _ _ _ _ _; first | (refine nxRM ?_) | (refine nxRM1 fun _ => ?_))
    | (show YG _ _ _ _ _ _ _ _; refine YG.mk (fun hb => by (try (have hc := And.left hb; have hb := And.right hb; rw [hc])); (try rw [hb]); first | exact (y_callIn (h0) (fun _ hw => hI.keep hw.ext) ⟨rfl, rfl, rfl⟩ (by decide +kernel)) | exact (y_callIn (h1') (fun _ hw => hI.keep hw.ext) ⟨rfl, rfl⟩ (by decide +kernel)) | exact (y_callIn (h2) (fun _ hw => hI.keep hw.ext) ⟨rfl, rfl⟩ (by decide +kernel)) | exact V.y vAuto) ?_)
    | (show VG _ _ _ _ _ _ _ _; refine VG.mk (fun hb => by (try (have hc := And.left hb; have hb := And.right hb; rw [hc])); (try rw [hb]); exact vAuto) ?_)
    | (refine nxVS ?_)
    | (refine nxGS ?_)
    | (refine nxX ?_)
    | (refine G.condN rfl (fun hc => ?_) (fun hc => ?_) <;> (try first | exact False.elim hc | (exfalso; omega))))
    all_goals exact X.ret (vs := [_, _]) rfl ⟨rfl, rfl, rfl⟩ rfl (fun w hw => ⟨by rw [hr], hw.ext⟩)
  | some x =>
    obtain ⟨y, m, d⟩ := x
    have hr : parseT l = if b = true ∧ (timeS p).2 = true then atS y m d (timeS p).1 else (0, 7) := by unfold parseT; rw [ha, hd, hp, hb]
    rw [hd] at h1
    have h1' : ContIn Tryz.prog Laid 30 [strV a] (.tuple [dateV y m d, .int .i64 0].toArray) := h1
    have h3 := at_c (y := y) (m := m) (d := d) (ms := (timeS p).1) (by omega)
    refine enter0 Tryz.func9 rfl rfl rfl ?_
    repeat' (first
    | (show YK _ _ _ _ _ _ _; first | refine YK.mk (y_callIn (h0) (fun _ hw => hI.keep hw.ext) ⟨rfl, rfl, rfl⟩ (by decide +kernel)) ?_ | refine YK.mk (y_callIn (h1') (fun _ hw => hI.keep hw.ext) ⟨rfl, rfl⟩ (by decide +kernel)) ?_ | refine YK.mk (y_callIn (h2) (fun _ hw => hI.keep hw.ext) ⟨rfl, rfl⟩ (by decide +kernel)) ?_ | refine YK.mk (y_callA (h3) ⟨rfl, rfl, rfl⟩) ?_)
    | (show YK _ _ _ _ _ _ _; refine YK.ofV vAuto ?_)
    | (show VK _ _ _ _ _ _ _; refine VK.mk vAuto ?_)
    | (show RS _ _ _ _ _ _ _ _; first | (refine nxRS ?_) | (refine nxRS1 fun _ => ?_))
    | (show RM _ _ _ _ _ _ _ _ _ _; first | (refine nxRM ?_) | (refine nxRM1 fun _ => ?_))
    | (show YG _ _ _ _ _ _ _ _; refine YG.mk (fun hb => by (try (have hc := And.left hb; have hb := And.right hb; rw [hc])); (try rw [hb]); first | exact (y_callIn (h0) (fun _ hw => hI.keep hw.ext) ⟨rfl, rfl, rfl⟩ (by decide +kernel)) | exact (y_callIn (h1') (fun _ hw => hI.keep hw.ext) ⟨rfl, rfl⟩ (by decide +kernel)) | exact (y_callIn (h2) (fun _ hw => hI.keep hw.ext) ⟨rfl, rfl⟩ (by decide +kernel)) | exact (y_callA (h3) ⟨rfl, rfl, rfl⟩) | exact V.y vAuto) ?_)
    | (show VG _ _ _ _ _ _ _ _; refine VG.mk (fun hb => by (try (have hc := And.left hb; have hb := And.right hb; rw [hc])); (try rw [hb]); exact vAuto) ?_)
    | (refine nxVS ?_)
    | (refine nxGS ?_)
    | (refine nxX ?_)
    | (refine G.condN rfl (fun hc => ?_) (fun hc => ?_) <;> (try first | exact False.elim hc | (exfalso; omega))))
    · rw [if_neg (fun g => by
        rcases hc with hc | hc
        · rw [g.1] at hc; cases hc
        · rw [g.2] at hc; cases hc)] at hr
      exact X.ret (vs := [_, _]) rfl ⟨rfl, rfl, rfl⟩ rfl (fun w hw => ⟨by rw [hr], hw.ext⟩)
    · rw [if_pos hc] at hr
      exact X.ret (vs := [_, _]) rfl ⟨rfl, rfl, rfl⟩ rfl (fun w hw => ⟨by rw [hr], hw.ext⟩)
def textS (y m d ms : Int) : List UInt8 :=
  let out := dateL y m d ++ [32] ++ digS (ms / 1000 / 3600) 2 ++ [58] ++ digS (ms / 1000 / 60 % 60) 2 ++ [58] ++ digS (ms / 1000 % 60) 2
  if 0 < ms % 1000 then out ++ ([46] ++ digS (ms % 1000) 3) else out
theorem digS_len (n : Int) (c : Nat) : (digS n c).length = c := by unfold digS; rw [List.length_map, tlD_len]
theorem textT_t {t y m d : Int} (hb : instB t = true) (hv : validB y m d = true) (hn : num y m d = t / 86400000) : ContIn Tryz.prog Laid 7 [.int .i64 t] (.tuple [strV (textS y m d (t % 86400000)), .int .i64 0].toArray) := fun w hI => by
  have h1 := split_t hb hv hn
  have h2 := Text_t hv
  obtain ⟨hy, hm, hd⟩ := valid_of hv
  have hdm := dim_bd y m
  have l1 := pad_len (n := y) (k := 4) (by omega) (by decide)
  have l2 := pad_len (n := m) (k := 2) (by omega) (by decide)
  have l3 := pad_len (n := d) (k := 2) (by omega) (by decide)
  have ld : (dateL y m d).length ≤ 100 := by unfold dateL; simp only [List.length_append, List.length_cons, List.length_nil]; omega
  obtain ⟨ms, hms⟩ : ∃ ms, t % 86400000 = ms := ⟨_, rfl⟩
  have hmb : 0 ≤ ms ∧ ms < 86400000 := by omega
  rw [hms] at h1 ⊢
  have e1 := digS_len (ms / 1000 / 3600) 2
  have e2 := digS_len (ms / 1000 / 60 % 60) 2
  have e3 := digS_len (ms / 1000 % 60) 2
  have e4 := digS_len (ms % 1000) 3
  have d1 := digits_c (n := ms / 1000 / 3600) (c := 2) (by omega)
  have d2 := digits_c (n := ms / 1000 / 60 % 60) (c := 2) (by omega)
  have d3 := digits_c (n := ms / 1000 % 60) (c := 2) (by omega)
  have d4 := digits_c (n := ms % 1000) (c := 3) (by omega)
  refine enter0 Tryz.func7 rfl rfl rfl ?_
  repeat' (first
    | (show YK _ _ _ _ _ _ _; first | refine YK.mk (y_callA (h1) ⟨rfl, rfl⟩) ?_ | refine YK.mk (y_callIn (h2) (fun _ hw => hI.keep hw.ext) ⟨rfl, rfl⟩ (by decide +kernel)) ?_ | refine YK.mk (y_callA (d1) ⟨rfl, rfl, rfl⟩) ?_ | refine YK.mk (y_callA (d2) ⟨rfl, rfl, rfl⟩) ?_ | refine YK.mk (y_callA (d3) ⟨rfl, rfl, rfl⟩) ?_ | refine YK.mk (y_callA (d4) ⟨rfl, rfl, rfl⟩) ?_)
    | (show YK _ _ _ _ _ _ _; refine YK.ofV vAuto ?_)
    | (show VK _ _ _ _ _ _ _; refine VK.mk vAuto ?_)
    | (show RS _ _ _ _ _ _ _ _; first | (refine nxRS ?_) | (refine nxRS1 fun _ => ?_))
    | (show RM _ _ _ _ _ _ _ _ _ _; first | (refine nxRM ?_) | (refine nxRM1 fun _ => ?_))
    | (show YG _ _ _ _ _ _ _ _; refine YG.mk (fun hb => by (try (have hc := And.left hb; have hb := And.right hb; rw [hc])); (try rw [hb]); first | exact (y_callA (h1) ⟨rfl, rfl⟩) | exact (y_callIn (h2) (fun _ hw => hI.keep hw.ext) ⟨rfl, rfl⟩ (by decide +kernel)) | exact (y_callA (d1) ⟨rfl, rfl, rfl⟩) | exact (y_callA (d2) ⟨rfl, rfl, rfl⟩) | exact (y_callA (d3) ⟨rfl, rfl, rfl⟩) | exact (y_callA (d4) ⟨rfl, rfl, rfl⟩) | exact V.y vAuto) ?_)
    | (show VG _ _ _ _ _ _ _ _; refine VG.mk (fun hb => by (try (have hc := And.left hb; have hb := And.right hb; rw [hc])); (try rw [hb]); exact vAuto) ?_)
    | (refine nxVS ?_)
    | (refine nxGS ?_)
    | (refine nxX ?_)
    | (refine G.condN rfl (fun hc => ?_) (fun hc => ?_) <;> (try first | exact False.elim hc | (exfalso; omega))))
  · exact X.ret (vs := [_, _]) rfl ⟨rfl, rfl, rfl⟩ rfl (fun w hw => ⟨by unfold textS; rw [if_pos hc], hw.ext⟩)
  · exact X.ret (vs := [_, _]) rfl ⟨rfl, rfl, rfl⟩ rfl (fun w hw => ⟨by unfold textS; rw [if_neg (by omega)], hw.ext⟩)
theorem textT_e {t e : Int} (hs : Cont Tryz.prog 12 [.int .i64 t] (splitV 0 0 0 0 e)) (he : e = 2 ∨ e = 20) : Cont Tryz.prog 7 [.int .i64 t] (.tuple [strV [], .int .i64 e].toArray) := fun w => by
  refine enter0 Tryz.func7 rfl rfl rfl ?_
  rcases he with rfl | rfl
  · repeat' (first
    | (show YK _ _ _ _ _ _ _; first | refine YK.mk (y_callA (hs) ⟨rfl, rfl⟩) ?_)
    | (show YK _ _ _ _ _ _ _; refine YK.ofV vAuto ?_)
    | (show VK _ _ _ _ _ _ _; refine VK.mk vAuto ?_)
    | (show RS _ _ _ _ _ _ _ _; first | (refine nxRS ?_) | (refine nxRS1 fun _ => ?_))
    | (show RM _ _ _ _ _ _ _ _ _ _; first | (refine nxRM ?_) | (refine nxRM1 fun _ => ?_))
    | (show YG _ _ _ _ _ _ _ _; refine YG.mk (fun hb => by (try (have hc := And.left hb; have hb := And.right hb; rw [hc])); (try rw [hb]); first | exact (y_callA (hs) ⟨rfl, rfl⟩) | exact V.y vAuto) ?_)
    | (show VG _ _ _ _ _ _ _ _; refine VG.mk (fun hb => by (try (have hc := And.left hb; have hb := And.right hb; rw [hc])); (try rw [hb]); exact vAuto) ?_)
    | (refine nxX ?_)
    | (refine G.condN rfl (fun hc => ?_) (fun hc => ?_) <;> (try first | exact False.elim hc | (exfalso; omega))))
    exact X.ret (vs := [_, _]) rfl ⟨rfl, rfl, rfl⟩ rfl (fun w hw => ⟨rfl, hw.ext⟩)
  · repeat' (first
    | (show YK _ _ _ _ _ _ _; first | refine YK.mk (y_callA (hs) ⟨rfl, rfl⟩) ?_)
    | (show YK _ _ _ _ _ _ _; refine YK.ofV vAuto ?_)
    | (show VK _ _ _ _ _ _ _; refine VK.mk vAuto ?_)
    | (show RS _ _ _ _ _ _ _ _; first | (refine nxRS ?_) | (refine nxRS1 fun _ => ?_))
    | (show RM _ _ _ _ _ _ _ _ _ _; first | (refine nxRM ?_) | (refine nxRM1 fun _ => ?_))
    | (show YG _ _ _ _ _ _ _ _; refine YG.mk (fun hb => by (try (have hc := And.left hb; have hb := And.right hb; rw [hc])); (try rw [hb]); first | exact (y_callA (hs) ⟨rfl, rfl⟩) | exact V.y vAuto) ?_)
    | (show VG _ _ _ _ _ _ _ _; refine VG.mk (fun hb => by (try (have hc := And.left hb; have hb := And.right hb; rw [hc])); (try rw [hb]); exact vAuto) ?_)
    | (refine nxX ?_)
    | (refine G.condN rfl (fun hc => ?_) (fun hc => ?_) <;> (try first | exact False.elim hc | (exfalso; omega))))
    exact X.ret (vs := [_, _]) rfl ⟨rfl, rfl, rfl⟩ rfl (fun w hw => ⟨rfl, hw.ext⟩)
end Go.Proofs.YtpnfmbfehbnljaaGreatDoor
