/- The clock's time of day out of a text. -/
import Derived.Test.YtpnfmbfehbnljaaGreatDoorNumber
import Derived.Test.YtpnfmbfehbnljaaGreatDoorParse
set_option linter.unusedVariables false
set_option maxHeartbeats 4000000
namespace Go.Proofs.YtpnfmbfehbnljaaGreatDoor
open Go.RowKit

def nN (l : List UInt8) : Int := (numR 0 l).getD 0
def okN (l : List UInt8) (c lim : Int) : Bool := (numR 0 l).isSome && (decide ((l.length : Int) = c) && decide (nN l < lim))
theorem numR_bd : ∀ {l : List UInt8} {acc n : Int}, 0 ≤ acc ∧ acc ≤ 1000 → numR acc l = some n → 0 ≤ n ∧ n ≤ 1000
  | [], acc, n, h, e => by cases e; exact h
  | b :: r, acc, n, h, e => by
    unfold numR at e
    split at e
    · cases e
    next h1 =>
    split at e
    · cases e
    · exact numR_bd (by omega) e
theorem nN_bd (l : List UInt8) : 0 ≤ nN l ∧ nN l ≤ 1000 := by
  unfold nN
  cases e : numR 0 l with
  | none => decide
  | some n => exact numR_bd (by decide) e
theorem number_v (l : List UInt8) {c lim : Int} (hl : l.length ≤ 1000000) (h : (-9223372036854775808 ≤ c ∧ c ≤ 9223372036854775807) ∧ -9223372036854775808 ≤ lim ∧ lim ≤ 9223372036854775807) : Cont Tryz.prog 53 [strV l, .int .i64 c, .int .i64 lim] (.tuple [.int .i64 (nN l), .bool (okN l c lim)].toArray) := fun w => by
  refine (cnum_c l hl h w).mono fun e w' ⟨he, hb⟩ => ⟨?_, hb⟩
  rw [he]
  unfold numV okN nN
  cases numR 0 l <;> simp
def timeS (l : List UInt8) : Int × Bool :=
  let r := Lib.cut l [46]
  let P := Lib.split r.1 [58]
  if P.length ≠ 3 then (0, false) else
  (((nN (nth P 0) * 60 + nN (nth P 1)) * 60 + nN (nth P 2)) * 1000 + (if r.2.2 then nN r.2.1 else 0), okN (nth P 0) 2 24 && okN (nth P 1) 2 60 && okN (nth P 2) 2 60 && (if r.2.2 then okN r.2.1 3 1000 && decide (0 < nN r.2.1) else true))
theorem cut_bd (l sep : List UInt8) : (Lib.cut l sep).1.length ≤ l.length ∧ (Lib.cut l sep).2.1.length ≤ l.length := by
  unfold Lib.cut
  split <;> simp <;> omega
theorem clock_c (l : List UInt8) (hl : l.length ≤ 1000000) : ContIn Tryz.prog Laid 31 [strV l] (.tuple [.int .i64 (timeS l).1, .bool (timeS l).2].toArray) := fun w hI => by
  have h0 := cut_c l [46] (by omega)
  have hcb := cut_bd l [46]
  obtain ⟨a, ha⟩ : ∃ a, (Lib.cut l [46]).1 = a := ⟨_, rfl⟩
  obtain ⟨p, hp⟩ : ∃ p, (Lib.cut l [46]).2.1 = p := ⟨_, rfl⟩
  obtain ⟨b, hb⟩ : ∃ b, (Lib.cut l [46]).2.2 = b := ⟨_, rfl⟩
  rw [ha, hp, hb] at h0
  rw [ha, hp] at hcb
  have h1 := split_c a [58] (by omega) (by decide)
  have hbd : ∀ x ∈ Lib.split a [58], x.length ≤ a.length := split_bd _ _ _
  obtain ⟨P, hP⟩ : ∃ P, Lib.split a [58] = P := ⟨_, rfl⟩
  rw [hP] at h1 hbd
  have hr : timeS l = if P.length ≠ 3 then (0, false) else (((nN (nth P 0) * 60 + nN (nth P 1)) * 60 + nN (nth P 2)) * 1000 + (if b then nN p else 0), okN (nth P 0) 2 24 && okN (nth P 1) 2 60 && okN (nth P 2) 2 60 && (if b then okN p 3 1000 && decide (0 < nN p) else true)) := by
    unfold timeS; dsimp only; rw [ha, hp, hb, hP]
  by_cases h3 : P.length = 3
  · have hbk : ∀ k : Int, 0 ≤ k ∧ k < 3 → (nth P k).length ≤ 1000000 := fun k hk => Nat.le_trans (hbd _ (List.mem_of_getElem? (nth_some (l := P) (m := k) (by omega) (by omega)))) (by omega)
    have n0 := number_v (nth P 0) (c := 2) (lim := 24) (hbk 0 (by decide)) (by omega)
    have n1 := number_v (nth P 1) (c := 2) (lim := 60) (hbk 1 (by decide)) (by omega)
    have n2 := number_v (nth P 2) (c := 2) (lim := 60) (hbk 2 (by decide)) (by omega)
    have n3 := number_v p (c := 3) (lim := 1000) (by omega) (by omega)
    have b0 := nN_bd (nth P 0)
    have b1 := nN_bd (nth P 1)
    have b2 := nN_bd (nth P 2)
    have b3 := nN_bd p
    refine enter0 Tryz.func31 rfl rfl rfl ?_
    repeat' (first
    | (show RS _ _ _ _ _ _ _ (⟨some _, .call _, _, _, _, none⟩ :: _); refine RS.callI h1 ⟨rfl, rfl, rfl⟩ (fun _ hw => hI.keep hw.ext) ?_; rintro z _; dsimp only [List.cons_append, List.nil_append])
    | (show YK _ _ _ _ _ _ _; first | refine YK.mk (y_callIn (h0) (fun _ hw => hI.keep hw.ext) ⟨rfl, rfl, rfl⟩ (by decide +kernel)) ?_ | refine YK.mk (y_callA (n0) ⟨rfl, rfl, rfl, rfl⟩) ?_ | refine YK.mk (y_callA (n1) ⟨rfl, rfl, rfl, rfl⟩) ?_ | refine YK.mk (y_callA (n2) ⟨rfl, rfl, rfl, rfl⟩) ?_ | refine YK.mk (y_callA (n3) ⟨rfl, rfl, rfl, rfl⟩) ?_)
    | (show YK _ _ _ _ _ _ _; refine YK.ofV vAuto ?_)
    | (show VK _ _ _ _ _ _ _; refine VK.mk vAuto ?_)
    | (show RS _ _ _ _ _ _ _ _; first | (refine nxRS ?_) | (refine nxRS1 fun _ => ?_))
    | (show RM _ _ _ _ _ _ _ _ _ _; first | (refine nxRM ?_) | (refine nxRM1 fun _ => ?_))
    | (show YG _ _ _ _ _ _ _ _; refine YG.mk (fun hb => by (try (have hc := And.left hb; have hb := And.right hb; rw [hc])); (try rw [hb]); first | exact (y_callIn (h0) (fun _ hw => hI.keep hw.ext) ⟨rfl, rfl, rfl⟩ (by decide +kernel)) | exact (y_callA (n0) ⟨rfl, rfl, rfl, rfl⟩) | exact (y_callA (n1) ⟨rfl, rfl, rfl, rfl⟩) | exact (y_callA (n2) ⟨rfl, rfl, rfl, rfl⟩) | exact (y_callA (n3) ⟨rfl, rfl, rfl, rfl⟩) | exact V.y vAuto) ?_)
    | (show VG _ _ _ _ _ _ _ _; refine VG.mk (fun hb => by (try (have hc := And.left hb; have hb := And.right hb; rw [hc])); (try rw [hb]); exact vAuto) ?_)
    | (refine nxVS ?_)
    | (refine nxGS ?_)
    | (refine nxX ?_)
    | (refine G.condN rfl (fun hc => ?_) (fun hc => ?_) <;> (try first | exact False.elim hc | (exfalso; omega))))
    · refine X.ret (vs := [_, _]) rfl ⟨rfl, rfl, rfl⟩ rfl (fun w hw => ⟨?_, hw.ext⟩)
      rw [hr, if_neg (fun g => g h3), hc]; rfl
    · refine X.ret (vs := [_, _]) rfl ⟨rfl, rfl, rfl⟩ rfl (fun w hw => ⟨?_, hw.ext⟩)
      rw [hr, if_neg (fun g => g h3), hc]; rfl
  · refine enter0 Tryz.func31 rfl rfl rfl ?_
    repeat' (first
    | (show RS _ _ _ _ _ _ _ (⟨some _, .call _, _, _, _, none⟩ :: _); refine RS.callI h1 ⟨rfl, rfl, rfl⟩ (fun _ hw => hI.keep hw.ext) ?_; rintro z _; dsimp only [List.cons_append, List.nil_append])
    | (show YK _ _ _ _ _ _ _; first | refine YK.mk (y_callIn (h0) (fun _ hw => hI.keep hw.ext) ⟨rfl, rfl, rfl⟩ (by decide +kernel)) ?_)
    | (show YK _ _ _ _ _ _ _; refine YK.ofV vAuto ?_)
    | (show VK _ _ _ _ _ _ _; refine VK.mk vAuto ?_)
    | (show RS _ _ _ _ _ _ _ _; first | (refine nxRS ?_) | (refine nxRS1 fun _ => ?_))
    | (show RM _ _ _ _ _ _ _ _ _ _; first | (refine nxRM ?_) | (refine nxRM1 fun _ => ?_))
    | (show YG _ _ _ _ _ _ _ _; refine YG.mk (fun hb => by (try (have hc := And.left hb; have hb := And.right hb; rw [hc])); (try rw [hb]); first | exact (y_callIn (h0) (fun _ hw => hI.keep hw.ext) ⟨rfl, rfl, rfl⟩ (by decide +kernel)) | exact V.y vAuto) ?_)
    | (show VG _ _ _ _ _ _ _ _; refine VG.mk (fun hb => by (try (have hc := And.left hb; have hb := And.right hb; rw [hc])); (try rw [hb]); exact vAuto) ?_)
    | (refine nxVS ?_)
    | (refine nxGS ?_)
    | (refine nxX ?_)
    | (refine G.condN rfl (fun hc => ?_) (fun hc => ?_) <;> (try first | exact False.elim hc | (exfalso; omega))))
    exact X.ret (vs := [_, _]) rfl ⟨rfl, rfl, rfl⟩ rfl (fun w hw => ⟨by rw [hr, if_pos h3], hw.ext⟩)
end Go.Proofs.YtpnfmbfehbnljaaGreatDoor
