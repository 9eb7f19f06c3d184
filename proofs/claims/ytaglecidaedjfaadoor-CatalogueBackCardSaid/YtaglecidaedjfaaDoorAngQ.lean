/- angle.Parse. -/
import Derived.Test.YtaglecidaedjfaaDoorAngP
set_option linter.unusedVariables false
set_option maxHeartbeats 4000000
namespace Go.Proofs.YtaglecidaedjfaaDoor
open Go.RowKit

theorem fitsB_c (n : Int) : Cont Tryd.prog 70 [.int .i64 n] (.bool (decide (-1099511627776 ≤ n) && decide (n ≤ 1099511627776))) := fun w => by
  refine enter0 Tryd.func70 rfl rfl rfl ?_
  repeat' (first
    | (refine nxV ?_)
    | (show RS _ _ _ _ _ _ _ _; first | (refine nxRS ?_) | (refine nxRS1 fun _ => ?_))
    | (show RM _ _ _ _ _ _ _ _ _ _; first | (refine nxRM ?_) | (refine nxRM1 fun _ => ?_))
    | (refine nxG ?_)
    | (refine nxX ?_)
    | (refine G.condN rfl (fun hc => ?_) (fun hc => ?_) <;> (try first | exact False.elim hc | (exfalso; omega))))
  exact X.ret (vs := [_]) rfl ⟨rfl, rfl⟩ rfl (fun w hw => ⟨ret_bool rfl, hw.ext⟩)
abbrev APre (s body deg rest mins part : List UInt8) (minus ok pointed : Bool) (d m : Int) (a b : Bool) : Prop :=
  (deg.length ≤ 1000000 ∧ mins.length ≤ 1000000 ∧ part.length ≤ 1000000) ∧ ((0 ≤ d ∧ d ≤ 1125899906842624) ∧ (0 ≤ m ∧ m ≤ 1125899906842624)) ∧
  Cont Tryd.prog 106 [strV s, strV [45]] (.tuple [strV body, .bool minus].toArray) ∧
  ContIn Tryd.prog LaidC 48 [strV body, strV [45]] (.tuple [strV deg, strV rest, .bool ok].toArray) ∧
  ContIn Tryd.prog LaidC 48 [strV rest, strV [46]] (.tuple [strV mins, strV part, .bool pointed].toArray) ∧
  Cont Tryd.prog 126 [strV deg] (.tuple [.int .i64 d, .bool a].toArray) ∧
  Cont Tryd.prog 126 [strV mins] (.tuple [.int .i64 m, .bool b].toArray)
abbrev badA (deg mins : List UInt8) (ok a b : Bool) (m : Int) : Prop := ((((ok = false ∨ a = false) ∨ b = false) ∨ (1 : Int) < deg.length ∧ ((nth deg 0).toNat : Int) = 48) ∨ ¬ (mins.length : Int) = 2) ∨ 60 ≤ m
theorem badA_not {deg mins : List UInt8} {ok a b : Bool} {m : Int} (h : ((((ok = true ∧ a = true) ∧ b = true) ∧ ((deg.length : Int) ≤ 1 ∨ ¬ ((nth deg 0).toNat : Int) = 48)) ∧ (mins.length : Int) = 2) ∧ m < 60) : ¬ badA deg mins ok a b m := by
  obtain ⟨⟨⟨⟨⟨rfl, rfl⟩, rfl⟩, h1⟩, h2⟩, h3⟩ := h
  unfold badA
  simp only [Bool.true_eq_false, false_or]
  omega
abbrev APost (r : Int × Int) (deg mins : List UInt8) (ok a b minus : Bool) (d m t : Int) : Prop :=
  (badA deg mins ok a b m → r = (0, 7)) ∧ (¬ badA deg mins ok a b m → 1099511627776 < d → r = (0, 5)) ∧ (¬ badA deg mins ok a b m → ¬ 1099511627776 < d → 1099511627776 < d * 60000 + m * 1000 + t → r = (0, 5)) ∧
  (¬ badA deg mins ok a b m → ¬ 1099511627776 < d → ¬ 1099511627776 < d * 60000 + m * 1000 + t → minus = true → r = (-(d * 60000 + m * 1000 + t), 0)) ∧ (¬ badA deg mins ok a b m → ¬ 1099511627776 < d → ¬ 1099511627776 < d * 60000 + m * 1000 + t → minus = false → r = (d * 60000 + m * 1000 + t, 0))
theorem ap_f {s body deg rest mins part : List UInt8} {minus ok : Bool} {d m : Int} {a b : Bool} {r : Int × Int} (hp : APre s body deg rest mins part minus ok false d m a b) (hr : APost r deg mins ok a b minus d m 0) :
    ContIn Tryd.prog LaidC 105 [strV s] (.tuple [.int .i64 r.1, .int .i64 r.2].toArray) := fun w hI => by
  obtain ⟨⟨l1, l2, l3⟩, ⟨b1, b2⟩, p1, p2, p3, p4, p5⟩ := hp
  obtain ⟨h1, h2, h3, h4, h5⟩ := hr
  refine enter0 Tryd.func105 rfl rfl rfl ?_
  repeat' (first
    | (show YK _ _ _ _ _ _ _; first | refine YK.mk (y_callA (p1) ⟨rfl, rfl, rfl⟩) ?_ | refine YK.mk (y_callIn (p2) (fun _ hw => hI.keep hw.ext) ⟨rfl, rfl, rfl⟩ (by decide +kernel)) ?_ | refine YK.mk (y_callIn (p3) (fun _ hw => hI.keep hw.ext) ⟨rfl, rfl, rfl⟩ (by decide +kernel)) ?_ | refine YK.mk (y_callA (p4) ⟨rfl, rfl⟩) ?_ | refine YK.mk (y_callA (p5) ⟨rfl, rfl⟩) ?_ | refine YK.mk (y_callA (fitsB_c _) ⟨rfl, rfl⟩) ?_)
    | (show YK _ _ _ _ _ _ _; refine YK.ofV vAuto ?_)
    | (show VK _ _ _ _ _ _ _; refine VK.mk vAuto ?_)
    | (show RS _ _ _ _ _ _ _ _; first | (refine nxRS ?_) | (refine nxRS1 fun _ => ?_))
    | (show RM _ _ _ _ _ _ _ _ _ _; first | (refine nxRM ?_) | (refine nxRM1 fun _ => ?_))
    | (show YG _ _ _ _ _ _ _ _; refine YG.mk (fun hb => by (try (have hc := And.left hb; have hb := And.right hb; rw [hc])); (try rw [hb]); first | exact (y_callA (p1) ⟨rfl, rfl, rfl⟩) | exact (y_callIn (p2) (fun _ hw => hI.keep hw.ext) ⟨rfl, rfl, rfl⟩ (by decide +kernel)) | exact (y_callIn (p3) (fun _ hw => hI.keep hw.ext) ⟨rfl, rfl, rfl⟩ (by decide +kernel)) | exact (y_callA (p4) ⟨rfl, rfl⟩) | exact (y_callA (p5) ⟨rfl, rfl⟩) | exact (y_callA (fitsB_c _) ⟨rfl, rfl⟩) | exact V.y vAuto) ?_)
    | (show VG _ _ _ _ _ _ _ _; refine VG.mk (fun hb => by (try (have hc := And.left hb; have hb := And.right hb; rw [hc])); (try rw [hb]); exact vAuto) ?_)
    | (refine nxVS ?_)
    | (refine nxGS ?_)
    | (refine nxX ?_)
    | (refine G.condN rfl (fun hc => ?_) (fun hc => ?_) <;> (try first | exact False.elim hc | (exfalso; omega))))
  · exact X.ret (vs := [_, _]) rfl ⟨rfl, rfl, rfl⟩ rfl (fun w hw => ⟨by rw [h1 hc], hw.ext⟩)
  · exact X.ret (vs := [_, _]) rfl ⟨rfl, rfl, rfl⟩ rfl (fun w hw => ⟨by rw [h2 (badA_not (by assumption)) hc], hw.ext⟩)
  · exact X.ret (vs := [_, _]) rfl ⟨rfl, rfl, rfl⟩ rfl (fun w hw => ⟨by rw [h3 (badA_not (by assumption)) (by omega) (by omega)], hw.ext⟩)
  · exact X.ret (vs := [_, _]) rfl ⟨rfl, rfl, rfl⟩ rfl (fun w hw => ⟨by rw [h4 (badA_not (by assumption)) (by omega) (by omega) hc], hw.ext⟩)
  · exact X.ret (vs := [_, _]) rfl ⟨rfl, rfl, rfl⟩ rfl (fun w hw => ⟨by rw [h5 (badA_not (by assumption)) (by omega) (by omega) hc], hw.ext⟩)
theorem ap_tbad {s body deg rest mins part : List UInt8} {minus ok : Bool} {d m t : Int} {a b c : Bool} (hp : APre s body deg rest mins part minus ok true d m a b) (p6 : Cont Tryd.prog 126 [strV part] (.tuple [.int .i64 t, .bool c].toArray)) (hbad : c = false ∨ 3 < part.length) :
    ContIn Tryd.prog LaidC 105 [strV s] (.tuple [.int .i64 0, .int .i64 7].toArray) := fun w hI => by
  obtain ⟨⟨l1, l2, l3⟩, ⟨b1, b2⟩, p1, p2, p3, p4, p5⟩ := hp
  refine enter0 Tryd.func105 rfl rfl rfl ?_
  repeat' (first
    | (exfalso; rcases hbad with z | z; (rw [z] at hc; exact absurd hc.1 (by decide)); omega)
    | (show YK _ _ _ _ _ _ _; first | refine YK.mk (y_callA (p1) ⟨rfl, rfl, rfl⟩) ?_ | refine YK.mk (y_callIn (p2) (fun _ hw => hI.keep hw.ext) ⟨rfl, rfl, rfl⟩ (by decide +kernel)) ?_ | refine YK.mk (y_callIn (p3) (fun _ hw => hI.keep hw.ext) ⟨rfl, rfl, rfl⟩ (by decide +kernel)) ?_ | refine YK.mk (y_callA (p4) ⟨rfl, rfl⟩) ?_ | refine YK.mk (y_callA (p5) ⟨rfl, rfl⟩) ?_ | refine YK.mk (y_callA (p6) ⟨rfl, rfl⟩) ?_)
    | (show YK _ _ _ _ _ _ _; refine YK.ofV vAuto ?_)
    | (show VK _ _ _ _ _ _ _; refine VK.mk vAuto ?_)
    | (show RS _ _ _ _ _ _ _ _; first | (refine nxRS ?_) | (refine nxRS1 fun _ => ?_))
    | (show RM _ _ _ _ _ _ _ _ _ _; first | (refine nxRM ?_) | (refine nxRM1 fun _ => ?_))
    | (show YG _ _ _ _ _ _ _ _; refine YG.mk (fun hb => by (try (have hc := And.left hb; have hb := And.right hb; rw [hc])); (try rw [hb]); first | exact (y_callA (p1) ⟨rfl, rfl, rfl⟩) | exact (y_callIn (p2) (fun _ hw => hI.keep hw.ext) ⟨rfl, rfl, rfl⟩ (by decide +kernel)) | exact (y_callIn (p3) (fun _ hw => hI.keep hw.ext) ⟨rfl, rfl, rfl⟩ (by decide +kernel)) | exact (y_callA (p4) ⟨rfl, rfl⟩) | exact (y_callA (p5) ⟨rfl, rfl⟩) | exact (y_callA (p6) ⟨rfl, rfl⟩) | exact V.y vAuto) ?_)
    | (show VG _ _ _ _ _ _ _ _; refine VG.mk (fun hb => by (try (have hc := And.left hb; have hb := And.right hb; rw [hc])); (try rw [hb]); exact vAuto) ?_)
    | (refine nxVS ?_)
    | (refine nxGS ?_)
    | (refine nxX ?_)
    | (refine G.condN rfl (fun hc => ?_) (fun hc => ?_) <;> (try first | exact False.elim hc | (exfalso; omega))))
  exact X.ret (vs := [_, _]) rfl ⟨rfl, rfl, rfl⟩ rfl (fun w hw => ⟨rfl, hw.ext⟩)
theorem tenT_of {T v : Int} {k i : Nat} (hi : i + k = 3) (h : i = 0 ∧ v = T ∨ i = 1 ∧ v = T * 10 ∨ i = 2 ∧ v = T * 10 * 10 ∨ i = 3 ∧ v = T * 10 * 10 * 10) : tenT T k = v := by
  unfold tenT
  rw [show 3 - k = i by omega]
  rcases h with ⟨rfl, rfl⟩ | ⟨rfl, rfl⟩ | ⟨rfl, rfl⟩ | ⟨rfl, rfl⟩
  · simp
  · simp
  · rw [show (10 : Int) ^ 2 = 100 from rfl]; omega
  · rw [show (10 : Int) ^ 3 = 1000 from rfl]; omega
theorem ap_t {s body deg rest mins part : List UInt8} {minus ok : Bool} {d m t : Int} {a b c : Bool} {r : Int × Int} (hp : APre s body deg rest mins part minus ok true d m a b) (p6 : Cont Tryd.prog 126 [strV part] (.tuple [.int .i64 t, .bool c].toArray)) (ht : 0 ≤ t ∧ t ≤ 1125899906842624) (hc0 : c = true) (hpl : part.length ≤ 3) (hr : APost r deg mins ok a b minus d m (tenT t part.length)) :
    ContIn Tryd.prog LaidC 105 [strV s] (.tuple [.int .i64 r.1, .int .i64 r.2].toArray) := fun w hI => by
  obtain ⟨⟨l1, l2, l3⟩, ⟨b1, b2⟩, p1, p2, p3, p4, p5⟩ := hp
  subst hc0
  refine enter0 Tryd.func105 rfl rfl rfl ?_
  repeat' (first
    | (show YK _ _ _ _ _ _ _; first | refine YK.mk (y_callA (p1) ⟨rfl, rfl, rfl⟩) ?_ | refine YK.mk (y_callIn (p2) (fun _ hw => hI.keep hw.ext) ⟨rfl, rfl, rfl⟩ (by decide +kernel)) ?_ | refine YK.mk (y_callIn (p3) (fun _ hw => hI.keep hw.ext) ⟨rfl, rfl, rfl⟩ (by decide +kernel)) ?_ | refine YK.mk (y_callA (p4) ⟨rfl, rfl⟩) ?_ | refine YK.mk (y_callA (p5) ⟨rfl, rfl⟩) ?_ | refine YK.mk (y_callA (p6) ⟨rfl, rfl⟩) ?_)
    | (show YK _ _ _ _ _ _ _; refine YK.ofV vAuto ?_)
    | (show VK _ _ _ _ _ _ _; refine VK.mk vAuto ?_)
    | (show RS _ _ _ _ _ _ _ _; first | (refine nxRS ?_) | (refine nxRS1 fun _ => ?_))
    | (show RM _ _ _ _ _ _ _ _ _ _; first | (refine nxRM ?_) | (refine nxRM1 fun _ => ?_))
    | (show YG _ _ _ _ _ _ _ _; refine YG.mk (fun hb => by (try (have hc := And.left hb; have hb := And.right hb; rw [hc])); (try rw [hb]); first | exact (y_callA (p1) ⟨rfl, rfl, rfl⟩) | exact (y_callIn (p2) (fun _ hw => hI.keep hw.ext) ⟨rfl, rfl, rfl⟩ (by decide +kernel)) | exact (y_callIn (p3) (fun _ hw => hI.keep hw.ext) ⟨rfl, rfl, rfl⟩ (by decide +kernel)) | exact (y_callA (p4) ⟨rfl, rfl⟩) | exact (y_callA (p5) ⟨rfl, rfl⟩) | exact (y_callA (p6) ⟨rfl, rfl⟩) | exact V.y vAuto) ?_)
    | (show VG _ _ _ _ _ _ _ _; refine VG.mk (fun hb => by (try (have hc := And.left hb; have hb := And.right hb; rw [hc])); (try rw [hb]); exact vAuto) ?_)
    | (refine nxVS ?_)
    | (refine nxGS ?_)
    | (refine nxX ?_)
    | (refine G.condN rfl (fun hc => ?_) (fun hc => ?_) <;> (try first | exact False.elim hc | (exfalso; omega))))
  refine G.loop (ι := Nat × Int) (fun x => [(5, .bool minus), (6, strV deg), (8, .bool ok), (9, strV mins), (12, .int .i64 d), (13, .bool a), (14, .int .i64 m), (15, .bool b), (16, .int .i64 x.2), (61, .int .i64 (3 - (part.length : Int))), (62, .int .i64 (x.1 : Int))]) (fun _ => []) (fun x => x.1 + part.length ≤ 3 ∧ (x.1 = 0 ∧ x.2 = t ∨ x.1 = 1 ∧ x.2 = t * 10 ∨ x.1 = 2 ∧ x.2 = t * 10 * 10 ∨ x.1 = 3 ∧ x.2 = t * 10 * 10 * 10)) (fun x => 3 - x.1) (0, t) ⟨by dsimp only; omega, .inl ⟨rfl, rfl⟩⟩ ⟨rfl, rfl, rfl, rfl, rfl, rfl, rfl, rfl, rfl, rfl, rfl, trivial⟩ (fun w h => h) ?_
  rintro ⟨i, v⟩ mx ⟨g1, g2⟩ hmx
  dsimp only at g1 g2 hmx ⊢
  rcases Nat.lt_or_ge (i + part.length) 3 with hi | hi
  · clear hr p1 p2 p3 p4 p5 p6
    repeat' (first
    | (refine nxV ?_)
    | (show RS _ _ _ _ _ _ _ _; first | (refine nxRS ?_) | (refine nxRS1 fun _ => ?_))
    | (show RM _ _ _ _ _ _ _ _ _ _; first | (refine nxRM ?_) | (refine nxRM1 fun _ => ?_))
    | (refine nxG ?_)
    | (refine nxVS ?_)
    | (refine nxGS ?_)
    | (refine nxX ?_)
    | (refine G.condN rfl (fun hc => ?_) (fun hc => ?_) <;> (try first | exact False.elim hc | (exfalso; omega))))
    exact X.again (i + 1, v * 10) ⟨by dsimp only; omega, by dsimp only; omega⟩ (by dsimp only; omega) ⟨rfl, rfl, rfl, rfl, rfl, rfl, rfl, rfl, rfl, rfl, rfl, trivial⟩ (fun w h => h)
  · rw [tenT_of (by omega) g2] at hr
    obtain ⟨h1, h2, h3, h4, h5⟩ := hr
    have hv : 0 ≤ v ∧ v ≤ 1125899906842624000 := by omega
    clear p1 p2 p3 p4 p5 p6 g2
    repeat' (first
    | (show YK _ _ _ _ _ _ _; first | refine YK.mk (y_callA (fitsB_c _) ⟨rfl, rfl⟩) ?_)
    | (show YK _ _ _ _ _ _ _; refine YK.ofV vAuto ?_)
    | (show VK _ _ _ _ _ _ _; refine VK.mk vAuto ?_)
    | (show RS _ _ _ _ _ _ _ _; first | (refine nxRS ?_) | (refine nxRS1 fun _ => ?_))
    | (show RM _ _ _ _ _ _ _ _ _ _; first | (refine nxRM ?_) | (refine nxRM1 fun _ => ?_))
    | (show YG _ _ _ _ _ _ _ _; refine YG.mk (fun hb => by (try (have hc := And.left hb; have hb := And.right hb; rw [hc])); (try rw [hb]); first | exact (y_callA (fitsB_c _) ⟨rfl, rfl⟩) | exact V.y vAuto) ?_)
    | (show VG _ _ _ _ _ _ _ _; refine VG.mk (fun hb => by (try (have hc := And.left hb; have hb := And.right hb; rw [hc])); (try rw [hb]); exact vAuto) ?_)
    | (refine nxVS ?_)
    | (refine nxGS ?_)
    | (refine nxX ?_)
    | (refine G.condN rfl (fun hc => ?_) (fun hc => ?_) <;> (try first | exact False.elim hc | (exfalso; omega))))
    · exact X.ret (vs := [_, _]) rfl ⟨rfl, rfl, rfl⟩ rfl (fun w hw => ⟨by rw [h1 hc], hw.ext⟩)
    · exact X.ret (vs := [_, _]) rfl ⟨rfl, rfl, rfl⟩ rfl (fun w hw => ⟨by rw [h2 (badA_not (by assumption)) hc], hw.ext⟩)
    · exact X.ret (vs := [_, _]) rfl ⟨rfl, rfl, rfl⟩ rfl (fun w hw => ⟨by rw [h3 (badA_not (by assumption)) (by omega) (by omega)], hw.ext⟩)
    · exact X.ret (vs := [_, _]) rfl ⟨rfl, rfl, rfl⟩ rfl (fun w hw => ⟨by rw [h4 (badA_not (by assumption)) (by omega) (by omega) hc], hw.ext⟩)
    · exact X.ret (vs := [_, _]) rfl ⟨rfl, rfl, rfl⟩ rfl (fun w hw => ⟨by rw [h5 (badA_not (by assumption)) (by omega) (by omega) hc], hw.ext⟩)
end Go.Proofs.YtaglecidaedjfaaDoor
