/- The reference's chronometer. -/
import Derived.Test.YtaglecidaedjfaaDoorRefC
import Derived.Test.YtaglecidaedjfaaDoorChron
import Derived.Test.YtaglecidaedjfaaDoorRate
set_option linter.unusedVariables false
set_option maxHeartbeats 4000000
namespace Go.Proofs.YtaglecidaedjfaaDoor
open Go.RowKit

theorem rtime_c (n : Int) : Cont Tryd.prog 59 [.int .i64 n] (.bool (timeB n)) := fun w => by
  refine enter0 Tryd.func59 rfl rfl rfl ?_
  repeat' (first
    | (refine nxV ?_)
    | (show RS _ _ _ _ _ _ _ _; first | (refine nxRS ?_) | (refine nxRS1 fun _ => ?_))
    | (show RM _ _ _ _ _ _ _ _ _ _; first | (refine nxRM ?_) | (refine nxRM1 fun _ => ?_))
    | (refine nxG ?_)
    | (refine nxX ?_)
    | (refine G.condN rfl (fun hc => ?_) (fun hc => ?_) <;> (try first | exact False.elim hc | (exfalso; omega))))
  exact X.ret (vs := [_]) rfl ⟨rfl, rfl⟩ rfl (fun w hw => ⟨rfl, hw.ext⟩)
/-- The scale: den * Day. -/
theorem rvalidt_c (v : Value) (l : List Chk) (hl : l.length ≤ 1000000) : ContR Tryd.prog [Hl.rd v cC 3 l] 28 [v] (.bool (validC l)) := fun w hw0 => by
  refine enter Tryd.func28 rfl rfl rfl hw0 ?_
  repeat' (first
    | (show YK _ _ _ _ _ _ _; first | refine YK.mk (y_callA (rtime_c _) ⟨rfl, rfl⟩) ?_)
    | (show YK _ _ _ _ _ _ _; refine YK.ofV vAuto ?_)
    | (show VK _ _ _ _ _ _ _; refine VK.mk vAuto ?_)
    | (show RS _ _ _ _ _ _ _ _; first | (refine nxRS ?_) | (refine nxRS1 fun _ => ?_))
    | (show RM _ _ _ _ _ _ _ _ _ _; first | (refine nxRM ?_) | (refine nxRM1 fun _ => ?_))
    | (show YG _ _ _ _ _ _ _ _; refine YG.mk (fun hb => by (try (have hc := And.left hb; have hb := And.right hb; rw [hc])); (try rw [hb]); first | exact (y_callA (rtime_c _) ⟨rfl, rfl⟩) | exact V.y vAuto) ?_)
    | (show VG _ _ _ _ _ _ _ _; refine VG.mk (fun hb => by (try (have hc := And.left hb; have hb := And.right hb; rw [hc])); (try rw [hb]); exact vAuto) ?_)
    | (refine G.mixedA 8 [.go 0, .go 1, .go 2, .go 3, .go 4, .go 5, .go 6, .go 7, .go 8, .go 9, .go 10, .go 11, .go 12, .go 13, .go 14, .go 15, .go 16, .go 17, .go 18, .go 19, .go 20, .go 21, .go 22, .go 23, .go 24, .go 25, .go 26, .go 27, .go 28, .go 29] ?_)
    | (refine nxX ?_)
    | (refine G.condN rfl (fun hc => ?_) (fun hc => ?_) <;> (try first | exact False.elim hc | (exfalso; omega))))
  · exact X.ret (vs := [_]) rfl ⟨rfl, rfl⟩ rfl (fun w hw => ⟨ret_bool (validC_len (by omega)).symm, hw.ext⟩)
  refine G.loop (ι := Int) (fun i => [(0, v), (3, .int .i64 i)]) (fun _ => [Hl.rd v cC 3 l]) (fun i => 0 ≤ i ∧ i ≤ l.length ∧ ∀ j : Int, 0 ≤ j → j < i → okB l j = true) (fun i => (l.length - i).toNat) 0 ⟨by omega, by omega, fun j h1 h2 => by omega⟩ ⟨rfl, rfl, trivial⟩ (fun w h => h) ?_
  rintro i mx ⟨h1, h2, h3⟩ hmx
  repeat' (first
    | (show YK _ _ _ _ _ _ _; first | refine YK.mk (y_callA (rtime_c _) ⟨rfl, rfl⟩) ?_)
    | (show YK _ _ _ _ _ _ _; refine YK.ofV vAuto ?_)
    | (show VK _ _ _ _ _ _ _; refine VK.mk vAuto ?_)
    | (show RS _ _ _ _ _ _ _ _; first | (refine nxRS ?_) | (refine nxRS1 fun _ => ?_))
    | (show RM _ _ _ _ _ _ _ _ _ _; first | (refine nxRM ?_) | (refine nxRM1 fun _ => ?_))
    | (show YG _ _ _ _ _ _ _ _; refine YG.mk (fun hb => by (try (have hc := And.left hb; have hb := And.right hb; rw [hc])); (try rw [hb]); first | exact (y_callA (rtime_c _) ⟨rfl, rfl⟩) | exact V.y vAuto) ?_)
    | (show VG _ _ _ _ _ _ _ _; refine VG.mk (fun hb => by (try (have hc := And.left hb; have hb := And.right hb; rw [hc])); (try rw [hb]); exact vAuto) ?_)
    | (refine G.mixedA 8 [.go 0, .go 1, .go 2, .go 3, .go 4, .go 5, .go 6, .go 7, .go 8, .go 9, .go 10, .go 11, .go 12, .go 13, .go 14, .go 15, .go 16, .go 17, .go 18, .go 19, .go 20, .go 21, .go 22, .go 23, .go 24, .go 25, .go 26, .go 27, .go 28, .go 29] ?_)
    | (refine nxX ?_)
    | (refine G.condN rfl (fun hc => ?_) (fun hc => ?_) <;> (try first | exact False.elim hc | (exfalso; omega))))
  · have e : okB l i = false := by
      rw [Bool.eq_false_iff]
      intro hv
      simp only [okB, Bool.and_eq_true, Bool.or_eq_true, decide_eq_true_eq] at hv
      simp [hv.1.1.1.1, hv.1.1.1.2] at hc
      omega
    exact X.ret (vs := [_]) rfl ⟨rfl, rfl⟩ rfl (fun w hw => ⟨ret_bool (validC_false h1 (by assumption) e).symm, hw.ext⟩)
  · rename_i h5
    have e : okB l i = false := by
      rw [Bool.eq_false_iff]
      intro hv
      simp only [okB, Bool.and_eq_true, Bool.or_eq_true, decide_eq_true_eq] at hv
      omega
    exact X.ret (vs := [_]) rfl ⟨rfl, rfl⟩ rfl (fun w hw => ⟨ret_bool (validC_false h1 (by assumption) e).symm, hw.ext⟩)
  · rename_i h5
    have e : okB l i = true := by
      simp only [okB, Bool.and_eq_true, Bool.or_eq_true, decide_eq_true_eq]
      obtain ⟨⟨⟨g1, g2⟩, g3⟩, g4⟩ := h5
      refine ⟨⟨⟨⟨g1, g2⟩, by omega⟩, by omega⟩, by omega⟩
    refine X.again (i + 1) ⟨by omega, by omega, fun j j1 j2 => ?_⟩ (by omega) ⟨rfl, rfl, trivial⟩ (by exact fun w h => h.sub (by repeat (first | exact List.Sublist.refl _ | apply List.Sublist.cons_cons | apply List.Sublist.cons)))
    rcases Int.lt_or_eq_of_le (show j ≤ i by omega) with h | h
    · exact h3 j j1 h
    · rw [h]; exact e
  · exact X.ret (vs := [_]) rfl ⟨rfl, rfl⟩ rfl (fun w hw => ⟨ret_bool (validC_iff.2 ⟨by omega, fun j j1 j2 => h3 j j1 (by omega)⟩).symm, hw.ext⟩)
theorem in64_iff {z : Int} : in64 z = true ↔ -9223372036854775808 ≤ z ∧ z ≤ 9223372036854775807 := by simp [in64]
theorem ediv_bd {a b k : Int} (hb : 0 < b) (h1 : -k ≤ a) (h2 : a ≤ k) : -k ≤ a / b ∧ a / b ≤ k := by
  constructor
  · refine Int.le_ediv_of_mul_le hb ?_
    have : k * 1 ≤ k * b := Int.mul_le_mul_of_nonneg_left (by omega) (by omega)
    rw [Int.neg_mul]; omega
  · refine Int.ediv_le_of_le_mul hb ?_
    have : k * 1 ≤ k * b := Int.mul_le_mul_of_nonneg_left (by omega) (by omega)
    omega
end Go.Proofs.YtaglecidaedjfaaDoor
