/- What the laws of the chronometer share: many. -/
import Derived.Test.YtaglecidaedjfaaDoorLitC
set_option linter.unusedVariables false
set_option maxHeartbeats 4000000
namespace Go.Proofs.YtaglecidaedjfaaDoor
open Go.RowKit

def manyB (l : List Chk) : Bool := decide ((40 < l.length ∧ l.length ≤ 1000) ∨ 1100 < l.length)
theorem many_len {l : List Chk} (h : manyB l = false) : l.length ≤ 1100 := by
  unfold manyB at h
  have := of_decide_eq_false h
  omega
theorem many_c (v : Value) (l : List Chk) : ContR Tryd.prog [Hl.rd v cC 3 l] 23 [v] (.bool (manyB l)) := fun w hw0 => by
  refine enter Tryd.func23 rfl rfl rfl hw0 ?_
  repeat' (first
    | (refine nxV ?_)
    | (show RS _ _ _ _ _ _ _ _; first | (refine nxRS ?_) | (refine nxRS1 fun _ => ?_))
    | (show RM _ _ _ _ _ _ _ _ _ _; first | (refine nxRM ?_) | (refine nxRM1 fun _ => ?_))
    | (refine nxG ?_)
    | (refine nxX ?_)
    | (refine G.condN rfl (fun hc => ?_) (fun hc => ?_) <;> (try first | exact False.elim hc | (exfalso; omega))))
  refine X.ret (vs := [_]) rfl ⟨rfl, rfl⟩ rfl (fun w hw => ⟨ret_bool ?_, hw.ext⟩)
  unfold manyB
  rw [Bool.eq_iff_iff]
  simp
  omega
end Go.Proofs.YtaglecidaedjfaaDoor
