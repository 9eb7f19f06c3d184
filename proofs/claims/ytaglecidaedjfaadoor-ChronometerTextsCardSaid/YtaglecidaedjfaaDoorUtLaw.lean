/- The chronometer's UT and the reference's are the same: plain. -/
import Derived.Test.YtaglecidaedjfaaDoorRefUt
set_option linter.unusedVariables false
set_option maxHeartbeats 4000000
namespace Go.Proofs.YtaglecidaedjfaaDoor
open Go.RowKit

theorem runMax_map {a b : Nat → Int} {g : Int → Int} {c0 : Int} (hg : ∀ x y, g (min x y) = max (g x) (g y)) : ∀ (k : Nat), (∀ i, i < k → a i = g (b i)) → (∀ i, i < k → c0 ≤ a i) → 0 < k → runMax c0 a k = g (run1 min b k)
  | 1, h1, h2, _ => by
    have e1 := h1 0 (by omega)
    have e2 := h2 0 (by omega)
    show max c0 (a 0) = g (b 0)
    rw [← e1]; omega
  | k + 2, h1, h2, _ => by
    have ih := runMax_map hg (k + 1) (fun i hi => h1 i (by omega)) (fun i hi => h2 i (by omega)) (by omega)
    show max (runMax c0 a (k + 1)) (a (k + 1)) = g (min (run1 min b (k + 1)) (b (k + 1)))
    rw [hg, ih, h1 (k + 1) (by omega)]
theorem runMin_map {a b : Nat → Int} {g : Int → Int} {c0 : Int} (hg : ∀ x y, g (max x y) = min (g x) (g y)) : ∀ (k : Nat), (∀ i, i < k → a i = g (b i)) → (∀ i, i < k → a i ≤ c0) → 0 < k → runMin c0 a k = g (run1 max b k)
  | 1, h1, h2, _ => by
    have e1 := h1 0 (by omega)
    have e2 := h2 0 (by omega)
    show min c0 (a 0) = g (b 0)
    rw [← e1]; omega
  | k + 2, h1, h2, _ => by
    have ih := runMin_map hg (k + 1) (fun i hi => h1 i (by omega)) (fun i hi => h2 i (by omega)) (by omega)
    show min (runMin c0 a (k + 1)) (a (k + 1)) = g (max (run1 max b (k + 1)) (b (k + 1)))
    rw [hg, ih, h1 (k + 1) (by omega)]
theorem run1_ge {a : Nat → Int} : ∀ {k j : Nat}, j < k → a j ≤ run1 max a k
  | 1, j, h => by
    have : j = 0 := by omega
    subst this; exact Int.le_refl _
  | k + 2, j, h => by
    show a j ≤ max (run1 max a (k + 1)) (a (k + 1))
    rcases Nat.lt_or_ge j (k + 1) with h1 | h1
    · have := run1_ge (a := a) h1; omega
    · rw [show j = k + 1 by omega]; omega
theorem run1_le {a : Nat → Int} : ∀ {k j : Nat}, j < k → run1 min a k ≤ a j
  | 1, j, h => by
    have : j = 0 := by omega
    subst this; exact Int.le_refl _
  | k + 2, j, h => by
    show min (run1 min a (k + 1)) (a (k + 1)) ≤ a j
    rcases Nat.lt_or_ge j (k + 1) with h1 | h1
    · have := run1_le (a := a) h1; omega
    · rw [show j = k + 1 by omega]; omega
theorem al_iff {n d face : Int} {c k : Chk} (hn : 0 ≤ n) (hd : 1 ≤ d) (h1 : 0 ≤ dC face c) (h2 : 0 ≤ dC face k) : alB n d face c k = false ↔ bC n d face k < aC n d face c := by
  have e : n * (dC face c + dC face k) = n * dC face c + n * dC face k := Int.mul_add _ _ _
  have hs : 0 ≤ n * (dC face c + dC face k) := Int.mul_nonneg hn (by omega)
  have e2 : (c.face - c.ut - c.within - (k.face - k.ut) - k.within) * (d * 86400000) = (c.face - c.ut - c.within) * (d * 86400000) - (k.face - k.ut + k.within) * (d * 86400000) := by rw [← Int.sub_mul]; congr 1; omega
  have e3 : c.face - c.ut - c.within - (k.face - k.ut) - k.within ≤ 0 → (c.face - c.ut - c.within - (k.face - k.ut) - k.within) * (d * 86400000) ≤ 0 := fun h => Int.mul_nonpos_of_nonpos_of_nonneg h (by omega)
  unfold alB allowB aC bC
  rw [Bool.or_eq_false_iff, decide_eq_false_iff_not, decide_eq_false_iff_not]
  constructor
  · rintro ⟨g1, g2⟩; omega
  · intro g
    exact ⟨fun g1 => by have := e3 g1; omega, by omega⟩
theorem ut_same (l : List Chk) (n d face : Int) : utR l n d face = utS l n d face := by
  unfold utR utS
  by_cases h1 : validC l = false ∨ driftB n d = false
  · rw [if_pos h1, if_pos h1]
  rw [if_neg h1, if_neg h1]
  by_cases h2 : timeB face = false
  · rw [if_pos h2, if_pos h2]
  rw [if_neg h2, if_neg h2]
  have hv : validC l = true := by cases h : validC l with | true => rfl | false => exact absurd (.inl h) h1
  have hd : driftB n d = true := by cases h : driftB n d with | true => rfl | false => exact absurd (.inr h) h1
  have ht : timeB face = true := by cases h : timeB face with | true => rfl | false => exact absurd h h2
  have hnd := drift_iff hd
  have hfb := timeB_iff.1 ht
  have hlen := (validC_iff.1 hv).1
  have bd : ∀ i : Nat, i < l.length → _ := fun i hi => valid_at hv (i := i) (by omega) (by omega)
  have dd : ∀ i : Nat, i < l.length → 0 ≤ dC face (nth l i) ∧ dC face (nth l i) ≤ 140737488355328 := fun i hi => dC_bd hfb (bd i hi).1
  have xd : ∀ i : Nat, i < l.length → _ := fun i hi => drift_bd hnd (t := dC face (nth l i)) (by have := dd i hi; omega)
  have hm : missB l n d face = true ↔ hiR l n d face l.length < loR l n d face l.length := by
    constructor
    · intro hm
      obtain ⟨c, hc, hk⟩ := List.any_eq_true.1 hm
      obtain ⟨k, hk2, hf⟩ := List.any_eq_true.1 hk
      obtain ⟨i, hi, rfl⟩ := mem_nth hc
      obtain ⟨j, hj, rfl⟩ := mem_nth hk2
      have h3 := (al_iff hnd.1.1 hnd.2.1 (dd i hi).1 (dd j hj).1).1 (by simpa using hf)
      have h4 := run1_ge (a := fun i => aC n d face (nth l i)) hi
      have h5 := run1_le (a := fun i => bC n d face (nth l i)) hj
      exact Int.lt_of_le_of_lt h5 (Int.lt_of_lt_of_le h3 h4)
    · intro hlt
      obtain ⟨i, hi, e1⟩ := run1_max (a := fun i => aC n d face (nth l i)) (k := l.length) (by omega)
      obtain ⟨j, hj, e2⟩ := run1_min (a := fun i => bC n d face (nth l i)) (k := l.length) (by omega)
      unfold hiR loR at hlt
      rw [e1, e2] at hlt
      exact miss_true (i := i) (j := j) (by omega) (by omega) (by omega) (by omega) ((al_iff hnd.1.1 hnd.2.1 (dd i hi).1 (dd j hj).1).2 hlt)
  have hlo : loP l n d face l.length = face - -(-hiR l n d face l.length / (d * 86400000)) := by
    refine runMax_map (g := fun x => face - -(-x / (d * 86400000))) (b := fun i => bC n d face (nth l i)) (fun x y => ?_) l.length (fun i hi => ?_) (fun i hi => ?_) (by omega)
    · rcases Int.le_total x y with h | h
      · have := Int.ediv_le_ediv (show 0 < d * 86400000 by omega) (Int.neg_le_neg h)
        rw [Int.min_eq_left h]; omega
      · have := Int.ediv_le_ediv (show 0 < d * 86400000 by omega) (Int.neg_le_neg h)
        rw [Int.min_eq_right h]; omega
    · rw [bC_div hnd.2.1]; unfold xC; omega
    · have b1 := bd i hi
      have b2 := xd i hi
      unfold xC; omega
  have hhi : hiP l n d face l.length = face - loR l n d face l.length / (d * 86400000) := by
    refine runMin_map (g := fun x => face - x / (d * 86400000)) (b := fun i => aC n d face (nth l i)) (fun x y => ?_) l.length (fun i hi => ?_) (fun i hi => ?_) (by omega)
    · rcases Int.le_total x y with h | h
      · have := Int.ediv_le_ediv (show 0 < d * 86400000 by omega) h
        rw [Int.max_eq_right h]; omega
      · have := Int.ediv_le_ediv (show 0 < d * 86400000 by omega) h
        rw [Int.max_eq_left h]; omega
    · rw [aC_div hnd.2.1]; unfold xC; omega
    · have b1 := bd i hi
      have b2 := xd i hi
      unfold xC; omega
  have hb1 := lo_bd hv hnd hfb
  have hb2 := hi_bd hv hnd hfb
  have q1 := in64_iff.2 (show -9223372036854775808 ≤ loR l n d face l.length / (d * 86400000) ∧ loR l n d face l.length / (d * 86400000) ≤ 9223372036854775807 by omega)
  have q2 := in64_iff.2 (show -9223372036854775808 ≤ -(-hiR l n d face l.length / (d * 86400000)) ∧ -(-hiR l n d face l.length / (d * 86400000)) ≤ 9223372036854775807 by omega)
  rw [hlo, hhi, q1, q2]
  by_cases h3 : hiR l n d face l.length < loR l n d face l.length
  · rw [if_pos h3, if_pos (hm.2 h3)]
  · rw [if_neg h3, if_neg (mt hm.1 h3)]
    simp only [and_self, true_and]
end Go.Proofs.YtaglecidaedjfaaDoor
