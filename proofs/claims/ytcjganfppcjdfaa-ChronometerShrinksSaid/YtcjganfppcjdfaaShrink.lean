/- More comparisons and less drift say more: plain. -/
import Derived.Test.YtcjganfppcjdfaaTruth
set_option linter.unusedVariables false
set_option maxHeartbeats 4000000
namespace Go.Proofs.Ytcjganfppcjdfaa
open Go.RowKit

theorem valid_pair {l : List Chk} : validC l = true ↔ (1 ≤ l.length ∧ l.length ≤ 1000) ∧ (∀ c ∈ l, okC c) ∧ l.Pairwise fun a b => a.face < b.face ∧ a.ut < b.ut := by
  constructor
  · intro hv
    refine ⟨(validC_iff.1 hv).1, fun c hc => ?_, List.pairwise_iff_getElem.2 fun i j hi hj hij => ?_⟩
    · obtain ⟨i, hi, rfl⟩ := mem_nth hc
      exact valid_at hv (by omega) (by omega)
    · have h := valid_lt hv (i := i) (j := j) (by omega) (by omega) (by omega)
      have e1 := nth_some (l := l) (m := (i : Int)) (by omega) (by omega)
      have e2 := nth_some (l := l) (m := (j : Int)) (by omega) (by omega)
      rw [Int.toNat_natCast, List.getElem?_eq_getElem hi] at e1
      rw [Int.toNat_natCast, List.getElem?_eq_getElem hj] at e2
      rw [← Option.some.inj e1, ← Option.some.inj e2] at h
      exact h
  · rintro ⟨h1, h2, h3⟩
    refine validC_iff.2 ⟨h1, fun i h0 hi => ?_⟩
    obtain ⟨g1, g2, g3, g4⟩ := h2 _ (nth_mem h0 hi)
    unfold okB
    rw [timeB_iff.2 g1, timeB_iff.2 g2]
    simp only [Bool.true_and, Bool.and_eq_true, Bool.or_eq_true, decide_eq_true_eq]
    refine ⟨⟨g3, g4⟩, ?_⟩
    by_cases hz : i ≤ 0
    · exact .inl hz
    · right
      have e1 := nth_some (l := l) (m := i - 1) (by omega) (by omega)
      have e2 := nth_some (l := l) (m := i) (by omega) (by omega)
      rw [List.getElem?_eq_getElem (by omega)] at e1 e2
      have := List.pairwise_iff_getElem.1 h3 (i - 1).toNat i.toNat (by omega) (by omega) (by omega)
      rw [Option.some.inj e1, Option.some.inj e2] at this
      exact this
theorem valid_sub {l l' : List Chk} (hs : l'.Sublist l) (h1 : 1 ≤ l'.length) (hv : validC l = true) : validC l' = true := by
  obtain ⟨g1, g2, g3⟩ := valid_pair.1 hv
  have := hs.length_le
  exact valid_pair.2 ⟨⟨h1, by omega⟩, fun c hc => g2 c (hs.subset hc), g3.sublist hs⟩
theorem dC_nonneg (face : Int) (c : Chk) : 0 ≤ dC face c := by unfold dC; omega
theorem runMax_base {c0 : Int} {a : Nat → Int} : ∀ {k : Nat}, c0 ≤ runMax c0 a k
  | 0 => Int.le_refl _
  | k + 1 => by have := @runMax_base c0 a k; simp only [runMax]; omega
theorem runMin_base {c0 : Int} {a : Nat → Int} : ∀ {k : Nat}, runMin c0 a k ≤ c0
  | 0 => Int.le_refl _
  | k + 1 => by have := @runMin_base c0 a k; simp only [runMin]; omega
theorem mulswap (b c : Int) : b * 86400000 * c = c * 86400000 * b := by rw [Int.mul_right_comm, Int.mul_comm b c, Int.mul_right_comm]
theorem ut_ok {l : List Chk} {n d face : Int} (h : (utS l n d face).2 = 0) : validC l = true ∧ driftB n d = true ∧ timeB face = true ∧ missB l n d face = false ∧ utS l n d face = ((loP l n d face l.length, hiP l n d face l.length), 0) := by
  revert h
  unfold utS
  split
  · intro h; exact absurd h (by decide)
  next g1 =>
  split
  · intro h; exact absurd h (by decide)
  next g2 =>
  split
  · intro h; exact absurd h (by decide)
  next g3 =>
  split
  · intro _
    exact ⟨by cases e : validC l <;> simp_all, by cases e : driftB n d <;> simp_all, by simpa using g2, by simpa using g3, rfl⟩
  · intro h; exact absurd h (by decide)
section
variable {n d n' d' : Int} (hd : 1 ≤ d) (hd' : 1 ≤ d') (hn : n * d' ≤ n' * d)
include hd hd' hn
theorem allow_more {a t : Int} (ht : 0 ≤ t) (h : allowB n d a t = true) : allowB n' d' a t = true := by
  rw [allow_iff] at h ⊢
  rcases h with h | h
  · exact .inl h
  right
  have e1 : a * (d * 86400000) * d' ≤ n * t * d' := Int.mul_le_mul_of_nonneg_right h (by omega)
  have e2 : n * d' * t ≤ n' * d * t := Int.mul_le_mul_of_nonneg_right hn ht
  have e3 : a * (d' * 86400000) * d ≤ n' * t * d := by
    have q1 : a * (d' * 86400000) * d = a * (d * 86400000) * d' := by
      rw [Int.mul_assoc a, Int.mul_assoc a, mulswap]
    have q2 : n * t * d' = n * d' * t := Int.mul_right_comm _ _ _
    have q3 : n' * t * d = n' * d * t := Int.mul_right_comm _ _ _
    omega
  exact Int.le_of_mul_le_mul_right e3 (by omega)
theorem ceil_more {t : Int} (ht : 0 ≤ t) : -(-(n * t) / (d * 86400000)) ≤ -(-(n' * t) / (d' * 86400000)) := by
  obtain ⟨q, hq⟩ : ∃ q, -(-(n' * t) / (d' * 86400000)) = q := ⟨_, rfl⟩
  rw [hq]
  have g1 : -(n' * t) / (d' * 86400000) = -q := by omega
  have g2 : -q * (d' * 86400000) ≤ -(n' * t) := by rw [← g1]; exact Int.ediv_mul_le _ (by omega)
  have e2 : n * d' * t ≤ n' * d * t := Int.mul_le_mul_of_nonneg_right hn ht
  have e4 : -q * (d' * 86400000) * d ≤ -(n' * t) * d := Int.mul_le_mul_of_nonneg_right g2 (by omega)
  have e3 : n * t * d' ≤ q * (d * 86400000) * d' := by
    have q1 : q * (d * 86400000) * d' = q * (d' * 86400000) * d := by
      rw [Int.mul_assoc q, Int.mul_assoc q, mulswap]
    have q2 : n * t * d' = n * d' * t := Int.mul_right_comm _ _ _
    have q3 : -(n' * t) * d = -(n' * d * t) := by rw [Int.neg_mul, Int.mul_right_comm]
    have q4 : -q * (d' * 86400000) * d = -(q * (d' * 86400000) * d) := by rw [Int.neg_mul, Int.neg_mul]
    omega
  have e5 := Int.le_of_mul_le_mul_right e3 (by omega : 0 < d')
  have e6 : -q ≤ -(n * t) / (d * 86400000) := by
    refine (Int.le_ediv_iff_mul_le (by omega)).2 ?_
    rw [Int.neg_mul]; omega
  omega
theorem miss_more {l l' : List Chk} (hs : l'.Sublist l) {face : Int} (h : missB l n d face = false) : missB l' n' d' face = false := by
  refine miss_false fun i j hi hj => ?_
  obtain ⟨i', hi', ei⟩ := mem_nth (hs.subset (nth_mem (l := l') (i := i) (by omega) (by omega)))
  obtain ⟨j', hj', ej⟩ := mem_nth (hs.subset (nth_mem (l := l') (i := j) (by omega) (by omega)))
  have h1 : alB n d face (nth l i') (nth l j') = true := by
    cases e : alB n d face (nth l i') (nth l j') with
    | true => rfl
    | false => rw [miss_true (by omega) (by omega) (by omega) (by omega) e] at h; cases h
  rw [ei, ej] at h1
  exact allow_more hd hd' hn (by have := dC_nonneg face (nth l' i); have := dC_nonneg face (nth l' j); omega) h1
theorem lo_more {l l' : List Chk} (hs : l'.Sublist l) (face : Int) : loP l' n' d' face l'.length ≤ loP l n d face l.length ∧ hiP l n d face l.length ≤ hiP l' n' d' face l'.length := by
  have key : ∀ i : Nat, i < l'.length → ∃ j : Nat, j < l.length ∧ nth l j = nth l' i := fun i hi => mem_nth (hs.subset (nth_mem (l := l') (i := i) (by omega) (by omega)))
  constructor
  · unfold loP
    refine runMax_le (runMax_base) fun i hi => ?_
    obtain ⟨j, hj, e⟩ := key i hi
    have h1 := runMax_ge (c0 := -4611686018427387904) (a := fun i : Nat => face - ((nth l i).face - (nth l i).ut) - xC n d face (nth l i)) hj
    have h2 := ceil_more hd hd' hn (dC_nonneg face (nth l' i))
    refine Int.le_trans ?_ h1
    rw [e]
    unfold xC; omega
  · unfold hiP
    refine runMin_ge (runMin_base) fun i hi => ?_
    obtain ⟨j, hj, e⟩ := key i hi
    have h1 := runMin_le (c0 := 4611686018427387904) (a := fun i : Nat => face - ((nth l i).face - (nth l i).ut) + xC n d face (nth l i)) hj
    have h2 := ceil_more hd hd' hn (dC_nonneg face (nth l' i))
    refine Int.le_trans h1 ?_
    rw [e]
    unfold xC; omega
theorem ut_more {l l' : List Chk} (hs : l'.Sublist l) (h1 : 1 ≤ l'.length) (hv : validC l = true) (hdr' : driftB n' d' = true) {face : Int} (h0 : (utS l n d face).2 = 0) :
    (utS l' n' d' face).2 = 20 ∨ (utS l' n' d' face).2 = 0 ∧ (utS l' n' d' face).1.1 ≤ (utS l n d face).1.1 ∧ (utS l n d face).1.2 ≤ (utS l' n' d' face).1.2 := by
  have hv' := valid_sub hs h1 hv
  have hlm := lo_more hd hd' hn hs face
  obtain ⟨g1, g2, g3, g4, g5⟩ := ut_ok h0
  have g6 := miss_more hd hd' hn hs g4
  rw [g5]
  unfold utS
  rw [if_neg (by rw [hv', hdr']; decide), if_neg (by rw [g3]; decide), if_neg (by rw [g6]; decide)]
  split
  · exact .inr ⟨rfl, hlm⟩
  · exact .inl rfl
end
/-- At a comparison's own face the interval is within its error. -/
theorem ut_at {l : List Chk} {n d : Int} {c : Chk} (hc : c ∈ l) (h0 : (utS l n d c.face).2 = 0) : c.ut - c.within ≤ (utS l n d c.face).1.1 ∧ (utS l n d c.face).1.2 ≤ c.ut + c.within := by
  obtain ⟨j, hj, rfl⟩ := mem_nth hc
  obtain ⟨_, _, _, _, g5⟩ := ut_ok h0
  rw [g5]
  have h1 := runMax_ge (c0 := -4611686018427387904) (a := fun i : Nat => (nth l j).face - ((nth l i).face - (nth l i).ut) - xC n d (nth l j).face (nth l i)) hj
  have h2 := runMin_le (c0 := 4611686018427387904) (a := fun i : Nat => (nth l j).face - ((nth l i).face - (nth l i).ut) + xC n d (nth l j).face (nth l i)) hj
  have h3 : xC n d (nth l j).face (nth l j) = (nth l j).within := by
    unfold xC dC
    rw [Int.sub_self, show max (0 : Int) 0 = 0 by decide, Int.mul_zero, Int.neg_zero, Int.zero_ediv]; omega
  rw [h3] at h1 h2
  unfold loP hiP
  constructor
  · refine Int.le_trans ?_ h1; omega
  · refine Int.le_trans h2 ?_; omega
end Go.Proofs.Ytcjganfppcjdfaa
