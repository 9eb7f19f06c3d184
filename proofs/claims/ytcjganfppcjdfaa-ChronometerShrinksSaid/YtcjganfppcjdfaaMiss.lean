/- A consistent table always answers, and its rates can be within the drift: plain. -/
import Derived.Test.YtcjganfppcjdfaaAwk
set_option linter.unusedVariables false
set_option maxHeartbeats 4000000
namespace Go.Proofs.Ytcjganfppcjdfaa
open Go.RowKit

theorem allow_iff {n d a t : Int} : allowB n d a t = true ↔ a ≤ 0 ∨ a * (d * 86400000) ≤ n * t := by simp [allowB]
theorem allow_mono {n d a b s t : Int} (hn : 0 ≤ n) (hd : 1 ≤ d) (h1 : a ≤ b) (h2 : s ≤ t) (h : allowB n d b s = true) : allowB n d a t = true := by
  rw [allow_iff] at h ⊢
  by_cases ha : a ≤ 0
  · exact .inl ha
  rcases h with h | h
  · omega
  have e1 : a * (d * 86400000) ≤ b * (d * 86400000) := Int.mul_le_mul_of_nonneg_right h1 (by omega)
  have e2 : n * s ≤ n * t := Int.mul_le_mul_of_nonneg_left h2 hn
  exact .inr (by omega)
theorem near_of_cons {l : List Chk} {n d : Int} (h : (consS l n d).1 = true) : validC l = true ∧ driftB n d = true ∧ ∀ i k : Nat, i < k → k < l.length → nearB n d (nth l i) (nth l k) = true := by
  unfold consS at h
  split at h
  · cases h
  next hv =>
  split at h
  · cases h
  next hf =>
  refine ⟨by cases e : validC l <;> simp_all, by cases e : driftB n d <;> simp_all, fun i k hik hk => ?_⟩
  have := List.find?_range_eq_none.1 hf k hk
  cases hb : nearB n d (nth l i) (nth l k) with
  | true => rfl
  | false => rw [bad_true hik hb] at this; cases this
theorem no_miss {l : List Chk} {n d : Int} (h : (consS l n d).1 = true) (face : Int) : missB l n d face = false := by
  obtain ⟨hv, hd, hn⟩ := near_of_cons h
  obtain ⟨⟨h1, h2⟩, h3, h4⟩ := drift_iff hd
  refine miss_false fun i j hi hj => ?_
  have v1 := valid_at hv (i := i) (by omega) (by omega)
  have v2 := valid_at hv (i := j) (by omega) (by omega)
  rcases Nat.lt_trichotomy i j with g | g | g
  · refine allow_mono h1 h3 ?_ ?_ (hn i j g hj)
    · omega
    · unfold dC; omega
  · subst g
    exact allow_iff.2 (.inl (by omega))
  · refine allow_mono h1 h3 ?_ ?_ (hn j i g hi)
    · omega
    · unfold dC; omega
theorem ut_codes {l : List Chk} {n d face : Int} (hv : validC l = true) (hd : driftB n d = true) (hf : timeB face = true) : (utS l n d face).2 = 23 ∧ missB l n d face = true ∨ (utS l n d face).2 = 0 ∨ (utS l n d face).2 = 20 := by
  unfold utS
  rw [if_neg (by simp [hv, hd]), if_neg (by simp [hf])]
  split
  · exact .inl ⟨rfl, by assumption⟩
  · split
    · exact .inr (.inl rfl)
    · exact .inr (.inr rfl)
theorem cons_code {l : List Chk} {n d : Int} (hv : validC l = true) (hd : driftB n d = true) : (consS l n d).2.2 = 0 := by
  unfold consS
  rw [if_neg (by simp [hv, hd])]
  split <;> rfl
/-- What makeF gives, without its code: the same value, in small terms. -/
theorem makeF_val {k m : Int} (hm : 0 < m) (h : (makeF k m).2 = 0) : (makeF k m).1.1 * m = k * (makeF k m).1.2 ∧ (0 < (makeF k m).1.2 ∧ (makeF k m).1.2 ≤ 1073741824) ∧ -1073741824 ≤ (makeF k m).1.1 ∧ (makeF k m).1.1 ≤ 1073741824 := by
  have hg := gcd_pos' (n := k) (d := m) (by omega)
  obtain ⟨x, hx⟩ : (Int.gcd k m) ∣ k.natAbs := Nat.gcd_dvd_left _ _
  obtain ⟨y, hy⟩ : (Int.gcd k m) ∣ m.natAbs := Nat.gcd_dvd_right _ _
  revert h
  unfold makeF
  rw [if_neg (by omega)]; dsimp only
  generalize Int.gcd k m = g at hg hx hy ⊢
  rw [hx, hy, Nat.mul_div_cancel_left _ hg, Nat.mul_div_cancel_left _ hg]
  split
  · intro h; exact absurd h (by decide)
  next hs =>
  intro _
  dsimp only
  have hm2 : m = (g : Int) * y := by have := congrArg (fun z : Nat => (z : Int)) hy; simp only [Int.natCast_mul] at this; omega
  have hy0 : 0 < y := by
    rcases Nat.eq_zero_or_pos y with e | e
    · subst e; omega
    · exact e
  have hk2 : (k.natAbs : Int) = (g : Int) * x := by have := congrArg (fun z : Nat => (z : Int)) hx; simpa only [Int.natCast_mul] using this
  have hk3 : k = if k < 0 then -((g : Int) * x) else (g : Int) * x := by split <;> omega
  have hc : ((k < 0) = (m < 0)) ↔ ¬ k < 0 := by
    have : ¬ m < 0 := by omega
    simp [this]
  refine ⟨?_, by omega, ?_⟩
  · by_cases hk : k < 0
    · rw [if_neg (by rw [hc]; omega), hm2]
      rw [if_pos hk] at hk3
      conv => rhs; rw [hk3]
      rw [Int.neg_mul, Int.neg_mul, Int.mul_left_comm, Int.mul_assoc]
    · rw [if_pos (by rw [hc]; omega), hm2]
      rw [if_neg hk] at hk3
      conv => rhs; rw [hk3]
      rw [Int.mul_left_comm, Int.mul_assoc]
  · split <;> omega
theorem rate_in {l : List Chk} {n d : Int} (hc : (consS l n d).1 = true) (hr : (rateS l).2 = 0) : cmpF (rateS l).1.1.1 (rateS l).1.1.2 n d ≤ 0 ∧ 0 ≤ cmpF (rateS l).1.2.1 (rateS l).1.2.2 (-n) d ∧ ((0 < (rateS l).1.1.2 ∧ (rateS l).1.1.2 ≤ 1073741824) ∧ -1073741824 ≤ (rateS l).1.1.1 ∧ (rateS l).1.1.1 ≤ 1073741824) ∧ ((0 < (rateS l).1.2.2 ∧ (rateS l).1.2.2 ≤ 1073741824) ∧ -1073741824 ≤ (rateS l).1.2.1 ∧ (rateS l).1.2.1 ≤ 1073741824) := by
  obtain ⟨hv, hd, hn⟩ := near_of_cons hc
  obtain ⟨⟨h1, h2⟩, h3, h4⟩ := drift_iff hd
  have hl := (validC_iff.1 hv).1
  revert hr
  unfold rateS
  rw [if_neg (by simp [hv])]
  by_cases hl1 : l.length = 1
  · rw [if_pos hl1]; intro h; exact absurd h (by decide)
  rw [if_neg hl1]; dsimp only
  have hnr := hn 0 (l.length - 1) (by omega) (by omega)
  rw [show (((l.length - 1 : Nat) : Int)) = (l.length : Int) - 1 by omega, show ((0 : Nat) : Int) = 0 from rfl] at hnr
  have hlt := (valid_lt hv (i := 0) (j := (l.length : Int) - 1) (by omega) (by omega) (by omega)).1
  generalize nth l ((l.length : Int) - 1) = b at hnr hlt ⊢
  generalize nth l 0 = a at hnr hlt ⊢
  split
  · intro h; exact absurd h (by decide)
  next hxy =>
  intro _
  dsimp only
  obtain ⟨t, ht⟩ : ∃ t, b.face - a.face = t := ⟨_, rfl⟩
  rw [ht] at hxy ⊢
  have key : ∀ z : Int, z ≤ max (a.face - a.ut - (b.face - b.ut)) (b.face - b.ut - (a.face - a.ut)) - a.within - b.within → kF z t * d ≤ n * 1000 := by
    intro z hz
    have hal := allow_mono h1 h3 hz (t := t) (by omega) hnr
    rw [allow_iff] at hal
    have hk : kF z t * t ≤ z * 86400000000 := Int.ediv_mul_le _ (by omega)
    have e1 : kF z t * t * d ≤ z * 86400000000 * d := Int.mul_le_mul_of_nonneg_right hk (by omega)
    have e2 : z * 86400000000 * d ≤ n * t * 1000 := by
      rcases hal with g | g
      · have : z * 86400000000 * d ≤ 0 := Int.mul_nonpos_of_nonpos_of_nonneg (by omega) (by omega)
        have : 0 ≤ n * t := Int.mul_nonneg h1 (by omega)
        omega
      · have e3 : z * 86400000000 * d = z * (d * 86400000) * 1000 := by
          rw [show (86400000000 : Int) = 86400000 * 1000 by decide, ← Int.mul_assoc, Int.mul_right_comm _ 1000 d, Int.mul_right_comm z 86400000 d, Int.mul_assoc z d 86400000]
        omega
    have e4 : kF z t * d * t ≤ n * 1000 * t := by
      rw [Int.mul_right_comm, Int.mul_right_comm n 1000 t]; omega
    exact Int.le_of_mul_le_mul_right e4 (by omega)
  have k1 := key (b.face - b.ut - (a.face - a.ut) - (a.within + b.within)) (by omega)
  have k2 := key (-(b.face - b.ut - (a.face - a.ut)) - (a.within + b.within)) (by omega)
  obtain ⟨p1, p2⟩ := not_or.1 hxy
  obtain ⟨x1, x2, x3⟩ := makeF_val (m := 1000) (by decide) (Decidable.not_not.1 p1)
  obtain ⟨y1, y2, y3⟩ := makeF_val (m := 1000) (by decide) (Decidable.not_not.1 p2)
  generalize kF (b.face - b.ut - (a.face - a.ut) - (a.within + b.within)) t = kx at *
  generalize kF (-(b.face - b.ut - (a.face - a.ut)) - (a.within + b.within)) t = ky at *
  generalize (makeF kx 1000).1 = X at *
  generalize (makeF (-ky) 1000).1 = Y at *
  refine ⟨?_, ?_, ⟨x2, x3⟩, y2, y3⟩
  · have e1 : X.1 * d ≤ n * X.2 := by
      have g1 : kx * d * X.2 ≤ n * 1000 * X.2 := Int.mul_le_mul_of_nonneg_right k1 (by omega)
      have g2 : X.1 * d * 1000 = kx * d * X.2 := by rw [Int.mul_right_comm, x1, Int.mul_right_comm]
      have g3 : n * 1000 * X.2 = n * X.2 * 1000 := Int.mul_right_comm _ _ _
      omega
    unfold cmpF
    split
    · decide
    · split <;> omega
  · have e1 : -n * Y.2 ≤ Y.1 * d := by
      have g1 : ky * d * Y.2 ≤ n * 1000 * Y.2 := Int.mul_le_mul_of_nonneg_right k2 (by omega)
      have g2 : Y.1 * d * 1000 = -(ky * d * Y.2) := by rw [Int.mul_right_comm, y1, Int.neg_mul, Int.neg_mul, Int.mul_right_comm]
      have g3 : n * 1000 * Y.2 = n * Y.2 * 1000 := Int.mul_right_comm _ _ _
      have g4 : -n * Y.2 = -(n * Y.2) := Int.neg_mul _ _
      omega
    unfold cmpF
    split
    · omega
    · split <;> decide
end Go.Proofs.Ytcjganfppcjdfaa
