/- The arithmetic of a quotient of 128 bits by 64: one digit of 32 bits at a time. -/
set_option linter.unusedVariables false
namespace Go.Proofs.YtaglecidaedjfaaDoor

/-- The trial digit is not too small: v = u * B + d, y = y1 * B + y0. -/
theorem digit_ge {u d y1 y0 : Int} (hu : 0 ≤ u) (hd0 : 0 ≤ d) (hd : d < 4294967296) (h1 : 0 < y1) (h0 : 0 ≤ y0) : (u * 4294967296 + d) / (y1 * 4294967296 + y0) ≤ u / y1 := by
  have hy : 0 < y1 * 4294967296 + y0 := by omega
  have h2 : (u * 4294967296 + d) / (y1 * 4294967296 + y0) ≤ (u * 4294967296 + d) / (y1 * 4294967296) := by
    have hq := Int.ediv_nonneg (a := u * 4294967296 + d) (b := y1 * 4294967296 + y0) (by omega) (by omega)
    refine Int.le_ediv_of_mul_le (by omega) ?_
    have h3 := Int.ediv_mul_le (u * 4294967296 + d) (show y1 * 4294967296 + y0 ≠ 0 by omega)
    have h4 := Int.mul_nonneg hq h0
    rw [Int.mul_add] at h3
    omega
  have h5 : (u * 4294967296 + d) / (y1 * 4294967296) = u / y1 := by
    rw [Int.mul_comm y1, ← Int.ediv_ediv_of_nonneg (by omega : (0 : Int) ≤ 4294967296)]
    congr 1
    omega
  omega
/-- ..and not too great by more than 2. -/
theorem digit_le {u y y1 y0 : Int} (hu : 0 ≤ u) (huy : u < y) (hy : y = y1 * 4294967296 + y0) (h1 : 2147483648 ≤ y1) (h0 : 0 ≤ y0) (h0' : y0 < 4294967296) : u / y1 ≤ 4294967297 := by
  have h2 : u < y1 * 4294967298 := by omega
  have := Int.ediv_lt_of_lt_mul (show 0 < y1 by omega) (show u < 4294967298 * y1 by omega)
  omega
/-- The test: the digit is too great. -/
theorem digit_test {u d y1 y0 q r : Int} (hy : 0 < y1 * 4294967296 + y0) (hr : r = u - q * y1) : (q * y0 > 4294967296 * r + d) ↔ (u * 4294967296 + d) / (y1 * 4294967296 + y0) < q := by
  have e : q * (y1 * 4294967296 + y0) = q * y1 * 4294967296 + q * y0 := by rw [Int.mul_add, Int.mul_assoc]
  constructor
  · intro h
    refine Int.ediv_lt_of_lt_mul hy ?_
    rw [e]; omega
  · intro h
    have h2 := Int.lt_mul_of_ediv_lt hy h
    rw [e] at h2
    omega
theorem digit_lt {u d y : Int} (hy : 0 < y) (hd : d < 4294967296) (hu : u < y) : (u * 4294967296 + d) / y < 4294967296 := by
  refine Int.ediv_lt_of_lt_mul hy ?_
  omega
/-- When the rest is great the digit is small enough. -/
theorem digit_stop {u d y1 y0 q r : Int} (hy : 0 < y1 * 4294967296 + y0) (hr : r = u - q * y1) (hd : 0 ≤ d) (h0 : 0 ≤ y0) (h0' : y0 < 4294967296) (hq0 : 0 ≤ q) (hq : q ≤ 4294967296) (hb : 4294967296 ≤ r) : q ≤ (u * 4294967296 + d) / (y1 * 4294967296 + y0) := by
  have h1 := (digit_test (u := u) (d := d) (y1 := y1) (y0 := y0) (q := q) (r := r) hy hr)
  have h2 : q * y0 ≤ 4294967296 * y0 := Int.mul_le_mul_of_nonneg_right hq h0
  have h3 : ¬ q * y0 > 4294967296 * r + d := by omega
  have := mt h1.2 h3
  omega
/-- The whole: V = hi * 2^64 + lo, scaled by p. -/
theorem div_whole {hi lo y p r u32 u10 un1 un0 q1 q0 u21 R : Int} (hp : 0 < p) (hpr : p * r = 18446744073709551616) (hr : 0 < r) (hy : 0 < y) (hyb : y * p ≤ 18446744073709551615) (hi0 : 0 ≤ hi) (hlt : hi < y) (hlo : 0 ≤ lo)
    (e32 : u32 = hi * p + lo / r) (e10 : u10 = (lo * p) % 18446744073709551616) (e1 : u10 = un1 * 4294967296 + un0)
    (eq1 : u21 = u32 * 4294967296 + un1 - q1 * (y * p)) (hR : R = u21 * 4294967296 + un0 - q0 * (y * p)) (hR0 : 0 ≤ R) (hRy : R < y * p) :
    (hi * 18446744073709551616 + lo) / y = q1 * 4294967296 + q0 ∧ (hi * 18446744073709551616 + lo) % y = R / p := by
  have e2 : lo * p = lo / r * 18446744073709551616 + u10 := by
    have h1 := Int.emod_add_mul_ediv (lo * p) 18446744073709551616
    have h2 : lo * p / 18446744073709551616 = lo / r := by
      rw [← hpr, Int.mul_comm lo p]
      exact Int.mul_ediv_mul_of_pos _ _ hp
    rw [h2] at h1
    omega
  have e3 : (hi * 18446744073709551616 + lo) * p = (q1 * 4294967296 + q0) * (y * p) + R := by
    rw [Int.add_mul, e2, hR, eq1, e32, e1]
    grind
  have e4 : R = (hi * 18446744073709551616 + lo - (q1 * 4294967296 + q0) * y) * p := by
    rw [Int.sub_mul, e3, Int.mul_assoc]; omega
  generalize hD : hi * 18446744073709551616 + lo - (q1 * 4294967296 + q0) * y = Dd at *
  have h0 : 0 ≤ Dd := by
    rcases Int.lt_or_le Dd 0 with h | h
    · have := Int.mul_neg_of_neg_of_pos h hp; omega
    · exact h
  have h1 : Dd < y := by
    rw [e4] at hRy
    exact Int.lt_of_mul_lt_mul_right hRy (by omega)
  have h2 : R / p = Dd := by rw [e4]; exact Int.mul_ediv_cancel _ (by omega)
  rw [h2]
  exact (Int.ediv_emod_unique hy).2 ⟨by rw [Int.mul_comm y]; omega, h0, h1⟩
end Go.Proofs.YtaglecidaedjfaaDoor
