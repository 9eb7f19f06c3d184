/- Comparing fractions is an order, kept by adding; sums and products of fractions: plain laws. -/
import Derived.Test.YtnanempkkeokbaaDoorRatP
set_option linter.unusedVariables false
set_option maxHeartbeats 1000000
namespace Go.Proofs.YtnanempkkeokbaaDoor
open Go.RowKit

theorem cmpF_neg (a b c d : Int) : cmpF a b c d = -cmpF c d a b := by
  unfold cmpF; split <;> split <;> omega
theorem cmpF_bd (a b c d : Int) : -1 ≤ cmpF a b c d ∧ cmpF a b c d ≤ 1 := by
  unfold cmpF; split <;> (try split) <;> omega
theorem cmpF_zero {a b c d : Int} (h1 : validF a b = true) (h2 : validF c d = true) : cmpF a b c d = 0 ↔ a = c ∧ b = d := by
  constructor
  · intro h
    refine valid_uniq h1 h2 ?_
    unfold cmpF at h
    split at h
    · omega
    · split at h <;> omega
  · rintro ⟨rfl, rfl⟩
    unfold cmpF
    rw [if_neg (by omega), if_neg (by omega)]
theorem cmpF_le {a b c d : Int} : cmpF a b c d ≤ 0 ↔ a * d ≤ c * b := by
  unfold cmpF; split
  · constructor <;> omega
  · split <;> constructor <;> omega
theorem cmpF_lt {a b c d : Int} : cmpF a b c d < 0 ↔ a * d < c * b := by
  unfold cmpF; split
  · constructor <;> omega
  · split <;> constructor <;> omega
theorem cmpF_gt {a b c d : Int} : 0 < cmpF a b c d ↔ c * b < a * d := by
  unfold cmpF; split
  · constructor <;> omega
  · split <;> constructor <;> omega
theorem order_le {a b c d e f : Int} (hb : 0 < b) (hd : 0 < d) (hf : 0 < f) (h1 : a * d ≤ c * b) (h2 : c * f ≤ e * d) : a * f ≤ e * b := by
  have k1 := Int.mul_le_mul_of_nonneg_right h1 (Int.le_of_lt hf)
  have k2 := Int.mul_le_mul_of_nonneg_right h2 (Int.le_of_lt hb)
  have k3 : a * f * d ≤ e * b * d := by
    have e1 : a * f * d = a * d * f := by grind
    have e2 : c * b * f = c * f * b := by grind
    have e3 : e * b * d = e * d * b := by grind
    omega
  exact Int.le_of_mul_le_mul_right k3 hd
theorem order_lt {a b c d e f : Int} (hb : 0 < b) (hd : 0 < d) (hf : 0 < f) (h1 : a * d ≤ c * b) (h2 : c * f ≤ e * d) (h3 : a * d < c * b ∨ c * f < e * d) : a * f < e * b := by
  have k3 : a * f * d < e * b * d := by
    have e1 : a * f * d = a * d * f := by grind
    have e2 : c * b * f = c * f * b := by grind
    have e3 : e * b * d = e * d * b := by grind
    rcases h3 with h | h
    · have k1 := Int.mul_lt_mul_of_pos_right h hf
      have k2 := Int.mul_le_mul_of_nonneg_right h2 (Int.le_of_lt hb)
      omega
    · have k1 := Int.mul_le_mul_of_nonneg_right h1 (Int.le_of_lt hf)
      have k2 := Int.mul_lt_mul_of_pos_right h hb
      omega
  exact Int.lt_of_mul_lt_mul_right k3 (Int.le_of_lt hd)
theorem order_no {a b c d e f : Int} (h1 : validF a b = true) (h2 : validF c d = true) (h3 : validF e f = true) : ¬ (cmpF a b c d ≤ 0 ∧ cmpF c d e f ≤ 0 ∧ (0 < cmpF a b e f ∨ cmpF a b e f = 0 ∧ (cmpF a b c d < 0 ∨ cmpF c d e f < 0))) := by
  have g1 := validF_bd h1
  have g2 := validF_bd h2
  have g3 := validF_bd h3
  rintro ⟨x1, x2, x3⟩
  have y1 := cmpF_le.1 x1
  have y2 := cmpF_le.1 x2
  rcases x3 with x | ⟨x, y⟩
  · have := order_le (by omega) (by omega) (by omega) y1 y2
    have := cmpF_gt.1 x
    omega
  · have z := order_lt (by omega) (by omega) (by omega) y1 y2 (by
      rcases y with y | y
      · exact .inl (cmpF_lt.1 y)
      · exact .inr (cmpF_lt.1 y))
    have := cmpF_lt.2 z
    omega
/-- Two differences of the same sign. -/
theorem same_sign {u v k m : Int} (hk : 0 < k) (hm : 0 < m) (h : u * k = v * m) : (u < 0 ↔ v < 0) ∧ (0 < u ↔ 0 < v) := by
  have f1 : ∀ {x y : Int}, x < 0 → 0 < y → x * y < 0 := fun h1 h2 => Int.mul_neg_of_neg_of_pos h1 h2
  have f2 : ∀ {x y : Int}, 0 < x → 0 < y → 0 < x * y := fun h1 h2 => Int.mul_pos h1 h2
  rcases Int.lt_trichotomy u 0 with hu | hu | hu <;> rcases Int.lt_trichotomy v 0 with hv | hv | hv
  · exact ⟨⟨fun _ => hv, fun _ => hu⟩, ⟨fun _ => by omega, fun _ => by omega⟩⟩
  · have := f1 hu hk; subst hv; omega
  · have := f1 hu hk; have := f2 hv hm; omega
  · have := f1 hv hm; subst hu; omega
  · subst hu; subst hv; exact ⟨Iff.rfl, Iff.rfl⟩
  · have := f2 hv hm; subst hu; omega
  · have := f2 hu hk; have := f1 hv hm; omega
  · have := f2 hu hk; subst hv; omega
  · exact ⟨⟨fun _ => by omega, fun _ => by omega⟩, ⟨fun _ => hv, fun _ => hu⟩⟩
theorem cmpF_add {a b c d e f x y z w : Int} (h1 : validF a b = true) (h2 : validF c d = true) (h3 : validF e f = true) (hx : validF x y = true) (hz : validF z w = true) (k1 : x * (b * f) = (a * f + e * b) * y) (k2 : z * (d * f) = (c * f + e * d) * w) : cmpF x y z w = cmpF a b c d := by
  have g1 := validF_bd h1
  have g2 := validF_bd h2
  have g3 := validF_bd h3
  have g4 := validF_bd hx
  have g5 := validF_bd hz
  have p1 : 0 < b * d * f := Int.mul_pos (Int.mul_pos (by omega) (by omega)) (by omega)
  have p2 : 0 < y * w * f := Int.mul_pos (Int.mul_pos (by omega) (by omega)) (by omega)
  have key : (x * w - z * y) * (b * d * f) = (a * d - c * b) * (y * w * f) := by
    have q1 : x * w * (b * d * f) = (a * f + e * b) * y * w * d := by
      calc x * w * (b * d * f) = x * (b * f) * w * d := by grind
        _ = (a * f + e * b) * y * w * d := by rw [k1]
    have q2 : z * y * (b * d * f) = (c * f + e * d) * w * y * b := by
      calc z * y * (b * d * f) = z * (d * f) * y * b := by grind
        _ = (c * f + e * d) * w * y * b := by rw [k2]
    rw [Int.sub_mul, q1, q2]; grind
  obtain ⟨s1, s2⟩ := same_sign p1 p2 key
  unfold cmpF
  by_cases hlt : x * w < z * y
  · rw [if_pos hlt, if_pos (show a * d < c * b by omega)]
  · rw [if_neg hlt, if_neg (show ¬ a * d < c * b by omega)]
    by_cases hgt : z * y < x * w
    · rw [if_pos hgt, if_pos (show c * b < a * d by omega)]
    · rw [if_neg hgt, if_neg (show ¬ c * b < a * d by omega)]
theorem addF_ok {a b c d p q : Int} (h1 : validF a b = true) (h2 : validF c d = true) (h : addF a b c d = ((p, q), 0)) : validF p q = true ∧ p * (b * d) = (a * d + c * b) * q := by
  unfold addF at h
  rw [if_neg (by rw [h1, h2]; decide)] at h
  obtain ⟨_, v, e⟩ := makeF_ok h
  exact ⟨v, e⟩
theorem addF_not (a b c d : Int) : (addF a b c d).2 = 0 ∨ addF a b c d = ((0, 0), (addF a b c d).2) := by
  unfold addF
  split
  · exact .inr rfl
  · rcases makeF_cases (a * d + c * b) (b * d) with ⟨e, _⟩ | ⟨e, _⟩ | ⟨e, _⟩
    · exact .inr (by rw [e])
    · exact .inr (by rw [e])
    · exact .inl e
end Go.Proofs.YtnanempkkeokbaaDoor
