/- Sums and products of fractions: a field's laws, plain. -/
import Derived.Test.YtnanempkkeokbaaDoorOrdP
import Derived.Test.YtnanempkkeokbaaDoorList3
set_option linter.unusedVariables false
set_option maxHeartbeats 1000000
namespace Go.Proofs.YtnanempkkeokbaaDoor
open Go.RowKit

theorem same_val {p q p' q' N D : Int} (h : validF p q = true) (h' : validF p' q' = true) (hD : D ≠ 0) (e : p * D = N * q) (e' : p' * D = N * q') : p = p' ∧ q = q' := by
  refine valid_uniq h h' (Int.eq_of_mul_eq_mul_right hD ?_)
  calc p * q' * D = p * D * q' := by grind
    _ = N * q * q' := by rw [e]
    _ = N * q' * q := by grind
    _ = p' * D * q := by rw [e']
    _ = p' * q * D := by grind
theorem mulF_ok {a b c d p q : Int} (h1 : validF a b = true) (h2 : validF c d = true) (h : mulF a b c d = ((p, q), 0)) : validF p q = true ∧ p * (b * d) = (a * c) * q := by
  unfold mulF at h
  rw [if_neg (by rw [h1, h2]; decide)] at h
  obtain ⟨_, v, e⟩ := makeF_ok h
  exact ⟨v, e⟩
theorem addF_comm (a b c d : Int) : addF a b c d = addF c d a b := by
  unfold addF
  rw [Int.add_comm, Int.mul_comm b d]
  simp only [or_comm]
theorem mulF_comm (a b c d : Int) : mulF a b c d = mulF c d a b := by
  unfold mulF
  rw [Int.mul_comm a c, Int.mul_comm b d]
  simp only [or_comm]
theorem den_ne {p q : Int} (h : validF p q = true) : q ≠ 0 := by have := validF_bd h; omega
theorem mul_assocF {a b c d e f x1 x2 m1 m2 l1 l2 r1 r2 : Int} (ha : validF a b = true) (hc : validF c d = true) (he : validF e f = true)
    (hx : mulF a b c d = ((x1, x2), 0)) (hl : mulF x1 x2 e f = ((l1, l2), 0)) (hm : mulF c d e f = ((m1, m2), 0)) (hr : mulF a b m1 m2 = ((r1, r2), 0)) : l1 = r1 ∧ l2 = r2 := by
  obtain ⟨vx, ex⟩ := mulF_ok ha hc hx
  obtain ⟨vl, el⟩ := mulF_ok vx he hl
  obtain ⟨vm, em⟩ := mulF_ok hc he hm
  obtain ⟨vr, er⟩ := mulF_ok ha vm hr
  have hD : b * d * f ≠ 0 := Int.mul_ne_zero (Int.mul_ne_zero (den_ne ha) (den_ne hc)) (den_ne he)
  refine same_val vl vr hD (N := a * c * e) ?_ ?_
  · apply Int.eq_of_mul_eq_mul_right (den_ne vx)
    calc l1 * (b * d * f) * x2 = l1 * (x2 * f) * (b * d) := by grind
      _ = x1 * e * l2 * (b * d) := by rw [el]
      _ = x1 * (b * d) * e * l2 := by grind
      _ = a * c * x2 * e * l2 := by rw [ex]
      _ = a * c * e * l2 * x2 := by grind
  · apply Int.eq_of_mul_eq_mul_right (den_ne vm)
    calc r1 * (b * d * f) * m2 = r1 * (b * m2) * (d * f) := by grind
      _ = a * m1 * r2 * (d * f) := by rw [er]
      _ = m1 * (d * f) * a * r2 := by grind
      _ = c * e * m2 * a * r2 := by rw [em]
      _ = a * c * e * r2 * m2 := by grind
theorem add_assocF {a b c d e f x1 x2 m1 m2 l1 l2 r1 r2 : Int} (ha : validF a b = true) (hc : validF c d = true) (he : validF e f = true)
    (hx : addF a b c d = ((x1, x2), 0)) (hl : addF x1 x2 e f = ((l1, l2), 0)) (hm : addF c d e f = ((m1, m2), 0)) (hr : addF a b m1 m2 = ((r1, r2), 0)) : l1 = r1 ∧ l2 = r2 := by
  obtain ⟨vx, ex⟩ := addF_ok ha hc hx
  obtain ⟨vl, el⟩ := addF_ok vx he hl
  obtain ⟨vm, em⟩ := addF_ok hc he hm
  obtain ⟨vr, er⟩ := addF_ok ha vm hr
  have hD : b * d * f ≠ 0 := Int.mul_ne_zero (Int.mul_ne_zero (den_ne ha) (den_ne hc)) (den_ne he)
  refine same_val vl vr hD (N := (a * d + c * b) * f + e * (b * d)) ?_ ?_
  · apply Int.eq_of_mul_eq_mul_right (den_ne vx)
    calc l1 * (b * d * f) * x2 = l1 * (x2 * f) * (b * d) := by grind
      _ = (x1 * f + e * x2) * l2 * (b * d) := by rw [el]
      _ = (x1 * (b * d) * f + e * x2 * (b * d)) * l2 := by grind
      _ = ((a * d + c * b) * x2 * f + e * x2 * (b * d)) * l2 := by rw [ex]
      _ = ((a * d + c * b) * f + e * (b * d)) * l2 * x2 := by grind
  · apply Int.eq_of_mul_eq_mul_right (den_ne vm)
    calc r1 * (b * d * f) * m2 = r1 * (b * m2) * (d * f) := by grind
      _ = (a * m2 + m1 * b) * r2 * (d * f) := by rw [er]
      _ = (a * m2 * (d * f) + m1 * (d * f) * b) * r2 := by grind
      _ = (a * m2 * (d * f) + (c * f + e * d) * m2 * b) * r2 := by rw [em]
      _ = ((a * d + c * b) * f + e * (b * d)) * r2 * m2 := by grind
theorem distF {a b c d e f s1 s2 l1 l2 x1 x2 y1 y2 r1 r2 : Int} (ha : validF a b = true) (hc : validF c d = true) (he : validF e f = true)
    (hs : addF c d e f = ((s1, s2), 0)) (hl : mulF a b s1 s2 = ((l1, l2), 0)) (hx : mulF a b c d = ((x1, x2), 0)) (hy : mulF a b e f = ((y1, y2), 0)) (hr : addF x1 x2 y1 y2 = ((r1, r2), 0)) : l1 = r1 ∧ l2 = r2 := by
  obtain ⟨vs, es⟩ := addF_ok hc he hs
  obtain ⟨vl, el⟩ := mulF_ok ha vs hl
  obtain ⟨vx, ex⟩ := mulF_ok ha hc hx
  obtain ⟨vy, ey⟩ := mulF_ok ha he hy
  obtain ⟨vr, er⟩ := addF_ok vx vy hr
  have hD : b * d * f ≠ 0 := Int.mul_ne_zero (Int.mul_ne_zero (den_ne ha) (den_ne hc)) (den_ne he)
  refine same_val vl vr hD (N := a * (c * f + e * d)) ?_ ?_
  · apply Int.eq_of_mul_eq_mul_right (den_ne vs)
    calc l1 * (b * d * f) * s2 = l1 * (b * s2) * (d * f) := by grind
      _ = a * s1 * l2 * (d * f) := by rw [el]
      _ = s1 * (d * f) * a * l2 := by grind
      _ = (c * f + e * d) * s2 * a * l2 := by rw [es]
      _ = a * (c * f + e * d) * l2 * s2 := by grind
  · apply Int.eq_of_mul_eq_mul_right (Int.mul_ne_zero (Int.mul_ne_zero (den_ne vx) (den_ne vy)) (den_ne ha))
    calc r1 * (b * d * f) * (x2 * y2 * b) = r1 * (x2 * y2) * (b * d * f * b) := by grind
      _ = (x1 * y2 + y1 * x2) * r2 * (b * d * f * b) := by rw [er]
      _ = (x1 * (b * d) * (y2 * f * b) + y1 * (b * f) * (x2 * d * b)) * r2 := by grind
      _ = (a * c * x2 * (y2 * f * b) + a * e * y2 * (x2 * d * b)) * r2 := by rw [ex, ey]
      _ = a * (c * f + e * d) * r2 * (x2 * y2 * b) := by grind
theorem subF_ok {a b c d p q : Int} (h1 : validF a b = true) (h2 : validF c d = true) (h : subF a b c d = ((p, q), 0)) : validF p q = true ∧ p * (b * d) = (a * d - c * b) * q := by
  unfold subF at h
  rw [if_neg (by rw [h1, h2]; decide)] at h
  obtain ⟨_, v, e⟩ := makeF_ok h
  exact ⟨v, e⟩
theorem divF_ok {a b c d p q : Int} (h1 : validF a b = true) (h2 : validF c d = true) (h : divF a b c d = ((p, q), 0)) : c ≠ 0 ∧ validF p q = true ∧ p * (b * c) = (a * d) * q := by
  unfold divF at h
  rw [if_neg (by rw [h1, h2]; decide)] at h
  obtain ⟨g, v, e⟩ := makeF_ok h
  refine ⟨fun z => g ?_, v, e⟩
  rw [z, Int.mul_zero]
theorem sub_back {a b c d p q : Int} (h1 : validF a b = true) (h2 : validF c d = true) (h : subF a b c d = ((p, q), 0)) : addF p q c d = ((a, b), 0) := by
  obtain ⟨v, e⟩ := subF_ok h1 h2 h
  unfold addF
  rw [if_neg (by rw [v, h2]; decide)]
  refine makeF_of h1 (Int.mul_ne_zero (den_ne v) (den_ne h2)) ?_
  have e2 : a * (q * d) = (a * d - c * b) * q + c * q * b := by grind
  rw [e2, ← e]; grind
theorem div_back {a b c d p q : Int} (h1 : validF a b = true) (h2 : validF c d = true) (h : divF a b c d = ((p, q), 0)) : mulF p q c d = ((a, b), 0) := by
  obtain ⟨_, v, e⟩ := divF_ok h1 h2 h
  unfold mulF
  rw [if_neg (by rw [v, h2]; decide)]
  refine makeF_of h1 (Int.mul_ne_zero (den_ne v) (den_ne h2)) ?_
  have e2 : a * (q * d) = a * d * q := by grind
  rw [e2, ← e]; grind
theorem div_zero {a b d : Int} (h1 : validF a b = true) (h2 : validF 0 d = true) : divF a b 0 d = ((0, 0), 16) := by
  unfold divF
  rw [if_neg (by rw [h1, h2]; decide), Int.mul_zero]
  exact makeF_zero _
/-- The two operations of the loop. -/
def opX (i : Nat) (a b c d : Int) : (Int × Int) × Int := if i = 0 then addF a b c d else mulF a b c d
theorem opX_comm (i : Nat) (a b c d : Int) : opX i a b c d = opX i c d a b := by
  unfold opX; split
  · exact addF_comm ..
  · exact mulF_comm ..
theorem opX_assoc {i : Nat} {a b c d e f : Int} (ha : validF a b = true) (hc : validF c d = true) (he : validF e f = true) {x l m r : (Int × Int) × Int} (hx : opX i a b c d = x) (hl : opX i x.1.1 x.1.2 e f = l) (hm : opX i c d e f = m) (hr : opX i a b m.1.1 m.1.2 = r) (h0 : x.2 = 0) (h1 : l.2 = 0) (h2 : m.2 = 0) (h3 : r.2 = 0) : l.1.1 = r.1.1 ∧ l.1.2 = r.1.2 := by
  obtain ⟨⟨x1, x2⟩, x3⟩ := x
  obtain ⟨⟨l1, l2⟩, l3⟩ := l
  obtain ⟨⟨m1, m2⟩, m3⟩ := m
  obtain ⟨⟨r1, r2⟩, r3⟩ := r
  dsimp only at *
  subst h0; subst h1; subst h2; subst h3
  unfold opX at hx hl hm hr
  split at hx
  next z =>
    rw [if_pos z] at hl hm hr
    exact add_assocF ha hc he hx hl hm hr
  next z =>
    rw [if_neg z] at hl hm hr
    exact mul_assocF ha hc he hx hl hm hr
theorem mulF_J (a b c d : Int) : Q30 (mulF a b c d).1.1 ∧ Q30 (mulF a b c d).1.2 := by
  unfold mulF
  split
  · decide
  · exact makeF_J _ _
theorem subF_J (a b c d : Int) : Q30 (subF a b c d).1.1 ∧ Q30 (subF a b c d).1.2 := by
  unfold subF
  split
  · decide
  · exact makeF_J _ _
theorem divF_J (a b c d : Int) : Q30 (divF a b c d).1.1 ∧ Q30 (divF a b c d).1.2 := by
  unfold divF
  split
  · decide
  · exact makeF_J _ _
theorem opX_J (i : Nat) (a b c d : Int) : Q30 (opX i a b c d).1.1 ∧ Q30 (opX i a b c d).1.2 := by
  unfold opX
  split
  · exact addF_J ..
  · exact mulF_J ..
def opN (i : Nat) : FuncId := nth [19, 21] (i : Int)
theorem opN_c {i : Nat} (hi : i < 2) {a b c d : Int} (h : F64 a b c d) : Cont Tryd.prog (opN i) [fracV a b, fracV c d] (mkV (opX i a b c d)) := by
  rcases (show i = 0 ∨ i = 1 by omega) with rfl | rfl
  · exact Add_c h
  · exact Mul_c h
theorem opN_go {i : Nat} (hi : i < 2) : isGo Tryd.prog (opN i) = true := by
  rcases (show i = 0 ∨ i = 1 by omega) with rfl | rfl <;> decide +kernel
end Go.Proofs.YtnanempkkeokbaaDoor
