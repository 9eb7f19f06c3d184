/- The reference's UT. -/
import Derived.Test.YtaglecidaedjfaaDoorRefCh
import Derived.Test.YtaglecidaedjfaaDoorUt
set_option linter.unusedVariables false
set_option maxHeartbeats 4000000
namespace Go.Proofs.YtaglecidaedjfaaDoor
open Go.RowKit

theorem pair_all {R : Hl → Hl → Prop} (hs : ∀ a b, R a b → R b a) {y : Hl} (hy : R y y) : ∀ {H : List Hl}, H.Pairwise R → y ∈ H → ∀ z ∈ H, R y z
  | [], _, h, _, _ => by cases h
  | x :: r, hp, hm, z, hz => by
    rw [List.pairwise_cons] at hp
    rcases List.mem_cons.1 hm with e | hm2
    · subst e
      rcases List.mem_cons.1 hz with rfl | hz2
      · exact hy
      · exact hp.1 z hz2
    · rcases List.mem_cons.1 hz with e | hz2
      · subst e
        exact hs _ _ (hp.1 y hm2)
      · exact pair_all hs hy hp.2 hm2 z hz2
/-- What is only read may stand twice. -/
theorem St.dup {w0 w : World} {H : List Hl} {α : Type} {f : α → List Value} {s : Nat} {l : List α} {v : Value} (h : St w0 H w) (hm : Hl.nw v f s l ∈ H) : St w0 (Hl.nw v f s l :: H) w := by
  refine ⟨h.ext, fun x hx => ?_, fun z hz b hb hzb => ?_, h.apart⟩
  · rcases List.mem_cons.1 hx with rfl | hx
    · exact h.all _ hm
    · exact h.all x hx
  · exact pair_all (R := fun h h' => ∀ b, h.spot = some b → h'.spot = some b → h.excl = false ∧ h'.excl = false) (fun a b hab c h1 h2 => (hab c h2 h1).symm) (fun _ _ _ => ⟨rfl, rfl⟩) ((allApart_iff H).1 h.apart) hm z hz b hb hzb
/-- The least and the greatest error that a comparison allows, over the scale. -/
def aC (n d face : Int) (c : Chk) : Int := (c.face - c.ut - c.within) * (d * 86400000) + -(n * dC face c)
def bC (n d face : Int) (c : Chk) : Int := (c.face - c.ut + c.within) * (d * 86400000) + n * dC face c
def run1 (p : Int → Int → Int) (a : Nat → Int) : Nat → Int
  | 0 => 0
  | 1 => a 0
  | k + 2 => p (run1 p a (k + 1)) (a (k + 1))
def loR (l : List Chk) (n d face : Int) (k : Nat) : Int := run1 max (fun i => aC n d face (nth l i)) k
def hiR (l : List Chk) (n d face : Int) (k : Nat) : Int := run1 min (fun i => bC n d face (nth l i)) k
theorem prod_bd {x y X Y : Int} (h1 : -X ≤ x ∧ x ≤ X) (h2 : 0 ≤ y ∧ y ≤ Y) : -(X * Y) ≤ x * y ∧ x * y ≤ X * Y := by
  have hX : 0 ≤ X := by omega
  have e1 : x * y ≤ X * y := Int.mul_le_mul_of_nonneg_right h1.2 h2.1
  have e2 : -X * y ≤ x * y := Int.mul_le_mul_of_nonneg_right h1.1 h2.1
  have e3 : X * y ≤ X * Y := Int.mul_le_mul_of_nonneg_left h2.2 hX
  rw [Int.neg_mul] at e2
  omega
theorem sz0 : Sz 0 := Sz.small (by decide)
theorem run1_take {p : Int → Int → Int} {a : Nat → Int} {i : Nat} (h : i = 0 ∨ p (run1 p a i) (a i) = a i) : run1 p a (i + 1) = a i := by
  cases i with
  | zero => rfl
  | succ k => exact h.resolve_left (by omega)
theorem run1_keep {p : Int → Int → Int} {a : Nat → Int} {i : Nat} (h0 : i ≠ 0) (h : p (run1 p a i) (a i) = run1 p a i) : run1 p a (i + 1) = run1 p a i := by
  cases i with
  | zero => exact absurd rfl h0
  | succ k => exact h
theorem run1_max {a : Nat → Int} : ∀ {k : Nat}, 0 < k → ∃ j, j < k ∧ run1 max a k = a j
  | 1, _ => ⟨0, by omega, rfl⟩
  | k + 2, _ => by
    obtain ⟨j, hj, he⟩ := run1_max (a := a) (k := k + 1) (by omega)
    rcases Int.le_total (run1 max a (k + 1)) (a (k + 1)) with h | h
    · exact ⟨k + 1, by omega, Int.max_eq_right h⟩
    · exact ⟨j, by omega, (Int.max_eq_left h).trans he⟩
theorem run1_min {a : Nat → Int} : ∀ {k : Nat}, 0 < k → ∃ j, j < k ∧ run1 min a k = a j
  | 1, _ => ⟨0, by omega, rfl⟩
  | k + 2, _ => by
    obtain ⟨j, hj, he⟩ := run1_min (a := a) (k := k + 1) (by omega)
    rcases Int.le_total (run1 min a (k + 1)) (a (k + 1)) with h | h
    · exact ⟨j, by omega, (Int.min_eq_left h).trans he⟩
    · exact ⟨k + 1, by omega, Int.min_eq_right h⟩
theorem aC_div {n d face : Int} {c : Chk} (hd : 1 ≤ d) : aC n d face c / (d * 86400000) = c.face - c.ut - c.within + -(n * dC face c) / (d * 86400000) := by
  unfold aC
  rw [Int.add_comm, Int.add_mul_ediv_right _ _ (by omega), Int.add_comm]
theorem bC_div {n d face : Int} {c : Chk} (hd : 1 ≤ d) : -(-bC n d face c / (d * 86400000)) = c.face - c.ut + c.within + -(-(n * dC face c) / (d * 86400000)) := by
  unfold bC
  rw [Int.neg_add, ← Int.neg_mul, Int.add_comm, Int.add_mul_ediv_right _ _ (by omega)]
  omega
theorem lo_bd {l : List Chk} {n d face : Int} (hv : validC l = true) (hnd : (0 ≤ n ∧ n ≤ 1073741824) ∧ 1 ≤ d ∧ d ≤ 1073741824) (hfb : -70368744177664 ≤ face ∧ face ≤ 70368744177664) : -288230376151711744 ≤ loR l n d face l.length / (d * 86400000) ∧ loR l n d face l.length / (d * 86400000) ≤ 288230376151711744 := by
  have hlen := (validC_iff.1 hv).1
  obtain ⟨j, hj, he⟩ := run1_max (a := fun i => aC n d face (nth l i)) (k := l.length) (by omega)
  have bj := valid_at hv (i := j) (by omega) (by omega)
  have dj := dC_bd hfb bj.1
  have xj := drift_bd hnd (t := dC face (nth l j)) (by omega)
  unfold loR
  rw [he, aC_div (by omega)]
  omega
theorem hi_bd {l : List Chk} {n d face : Int} (hv : validC l = true) (hnd : (0 ≤ n ∧ n ≤ 1073741824) ∧ 1 ≤ d ∧ d ≤ 1073741824) (hfb : -70368744177664 ≤ face ∧ face ≤ 70368744177664) : -288230376151711744 ≤ -(-hiR l n d face l.length / (d * 86400000)) ∧ -(-hiR l n d face l.length / (d * 86400000)) ≤ 288230376151711744 := by
  have hlen := (validC_iff.1 hv).1
  obtain ⟨j, hj, he⟩ := run1_min (a := fun i => bC n d face (nth l i)) (k := l.length) (by omega)
  have bj := valid_at hv (i := j) (by omega) (by omega)
  have dj := dC_bd hfb bj.1
  have xj := drift_bd hnd (t := dC face (nth l j)) (by omega)
  unfold hiR
  rw [he, bC_div (by omega)]
  omega
/-- What the reference's UT returns. -/
def utR (l : List Chk) (n d face : Int) : (Int × Int) × Int :=
  if validC l = false ∨ driftB n d = false then ((0, 0), 1) else
  if timeB face = false then ((0, 0), 2) else
  if hiR l n d face l.length < loR l n d face l.length then ((0, 0), 23) else
  if (in64 (loR l n d face l.length / (d * 86400000)) = true ∧ in64 (-(-hiR l n d face l.length / (d * 86400000))) = true) ∧ timeB (face - -(-hiR l n d face l.length / (d * 86400000))) = true ∧ timeB (face - loR l n d face l.length / (d * 86400000)) = true
  then ((face - -(-hiR l n d face l.length / (d * 86400000)), face - loR l n d face l.length / (d * 86400000)), 0) else ((0, 0), 20)
theorem Sz.div {a b : Int} (h : Sz a) (hb : 0 < b) : Sz (a / b) := by
  unfold Sz at *
  have := ediv_bd (k := (a.natAbs : Int)) hb (show -(a.natAbs : Int) ≤ a by omega) (by omega)
  omega
end Go.Proofs.YtaglecidaedjfaaDoor
