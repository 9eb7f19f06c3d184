/- The reference's numbers: products and quotients of digits. -/
import Derived.Test.YtaglecidaedjfaaDoorRefA
set_option linter.unusedVariables false
set_option maxHeartbeats 4000000
namespace Go.Proofs.YtaglecidaedjfaaDoor
open Go.RowKit

theorem bp_eq : ∀ l : List Int, bp l = 268435456 ^ l.length
  | [] => rfl
  | _ :: r => by rw [bp, bp_eq r, List.length_cons, Int.pow_succ, Int.mul_comm]
theorem dv_app : ∀ l l' : List Int, dv (l ++ l') = dv l + 268435456 ^ l.length * dv l'
  | [], l' => by simp [dv]
  | a :: r, l' => by
    rw [List.cons_append, dv, dv, dv_app r l', List.length_cons, Int.pow_succ]
    grind
theorem dv_take {l : List Int} {i : Int} (h0 : 0 ≤ i) (h1 : i < l.length) : dv (l.take (i + 1).toNat) = dv (l.take i.toNat) + nth l i * 268435456 ^ i.toNat := by
  have e := take_nth (l := l) (m := i + 1) (by omega) (by omega)
  rw [show i + 1 - 1 = i by omega] at e
  rw [e, dv_app, List.length_take, Nat.min_eq_left (by omega)]
  simp only [dv]
  grind
theorem dv_set : ∀ (l : List Int) (i : Nat) (x : Int), i < l.length → dv (l.set i x) = dv l + (x - l.getD i 0) * 268435456 ^ i
  | [], i, x, h => by simp at h
  | a :: r, 0, x, h => by simp [dv]; omega
  | a :: r, i + 1, x, h => by
    have ih := dv_set r i x (by simpa using h)
    simp only [List.set_cons_succ, dv, ih, List.getD_cons_succ, Int.pow_succ]
    grind
theorem dv_setI {l : List Int} {i x : Int} (h0 : 0 ≤ i) (h1 : i < l.length) : dv (l.set i.toNat x) = dv l + (x - nth l i) * 268435456 ^ i.toNat := dv_set l i.toNat x (by omega)
theorem nth_set {l : List Int} {i j x : Int} (h0 : 0 ≤ i) (h1 : 0 ≤ j) (hne : i ≠ j) : nth (l.set i.toNat x) j = nth l j := by
  unfold nth
  rw [List.getD_eq_getElem?_getD, List.getD_eq_getElem?_getD, List.getElem?_set_ne (by omega)]
theorem Dig.set {l : List Int} (h : Dig l) {i : Nat} {x : Int} (h0 : 0 ≤ x) (h1 : x < 268435456) : Dig (l.set i x) := fun b hb => by
  rcases List.mem_or_eq_of_mem_set hb with hb | rfl
  · exact h b hb
  · exact ⟨h0, h1⟩
theorem nth_replicate (n : Nat) (m : Int) : nth (List.replicate n (0 : Int)) m = 0 := by
  unfold nth
  rw [List.getD_eq_getElem?_getD, List.getElem?_replicate]
  split <;> rfl
theorem dv_zeros : ∀ n : Nat, dv (List.replicate n 0) = 0
  | 0 => rfl
  | n + 1 => by rw [List.replicate_succ, dv, dv_zeros n]; rfl
theorem mul_bd {a b : Int} (ha : 0 ≤ a ∧ a < 268435456) (hb : 0 ≤ b ∧ b < 268435456) : 0 ≤ a * b ∧ a * b ≤ 72057593501057025 := by
  have h1 := Int.mul_nonneg ha.1 hb.1
  have h2 : a * b ≤ 268435455 * 268435455 := Int.mul_le_mul (by omega) (by omega) hb.1 (by omega)
  omega
theorem D_one {m : Int} (h0 : 0 < m) (h1 : m < 268435456) : [m] = D m.toNat := by
  rw [D_pos (by omega), show m.toNat / 268435456 = 0 by omega, D_zero]
  congr 1; omega
theorem D_len_B (b : Nat) : (D (268435456 * b)).length ≤ (D b).length + 1 := by
  rcases Nat.eq_zero_or_pos b with rfl | h
  · simp [D_zero]
  · rw [D_pos (n := 268435456 * b) (by omega), List.length_cons, show 268435456 * b / 268435456 = b by omega]
    exact Nat.le_refl _
theorem ordI_le {a b : Nat} : ordI a b ≤ 0 ↔ a ≤ b := by unfold ordI; split <;> (try split) <;> constructor <;> intros <;> omega
theorem drop_setI {l : List Int} {i x : Int} (h0 : 0 ≤ i) (h1 : i < l.length) : (l.set i.toNat x).drop i.toNat = x :: l.drop (i + 1).toNat := by
  have e : (i + 1).toNat = i.toNat + 1 := by omega
  have hlt : i.toNat < (l.set i.toNat x).length := by rw [List.length_set]; omega
  rw [List.drop_eq_getElem_cons hlt, e, List.drop_set_of_lt (by omega), List.getElem_set_self]
end Go.Proofs.YtaglecidaedjfaaDoor
