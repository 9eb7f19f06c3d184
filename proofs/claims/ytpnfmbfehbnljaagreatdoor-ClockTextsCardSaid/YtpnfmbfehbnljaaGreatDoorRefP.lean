/- The calendar's reference Parse is the calendar's Parse: plain. -/
import Derived.Test.YtpnfmbfehbnljaaGreatDoorRefTx
import Derived.Test.YtpnfmbfehbnljaaGreatDoorBackP
set_option linter.unusedVariables false
set_option maxHeartbeats 4000000
namespace Go.Proofs.YtpnfmbfehbnljaaGreatDoor
open Go.RowKit

/-- A digit's bytes, read back. -/
theorem numQ_dg {acc : Int} {x : Nat} (h : x < 10) (r : List UInt8) : numQ acc (dg x :: r) = numQ (10 * acc + x) r := by
  conv => lhs; unfold numQ
  rw [dg_nat h, if_neg (by omega), show ((48 + x : Nat) : Int) - 48 = x by omega]
theorem numQ_inv {acc : Int} {b : UInt8} {r : List UInt8} (h : 0 ≤ numQ acc (b :: r)) : ∃ x : Nat, x < 10 ∧ b = dg x ∧ numQ acc (b :: r) = numQ (10 * acc + x) r := by
  by_cases hc : (b.toNat : Int) < 48 ∨ 57 < (b.toNat : Int)
  · unfold numQ at h
    rw [if_pos hc] at h
    omega
  · obtain ⟨x, hx, rfl⟩ : ∃ x : Nat, x < 10 ∧ b = dg x := ⟨b.toNat - 48, by omega, dg_of (by omega)⟩
    exact ⟨x, hx, rfl, numQ_dg hx r⟩
theorem ten_of {l : List UInt8} (h : l.length = 10) : ∃ a b c d e f g i j k, l = [a, b, c, d, e, f, g, i, j, k] := by
  match l, h with
  | [a, b, c, d, e, f, g, i, j, k], _ => exact ⟨a, b, c, d, e, f, g, i, j, k, rfl⟩
theorem rparse_eq (l : List UInt8) : rparse l = dateP l := by
  have key : ∀ y m d, rparse l = some (y, m, d) ↔ validB y m d = true ∧ dateL y m d = l := by
    intro y m d
    constructor
    · intro h
      unfold rparse at h
      split at h
      next hc =>
        split at h
        next hv =>
          obtain ⟨a, b, c, e, f, g, i, j, k, q, rfl⟩ := ten_of hc.1
          simp only [List.take_succ_cons, List.take_zero, List.drop_succ_cons, List.drop_zero] at h hv
          have h45 : f = 45 ∧ j = 45 := by
            have e1 : (f.toNat : Int) = 45 := hc.2.1
            have e2 : (j.toNat : Int) = 45 := hc.2.2
            exact ⟨UInt8.toNat_inj.1 (by show f.toNat = 45; omega), UInt8.toNat_inj.1 (by show j.toNat = 45; omega)⟩
          obtain ⟨rfl, rfl⟩ := h45
          obtain ⟨hy, hm, hd⟩ := valid_of hv
          obtain ⟨a', a1, rfl, a2⟩ := numQ_inv (show 0 ≤ numQ 0 [a, b, c, e] by omega)
          rw [a2] at h hv hy
          obtain ⟨b', b1, rfl, b2⟩ := numQ_inv (show 0 ≤ numQ (10 * 0 + (a' : Int)) [b, c, e] by omega)
          rw [b2] at h hv hy
          obtain ⟨c', c1, rfl, c2⟩ := numQ_inv (show 0 ≤ numQ (10 * (10 * 0 + (a' : Int)) + b') [c, e] by omega)
          rw [c2] at h hv hy
          obtain ⟨e', e1, rfl, e2⟩ := numQ_inv (show 0 ≤ numQ (10 * (10 * (10 * 0 + (a' : Int)) + b') + c') [e] by omega)
          rw [e2] at h hv hy
          obtain ⟨g', g1, rfl, g2⟩ := numQ_inv (show 0 ≤ numQ 0 [g, i] by omega)
          rw [g2] at h hv hm hd
          obtain ⟨i', i1, rfl, i2⟩ := numQ_inv (show 0 ≤ numQ (10 * 0 + (g' : Int)) [i] by omega)
          rw [i2] at h hv hm hd
          obtain ⟨k', k1, rfl, k2⟩ := numQ_inv (show 0 ≤ numQ 0 [k, q] by omega)
          rw [k2] at h hv hd
          obtain ⟨q', q1, rfl, q2⟩ := numQ_inv (show 0 ≤ numQ (10 * 0 + (k' : Int)) [q] by omega)
          rw [q2] at h hv hd
          simp only [numQ] at h hv
          cases h
          refine ⟨hv, ?_⟩
          have e3 := date_bytes (y := 1000 * a' + 100 * b' + 10 * c' + e') (m := 10 * g' + i') (d := 10 * k' + q') (by omega) (by omega) (by omega)
          rw [show 10 * (10 * (10 * (10 * 0 + (a' : Int)) + b') + c') + e' = ((1000 * a' + 100 * b' + 10 * c' + e' : Nat) : Int) by omega, show 10 * (10 * 0 + (g' : Int)) + i' = ((10 * g' + i' : Nat) : Int) by omega, show 10 * (10 * 0 + (k' : Int)) + q' = ((10 * k' + q' : Nat) : Int) by omega, e3,
            show (1000 * a' + 100 * b' + 10 * c' + e') / 1000 = a' by omega, show (1000 * a' + 100 * b' + 10 * c' + e') / 100 % 10 = b' by omega, show (1000 * a' + 100 * b' + 10 * c' + e') / 10 % 10 = c' by omega, show (1000 * a' + 100 * b' + 10 * c' + e') % 10 = e' by omega,
            show (10 * g' + i') / 10 = g' by omega, show (10 * g' + i') % 10 = i' by omega, show (10 * k' + q') / 10 = k' by omega, show (10 * k' + q') % 10 = q' by omega]
        · cases h
      · cases h
    · rintro ⟨hv, rfl⟩
      obtain ⟨hy, hm, hd⟩ := valid_of hv
      have hdm := dim_bd y m
      obtain ⟨Y, rfl⟩ := Int.eq_ofNat_of_zero_le (show 0 ≤ y by omega)
      obtain ⟨M, rfl⟩ := Int.eq_ofNat_of_zero_le (show 0 ≤ m by omega)
      obtain ⟨D, rfl⟩ := Int.eq_ofNat_of_zero_le (show 0 ≤ d by omega)
      rw [date_bytes (y := Y) (m := M) (d := D) (by omega) (by omega) (by omega)]
      unfold rparse
      rw [if_pos ⟨rfl, rfl, rfl⟩]
      simp only [List.take_succ_cons, List.take_zero, List.drop_succ_cons, List.drop_zero]
      have eY : numQ 0 [dg (Y / 1000), dg (Y / 100 % 10), dg (Y / 10 % 10), dg (Y % 10)] = (Y : Int) := by
        rw [numQ_dg (by omega), numQ_dg (by omega), numQ_dg (by omega), numQ_dg (by omega)]; unfold numQ; omega
      have eM : numQ 0 [dg (M / 10), dg (M % 10)] = (M : Int) := by
        rw [numQ_dg (by omega), numQ_dg (by omega)]; unfold numQ; omega
      have eD : numQ 0 [dg (D / 10), dg (D % 10)] = (D : Int) := by
        rw [numQ_dg (by omega), numQ_dg (by omega)]; unfold numQ; omega
      rw [eY, eM, eD, if_pos hv]
  cases hr : rparse l with
  | none => cases hd : dateP l with
    | none => rfl
    | some x =>
      obtain ⟨y, m, d⟩ := x
      have := (key y m d).2 (dateP_iff.1 hd)
      rw [hr] at this; cases this
  | some x =>
    obtain ⟨y, m, d⟩ := x
    exact (dateP_iff.2 ((key y m d).1 hr)).symm
theorem dateL_len {y m d : Int} (hv : validB y m d = true) : (dateL y m d).length ≤ 1000 := by
  obtain ⟨hy, hm, hdd⟩ := valid_of hv
  have hdm := dim_bd y m
  have l1 := pad_len (n := y) (k := 4) (by omega) (by decide)
  have l2 := pad_len (n := m) (k := 2) (by omega) (by decide)
  have l3 := pad_len (n := d) (k := 2) (by omega) (by decide)
  unfold dateL; simp only [List.length_append, List.length_cons, List.length_nil]; omega
end Go.Proofs.YtpnfmbfehbnljaaGreatDoor
