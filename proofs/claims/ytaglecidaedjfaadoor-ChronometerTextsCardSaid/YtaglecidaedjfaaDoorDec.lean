/- Decimal texts: digits, read back; a text cut at a byte. Plain. -/
import Derived.Test.YtaglecidaedjfaaDoorLib
import Derived.Lib.AtoiAll
import Derived.Lib.IndexMore
set_option linter.unusedVariables false
set_option maxHeartbeats 1000000
namespace Go.Proofs.YtaglecidaedjfaaDoor
open Go.RowKit

/-- The byte of a digit. -/
def dgt (x : Nat) : UInt8 := UInt8.ofNat (48 + x)
theorem dgt_nat {x : Nat} (h : x < 10) : (dgt x).toNat = 48 + x := by
  unfold dgt
  rw [UInt8.toNat_ofNat']; omega
def isDg (b : UInt8) : Bool := decide (48 ≤ b.toNat) && decide (b.toNat ≤ 57)
theorem isDg_dgt {x : Nat} (h : x < 10) : isDg (dgt x) = true := by
  unfold isDg
  rw [dgt_nat h, decide_eq_true (by omega), decide_eq_true (by omega)]; rfl
theorem dgt_of {b : UInt8} (h : isDg b = true) : ∃ x : Nat, x < 10 ∧ b = dgt x := by
  simp only [isDg, Bool.and_eq_true, decide_eq_true_eq] at h
  refine ⟨b.toNat - 48, by omega, ?_⟩
  unfold dgt
  rw [show 48 + (b.toNat - 48) = b.toNat by omega, UInt8.ofNat_toNat]
theorem deci_lt {u : Nat} (h : u < 10) : Lib.decDigits u = [dgt u] := by rw [Lib.decDigits, dif_pos h]; rfl
theorem deci_ge {u : Nat} (h : 10 ≤ u) : Lib.decDigits u = Lib.decDigits (u / 10) ++ [dgt (u % 10)] := by rw [Lib.decDigits, dif_neg (by omega)]; rfl
theorem itoa_of_nat (u : Nat) : Lib.itoa (u : Int) = Lib.decDigits u := by
  unfold Lib.itoa
  rw [if_neg (by omega)]; simp
theorem itoa_of_neg {u : Nat} (h : 0 < u) : Lib.itoa (-(u : Int)) = 45 :: Lib.decDigits u := by
  unfold Lib.itoa
  rw [if_pos (by omega)]; simp
theorem deci_ne (u : Nat) : Lib.decDigits u ≠ [] := by
  by_cases h : u < 10
  · rw [deci_lt h]; simp
  · rw [deci_ge (by omega)]; simp
theorem deci_all : ∀ (k u : Nat), u ≤ k → ∀ b ∈ Lib.decDigits u, isDg b = true
  | 0, u, h, b, hb => by
    rw [deci_lt (by omega)] at hb
    rw [List.mem_singleton.1 hb]
    exact isDg_dgt (by omega)
  | k + 1, u, h, b, hb => by
    by_cases h1 : u < 10
    · rw [deci_lt h1] at hb
      rw [List.mem_singleton.1 hb]
      exact isDg_dgt h1
    · rw [deci_ge (by omega), List.mem_append] at hb
      rcases hb with hb | hb
      · exact deci_all k (u / 10) (by omega) b hb
      · rw [List.mem_singleton.1 hb]
        exact isDg_dgt (by omega)
theorem deci_dg {u : Nat} {b : UInt8} (h : b ∈ Lib.decDigits u) : isDg b = true := deci_all u u (Nat.le_refl _) b h
theorem deci_head (u : Nat) : ∃ x r, x < 10 ∧ Lib.decDigits u = dgt x :: r := by
  cases hd : Lib.decDigits u with
  | nil => exact absurd hd (deci_ne u)
  | cons b r =>
    obtain ⟨x, hx, rfl⟩ := dgt_of (deci_dg (u := u) (b := b) (by rw [hd]; exact List.mem_cons_self))
    exact ⟨x, r, hx, rfl⟩
theorem parse_dgt {acc x : Nat} (h : x < 10) (ha : acc ≤ 1000000000000000000) (r : List UInt8) : Lib.parseUint10 acc (dgt x :: r) = Lib.parseUint10 (acc * 10 + x) r := by
  have e := dgt_nat h
  conv => lhs; unfold Lib.parseUint10
  rw [e, if_pos (by omega), if_neg (by omega), if_neg (by omega), show 48 + x - 48 = x by omega]
theorem parse_deci : ∀ (k u : Nat), u ≤ k → u ≤ 1000000000000000000 → ∀ r, Lib.parseUint10 0 (Lib.decDigits u ++ r) = Lib.parseUint10 u r
  | 0, u, h, hb, r => by
    rw [deci_lt (by omega), List.singleton_append, parse_dgt (by omega) (by omega)]
    rw [show 0 * 10 + u = u by omega]
  | k + 1, u, h, hb, r => by
    by_cases h1 : u < 10
    · rw [deci_lt h1, List.singleton_append, parse_dgt h1 (by omega), show 0 * 10 + u = u by omega]
    · rw [deci_ge (by omega), List.append_assoc, parse_deci k (u / 10) (by omega) (by omega), List.singleton_append, parse_dgt (by omega) (by omega), show u / 10 * 10 + u % 10 = u by omega]
theorem mag_deci {u : Nat} (h : u ≤ 1000000000000000000) : Lib.parseMag (Lib.decDigits u) = .ok u := by
  unfold Lib.parseMag
  rw [if_neg (deci_ne u)]
  have := parse_deci u u (Nat.le_refl _) h []
  rw [List.append_nil] at this
  rw [this]; rfl
theorem atoi_itoa {n : Int} (h : -1000000000000000000 ≤ n ∧ n ≤ 1000000000000000000) : Lib.atoiAll (Lib.itoa n) = .ok n := by
  rcases Int.lt_or_le n 0 with h0 | h0
  · obtain ⟨u, rfl, hu⟩ : ∃ u : Nat, n = -(u : Int) ∧ 0 < u := ⟨n.natAbs, by omega, by omega⟩
    rw [itoa_of_neg hu]
    unfold Lib.atoiAll
    dsimp only
    rw [if_pos (.inr rfl), mag_deci (by omega)]
    dsimp only
    rw [if_neg (by simp), if_neg (by omega)]
    rfl
  · obtain ⟨u, rfl⟩ := Int.eq_ofNat_of_zero_le h0
    rw [itoa_of_nat]
    have hm := mag_deci (u := u) (by omega)
    obtain ⟨x, r, hx, e⟩ := deci_head u
    rw [e] at hm ⊢
    have hd := dgt_nat hx
    unfold Lib.atoiAll
    dsimp only
    rw [if_neg (by omega), hm]
    dsimp only
    rw [if_neg (by omega), if_neg (by omega), if_neg (by omega)]
theorem index_not {c : UInt8} : ∀ (x : List UInt8), c ∉ x → Lib.index x [c] = -1
  | [], _ => rfl
  | b :: r, h => by
    rw [List.mem_cons, not_or] at h
    unfold Lib.index
    rw [if_neg (by simp [List.isPrefixOf, h.1]), index_not r h.2]; rfl
theorem index_at {c : UInt8} : ∀ (x y : List UInt8), c ∉ x → Lib.index (x ++ c :: y) [c] = x.length
  | [], y, _ => by
    show Lib.index (c :: y) [c] = 0
    unfold Lib.index
    rw [if_pos (by simp [List.isPrefixOf])]
  | b :: r, y, h => by
    rw [List.mem_cons, not_or] at h
    show Lib.index (b :: (r ++ c :: y)) [c] = _
    unfold Lib.index
    rw [if_neg (by simp [List.isPrefixOf, h.1]), index_at r y h.2, if_neg (by simp), List.length_cons]
    omega
theorem cut_at {c : UInt8} {x : List UInt8} (y : List UInt8) (h : c ∉ x) : Lib.cut (x ++ c :: y) [c] = (x, y, true) := by
  unfold Lib.cut
  rw [index_at x y h, if_pos (by omega), Int.toNat_natCast, List.take_left, List.length_singleton, List.drop_append, List.drop_eq_nil_of_le (by omega), show x.length + 1 - x.length = 1 by omega]
  rfl
theorem cut_not {c : UInt8} {x : List UInt8} (h : c ∉ x) : Lib.cut x [c] = (x, [], false) := by
  unfold Lib.cut
  rw [index_not x h, if_neg (by decide)]
theorem itoa_mem {n : Int} {b : UInt8} (h : b ∈ Lib.itoa n) : isDg b = true ∨ b = 45 := by
  unfold Lib.itoa at h
  split at h
  · rcases List.mem_cons.1 h with h | h
    · exact .inr h
    · exact .inl (deci_dg h)
  · exact .inl (deci_dg h)
theorem itoa_not {n : Int} {c : UInt8} (h : isDg c = false) (h2 : c ≠ 45) : c ∉ Lib.itoa n := fun g => by
  rcases itoa_mem g with g | g
  · rw [h] at g; cases g
  · exact h2 g
end Go.Proofs.YtaglecidaedjfaaDoor
