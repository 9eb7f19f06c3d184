/- A date's text is read back: plain. -/
import Derived.Test.YtpnfmbfehbnljaaGreatDoorParse
set_option linter.unusedVariables false
set_option maxHeartbeats 8000000
namespace Go.Proofs.YtpnfmbfehbnljaaGreatDoor
open Go.RowKit

/-- The byte of a digit. -/
def dg (x : Nat) : UInt8 := UInt8.ofNat (48 + x)
theorem dg_nat {x : Nat} (h : x < 10) : (dg x).toNat = 48 + x := by
  unfold dg
  rw [UInt8.toNat_ofNat']; omega
theorem dg_ne {x : Nat} (h : x < 10) : ((45 : UInt8) == dg x) = false := by
  rw [beq_eq_false_iff_ne]
  intro e
  have := congrArg UInt8.toNat e
  rw [dg_nat h] at this
  have h2 : (45 : UInt8).toNat = 45 := rfl
  omega
theorem dec_lt {u : Nat} (h : u < 10) : Lib.decDigits u = [dg u] := by rw [Lib.decDigits, dif_pos h]; rfl
theorem dec_ge {u : Nat} (h : 10 ≤ u) : Lib.decDigits u = Lib.decDigits (u / 10) ++ [dg (u % 10)] := by rw [Lib.decDigits, dif_neg (by omega)]; rfl
theorem itoa_nat (u : Nat) : Lib.itoa (u : Int) = Lib.decDigits u := by
  unfold Lib.itoa
  rw [if_neg (by omega)]; simp
theorem pad2 {u : Nat} (h : u < 100) : padL (u : Int) 2 = [dg (u / 10), dg (u % 10)] := by
  unfold padL
  rw [itoa_nat]
  by_cases h1 : u < 10
  · rw [dec_lt h1, show u / 10 = 0 by omega, show u % 10 = u by omega]; rfl
  · rw [dec_ge (by omega), dec_lt (by omega)]; rfl
theorem pad4 {u : Nat} (h : u < 10000) : padL (u : Int) 4 = [dg (u / 1000), dg (u / 100 % 10), dg (u / 10 % 10), dg (u % 10)] := by
  unfold padL
  rw [itoa_nat]
  by_cases h1 : u < 10
  · rw [dec_lt h1, show u / 1000 = 0 by omega, show u / 100 % 10 = 0 by omega, show u / 10 % 10 = 0 by omega, show u % 10 = u by omega]; rfl
  by_cases h2 : u < 100
  · rw [dec_ge (by omega), dec_lt (by omega), show u / 1000 = 0 by omega, show u / 100 % 10 = 0 by omega, show u / 10 % 10 = u / 10 by omega]; rfl
  by_cases h3 : u < 1000
  · rw [dec_ge (by omega), dec_ge (by omega), dec_lt (by omega), show u / 1000 = 0 by omega, show u / 100 % 10 = u / 10 / 10 by omega]; rfl
  · rw [dec_ge (by omega), dec_ge (by omega), dec_ge (by omega), dec_lt (by omega), show u / 1000 = u / 10 / 10 / 10 by omega, show u / 100 % 10 = u / 10 / 10 % 10 by omega]; rfl
theorem date_bytes {y m d : Nat} (hy : y < 10000) (hm : m < 100) (hd : d < 100) : dateL (y : Int) (m : Int) (d : Int) = [dg (y / 1000), dg (y / 100 % 10), dg (y / 10 % 10), dg (y % 10), 45, dg (m / 10), dg (m % 10), 45, dg (d / 10), dg (d % 10)] := by
  unfold dateL
  rw [pad4 hy, pad2 hm, pad2 hd]; rfl
theorem split_date {a b c d e f g h : Nat} (ha : a < 10) (hb : b < 10) (hc : c < 10) (hd : d < 10) (he : e < 10) (hf : f < 10) (hg : g < 10) (hh : h < 10) :
    Lib.split [dg a, dg b, dg c, dg d, 45, dg e, dg f, 45, dg g, dg h] [45] = [[dg a, dg b, dg c, dg d], [dg e, dg f], [dg g, dg h]] := by
  simp [Lib.split, Lib.count, Lib.countFrom, Lib.splitK, Lib.index, List.isPrefixOf, dg_ne ha, dg_ne hb, dg_ne hc, dg_ne hd, dg_ne he, dg_ne hf, dg_ne hg, dg_ne hh]
theorem parse_step {acc x : Nat} (h : x < 10) (ha : acc ≤ 1000000) (r : List UInt8) : Lib.parseUint10 acc (dg x :: r) = Lib.parseUint10 (acc * 10 + x) r := by
  have e := dg_nat h
  conv => lhs; unfold Lib.parseUint10
  rw [e, if_pos (by omega), if_neg (by omega), if_neg (by omega), show 48 + x - 48 = x by omega]
theorem atoi_dg {a u : Nat} {r : List UInt8} (ha : a < 10) (hu : Lib.parseUint10 0 (dg a :: r) = .ok u) (hb : u ≤ 1000000) : Lib.atoiAll (dg a :: r) = .ok (u : Int) := by
  have e := dg_nat ha
  unfold Lib.atoiAll
  dsimp only
  rw [if_neg (by omega)]
  unfold Lib.parseMag
  rw [if_neg (by simp), hu]
  dsimp only
  rw [if_neg (by omega), if_neg (by omega), if_neg (by omega)]
theorem atoi2 {a b : Nat} (ha : a < 10) (hb : b < 10) : Lib.atoiAll [dg a, dg b] = .ok ((10 * a + b : Nat) : Int) := by
  refine atoi_dg ha ?_ (by omega)
  rw [parse_step ha (by omega), parse_step hb (by omega)]
  unfold Lib.parseUint10
  congr 1; omega
theorem atoi4 {a b c d : Nat} (ha : a < 10) (hb : b < 10) (hc : c < 10) (hd : d < 10) : Lib.atoiAll [dg a, dg b, dg c, dg d] = .ok ((1000 * a + 100 * b + 10 * c + d : Nat) : Int) := by
  refine atoi_dg ha ?_ (by omega)
  rw [parse_step ha (by omega), parse_step hb (by omega), parse_step hc (by omega), parse_step hd (by omega)]
  unfold Lib.parseUint10
  congr 1; omega
theorem dateP_of {y m d : Int} (hv : validB y m d = true) : dateP (dateL y m d) = some (y, m, d) := by
  obtain ⟨hy, hm, hd⟩ := valid_of hv
  have hdm := dim_bd y m
  obtain ⟨Y, rfl⟩ := Int.eq_ofNat_of_zero_le (show 0 ≤ y by omega)
  obtain ⟨M, rfl⟩ := Int.eq_ofNat_of_zero_le (show 0 ≤ m by omega)
  obtain ⟨D, rfl⟩ := Int.eq_ofNat_of_zero_le (show 0 ≤ d by omega)
  have hb := date_bytes (y := Y) (m := M) (d := D) (by omega) (by omega) (by omega)
  unfold dateP
  rw [hb, split_date (by omega) (by omega) (by omega) (by omega) (by omega) (by omega) (by omega) (by omega)]
  dsimp only
  rw [atoi4 (by omega) (by omega) (by omega) (by omega), atoi2 (by omega) (by omega), atoi2 (by omega) (by omega)]
  dsimp only
  rw [show 1000 * (Y / 1000) + 100 * (Y / 100 % 10) + 10 * (Y / 10 % 10) + Y % 10 = Y by omega, show 10 * (M / 10) + M % 10 = M by omega, show 10 * (D / 10) + D % 10 = D by omega, if_pos ⟨rfl, hv, hb⟩]
theorem dateP_iff {l : List UInt8} {y m d : Int} : dateP l = some (y, m, d) ↔ validB y m d = true ∧ dateL y m d = l := by
  constructor
  · intro h
    unfold dateP at h
    split at h
    · split at h
      · split at h
        next hc =>
          cases h
          exact hc.2
        · cases h
      · cases h
    · cases h
  · rintro ⟨hv, rfl⟩
    exact dateP_of hv
end Go.Proofs.YtpnfmbfehbnljaaGreatDoor
