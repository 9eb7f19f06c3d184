/- The library's functions on strings and numerals: what the kit's contracts say, in this walk's words. -/
import Derived.Test.YtaglecidaedjfaaDoorLaid
import Derived.Test.YtaglecidaedjfaaDoorShelf
set_option linter.unusedVariables false
set_option maxHeartbeats 4000000
namespace Go.Proofs.YtaglecidaedjfaaDoor
open Go.RowKit

theorem below_grown (w : World) (k : Nat) (os : Array Obj) : Below w.heap.size w (Go.Sort.grow (w.drewN k) os) :=
  ⟨rfl, rfl, rfl, by simp [Go.Sort.grow, World.drewN], fun j hj => by simp [Go.Sort.grow, World.drewN, Array.getElem?_append, hj]⟩
theorem below_drawn (w : World) (k : Nat) : Below w.heap.size w (w.drewN k) := ⟨rfl, rfl, rfl, Nat.le_refl _, fun _ _ => rfl⟩
theorem dec_len : ∀ (k u : Nat), u < 10 ^ (k + 1) → (Lib.decDigits u).length ≤ k + 1
  | 0, u, h => by
    rw [Lib.decDigits, dif_pos (by simpa using h)]; simp
  | k + 1, u, h => by
    rw [Lib.decDigits]
    split
    · simp
    · have := dec_len k (u / 10) (by rw [Nat.pow_succ] at h; omega)
      simp; omega
theorem itoa_len {n : Int} (h : -9223372036854775808 ≤ n ∧ n ≤ 9223372036854775807) : (Lib.itoa n).length ≤ 20 := by
  unfold Lib.itoa
  split
  · have := dec_len 18 n.natAbs (by omega)
    simp; omega
  · have := dec_len 18 n.toNat (by omega)
    omega
theorem itoa_c {n : Int} (h : -9223372036854775808 ≤ n ∧ n ≤ 9223372036854775807) : ContIn Tryd.prog Laid 57 [.int .i64 n] (strV (Lib.itoa n)) := fun w hI =>
  (Tryd.strconv_Itoa n h.1 h.2 w hI.tab).mono fun e w' ⟨he, k, os, hw⟩ => ⟨he, by subst hw; exact below_grown w k os⟩
theorem repeat_c (l : List UInt8) {m : Int} (h : 0 ≤ m ∧ m ≤ 1000000) (hl : l.length ≤ 1000000) : Cont Tryd.prog 107 [strV l, .int .i64 m] (strV (Lib.repeatL l m.toNat)) := fun w => by
  obtain ⟨c, rfl⟩ := Int.eq_ofNat_of_zero_le h.1
  have hc : c ≤ 1000000 := by omega
  refine (Tryd.strings_Repeat ⟨l.toArray⟩ c w (by omega) (by rw [size_str]; exact Nat.le_trans (Nat.mul_le_mul hl hc) (by decide))).mono fun e w' ⟨he, hb⟩ => ⟨?_, hb⟩
  rw [he]
  simp
theorem cut_c (l sep : List UInt8) (hl : l.length < 4294967281) : ContIn Tryd.prog Laid 48 [strV l, strV sep] (.tuple [strV (Lib.cut l sep).1, strV (Lib.cut l sep).2.1, .bool (Lib.cut l sep).2.2].toArray) := fun w hI => by
  obtain ⟨m, hm⟩ := hI.max
  refine (Tryd.strings_Cut ⟨l.toArray⟩ ⟨sep.toArray⟩ m w (by rw [size_str]; exact hl) hm).mono fun e w' ⟨he, k, hw⟩ => ⟨?_, by subst hw; exact below_drawn w k⟩
  rw [he]
end Go.Proofs.YtaglecidaedjfaaDoor
