/- The reference's numbers: digits without zeros, compared, added, subtracted. -/
import Derived.Test.YtaglecidaedjfaaDoorDigits
import Derived.Test.YtaglecidaedjfaaDoorTys
set_option linter.unusedVariables false
set_option maxHeartbeats 4000000
namespace Go.Proofs.YtaglecidaedjfaaDoor
open Go.RowKit

theorem take_nth {l : List Int} {m : Int} (h0 : 0 < m) (h1 : m ≤ l.length) : l.take m.toNat = l.take (m - 1).toNat ++ [nth l (m - 1)] := by
  have e : m.toNat = (m - 1).toNat + 1 := by omega
  rw [e, List.take_add_one, nth_some (l := l) (m := m - 1) (by omega) (by omega)]
  rfl
theorem Dig.nth {l : List Int} (h : Dig l) (m : Int) : 0 ≤ nth l m ∧ nth l m < 268435456 := by
  unfold Go.Proofs.YtaglecidaedjfaaDoor.nth
  rcases Nat.lt_or_ge m.toNat l.length with h1 | h1
  · rw [List.getD_eq_getElem?_getD, List.getElem?_eq_getElem h1]
    exact h _ (List.getElem_mem h1)
  · rw [List.getD_eq_getElem?_getD, List.getElem?_eq_none h1]
    exact ⟨Int.le_refl _, by decide⟩
theorem drop_nth {l : List Int} {m : Int} (h0 : 0 ≤ m) (h1 : m < l.length) : l.drop m.toNat = nth l m :: l.drop (m + 1).toNat := by
  have hlt : m.toNat < l.length := by omega
  have e : (m + 1).toNat = m.toNat + 1 := by omega
  rw [e, List.drop_eq_getElem_cons hlt]
  congr 1
  have := nth_some (l := l) h0 h1
  rw [List.getElem?_eq_getElem hlt] at this
  exact Option.some.inj this
theorem drop_end {l : List Int} {m : Int} (h1 : l.length ≤ m) : l.drop m.toNat = [] := List.drop_eq_nil_of_le (by omega)

def ordI (a b : Nat) : Int := if a < b then -1 else if b < a then 1 else 0
theorem addL_step1 {la lb : List Int} {i c : Int} (h0 : 0 ≤ i) (h1 : i < la.length) (h2 : i < lb.length) : addL (la.drop i.toNat) (lb.drop i.toNat) c = (c + nth la i + nth lb i) % 268435456 :: addL (la.drop (i + 1).toNat) (lb.drop (i + 1).toNat) ((c + nth la i + nth lb i) / 268435456) := by
  rw [drop_nth h0 h1, drop_nth h0 h2, addL]
theorem addL_step2 {la lb : List Int} {i c : Int} (h0 : 0 ≤ i) (h1 : i < la.length) (h2 : lb.length ≤ i) : addL (la.drop i.toNat) (lb.drop i.toNat) c = (c + nth la i) % 268435456 :: addL (la.drop (i + 1).toNat) (lb.drop (i + 1).toNat) ((c + nth la i) / 268435456) := by
  rw [drop_nth h0 h1, drop_end h2, drop_end (l := lb) (m := i + 1) (by omega), addL]
theorem addL_step3 {la lb : List Int} {i c : Int} (h0 : 0 ≤ i) (h1 : la.length ≤ i) (h2 : i < lb.length) : addL (la.drop i.toNat) (lb.drop i.toNat) c = (c + nth lb i) % 268435456 :: addL (la.drop (i + 1).toNat) (lb.drop (i + 1).toNat) ((c + nth lb i) / 268435456) := by
  rw [drop_nth h0 h2, drop_end h1, drop_end (l := la) (m := i + 1) (by omega), addL]
theorem addL_step4 {la lb : List Int} {i c : Int} (h1 : la.length ≤ i) (h2 : lb.length ≤ i) (h3 : 0 < c) (h4 : c ≤ 1) : addL (la.drop i.toNat) (lb.drop i.toNat) c = c % 268435456 :: addL (la.drop (i + 1).toNat) (lb.drop (i + 1).toNat) (c / 268435456) := by
  rw [drop_end h1, drop_end h2, drop_end (l := la) (m := i + 1) (by omega), drop_end (l := lb) (m := i + 1) (by omega), addL, if_pos h3, addL, if_neg (by omega), show c = 1 by omega]; rfl
theorem subL_step {la lb : List Int} {i c : Int} (h0 : 0 ≤ i) (h1 : i < la.length) (h2 : i < lb.length) : subL (la.drop i.toNat) (lb.drop i.toNat) c = (if nth la i - c - nth lb i < 0 then nth la i - c - nth lb i + 268435456 else nth la i - c - nth lb i) :: subL (la.drop (i + 1).toNat) (lb.drop (i + 1).toNat) (if nth la i - c - nth lb i < 0 then 1 else 0) := by
  rw [drop_nth h0 h1, drop_nth h0 h2, subL]
theorem subL_step2 {la lb : List Int} {i c : Int} (h0 : 0 ≤ i) (h1 : i < la.length) (h2 : lb.length ≤ i) : subL (la.drop i.toNat) (lb.drop i.toNat) c = (if nth la i - c < 0 then nth la i - c + 268435456 else nth la i - c) :: subL (la.drop (i + 1).toNat) (lb.drop (i + 1).toNat) (if nth la i - c < 0 then 1 else 0) := by
  rw [drop_nth h0 h1, drop_end h2, drop_end (l := lb) (m := i + 1) (by omega), subL]
end Go.Proofs.YtaglecidaedjfaaDoor
