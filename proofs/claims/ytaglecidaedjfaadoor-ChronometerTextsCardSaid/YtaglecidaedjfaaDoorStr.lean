/- Strings, as lists of bytes: the operations that read them. -/
import Derived.Test.YtaglecidaedjfaaDoorTys
import Derived.Laws.Strings
import Derived.Laws.Strings2
import Derived.Laws.Strings3
import Derived.Laws.Concat
set_option linter.unusedVariables false
set_option maxHeartbeats 4000000
namespace Go.Proofs.YtaglecidaedjfaaDoor
open Go.RowKit

abbrev strV (l : List UInt8) : Value := .string ⟨l.toArray⟩
theorem size_str (l : List UInt8) : (ByteArray.mk l.toArray).size = l.length := List.size_toArray
theorem beq_dec (a b : List UInt8) : (a == b) = decide (a = b) := by
  by_cases h : a = b
  · subst h; simp
  · rw [decide_eq_false h, beq_eq_false_iff_ne]; exact h
section
variable {P : Program} {n : Nat} {L : FL} {w0 : World} {H : List Hl} {d : Option Tmp} {ty : TypeId} {pos : String} {af : Array Edge} {g : Option (Nat × Bool)} {x y z : Operand} {t t' : TypeId} {k k' : IntKind} {m m' : Int} {l l' : List UInt8}
theorem y_lenS (hx : evO L x = some (strV l)) (ht : P.underlying t = some .string) : V P n L w0 H ⟨d, .call { callee := .builtin .len, args := #[x], argTypes := #[t] }, ty, pos, af, g⟩ (.int .i64 l.length) := by
  unfold V
  intro a w ha hw
  simp [execOp, resolve, invoke, builtin, ha.eval hx, run_len_string _ _ _ _ ht, goInt]
  rw [size_str]
theorem y_indexS (hx : evO L x = some (strV l)) (hy : evO L y = some (.int k m)) (ht : P.underlying t = some .string) (hm : 0 ≤ m ∧ m < l.length) : V P n L w0 H ⟨d, .index t x y, ty, pos, af, g⟩ (.int .u8 (nth l m).toNat) := by
  unfold V
  intro a w ha hw
  have h1 : 0 ≤ m ∧ m < ((ByteArray.mk l.toArray).size : Int) := by rw [size_str]; exact hm
  have h2 := run_index_string (P := P) w t ⟨l.toArray⟩ k m ht
  rw [dif_pos h1] at h2
  have h3 : (ByteArray.mk l.toArray)[m.toNat]'(by omega) = nth l m := by
    have e := nth_some hm.1 hm.2
    rw [List.getElem?_eq_getElem (by omega)] at e
    exact Option.some.inj e
  rw [h3] at h2
  simp [execOp, ha.eval hx, ha.eval hy, h2]
theorem y_sliceSLH (hx : evO L x = some (strV l)) (hy : evO L y = some (.int k m)) (hz : evO L z = some (.int k' m')) (ht : P.underlying t = some .string) (hm : 0 ≤ m ∧ m ≤ m' ∧ m' ≤ l.length) : V P n L w0 H ⟨d, .slice t x (some y) (some z) none, ty, pos, af, g⟩ (strV ((l.drop m.toNat).take (m'.toNat - m.toNat))) := by
  unfold V
  intro a w ha hw
  have h2 := run_slice_string (P := P) w t ⟨l.toArray⟩ k k' m m' ht hm.1 hm.2.1 (by rw [size_str]; exact hm.2.2)
  rw [ByteArray.extract_mk] at h2
  simp [execOp, ha.eval hx, ha.eval hy, ha.eval hz, Instr.sliceAt, run_underlying ht, h2]
theorem y_sliceSL (hx : evO L x = some (strV l)) (hy : evO L y = some (.int k m)) (ht : P.underlying t = some .string) (hm : 0 ≤ m ∧ m ≤ l.length) : V P n L w0 H ⟨d, .slice t x (some y) none none, ty, pos, af, g⟩ (strV (l.drop m.toNat)) := by
  unfold V
  intro a w ha hw
  have h2 := run_slice_string_from_if (P := P) w t ⟨l.toArray⟩ k m ht
  rw [if_pos (by rw [size_str]; exact hm), ByteArray.extract_mk, size_str, List.take_of_length_le (by simp)] at h2
  simp [execOp, ha.eval hx, ha.eval hy, Instr.sliceAt, run_underlying ht, h2]
theorem y_sliceSH (hx : evO L x = some (strV l)) (hy : evO L y = some (.int k m)) (ht : P.underlying t = some .string) (hm : 0 ≤ m ∧ m ≤ l.length) : V P n L w0 H ⟨d, .slice t x none (some y) none, ty, pos, af, g⟩ (strV (l.take m.toNat)) := by
  unfold V
  intro a w ha hw
  have h2 := run_slice_string_to_if (P := P) w t ⟨l.toArray⟩ k m ht
  rw [if_pos (by rw [size_str]; exact hm), ByteArray.extract_mk, List.drop_zero, Nat.sub_zero] at h2
  simp [execOp, ha.eval hx, ha.eval hy, Instr.sliceAt, run_underlying ht, h2]
theorem y_catS (hx : evO L x = some (strV l)) (hy : evO L y = some (strV l')) (hb : (l.length : Int) + l'.length ≤ 9223372036854775807) : V P n L w0 H ⟨d, .binOp .add t x y t', ty, pos, af, g⟩ (strV (l ++ l')) := by
  unfold V
  intro a w ha hw
  have h2 := run_string_add_sum (P := P) w ⟨l.toArray⟩ ⟨l'.toArray⟩ (by rw [size_str, size_str]; omega)
  rw [ByteArray.mk_append_mk] at h2
  simp [execOp, ha.eval hx, ha.eval hy, eqGuard, binOp_string_add, h2]
theorem y_eqS (hx : evO L x = some (strV l)) (hy : evO L y = some (strV l')) : V P n L w0 H ⟨d, .binOp .eql t x y t', ty, pos, af, g⟩ (.bool (decide (l = l'))) := by
  unfold V
  intro a w ha hw
  simp [execOp, ha.eval hx, ha.eval hy, eqGuard, binOp_string_eql, beq_dec]
theorem y_neS (hx : evO L x = some (strV l)) (hy : evO L y = some (strV l')) : V P n L w0 H ⟨d, .binOp .neq t x y t', ty, pos, af, g⟩ (.bool (!decide (l = l'))) := by
  unfold V
  intro a w ha hw
  simp [execOp, ha.eval hx, ha.eval hy, eqGuard, binOp_string_neq, beq_dec]
theorem vStr {o : Oper} {v : Value} (h : V P n L w0 H o v := by
  first
    | (apply y_lenS; rfl; exact StrTy.is; done)
    | (apply y_indexS; rfl; rfl; exact StrTy.is; exact omlA; done)
    | (apply y_sliceSLH; rfl; rfl; rfl; exact StrTy.is; exact omlA; done)
    | (apply y_sliceSL; rfl; rfl; exact StrTy.is; exact omlA; done)
    | (apply y_sliceSH; rfl; rfl; exact StrTy.is; exact omlA; done)
    | (apply y_catS; rfl; rfl; exact omlA; done)
    | (apply y_eqS; rfl; rfl; done)
    | (apply y_neS; rfl; rfl; done)) : V P n L w0 H o v := h
theorem nxVS {p q : Prop} (h : q) (s : q → p := by intro h; first | (show YK _ _ _ _ _ _ _; exact YK.ofV vStr h) | (show VK _ _ _ _ _ _ _; exact VK.mk vStr h)) : p := s h
theorem nxGS {p q : Prop} (h : q) (s : q → p := by intro h; first | (show YG _ _ _ _ _ _ _ _; exact YG.mk (fun hb => by (try (have hc := And.left hb; have hb := And.right hb; rw [hc])); (try rw [hb]); exact V.y vStr) h) | (show VG _ _ _ _ _ _ _ _; exact VG.mk (fun hb => by (try (have hc := And.left hb; have hb := And.right hb; rw [hc])); (try rw [hb]); exact vStr) h)) : p := s h
end
end Go.Proofs.YtaglecidaedjfaaDoor
