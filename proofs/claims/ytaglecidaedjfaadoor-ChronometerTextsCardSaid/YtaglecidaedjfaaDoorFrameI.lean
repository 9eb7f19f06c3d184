/- Arguments that are slices of machine integers, and the bounds of machine integers. -/
import Derived.Test.YtaglecidaedjfaaDoorFrameS
set_option linter.unusedVariables false
namespace Go.Proofs.YtaglecidaedjfaaDoor
open Go.ChangeShapes Go.WideShapes Go.ChangeAt Go.RowKit Go.Deep Go.Joins

section
variable {H : Type} {enc : TypeId × Value → H} {P : Program}
theorem i32_of {x : Int} (h : (Lit.int .i32 x).wf = true) : -2147483648 ≤ x ∧ x ≤ 2147483647 := by
  simpa [Lit.wf, IntKind.min, IntKind.max, IntKind.signed, IntKind.bits] using h
theorem i16_of {x : Int} (h : (Lit.int .i16 x).wf = true) : -32768 ≤ x ∧ x ≤ 32767 := by
  simpa [Lit.wf, IntKind.min, IntKind.max, IntKind.signed, IntKind.bits] using h
theorem i8_of {x : Int} (h : (Lit.int .i8 x).wf = true) : -128 ≤ x ∧ x ≤ 127 := by
  simpa [Lit.wf, IntKind.min, IntKind.max, IntKind.signed, IntKind.bits] using h
theorem u8_of {x : Int} (h : (Lit.int .u8 x).wf = true) : 0 ≤ x ∧ x ≤ 255 := by
  simpa [Lit.wf, IntKind.min, IntKind.max, IntKind.signed, IntKind.bits] using h
theorem u32_of {x : Int} (h : (Lit.int .u32 x).wf = true) : 0 ≤ x ∧ x ≤ 4294967295 := by
  simpa [Lit.wf, IntKind.min, IntKind.max, IntKind.signed, IntKind.bits] using h
/-- A slice of machine integers, as it lies in memory. -/
theorem arg_slice1 {t e : TypeId} {k : IntKind} {w : World} {base : Nat} {v : Value} {d : DataW H} {p : List MemPlace} (ht : P.underlying t = some (.slice e)) (he : P.underlying e = some (.int k)) (ce : P.cellsOf e = 1)
    (hv : Value.okWide P w .any base t v) (h : DataW.Trod enc P w 0 (fun _ => true) true t v d p) :
    ∃ l : List Int, RO w v 1 l.length (l.flatMap fun c => [.int k c]) ∧ l.length ≤ maxLen ∧ ∀ c ∈ l, (Lit.int k c).wf = true := by
  obtain ⟨A, len, cap, rfl⟩ := WideShapes.okWide_slice ht hv
  obtain ⟨fuel, hf⟩ := h
  rcases open_slice ht hf with ⟨hcs, _⟩ | ⟨a, len', cap', m, n, V, Pl, hcs, hb, hl, hm, hmm, hx, hel⟩
  · have : Value.slice A len cap = .slice none 0 0 := by simpa [Value.cells] using hcs
    rw [this]
    exact ⟨[], RO.nil _ _, Nat.zero_le _, fun c hc => by cases hc⟩
  · have e1 : Value.slice A len cap = .slice (some a) len' cap' := by simpa [Value.cells] using hcs
    rw [e1]
    have hlm : len' ≤ m := by rw [hmm]; split <;> omega
    have each : ∀ i, i < len' → ∃ c : Int, w.cell? (a.add i) = some (.int k c) ∧ (Lit.int k c).wf = true := by
      intro i hi
      obtain ⟨cs', g1, g2⟩ := hel i (by omega)
      rw [ce] at g1
      obtain ⟨_, hlen, hcell⟩ := World.cells?_some g1
      match cs', hlen with
      | [v0], _ =>
        obtain ⟨x, r0, _, w0⟩ := DataW.trod_int he g2
        simp at r0
        subst r0
        have c0 := hcell 0 (by omega)
        rw [Go.Deep.add_add] at c0
        exact ⟨x, by simpa using c0, w0⟩
    obtain ⟨q, hq⟩ := choose_lt each
    refine ⟨(List.range len').map q, ?_, by simp; omega, fun c hc => ?_⟩
    · have hfl : ∀ c : Int, ((fun c : Int => [Value.int k c]) c).length = 1 := fun _ => rfl
      have hlr : ((List.range len').map q).length = len' := by simp
      rw [hlr]
      refine ⟨by rw [flat_len hfl, hlr], some a, cap', rfl, hl, fun _ => ⟨a, rfl, fun j u hu => ?_⟩, fun h => by cases h⟩
      have hj : j < len' * 1 := by
        have := (List.getElem?_eq_some_iff.1 hu).1
        rwa [flat_len hfl, hlr] at this
      have h3 : j < len' := by omega
      have h4 := flat_get hfl ((List.range len').map q) j 0 (q j) (by simp [h3]) (by omega)
      rw [show j * 1 + 0 = j by omega, hu] at h4
      simp at h4
      subst h4
      exact (hq j h3).1
    · obtain ⟨i, hi, rfl⟩ := List.mem_map.1 hc
      exact (hq i (List.mem_range.1 hi)).2
end
end Go.Proofs.YtaglecidaedjfaaDoor
