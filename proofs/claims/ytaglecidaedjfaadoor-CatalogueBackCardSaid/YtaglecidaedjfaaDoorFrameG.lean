/- A slice of structs of a string and three ints among a law's arguments. -/
import Derived.Test.YtaglecidaedjfaaDoorFrameI
import Derived.Test.YtaglecidaedjfaaDoorStar
set_option linter.unusedVariables false
namespace Go.Proofs.YtaglecidaedjfaaDoor
open Go.ChangeShapes Go.WideShapes Go.ChangeAt Go.RowKit Go.Deep Go.Joins
section
variable {H : Type} {enc : TypeId × Value → H} {P : Program}
theorem arg_sliceS {t e : TypeId} {f0 f1 f2 f3 : Field} {w : World} {base : Nat} {v : Value} {d : DataW H} {p : List MemPlace} (ht : P.underlying t = some (.slice e)) (he : P.underlying e = some (.struct #[f0, f1, f2, f3])) (ce : P.cellsOf e = 4)
    (ho : (f0.offset, f1.offset, f2.offset, f3.offset) = (0, 1, 2, 3)) (hc : (P.cellsOf f0.type, P.cellsOf f1.type, P.cellsOf f2.type, P.cellsOf f3.type) = (1, 1, 1, 1)) (h0 : P.underlying f0.type = some .string) (h1 : P.underlying f1.type = some (.int .i64)) (h2 : P.underlying f2.type = some (.int .i64)) (h3 : P.underlying f3.type = some (.int .i64))
    (hv : Value.okWide P w .any base t v) (h : DataW.Trod enc P w 0 (fun _ => true) true t v d p) :
    ∃ l : List StarT, RO w v 4 l.length (l.flatMap cSt) ∧ l.length ≤ maxLen ∧ ∀ c ∈ l, (-9223372036854775808 ≤ c.2.1 ∧ c.2.1 ≤ 9223372036854775807) ∧ (-9223372036854775808 ≤ c.2.2.1 ∧ c.2.2.1 ≤ 9223372036854775807) ∧ -9223372036854775808 ≤ c.2.2.2 ∧ c.2.2.2 ≤ 9223372036854775807 := by
  obtain ⟨A, len, cap, rfl⟩ := WideShapes.okWide_slice ht hv
  obtain ⟨fuel, hf⟩ := h
  simp only [Prod.mk.injEq] at ho hc
  rcases open_slice ht hf with ⟨hcs, _⟩ | ⟨a, len', cap', m, n, V, Pl, hcs, hb, hl, hm, hmm, hx, hel⟩
  · have : Value.slice A len cap = .slice none 0 0 := by simpa [Value.cells] using hcs
    rw [this]
    exact ⟨[], RO.nil _ _, Nat.zero_le _, fun c hc => by cases hc⟩
  · have e1 : Value.slice A len cap = .slice (some a) len' cap' := by simpa [Value.cells] using hcs
    rw [e1]
    have hlm : len' ≤ m := by rw [hmm]; split <;> omega
    have each : ∀ i, i < len' → ∃ c : StarT, (∀ j u, (cSt c)[j]? = some u → w.cell? (a.add (i * 4 + j)) = some u) ∧ (-9223372036854775808 ≤ c.2.1 ∧ c.2.1 ≤ 9223372036854775807) ∧ (-9223372036854775808 ≤ c.2.2.1 ∧ c.2.2.1 ≤ 9223372036854775807) ∧ -9223372036854775808 ≤ c.2.2.2 ∧ c.2.2.2 ≤ 9223372036854775807 := by
      intro i hi
      obtain ⟨cs', g1, g2⟩ := hel i (by omega)
      rw [ce] at g1
      obtain ⟨_, hlen, hcell⟩ := World.cells?_some g1
      obtain ⟨xs, k, hk, hxy, _, hxl, hff⟩ := DataW.trod_struct he g2
      match xs, hxl, cs', hlen with
      | [y0, y1, y2, y3], _, [v0, v1, v2, v3], _ =>
        have q0 := hff 0 f0 rfl
        have q1 := hff 1 f1 rfl
        have q2 := hff 2 f2 rfl
        have q3 := hff 3 f3 rfl
        simp [ho.1, ho.2.1, ho.2.2.1, ho.2.2.2, hc.1, hc.2.1, hc.2.2.1, hc.2.2.2] at q0 q1 q2 q3
        obtain ⟨s, r0, _, _⟩ := DataW.trod_string h0 q0
        obtain ⟨x1, r1, _, w1⟩ := DataW.trod_int h1 q1
        obtain ⟨x2, r2, _, w2⟩ := DataW.trod_int h2 q2
        obtain ⟨x3, r3, _, w3⟩ := DataW.trod_int h3 q3
        simp at r0 r1 r2 r3
        subst r0 r1 r2 r3
        obtain ⟨nm, rfl⟩ : ∃ nm : List UInt8, s = ⟨nm.toArray⟩ := ⟨s.data.toList, by cases s; rfl⟩
        refine ⟨(nm, x1, x2, x3), fun j u hj => ?_, i64_of w1, i64_of w2, i64_of w3⟩
        have c0 := hcell 0 (by omega)
        have c1 := hcell 1 (by omega)
        have c2 := hcell 2 (by omega)
        have c3 := hcell 3 (by omega)
        rw [Go.Deep.add_add] at c0 c1 c2 c3
        match j, hj with
        | 0, hj => simp at hj; subst hj; simpa using c0
        | 1, hj => simp at hj; subst hj; simpa using c1
        | 2, hj => simp at hj; subst hj; simpa using c2
        | 3, hj => simp at hj; subst hj; simpa using c3
        | j + 4, hj => simp at hj
    obtain ⟨q, hq⟩ := choose_lt each
    refine ⟨(List.range len').map q, ?_, by simp; omega, fun c hc => ?_⟩
    · have hfl : ∀ c : StarT, (cSt c).length = 4 := fun _ => rfl
      have hlr : ((List.range len').map q).length = len' := by simp
      rw [hlr]
      refine ⟨by rw [flat_len hfl, hlr], some a, cap', rfl, hl, fun _ => ⟨a, rfl, fun j u hu => ?_⟩, fun h => by cases h⟩
      have hj : j < len' * 4 := by
        have := (List.getElem?_eq_some_iff.1 hu).1
        rwa [flat_len hfl, hlr] at this
      have h3 : j / 4 < len' := by omega
      have h4 := flat_get hfl ((List.range len').map q) (j / 4) (j % 4) (q (j / 4)) (by simp [h3]) (by omega)
      rw [show j / 4 * 4 + j % 4 = j by omega, hu] at h4
      have h5 := (hq (j / 4) h3).1 (j % 4) u h4.symm
      rwa [show j / 4 * 4 + j % 4 = j by omega] at h5
    · obtain ⟨i, hi, rfl⟩ := List.mem_map.1 hc
      exact (hq i (List.mem_range.1 hi)).2
end
end Go.Proofs.YtaglecidaedjfaaDoor
