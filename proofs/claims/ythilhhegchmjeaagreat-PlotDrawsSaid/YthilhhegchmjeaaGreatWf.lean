/- Joined texts: FrameW. -/
import Derived.Test.YthilhhegchmjeaaGreatWa
import Derived.Test.YthilhhegchmjeaaGreatWv
/- A slice of draws (a kind, a line, a slice of cells, a point, a mark) among a law's arguments. -/
set_option linter.unusedVariables false
namespace Go.Proofs.YthilhhegchmjeaaGreat
open Go.ChangeShapes Go.WideShapes Go.ChangeAt Go.RowKit Go.Deep Go.Joins
section
variable {H : Type} {enc : TypeId × Value → H} {P : Program}
theorem trod_cells {t e : TypeId} {f0 f1 f2 : Field} {w : World} {u : Value} {fuel : Nat} {y : DataW H × List MemPlace} (ht : P.underlying t = some (.slice e)) (he : P.underlying e = some (.struct #[f0, f1, f2])) (ce : P.cellsOf e = 3)
    (ho : (f0.offset, f1.offset, f2.offset) = (0, 1, 2)) (hc : (P.cellsOf f0.type, P.cellsOf f1.type, P.cellsOf f2.type) = (1, 1, 1)) (h0 : P.underlying f0.type = some (.int .i64)) (h1 : P.underlying f1.type = some (.int .i64)) (h2 : P.underlying f2.type = some (.int .i64))
    (hf : DataW.trod enc P w 0 (fun _ => true) true fuel t [u] = some y) : ∃ (g : Sl) (l : List Cel), u = g.v ∧ RO w u 3 l.length (l.flatMap cK) ∧ l.length ≤ maxLen ∧ g.n = l.length := by
  simp only [Prod.mk.injEq] at ho hc
  rcases open_slice ht hf with ⟨hcs, _⟩ | ⟨a, len', cap', m, n, V, Pl, hcs, hb, hl, hm, hmm, hx, hel⟩
  · have : u = .slice none 0 0 := by simpa using hcs
    rw [this]
    exact ⟨⟨none, 0, 0⟩, [], rfl, RO.nil _ _, Nat.zero_le _, rfl⟩
  · have e1 : u = .slice (some a) len' cap' := by simpa using hcs
    rw [e1]
    have hlm : len' ≤ m := by rw [hmm]; split <;> omega
    have each : ∀ i, i < len' → ∃ c : Cel, ∀ j u, (cK c)[j]? = some u → w.cell? (a.add (i * 3 + j)) = some u := by
      intro i hi
      obtain ⟨cs', g1, g2⟩ := hel i (by omega)
      rw [ce] at g1
      obtain ⟨_, hlen, hcell⟩ := World.cells?_some g1
      obtain ⟨xs, k, hk, hxy, _, hxl, hff⟩ := DataW.trod_struct he g2
      match xs, hxl, cs', hlen with
      | [y0, y1, y2], _, [v0, v1, v2], _ =>
        have q0 := hff 0 f0 rfl
        have q1 := hff 1 f1 rfl
        have q2 := hff 2 f2 rfl
        simp [ho.1, ho.2.1, ho.2.2, hc.1, hc.2.1, hc.2.2] at q0 q1 q2
        obtain ⟨x0, r0, _, w0⟩ := DataW.trod_int h0 q0
        obtain ⟨x1, r1, _, w1⟩ := DataW.trod_int h1 q1
        obtain ⟨x2, r2, _, w2⟩ := DataW.trod_int h2 q2
        simp at r0 r1 r2
        subst r0 r1 r2
        refine ⟨⟨x0, x1, x2⟩, fun j u hj => ?_⟩
        have c0 := hcell 0 (by omega)
        have c1 := hcell 1 (by omega)
        have c2 := hcell 2 (by omega)
        rw [Go.Deep.add_add] at c0 c1 c2
        match j, hj with
        | 0, hj => simp at hj; subst hj; simpa using c0
        | 1, hj => simp at hj; subst hj; simpa using c1
        | 2, hj => simp at hj; subst hj; simpa using c2
        | j + 3, hj => simp at hj
    obtain ⟨q, hq⟩ := choose_lt each
    refine ⟨⟨some a, len', cap'⟩, (List.range len').map q, rfl, ?_, by simp; omega, by simp⟩
    have hfl : ∀ c : Cel, (cK c).length = 3 := fun _ => rfl
    have hlr : ((List.range len').map q).length = len' := by simp
    rw [hlr]
    refine ⟨by rw [flat_len hfl, hlr], some a, cap', rfl, hl, fun _ => ⟨a, rfl, fun j u hu => ?_⟩, fun h => by cases h⟩
    have hj : j < len' * 3 := by
      have := (List.getElem?_eq_some_iff.1 hu).1
      rwa [flat_len hfl, hlr] at this
    have h3 : j / 3 < len' := by omega
    have h4 := flat_get hfl ((List.range len').map q) (j / 3) (j % 3) (q (j / 3)) (by simp [h3]) (by omega)
    rw [show j / 3 * 3 + j % 3 = j by omega, hu] at h4
    have h5 := hq (j / 3) h3 (j % 3) u h4.symm
    rwa [show j / 3 * 3 + j % 3 = j by omega] at h5
/-- A struct of two integers. -/
theorem trod_two {t : TypeId} {f0 f1 : Field} {w : World} {v0 v1 : Value} {fuel : Nat} {y : DataW H × List MemPlace} (ht : P.underlying t = some (.struct #[f0, f1])) (ho : (f0.offset, f1.offset) = (0, 1)) (hc : (P.cellsOf f0.type, P.cellsOf f1.type) = (1, 1))
    (h0 : P.underlying f0.type = some (.int .i64)) (h1 : P.underlying f1.type = some (.int .i64)) (hf : DataW.trod enc P w 0 (fun _ => true) true fuel t [v0, v1] = some y) : ∃ a b : Int, v0 = .int .i64 a ∧ v1 = .int .i64 b ∧ J64 a ∧ J64 b := by
  simp only [Prod.mk.injEq] at ho hc
  obtain ⟨xs, k, hk, hxy, _, hxl, hff⟩ := DataW.trod_struct ht hf
  match xs, hxl with
  | [y0, y1], _ =>
    have q0 := hff 0 f0 rfl
    have q1 := hff 1 f1 rfl
    simp [ho.1, ho.2, hc.1, hc.2] at q0 q1
    obtain ⟨x0, r0, _, w0⟩ := DataW.trod_int h0 q0
    obtain ⟨x1, r1, _, w1⟩ := DataW.trod_int h1 q1
    simp at r0 r1
    subst r0 r1
    exact ⟨x0, x1, rfl, rfl, i64_of w0, i64_of w1⟩
/-- A slice of draws among the arguments. -/
theorem arg_draws {t e : TypeId} {f0 f1 f2 f3 f4 l0 l1 l2 a0 a1 b0 b1 c0 c1 p0 p1 k0 k1 k2 : Field} {rc : TypeId} {w : World} {base : Nat} {v : Value} {d : DataW H} {p : List MemPlace} (ht : P.underlying t = some (.slice e)) (he : P.underlying e = some (.struct #[f0, f1, f2, f3, f4])) (ce : P.cellsOf e = 11)
    (ho : (f0.offset, f1.offset, f2.offset, f3.offset, f4.offset) = (0, 1, 7, 8, 10)) (hc : (P.cellsOf f0.type, P.cellsOf f1.type, P.cellsOf f2.type, P.cellsOf f3.type, P.cellsOf f4.type) = (1, 6, 1, 2, 1))
    (h0 : P.underlying f0.type = some (.int .i64)) (h1 : P.underlying f1.type = some (.struct #[l0, l1, l2])) (h2 : P.underlying f2.type = some (.slice rc)) (h3 : P.underlying f3.type = some (.struct #[p0, p1])) (h4 : P.underlying f4.type = some (.int .u8))
    (lo_ : (l0.offset, l1.offset, l2.offset) = (0, 2, 4)) (lc : (P.cellsOf l0.type, P.cellsOf l1.type, P.cellsOf l2.type) = (2, 2, 2))
    (u0 : P.underlying l0.type = some (.struct #[a0, a1])) (u1 : P.underlying l1.type = some (.struct #[b0, b1])) (u2 : P.underlying l2.type = some (.struct #[c0, c1]))
    (oa : (a0.offset, a1.offset) = (0, 1)) (ca : (P.cellsOf a0.type, P.cellsOf a1.type) = (1, 1)) (ia0 : P.underlying a0.type = some (.int .i64)) (ia1 : P.underlying a1.type = some (.int .i64))
    (ob : (b0.offset, b1.offset) = (0, 1)) (cb : (P.cellsOf b0.type, P.cellsOf b1.type) = (1, 1)) (ib0 : P.underlying b0.type = some (.int .i64)) (ib1 : P.underlying b1.type = some (.int .i64))
    (oc : (c0.offset, c1.offset) = (0, 1)) (cc : (P.cellsOf c0.type, P.cellsOf c1.type) = (1, 1)) (ic0 : P.underlying c0.type = some (.int .i64)) (ic1 : P.underlying c1.type = some (.int .i64))
    (op : (p0.offset, p1.offset) = (0, 1)) (cp : (P.cellsOf p0.type, P.cellsOf p1.type) = (1, 1)) (ip0 : P.underlying p0.type = some (.int .i64)) (ip1 : P.underlying p1.type = some (.int .i64))
    (rs : P.underlying rc = some (.struct #[k0, k1, k2])) (rn : P.cellsOf rc = 3) (ro : (k0.offset, k1.offset, k2.offset) = (0, 1, 2)) (rk : (P.cellsOf k0.type, P.cellsOf k1.type, P.cellsOf k2.type) = (1, 1, 1)) (i0 : P.underlying k0.type = some (.int .i64)) (i1 : P.underlying k1.type = some (.int .i64)) (i2 : P.underlying k2.type = some (.int .i64))
    (hv : Value.okWide P w .any base t v) (h : DataW.Trod enc P w 0 (fun _ => true) true t v d p) :
    ∃ (g : Sl) (l : List DrwT), v = g.v ∧ RO w v 11 l.length (l.flatMap cDr) ∧ l.length ≤ maxLen ∧ ∀ d ∈ l, DrwB w d := by
  obtain ⟨fuel, hf⟩ := h
  obtain ⟨A, nA, cA, rfl⟩ := okWide_slice ht hv
  simp only [Prod.mk.injEq] at ho hc lo_ lc
  rcases open_slice ht hf with ⟨hcs, _⟩ | ⟨a, len', cap', m, n, V, Pl, hcs, hb, hl, hm, hmm, hx, hel⟩
  · have : Value.slice A nA cA = .slice none 0 0 := by simpa [Value.cells] using hcs
    rw [this]
    exact ⟨⟨none, 0, 0⟩, [], rfl, RO.nil _ _, Nat.zero_le _, fun c hc => by cases hc⟩
  · have e1 : Value.slice A nA cA = .slice (some a) len' cap' := by simpa [Value.cells] using hcs
    rw [e1]
    have hlm : len' ≤ m := by rw [hmm]; split <;> omega
    have each : ∀ i, i < len' → ∃ c : DrwT, (∀ j u, (cDr c)[j]? = some u → w.cell? (a.add (i * 11 + j)) = some u) ∧ DrwB w c := by
      intro i hi
      obtain ⟨cs', g1, g2⟩ := hel i (by omega)
      rw [ce] at g1
      obtain ⟨_, hlen, hcell⟩ := World.cells?_some g1
      obtain ⟨xs, k, hk, hxy, _, hxl, hff⟩ := DataW.trod_struct he g2
      match xs, hxl, cs', hlen with
      | [y0, y1, y2, y3, y4], _, [v0, v1, v2, v3, v4, v5, v6, v7, v8, v9, v10], _ =>
        have q0 := hff 0 f0 rfl
        have q1 := hff 1 f1 rfl
        have q2 := hff 2 f2 rfl
        have q3 := hff 3 f3 rfl
        have q4 := hff 4 f4 rfl
        simp [ho.1, ho.2.1, ho.2.2.1, ho.2.2.2.1, ho.2.2.2.2, hc.1, hc.2.1, hc.2.2.1, hc.2.2.2.1, hc.2.2.2.2] at q0 q1 q2 q3 q4
        obtain ⟨x0, r0, _, w0⟩ := DataW.trod_int h0 q0
        obtain ⟨zs, k', hk', hzy, _, hzl, hzf⟩ := DataW.trod_struct h1 q1
        match zs, hzl with
        | [z0, z1, z2], _ =>
          have s0 := hzf 0 l0 rfl
          have s1 := hzf 1 l1 rfl
          have s2 := hzf 2 l2 rfl
          simp [lo_.1, lo_.2.1, lo_.2.2, lc.1, lc.2.1, lc.2.2] at s0 s1 s2
          obtain ⟨na, nb, rfl, rfl, n1, n2⟩ := trod_two u0 oa ca ia0 ia1 s0
          obtain ⟨za, zb, rfl, rfl, n3, n4⟩ := trod_two u1 ob cb ib0 ib1 s1
          obtain ⟨ia, ib, rfl, rfl, n5, n6⟩ := trod_two u2 oc cc ic0 ic1 s2
          obtain ⟨g, l, rfl, m1, m2, m3⟩ := trod_cells h2 rs rn ro rk i0 i1 i2 q2
          obtain ⟨pa, pb, rfl, rfl, n7, n8⟩ := trod_two h3 op cp ip0 ip1 q3
          obtain ⟨x4, r4, _, w4⟩ := DataW.trod_int h4 q4
          simp at r0 r4
          subst r0 r4
          refine ⟨⟨x0, na, nb, za, zb, ia, ib, g, l, pa, pb, x4⟩, fun j u hj => ?_, ⟨i64_of w0, ⟨n1, n2⟩, ⟨n3, n4⟩, ⟨n5, n6⟩, ⟨n7, n8⟩, u8_of w4, m1, m2, m3⟩⟩
          have hjl : j < 11 := (List.getElem?_eq_some_iff.1 hj).1
          have c := hcell j (by simpa using hjl)
          rw [Go.Deep.add_add] at c
          rw [c]
          match j, hj with
          | 0, hj => simpa using hj
          | 1, hj => simpa using hj
          | 2, hj => simpa using hj
          | 3, hj => simpa using hj
          | 4, hj => simpa using hj
          | 5, hj => simpa using hj
          | 6, hj => simpa using hj
          | 7, hj => simpa using hj
          | 8, hj => simpa using hj
          | 9, hj => simpa using hj
          | 10, hj => simpa using hj
          | j + 11, hj => simp at hj
    obtain ⟨q, hq⟩ := choose_lt each
    refine ⟨⟨some a, len', cap'⟩, (List.range len').map q, rfl, ?_, by simp; omega, fun c hc => ?_⟩
    · have hfl : ∀ c : DrwT, (cDr c).length = 11 := fun _ => rfl
      have hlr : ((List.range len').map q).length = len' := by simp
      rw [hlr]
      refine ⟨by rw [flat_len hfl, hlr], some a, cap', rfl, hl, fun _ => ⟨a, rfl, fun j u hu => ?_⟩, fun h => by cases h⟩
      have hj : j < len' * 11 := by
        have := (List.getElem?_eq_some_iff.1 hu).1
        rwa [flat_len hfl, hlr] at this
      have h3 : j / 11 < len' := by omega
      have h4 := flat_get hfl ((List.range len').map q) (j / 11) (j % 11) (q (j / 11)) (by simp [h3]) (by omega)
      rw [show j / 11 * 11 + j % 11 = j by omega, hu] at h4
      have h5 := (hq (j / 11) h3).1 (j % 11) u h4.symm
      rwa [show j / 11 * 11 + j % 11 = j by omega] at h5
    · obtain ⟨i, hi, rfl⟩ := List.mem_map.1 hc
      exact (hq i (List.mem_range.1 hi)).2
end
end Go.Proofs.YthilhhegchmjeaaGreat
