/- From a contract 'the law returns true and nothing that was there has turned' to the given statement. -/
import Derived.Test.YtaglecidaedjfaaDoorGround
import Derived.Deep.Slices
import Derived.Test.YtaglecidaedjfaaDoorRows
import Derived.ProofKit
import Derived.OpenShut
import Derived.Lib.SmallJoins
set_option linter.unusedVariables false
namespace Go.Proofs.YtaglecidaedjfaaDoor
open Go.ChangeShapes Go.WideShapes Go.ChangeAt Go.RowKit Go.Deep Go.Joins

theorem own : ownKnob Tryd.prog.godebug = none := by kernel_rfl
theorem laidOut : laidOutB Tryd.prog = true := by kernel_rfl

section
variable {H : Type} {enc : TypeId × Value → H} {P : Program}
/-- What the arguments read as, they read as behind the call. -/
theorem trodAll_stays (hl : laidOutB P = true) {W W' : World} {sp : Nat → Bool} (hb : Below W.heap.size W W') : ∀ {ts : List TypeId} {vs : List Value} {ds : List (DataW H)} {ps : List MemPlace},
    (ts.all fun t => P.readableRec t && decide (t < P.types.size)) = true → DataW.TrodAll enc P W 0 (fun _ => true) true ts vs ds ps → (∀ x ∈ ps, x.block < W.heap.size) → (∀ x ∈ ps, sp x.block = true) →
    DataW.TrodAll enc P W' 0 sp true ts vs ds ps
  | [], vs, ds, ps, _, h, _, _ => by
    obtain ⟨rfl, rfl, rfl⟩ := trodAll_nil h
    exact trodAll_mk0
  | t :: ts, vs, ds, ps, hr, h, hlt, hs => by
    obtain ⟨v, vs', d, ds', p, q, rfl, rfl, rfl, h1, h2⟩ := trodAll_cons h
    simp only [List.all_cons, Bool.and_eq_true, decide_eq_true_eq] at hr
    refine trodAll_cons_mk (WideElems.Trod_stays hl hr.1.1 hr.1.2 h1 (fun x hx => hb.same (hlt x (List.mem_append_left _ hx))) fun x hx => hs x (List.mem_append_left _ hx)) ?_
    exact trodAll_stays hl hb (by simpa using hr.2) h2 (fun x hx => hlt x (List.mem_append_right _ hx)) fun x hx => hs x (List.mem_append_right _ hx)

theorem post_of_law {f : Func} {s : ChangeSpec} {apart fresh handsOn again : Bool} {W W' : World} {args : Array Value} {v : Value} {ds : List (DataW H)} {before : List MemPlace}
    (hl : laidOutB P = true) (hr : (f.params.toList.all fun t => P.readableRec t && decide (t < P.types.size)) = true)
    (hW : DataW.Whole enc P f.params.toList s.vars apart W args.toList ds [] before) (hv : s.vars = []) (hspec : (s.fn H (ds ++ [])).args = ds) (hsv : (s.fn H (ds ++ [])).vars = [])
    (hres : ∀ (b : Nat) (sp : Nat → Bool) (hd : Bool), DataW.TrodAll enc P W' b sp hd f.resultTypes.toList (v.resultList f.resultTypes.size) (s.fn H (ds ++ [])).results [])
    (hb : Below W.heap.size W W') (hok : ∀ (j : Nat) (t : TypeId) (r : Value), f.resultTypes[j]? = some t → (v.resultList f.resultTypes.size)[j]? = some r → Value.okWide P W' .any 0 t r) :
    s.post enc P f apart fresh handsOn again W args v W' := by
  have hlt : ∀ p ∈ before, p.block < W.heap.size := fun p hp => hW.lt p hp
  have hW2 := hW
  obtain ⟨p, q, hA, hV, hpq, hz, hn⟩ := hW
  rw [hv] at hV
  obtain ⟨_, hq⟩ := trodVars_none hV
  subst hq
  have hp : before = p := by simpa using hpq
  subst hp
  have hargs : ∀ sp : Nat → Bool, (∀ x ∈ before, sp x.block = true) → DataW.TrodAll enc P W' 0 sp true f.params.toList args.toList (s.fn H (ds ++ [])).args before := fun sp hsp => by
    rw [hspec]
    exact trodAll_stays hl hb hr hA hlt hsp
  have hvars : ∀ sp : Nat → Bool, DataW.TrodVars enc P W' sp s.vars (s.fn H (ds ++ [])).vars [] := fun sp => by
    rw [hv, hsv]; rfl
  have hold : ∀ x ∈ before, (fun b => decide (b < W.heap.size)) x.block = true := fun x hx => by simpa using hlt x hx
  refine ⟨ds, [], before, [], before, [], hW2, hres _ _ _, hargs _ hold, hvars _, World.keptBut_mono (fun x hx => ⟨hx, ?_⟩) (hb.frame (· ∈ before)), fun _ => ?_⟩
  · simpa using hx
  · refine ⟨hok, _, _, ([] ++ before) ++ [], ⟨[] ++ before, [], trodAll_append (hargs _ (fun _ _ => rfl)) (hres _ _ _), hvars _, rfl, ?_, ?_⟩, ?_⟩
    · intro b off hin
      have hin : MemPlace.cell b off ∈ before := by simpa using hin
      rw [hb.frozen (hlt _ hin)]
      exact hz b off hin
    · intro ha
      have := hn ha
      simpa using this
    · intro x hx _
      simpa using hx

/-- An int argument. -/
theorem arg_int {t : TypeId} {k : IntKind} {w : World} {base : Nat} {v : Value} {d : DataW H} {p : List MemPlace} (ht : P.underlying t = some (.int k)) (hv : Value.okWide P w .any base t v) (h : DataW.Trod enc P w 0 (fun _ => true) true t v d p) :
    ∃ x : Int, v = .int k x ∧ (Lit.int k x).wf = true := by
  obtain ⟨x, rfl, _, _, wx⟩ := open_int ht hv h
  exact ⟨x, rfl, wx⟩
theorem arg_bool {t : TypeId} {w : World} {base : Nat} {v : Value} {d : DataW H} {p : List MemPlace} (ht : P.underlying t = some .bool) (hv : Value.okWide P w .any base t v) (h : DataW.Trod enc P w 0 (fun _ => true) true t v d p) :
    ∃ x : Bool, v = .bool x := by
  obtain ⟨x, rfl, _, _⟩ := open_bool ht hv h
  exact ⟨x, rfl⟩
theorem arg_agg3 {t : TypeId} {k0 k1 k2 : IntKind} {f0 f1 f2 : Field} {w : World} {base : Nat} {v : Value} {d : DataW H} {p : List MemPlace} (ht : P.underlying t = some (.struct #[f0, f1, f2])) (hone : oneCellFields P #[f0, f1, f2] = true) (hC : P.cellsOf t = 3)
    (h0 : P.underlying f0.type = some (.int k0)) (h1 : P.underlying f1.type = some (.int k1)) (h2 : P.underlying f2.type = some (.int k2))
    (hv : Value.okWide P w .any base t v) (h : DataW.Trod enc P w 0 (fun _ => true) true t v d p) : ∃ x y z : Int, v = .agg [.int k0 x, .int k1 y, .int k2 z].toArray ∧ (Lit.int k0 x).wf = true ∧ (Lit.int k1 y).wf = true ∧ (Lit.int k2 z).wf = true := by
  obtain ⟨c0, c1, c2, y0, y1, y2, m, rfl, _, _, e0, e1, e2⟩ := Joins.open_agg3 ht hone hC hv h
  obtain ⟨a, g0, _, wa⟩ := DataW.trod_int h0 e0
  obtain ⟨b, g1, _, wb⟩ := DataW.trod_int h1 e1
  obtain ⟨c, g2, _, wc⟩ := DataW.trod_int h2 e2
  simp at g0 g1 g2
  subst g0 g1 g2
  exact ⟨a, b, c, rfl, wa, wb, wc⟩
theorem arg_agg2 {t : TypeId} {k0 k1 : IntKind} {f0 f1 : Field} {w : World} {base : Nat} {v : Value} {d : DataW H} {p : List MemPlace} (ht : P.underlying t = some (.struct #[f0, f1])) (hone : oneCellFields P #[f0, f1] = true) (hC : P.cellsOf t = 2)
    (h0 : P.underlying f0.type = some (.int k0)) (h1 : P.underlying f1.type = some (.int k1))
    (hv : Value.okWide P w .any base t v) (h : DataW.Trod enc P w 0 (fun _ => true) true t v d p) : ∃ x y : Int, v = .agg [.int k0 x, .int k1 y].toArray ∧ (Lit.int k0 x).wf = true ∧ (Lit.int k1 y).wf = true := by
  obtain ⟨c0, c1, y0, y1, m, rfl, _, _, e0, e1⟩ := Joins.open_agg2 ht hone hC hv h
  obtain ⟨a, g0, _, wa⟩ := DataW.trod_int h0 e0
  obtain ⟨b, g1, _, wb⟩ := DataW.trod_int h1 e1
  simp at g0 g1
  subst g0 g1
  exact ⟨a, b, rfl, wa, wb⟩
theorem i64_of {x : Int} (h : (Lit.int .i64 x).wf = true) : -9223372036854775808 ≤ x ∧ x ≤ 9223372036854775807 := by
  simpa [Lit.wf, IntKind.min, IntKind.max, IntKind.signed, IntKind.bits] using h
/-- A slice of structs of three ints, as it lies in memory. -/
theorem arg_slice3 {t e : TypeId} {f0 f1 f2 : Field} {w : World} {base : Nat} {v : Value} {d : DataW H} {p : List MemPlace} (ht : P.underlying t = some (.slice e)) (he : P.underlying e = some (.struct #[f0, f1, f2])) (ce : P.cellsOf e = 3)
    (ho : (f0.offset, f1.offset, f2.offset) = (0, 1, 2)) (hc : (P.cellsOf f0.type, P.cellsOf f1.type, P.cellsOf f2.type) = (1, 1, 1)) (h0 : P.underlying f0.type = some (.int .i64)) (h1 : P.underlying f1.type = some (.int .i64)) (h2 : P.underlying f2.type = some (.int .i64))
    (hv : Value.okWide P w .any base t v) (h : DataW.Trod enc P w 0 (fun _ => true) true t v d p) :
    ∃ l : List (Int × Int × Int), RO w v 3 l.length (l.flatMap fun c => [.int .i64 c.1, .int .i64 c.2.1, .int .i64 c.2.2]) ∧ l.length ≤ maxLen ∧ ∀ c ∈ l, (-9223372036854775808 ≤ c.1 ∧ c.1 ≤ 9223372036854775807) ∧ (-9223372036854775808 ≤ c.2.1 ∧ c.2.1 ≤ 9223372036854775807) ∧ -9223372036854775808 ≤ c.2.2 ∧ c.2.2 ≤ 9223372036854775807 := by
  obtain ⟨A, len, cap, rfl⟩ := WideShapes.okWide_slice ht hv
  obtain ⟨fuel, hf⟩ := h
  simp only [Prod.mk.injEq] at ho hc
  rcases open_slice ht hf with ⟨hcs, _⟩ | ⟨a, len', cap', m, n, V, Pl, hcs, hb, hl, hm, hmm, hx, hel⟩
  · have : Value.slice A len cap = .slice none 0 0 := by simpa [Value.cells] using hcs
    rw [this]
    exact ⟨[], RO.nil _ _, Nat.zero_le _, fun c hc => by cases hc⟩
  · have e1 : Value.slice A len cap = .slice (some a) len' cap' := by simpa [Value.cells] using hcs
    rw [e1]
    have hlm : len' ≤ m := by rw [hmm]; split <;> omega
    have each : ∀ i, i < len' → ∃ c : Int × Int × Int, (∀ j u, ([Value.int .i64 c.1, .int .i64 c.2.1, .int .i64 c.2.2])[j]? = some u → w.cell? (a.add (i * 3 + j)) = some u) ∧ (-9223372036854775808 ≤ c.1 ∧ c.1 ≤ 9223372036854775807) ∧ (-9223372036854775808 ≤ c.2.1 ∧ c.2.1 ≤ 9223372036854775807) ∧ -9223372036854775808 ≤ c.2.2 ∧ c.2.2 ≤ 9223372036854775807 := by
      intro i hi
      obtain ⟨cs', g1, g2⟩ := hel i (by omega)
      rw [ce] at g1
      obtain ⟨_, hlen, hcell⟩ := World.cells?_some g1
      obtain ⟨xs, k, hk, hxy, _, hxl, hff⟩ := DataW.trod_struct he g2
      match xs, hxl, cs', hlen with
      | [y0, y1, y2], _, [v0, v1, v2], _ =>
        have q0 := hff 0 f0 rfl
        have q1 := hff 1 f1 rfl
        have q2 := hff 2 f2 rfl
        simp [ho.1, ho.2.1, ho.2.2, hc.1, hc.2.1, hc.2.2] at q0 q1 q2
        obtain ⟨x0, r0, _, w0⟩ := DataW.trod_int h0 q0
        obtain ⟨x1, r1, _, w1⟩ := DataW.trod_int h1 q1
        obtain ⟨x2, r2, _, w2⟩ := DataW.trod_int h2 q2
        simp at r0 r1 r2
        subst r0 r1 r2
        refine ⟨(x0, x1, x2), fun j u hj => ?_, i64_of w0, i64_of w1, i64_of w2⟩
        have c0 := hcell 0 (by omega)
        have c1 := hcell 1 (by omega)
        have c2 := hcell 2 (by omega)
        rw [Go.Deep.add_add] at c0 c1 c2
        match j, hj with
        | 0, hj => simp at hj; subst hj; simpa using c0
        | 1, hj => simp at hj; subst hj; simpa using c1
        | 2, hj => simp at hj; subst hj; simpa using c2
        | j + 3, hj => simp at hj
    obtain ⟨q, hq⟩ := choose_lt each
    refine ⟨(List.range len').map q, ?_, by simp; omega, fun c hc => ?_⟩
    · have hfl : ∀ c : Int × Int × Int, ((fun c : Int × Int × Int => [Value.int .i64 c.1, .int .i64 c.2.1, .int .i64 c.2.2]) c).length = 3 := fun _ => rfl
      have hlr : ((List.range len').map q).length = len' := by simp
      rw [hlr]
      refine ⟨by rw [flat_len hfl, hlr], some a, cap', rfl, hl, fun _ => ⟨a, rfl, fun j u hu => ?_⟩, fun h => by cases h⟩
      have hj : j < len' * 3 := by
        have := (List.getElem?_eq_some_iff.1 hu).1
        rwa [flat_len hfl, hlr] at this
      have h3 : j / 3 < len' := by omega
      have h4 := flat_get hfl ((List.range len').map q) (j / 3) (j % 3) (q (j / 3)) (by simp [h3]) (by omega)
      rw [show j / 3 * 3 + j % 3 = j by omega, hu] at h4
      have h5 := (hq (j / 3) h3).1 (j % 3) u h4.symm
      rwa [show j / 3 * 3 + j % 3 = j by omega] at h5
    · obtain ⟨i, hi, rfl⟩ := List.mem_map.1 hc
      exact (hq i (List.mem_range.1 hi)).2
end
end Go.Proofs.YtaglecidaedjfaaDoor
