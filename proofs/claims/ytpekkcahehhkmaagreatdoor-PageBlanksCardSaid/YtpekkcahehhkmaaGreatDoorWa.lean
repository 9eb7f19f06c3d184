/- Joined texts: FrameS, FrameI, Step, Tys, Str, Laid, FrameD, RowSt, Star, Bytes, LitS, Map, Pg0, FrameP, Copy, Lib, Dec, Tok, Tok2, ContU. -/
import Derived.Test.YtpekkcahehhkmaaGreatDoorGround
import Derived.Deep.Slices
import Derived.Test.YtpekkcahehhkmaaGreatDoorRows
import Derived.ProofKit
import Derived.OpenShut
import Derived.Lib.SmallJoins
import Derived.Laws.Strings
import Derived.Laws.Strings2
import Derived.Laws.Strings3
import Derived.Laws.Concat
import Derived.LaidMore
import Derived.LaidHandle
import Derived.LaidSub
import Derived.Lib.LaidTab
import Derived.Lib.ItoaNum
import Derived.Shelf.Vars
import Derived.MakeChecks
import Derived.Test.YtpekkcahehhkmaaGreatDoorCards
import Derived.Test.YtpekkcahehhkmaaGreatDoorTie
import Derived.Stop.Joined
import Derived.SevenTiedAt
import Derived.Lay
import Derived.LaidOnce
import Derived.Laws.IdiomCopy
import Derived.Maps.AppendAt
import Derived.Laws.BytesString
import Derived.Maps.Own
import Derived.Maps.Views
import Derived.StringKeys
import Derived.Test.YtpekkcahehhkmaaGreatDoorShelf
import Derived.Lib.AtoiAll
import Derived.Lib.IndexMore
import Derived.Lib.Bytealg
/- From a contract 'the law returns true and nothing that was there has turned' to the given statement. -/
set_option linter.unusedVariables false
namespace Go.Proofs.YtpekkcahehhkmaaGreatDoor
open Go.ChangeShapes Go.WideShapes Go.ChangeAt Go.RowKit Go.Deep Go.Joins

theorem own : ownKnob Tryz.prog.godebug = none := by kernel_rfl
theorem laidOut : laidOutB Tryz.prog = true := by kernel_rfl

section
variable {H : Type} {enc : TypeId × Value → H} {P : Program}
/-- What the arguments read as, they read as behind the call. -/
theorem trodAll_stays (hl : laidOutB P = true) {W W' : World} {sp : Nat → Bool} (hb : Below W.heap.size W W') : ∀ {ts : List TypeId} {vs : List Value} {ds : List (DataW H)} {ps : List MemPlace},
    (ts.all fun t => P.readableRec t && decide (t < P.types.size)) = true → DataW.TrodAll enc P W 0 (fun _ => true) true ts vs ds ps → (∀ x ∈ ps, x.block < W.heap.size) → (∀ x ∈ ps, sp x.block = true) →
    DataW.TrodAll enc P W' 0 sp true ts vs ds ps
  | [], vs, ds, ps, _, h, _, _ => by
    obtain ⟨rfl, rfl, rfl⟩ := trodAll_nil h
    exact trodAll_mk0
  | t :: ts, vs, ds, ps, hr, h, hlt, hs => by
    obtain ⟨v, vs', d, ds', p, q, rfl, rfl, rfl, h1, h2⟩ := trodAll_cons h
    simp only [List.all_cons, Bool.and_eq_true, decide_eq_true_eq] at hr
    refine trodAll_cons_mk (WideElems.Trod_stays hl hr.1.1 hr.1.2 h1 (fun x hx => hb.same (hlt x (List.mem_append_left _ hx))) fun x hx => hs x (List.mem_append_left _ hx)) ?_
    exact trodAll_stays hl hb (by simpa using hr.2) h2 (fun x hx => hlt x (List.mem_append_right _ hx)) fun x hx => hs x (List.mem_append_right _ hx)

theorem post_of_law {f : Func} {s : ChangeSpec} {apart fresh handsOn again : Bool} {W W' : World} {args : Array Value} {v : Value} {ds : List (DataW H)} {before : List MemPlace}
    (hl : laidOutB P = true) (hr : (f.params.toList.all fun t => P.readableRec t && decide (t < P.types.size)) = true)
    (hW : DataW.Whole enc P f.params.toList s.vars apart W args.toList ds [] before) (hv : s.vars = []) (hspec : (s.fn H (ds ++ [])).args = ds) (hsv : (s.fn H (ds ++ [])).vars = [])
    (hres : ∀ (b : Nat) (sp : Nat → Bool) (hd : Bool), DataW.TrodAll enc P W' b sp hd f.resultTypes.toList (v.resultList f.resultTypes.size) (s.fn H (ds ++ [])).results [])
    (hb : Below W.heap.size W W') (hok : ∀ (j : Nat) (t : TypeId) (r : Value), f.resultTypes[j]? = some t → (v.resultList f.resultTypes.size)[j]? = some r → Value.okWide P W' .any 0 t r) :
    s.post enc P f apart fresh handsOn again W args v W' := by
  have hlt : ∀ p ∈ before, p.block < W.heap.size := fun p hp => hW.lt p hp
  have hW2 := hW
  obtain ⟨p, q, hA, hV, hpq, hz, hn⟩ := hW
  rw [hv] at hV
  obtain ⟨_, hq⟩ := trodVars_none hV
  subst hq
  have hp : before = p := by simpa using hpq
  subst hp
  have hargs : ∀ sp : Nat → Bool, (∀ x ∈ before, sp x.block = true) → DataW.TrodAll enc P W' 0 sp true f.params.toList args.toList (s.fn H (ds ++ [])).args before := fun sp hsp => by
    rw [hspec]
    exact trodAll_stays hl hb hr hA hlt hsp
  have hvars : ∀ sp : Nat → Bool, DataW.TrodVars enc P W' sp s.vars (s.fn H (ds ++ [])).vars [] := fun sp => by
    rw [hv, hsv]; rfl
  have hold : ∀ x ∈ before, (fun b => decide (b < W.heap.size)) x.block = true := fun x hx => by simpa using hlt x hx
  refine ⟨ds, [], before, [], before, [], hW2, hres _ _ _, hargs _ hold, hvars _, World.keptBut_mono (fun x hx => ⟨hx, ?_⟩) (hb.frame (· ∈ before)), fun _ => ?_⟩
  · simpa using hx
  · refine ⟨hok, _, _, ([] ++ before) ++ [], ⟨[] ++ before, [], trodAll_append (hargs _ (fun _ _ => rfl)) (hres _ _ _), hvars _, rfl, ?_, ?_⟩, ?_⟩
    · intro b off hin
      have hin : MemPlace.cell b off ∈ before := by simpa using hin
      rw [hb.frozen (hlt _ hin)]
      exact hz b off hin
    · intro ha
      have := hn ha
      simpa using this
    · intro x hx _
      simpa using hx

/-- An int argument. -/
theorem arg_int {t : TypeId} {k : IntKind} {w : World} {base : Nat} {v : Value} {d : DataW H} {p : List MemPlace} (ht : P.underlying t = some (.int k)) (hv : Value.okWide P w .any base t v) (h : DataW.Trod enc P w 0 (fun _ => true) true t v d p) :
    ∃ x : Int, v = .int k x ∧ (Lit.int k x).wf = true := by
  obtain ⟨x, rfl, _, _, wx⟩ := open_int ht hv h
  exact ⟨x, rfl, wx⟩
theorem arg_bool {t : TypeId} {w : World} {base : Nat} {v : Value} {d : DataW H} {p : List MemPlace} (ht : P.underlying t = some .bool) (hv : Value.okWide P w .any base t v) (h : DataW.Trod enc P w 0 (fun _ => true) true t v d p) :
    ∃ x : Bool, v = .bool x := by
  obtain ⟨x, rfl, _, _⟩ := open_bool ht hv h
  exact ⟨x, rfl⟩
theorem arg_agg3 {t : TypeId} {k0 k1 k2 : IntKind} {f0 f1 f2 : Field} {w : World} {base : Nat} {v : Value} {d : DataW H} {p : List MemPlace} (ht : P.underlying t = some (.struct #[f0, f1, f2])) (hone : oneCellFields P #[f0, f1, f2] = true) (hC : P.cellsOf t = 3)
    (h0 : P.underlying f0.type = some (.int k0)) (h1 : P.underlying f1.type = some (.int k1)) (h2 : P.underlying f2.type = some (.int k2))
    (hv : Value.okWide P w .any base t v) (h : DataW.Trod enc P w 0 (fun _ => true) true t v d p) : ∃ x y z : Int, v = .agg [.int k0 x, .int k1 y, .int k2 z].toArray ∧ (Lit.int k0 x).wf = true ∧ (Lit.int k1 y).wf = true ∧ (Lit.int k2 z).wf = true := by
  obtain ⟨c0, c1, c2, y0, y1, y2, m, rfl, _, _, e0, e1, e2⟩ := Joins.open_agg3 ht hone hC hv h
  obtain ⟨a, g0, _, wa⟩ := DataW.trod_int h0 e0
  obtain ⟨b, g1, _, wb⟩ := DataW.trod_int h1 e1
  obtain ⟨c, g2, _, wc⟩ := DataW.trod_int h2 e2
  simp at g0 g1 g2
  subst g0 g1 g2
  exact ⟨a, b, c, rfl, wa, wb, wc⟩
theorem arg_agg2 {t : TypeId} {k0 k1 : IntKind} {f0 f1 : Field} {w : World} {base : Nat} {v : Value} {d : DataW H} {p : List MemPlace} (ht : P.underlying t = some (.struct #[f0, f1])) (hone : oneCellFields P #[f0, f1] = true) (hC : P.cellsOf t = 2)
    (h0 : P.underlying f0.type = some (.int k0)) (h1 : P.underlying f1.type = some (.int k1))
    (hv : Value.okWide P w .any base t v) (h : DataW.Trod enc P w 0 (fun _ => true) true t v d p) : ∃ x y : Int, v = .agg [.int k0 x, .int k1 y].toArray ∧ (Lit.int k0 x).wf = true ∧ (Lit.int k1 y).wf = true := by
  obtain ⟨c0, c1, y0, y1, m, rfl, _, _, e0, e1⟩ := Joins.open_agg2 ht hone hC hv h
  obtain ⟨a, g0, _, wa⟩ := DataW.trod_int h0 e0
  obtain ⟨b, g1, _, wb⟩ := DataW.trod_int h1 e1
  simp at g0 g1
  subst g0 g1
  exact ⟨a, b, rfl, wa, wb⟩
theorem i64_of {x : Int} (h : (Lit.int .i64 x).wf = true) : -9223372036854775808 ≤ x ∧ x ≤ 9223372036854775807 := by
  simpa [Lit.wf, IntKind.min, IntKind.max, IntKind.signed, IntKind.bits] using h
/-- A slice of structs of three ints, as it lies in memory. -/
theorem arg_slice3 {t e : TypeId} {f0 f1 f2 : Field} {w : World} {base : Nat} {v : Value} {d : DataW H} {p : List MemPlace} (ht : P.underlying t = some (.slice e)) (he : P.underlying e = some (.struct #[f0, f1, f2])) (ce : P.cellsOf e = 3)
    (ho : (f0.offset, f1.offset, f2.offset) = (0, 1, 2)) (hc : (P.cellsOf f0.type, P.cellsOf f1.type, P.cellsOf f2.type) = (1, 1, 1)) (h0 : P.underlying f0.type = some (.int .i64)) (h1 : P.underlying f1.type = some (.int .i64)) (h2 : P.underlying f2.type = some (.int .i64))
    (hv : Value.okWide P w .any base t v) (h : DataW.Trod enc P w 0 (fun _ => true) true t v d p) :
    ∃ l : List (Int × Int × Int), RO w v 3 l.length (l.flatMap fun c => [.int .i64 c.1, .int .i64 c.2.1, .int .i64 c.2.2]) ∧ l.length ≤ maxLen ∧ ∀ c ∈ l, (-9223372036854775808 ≤ c.1 ∧ c.1 ≤ 9223372036854775807) ∧ (-9223372036854775808 ≤ c.2.1 ∧ c.2.1 ≤ 9223372036854775807) ∧ -9223372036854775808 ≤ c.2.2 ∧ c.2.2 ≤ 9223372036854775807 := by
  obtain ⟨A, len, cap, rfl⟩ := WideShapes.okWide_slice ht hv
  obtain ⟨fuel, hf⟩ := h
  simp only [Prod.mk.injEq] at ho hc
  rcases open_slice ht hf with ⟨hcs, _⟩ | ⟨a, len', cap', m, n, V, Pl, hcs, hb, hl, hm, hmm, hx, hel⟩
  · have : Value.slice A len cap = .slice none 0 0 := by simpa [Value.cells] using hcs
    rw [this]
    exact ⟨[], RO.nil _ _, Nat.zero_le _, fun c hc => by cases hc⟩
  · have e1 : Value.slice A len cap = .slice (some a) len' cap' := by simpa [Value.cells] using hcs
    rw [e1]
    have hlm : len' ≤ m := by rw [hmm]; split <;> omega
    have each : ∀ i, i < len' → ∃ c : Int × Int × Int, (∀ j u, ([Value.int .i64 c.1, .int .i64 c.2.1, .int .i64 c.2.2])[j]? = some u → w.cell? (a.add (i * 3 + j)) = some u) ∧ (-9223372036854775808 ≤ c.1 ∧ c.1 ≤ 9223372036854775807) ∧ (-9223372036854775808 ≤ c.2.1 ∧ c.2.1 ≤ 9223372036854775807) ∧ -9223372036854775808 ≤ c.2.2 ∧ c.2.2 ≤ 9223372036854775807 := by
      intro i hi
      obtain ⟨cs', g1, g2⟩ := hel i (by omega)
      rw [ce] at g1
      obtain ⟨_, hlen, hcell⟩ := World.cells?_some g1
      obtain ⟨xs, k, hk, hxy, _, hxl, hff⟩ := DataW.trod_struct he g2
      match xs, hxl, cs', hlen with
      | [y0, y1, y2], _, [v0, v1, v2], _ =>
        have q0 := hff 0 f0 rfl
        have q1 := hff 1 f1 rfl
        have q2 := hff 2 f2 rfl
        simp [ho.1, ho.2.1, ho.2.2, hc.1, hc.2.1, hc.2.2] at q0 q1 q2
        obtain ⟨x0, r0, _, w0⟩ := DataW.trod_int h0 q0
        obtain ⟨x1, r1, _, w1⟩ := DataW.trod_int h1 q1
        obtain ⟨x2, r2, _, w2⟩ := DataW.trod_int h2 q2
        simp at r0 r1 r2
        subst r0 r1 r2
        refine ⟨(x0, x1, x2), fun j u hj => ?_, i64_of w0, i64_of w1, i64_of w2⟩
        have c0 := hcell 0 (by omega)
        have c1 := hcell 1 (by omega)
        have c2 := hcell 2 (by omega)
        rw [Go.Deep.add_add] at c0 c1 c2
        match j, hj with
        | 0, hj => simp at hj; subst hj; simpa using c0
        | 1, hj => simp at hj; subst hj; simpa using c1
        | 2, hj => simp at hj; subst hj; simpa using c2
        | j + 3, hj => simp at hj
    obtain ⟨q, hq⟩ := choose_lt each
    refine ⟨(List.range len').map q, ?_, by simp; omega, fun c hc => ?_⟩
    · have hfl : ∀ c : Int × Int × Int, ((fun c : Int × Int × Int => [Value.int .i64 c.1, .int .i64 c.2.1, .int .i64 c.2.2]) c).length = 3 := fun _ => rfl
      have hlr : ((List.range len').map q).length = len' := by simp
      rw [hlr]
      refine ⟨by rw [flat_len hfl, hlr], some a, cap', rfl, hl, fun _ => ⟨a, rfl, fun j u hu => ?_⟩, fun h => by cases h⟩
      have hj : j < len' * 3 := by
        have := (List.getElem?_eq_some_iff.1 hu).1
        rwa [flat_len hfl, hlr] at this
      have h3 : j / 3 < len' := by omega
      have h4 := flat_get hfl ((List.range len').map q) (j / 3) (j % 3) (q (j / 3)) (by simp [h3]) (by omega)
      rw [show j / 3 * 3 + j % 3 = j by omega, hu] at h4
      have h5 := (hq (j / 3) h3).1 (j % 3) u h4.symm
      rwa [show j / 3 * 3 + j % 3 = j by omega] at h5
    · obtain ⟨i, hi, rfl⟩ := List.mem_map.1 hc
      exact (hq i (List.mem_range.1 hi)).2
end
end Go.Proofs.YtpekkcahehhkmaaGreatDoor
/- Arguments that are slices of machine integers, and the bounds of machine integers. -/
set_option linter.unusedVariables false
namespace Go.Proofs.YtpekkcahehhkmaaGreatDoor
open Go.ChangeShapes Go.WideShapes Go.ChangeAt Go.RowKit Go.Deep Go.Joins

section
variable {H : Type} {enc : TypeId × Value → H} {P : Program}
theorem i32_of {x : Int} (h : (Lit.int .i32 x).wf = true) : -2147483648 ≤ x ∧ x ≤ 2147483647 := by
  simpa [Lit.wf, IntKind.min, IntKind.max, IntKind.signed, IntKind.bits] using h
theorem i16_of {x : Int} (h : (Lit.int .i16 x).wf = true) : -32768 ≤ x ∧ x ≤ 32767 := by
  simpa [Lit.wf, IntKind.min, IntKind.max, IntKind.signed, IntKind.bits] using h
theorem i8_of {x : Int} (h : (Lit.int .i8 x).wf = true) : -128 ≤ x ∧ x ≤ 127 := by
  simpa [Lit.wf, IntKind.min, IntKind.max, IntKind.signed, IntKind.bits] using h
theorem u8_of {x : Int} (h : (Lit.int .u8 x).wf = true) : 0 ≤ x ∧ x ≤ 255 := by
  simpa [Lit.wf, IntKind.min, IntKind.max, IntKind.signed, IntKind.bits] using h
theorem u32_of {x : Int} (h : (Lit.int .u32 x).wf = true) : 0 ≤ x ∧ x ≤ 4294967295 := by
  simpa [Lit.wf, IntKind.min, IntKind.max, IntKind.signed, IntKind.bits] using h
/-- A slice of machine integers, as it lies in memory. -/
theorem arg_slice1 {t e : TypeId} {k : IntKind} {w : World} {base : Nat} {v : Value} {d : DataW H} {p : List MemPlace} (ht : P.underlying t = some (.slice e)) (he : P.underlying e = some (.int k)) (ce : P.cellsOf e = 1)
    (hv : Value.okWide P w .any base t v) (h : DataW.Trod enc P w 0 (fun _ => true) true t v d p) :
    ∃ l : List Int, RO w v 1 l.length (l.flatMap fun c => [.int k c]) ∧ l.length ≤ maxLen ∧ ∀ c ∈ l, (Lit.int k c).wf = true := by
  obtain ⟨A, len, cap, rfl⟩ := WideShapes.okWide_slice ht hv
  obtain ⟨fuel, hf⟩ := h
  rcases open_slice ht hf with ⟨hcs, _⟩ | ⟨a, len', cap', m, n, V, Pl, hcs, hb, hl, hm, hmm, hx, hel⟩
  · have : Value.slice A len cap = .slice none 0 0 := by simpa [Value.cells] using hcs
    rw [this]
    exact ⟨[], RO.nil _ _, Nat.zero_le _, fun c hc => by cases hc⟩
  · have e1 : Value.slice A len cap = .slice (some a) len' cap' := by simpa [Value.cells] using hcs
    rw [e1]
    have hlm : len' ≤ m := by rw [hmm]; split <;> omega
    have each : ∀ i, i < len' → ∃ c : Int, w.cell? (a.add i) = some (.int k c) ∧ (Lit.int k c).wf = true := by
      intro i hi
      obtain ⟨cs', g1, g2⟩ := hel i (by omega)
      rw [ce] at g1
      obtain ⟨_, hlen, hcell⟩ := World.cells?_some g1
      match cs', hlen with
      | [v0], _ =>
        obtain ⟨x, r0, _, w0⟩ := DataW.trod_int he g2
        simp at r0
        subst r0
        have c0 := hcell 0 (by omega)
        rw [Go.Deep.add_add] at c0
        exact ⟨x, by simpa using c0, w0⟩
    obtain ⟨q, hq⟩ := choose_lt each
    refine ⟨(List.range len').map q, ?_, by simp; omega, fun c hc => ?_⟩
    · have hfl : ∀ c : Int, ((fun c : Int => [Value.int k c]) c).length = 1 := fun _ => rfl
      have hlr : ((List.range len').map q).length = len' := by simp
      rw [hlr]
      refine ⟨by rw [flat_len hfl, hlr], some a, cap', rfl, hl, fun _ => ⟨a, rfl, fun j u hu => ?_⟩, fun h => by cases h⟩
      have hj : j < len' * 1 := by
        have := (List.getElem?_eq_some_iff.1 hu).1
        rwa [flat_len hfl, hlr] at this
      have h3 : j < len' := by omega
      have h4 := flat_get hfl ((List.range len').map q) j 0 (q j) (by simp [h3]) (by omega)
      rw [show j * 1 + 0 = j by omega, hu] at h4
      simp at h4
      subst h4
      exact (hq j h3).1
    · obtain ⟨i, hi, rfl⟩ := List.mem_map.1 hc
      exact (hq i (List.mem_range.1 hi)).2
end
end Go.Proofs.YtpekkcahehhkmaaGreatDoor
/- The steps of the walk, each a search that stands once: what suffices for the judgement on the next operation. Printed by a program (wip/steps.py). -/
set_option linter.unusedVariables false
namespace Go.Proofs.YtpekkcahehhkmaaGreatDoor
open Go.RowKit
theorem subA {w0 : World} {H HS : List Hl} (h : List.Sublist HS H := by first | (first | exact List.Sublist.refl _ | exact .cons _ (List.Sublist.refl _) | exact .cons _ (.cons _ (List.Sublist.refl _)) | exact .cons _ (.cons _ (.cons _ (List.Sublist.refl _))) | exact .cons _ (.cons _ (.cons _ (.cons _ (List.Sublist.refl _)))) | exact .cons _ (.cons _ (.cons _ (.cons _ (.cons _ (List.Sublist.refl _))))) | exact .cons _ (.cons _ (.cons _ (.cons _ (.cons _ (.cons _ (List.Sublist.refl _)))))) | exact .cons _ (.cons _ (.cons _ (.cons _ (.cons _ (.cons _ (.cons _ (List.Sublist.refl _))))))) | exact .cons _ (.cons _ (.cons _ (.cons _ (.cons _ (.cons _ (.cons _ (.cons _ (List.Sublist.refl _))))))))) | (with_reducible (repeat (first | exact List.Sublist.refl _ | apply List.Sublist.cons_cons | apply List.Sublist.cons)))) : ∀ w, St w0 H w → St w0 HS w := fun _ x => x.sub h
theorem nxRS {p q : Prop} (h : q) (s : q → p := by intro h; (show RS _ _ _ _ _ _ _ _); first
  | (apply RS.stepK; (case _hr => exact rfl); (case hd => exact rfl); (case h => exact h))
  | (apply RS.storeA; (case hx => rfl); (case hy => rfl); (case hu => rfl); (case hm => exact updA); (case hi => rfl); (case hs => decide +kernel); (case h => exact h))
  | (apply RS.storeRowA; (case hx => rfl); (case hy => rfl); (case hu => rfl); (case hm => exact updA); (case hl => (repeat (first | exact .nil | apply LenIs.cons))); (case hl2 => (repeat (first | exact .nil | apply LenIs.cons))); (case hs => decide +kernel); (case h => exact h))
  | (apply RS.storeI; (case hx => rfl); (case hy => rfl); (case hu => exact updA); (case hm => clear h; exact omlA); (case hs => decide +kernel); (case h => exact h))
  | (apply RS.lTK; (case hj => exact rfl); (case hg => exact rfl); (case hb => with_reducible rfl); (case _hr => exact rfl); (case hd => exact rfl); (case h => exact h))
  | (apply RS.xT; (case hj => exact rfl); (case hg => exact rfl); (case hb => with_reducible first | exact nfT | exact nfF | rfl); (case hd => exact rfl); (case h => exact h))
  | (apply RS.gTK; (case hj => exact rfl); (case hg => exact rfl); (case _hr => exact rfl); (case hd => exact rfl); (case h => exact h))
  | (apply RS.gTcK; (case hj => exact rfl); (case hg => exact rfl); (case _hr => exact rfl); (case hd => exact rfl); (case h => exact h))
  | (apply RS.lFK; (case hj => exact rfl); (case hg => exact rfl); (case hb => with_reducible rfl); (case _hr => exact rfl); (case hd => exact rfl); (case h => exact h))
  | (apply RS.xF; (case hj => exact rfl); (case hg => exact rfl); (case hb => with_reducible first | exact nfT | exact nfF | rfl); (case hd => exact rfl); (case h => exact h))
  | (apply RS.gFK; (case hj => exact rfl); (case hg => exact rfl); (case _hr => exact rfl); (case hd => exact rfl); (case h => exact h))
  | (apply RS.gFcK; (case hj => exact rfl); (case hg => exact rfl); (case _hr => exact rfl); (case hd => exact rfl); (case h => exact h))
  | (apply RS.finish; exact h)) : p := s h
theorem nxRS1 {β : Type} {p : Prop} {q : β → Prop} (h : ∀ b, q b) (s : (∀ b, q b) → p := by intro h; (show RS _ _ _ _ _ _ _ _); first
  | (apply RS.boxA; (case hx => rfl); (case hc => rfl); (case hd => rfl); (case h => exact h))
  | (apply RS.allocA; (case hz => exact ZeroTy.is); (case hc => rfl); (case hd => rfl); (case h => exact h))
  | (apply RS.litI; (case hx => rfl); (case hd => rfl); (case h => exact h))
  | (apply RS.lit0; (case hd => rfl); (case h => exact h))
  | (apply RS.append0A; (case hx => rfl); (case hy => rfl); (case hr => exact rdA); (case hu => intro v'; exact updA); (case h1 => exact fun _ => rfl); (case hb => clear h; exact omlA); (case hd => rfl); (case h => exact h))
  | (apply RS.appendA; (case hx => rfl); (case hy => rfl); (case hu => intro v'; exact updA); (case hr => exact rdA); (case h1 => exact fun _ => rfl); (case hb => clear h; exact omlA); (case hd => rfl); (case h => exact h))
  | (apply RS.appendNA; (case hx => rfl); (case hy => rfl); (case hr => exact rdA); (case h1 => exact fun _ => rfl); (case hb => clear h; exact omlA); (case hd => rfl); (case h => exact h))
  | (apply RS.makeI; (case hx => rfl); (case hz => decide +kernel); (case hm => clear h; exact omlA); (case hd => rfl); (case h => exact h))) : p := s h
theorem nxRM {p q : Prop} (h : q) (s : q → p := by intro h; (show RM _ _ _ _ _ _ _ _ _ _); first
  | (apply RM.stepK; (case ho => exact rfl); (case hp => exact rfl); (case hd => exact rfl); (case hs => exact subA); (case h => exact h))
  | (apply RM.callK; (case ho => exact rfl); (case hp => exact rfl); (case _hr => exact rfl); (case hd => exact rfl); (case hs => exact subA); (case h => exact h))
  | (apply RM.storeA; (case ho => rfl); (case hx => rfl); (case hy => rfl); (case hu => rfl); (case hm => exact updA); (case hi => rfl); (case hs => decide +kernel); (case hl => decide +kernel); (case h => exact h))
  | (apply RM.storeRowA; (case ho => rfl); (case hx => rfl); (case hy => rfl); (case hu => rfl); (case hm => exact updA); (case hl => (repeat (first | exact .nil | apply LenIs.cons))); (case hl2 => (repeat (first | exact .nil | apply LenIs.cons))); (case hs => decide +kernel); (case hla => decide +kernel); (case h => exact h))
  | (apply RM.storeB; (case ho => rfl); (case hx => rfl); (case hy => rfl); (case hu => rfl); (case hm => exact updA); (case hi => rfl); (case hs => decide +kernel); (case hl => exact subA); (case h => exact h))
  | (apply RM.storeRowB; (case ho => rfl); (case hx => rfl); (case hy => rfl); (case hu => rfl); (case hm => exact updA); (case hl => (repeat (first | exact .nil | apply LenIs.cons))); (case hl2 => (repeat (first | exact .nil | apply LenIs.cons))); (case hs => decide +kernel); (case hla => exact subA); (case h => exact h))
  | (apply RM.pendA; (case ho => rfl); (case hl => rfl); (case hz => exact ZeroTy.is); (case hc => rfl); (case hd => rfl); (case h => exact h))
  | (apply RM.lTK; (case ho => exact rfl); (case hp => exact rfl); (case hj => exact rfl); (case hg => exact rfl); (case hb => with_reducible rfl); (case hd => exact rfl); (case hs => exact subA); (case h => exact h))
  | (apply RM.xT; (case ho => exact rfl); (case hp => exact rfl); (case hj => exact rfl); (case hg => exact rfl); (case hb => with_reducible first | exact nfT | exact nfF | rfl); (case hd => exact rfl); (case hs => exact subA); (case h => exact h))
  | (apply RM.gTK; (case ho => exact rfl); (case hp => exact rfl); (case hj => exact rfl); (case hg => exact rfl); (case hd => exact rfl); (case hs => exact subA); (case h => exact h))
  | (apply RM.gTcK; (case ho => exact rfl); (case hp => exact rfl); (case hj => exact rfl); (case hg => exact rfl); (case hd => exact rfl); (case hs => exact subA); (case h => exact h))
  | (apply RM.lTyK; (case ho => exact rfl); (case hp => exact rfl); (case hj => exact rfl); (case hg => exact rfl); (case hb => with_reducible rfl); (case hd => exact rfl); (case hs => exact subA); (case h => exact h))
  | (apply RM.xTy; (case ho => exact rfl); (case hp => exact rfl); (case hj => exact rfl); (case hg => exact rfl); (case hb => with_reducible first | exact nfT | exact nfF | rfl); (case hd => exact rfl); (case hs => exact subA); (case h => exact h))
  | (apply RM.gTyK; (case ho => exact rfl); (case hp => exact rfl); (case hj => exact rfl); (case hg => exact rfl); (case hd => exact rfl); (case hs => exact subA); (case h => exact h))
  | (apply RM.gTycK; (case ho => exact rfl); (case hp => exact rfl); (case hj => exact rfl); (case hg => exact rfl); (case hd => exact rfl); (case hs => exact subA); (case h => exact h))
  | (apply RM.lFK; (case ho => exact rfl); (case hp => exact rfl); (case hj => exact rfl); (case hg => exact rfl); (case hb => with_reducible rfl); (case hd => exact rfl); (case hs => exact subA); (case h => exact h))
  | (apply RM.xF; (case ho => exact rfl); (case hp => exact rfl); (case hj => exact rfl); (case hg => exact rfl); (case hb => with_reducible first | exact nfT | exact nfF | rfl); (case hd => exact rfl); (case hs => exact subA); (case h => exact h))
  | (apply RM.gFK; (case ho => exact rfl); (case hp => exact rfl); (case hj => exact rfl); (case hg => exact rfl); (case hd => exact rfl); (case hs => exact subA); (case h => exact h))
  | (apply RM.gFcK; (case ho => exact rfl); (case hp => exact rfl); (case hj => exact rfl); (case hg => exact rfl); (case hd => exact rfl); (case hs => exact subA); (case h => exact h))
  | (apply RM.lFyK; (case ho => exact rfl); (case hp => exact rfl); (case hj => exact rfl); (case hg => exact rfl); (case hb => with_reducible rfl); (case hd => exact rfl); (case hs => exact subA); (case h => exact h))
  | (apply RM.xFy; (case ho => exact rfl); (case hp => exact rfl); (case hj => exact rfl); (case hg => exact rfl); (case hb => with_reducible first | exact nfT | exact nfF | rfl); (case hd => exact rfl); (case hs => exact subA); (case h => exact h))
  | (apply RM.gFyK; (case ho => exact rfl); (case hp => exact rfl); (case hj => exact rfl); (case hg => exact rfl); (case hd => exact rfl); (case hs => exact subA); (case h => exact h))
  | (apply RM.gFycK; (case ho => exact rfl); (case hp => exact rfl); (case hj => exact rfl); (case hg => exact rfl); (case hd => exact rfl); (case hs => exact subA); (case h => exact h))
  | (apply RM.finish; exact h)) : p := s h
theorem nxRM1 {β : Type} {p : Prop} {q : β → Prop} (h : ∀ b, q b) (s : (∀ b, q b) → p := by intro h; (show RM _ _ _ _ _ _ _ _ _ _); first
  | (apply RM.allocA; (case ho => rfl); (case hz => exact ZeroTy.is); (case hc => rfl); (case hs => exact fun _ => subA); (case hd => rfl); (case h => exact h))
  | (apply RM.cameA; (case hs => exact subA); (case hs' => exact fun _ => subA); (case h => exact h))) : p := s h
theorem nxV {p q : Prop} (h : q) (s : q → p := by intro h; first | (show YK _ _ _ _ _ _ _; exact YK.ofV vAuto h) | (show VK _ _ _ _ _ _ _; exact VK.mk vAuto h)) : p := s h
theorem nxG {p q : Prop} (h : q) (s : q → p := by intro h; first | (show YG _ _ _ _ _ _ _ _; exact YG.mk (fun hb => by (try (have hc := And.left hb; have hb := And.right hb; rw [hc])); (try rw [hb]); exact V.y vAuto) h) | (show VG _ _ _ _ _ _ _ _; exact VG.mk (fun hb => by (try (have hc := And.left hb; have hb := And.right hb; rw [hc])); (try rw [hb]); exact vAuto) h)) : p := s h
theorem nxX {p q : Prop} (h : q) (s : q → p := by intro h; first | (apply G.seq; exact h) | (apply X.then_normal; exact h) | (apply G.region; exact h) | (apply G.block; exact h) | (apply G.skip; exact h) | (apply G.exit; exact h) | (apply G.ret; exact h) | (apply X.then_ret; exact h) | (apply X.then_exit; exact h) | (apply X.block_out; exact h) | (apply X.block_normal; exact h) | (apply X.block_ret; exact h) | exact X.block_exit rfl h) : p := s h
end Go.Proofs.YtpekkcahehhkmaaGreatDoor
/- The seat's types: one instance for each of which the proofs ask. Printed by a program (wip/tys.py). -/
set_option linter.unusedVariables false
namespace Go.Proofs.YtpekkcahehhkmaaGreatDoor
open Go.RowKit
instance tyI2 : IntTy Tryz.prog 2 .i64 := ⟨by kernel_rfl⟩
instance tyZ2 : ZeroTy Tryz.prog 2 (Go.Value.int Go.IntKind.i64 0) := ⟨by kernel_rfl⟩
instance tyI3 : IntTy Tryz.prog 3 .i64 := ⟨by kernel_rfl⟩
instance tyZ3 : ZeroTy Tryz.prog 3 (Go.Value.int Go.IntKind.i64 0) := ⟨by kernel_rfl⟩
instance tyB4 : BoolTy Tryz.prog 4 := ⟨by kernel_rfl⟩
instance tyZ4 : ZeroTy Tryz.prog 4 (Go.Value.bool false) := ⟨by kernel_rfl⟩
instance tyI5 : IntTy Tryz.prog 5 .u8 := ⟨by kernel_rfl⟩
instance tyZ5 : ZeroTy Tryz.prog 5 (Go.Value.int Go.IntKind.u8 0) := ⟨by kernel_rfl⟩
instance tyI6 : IntTy Tryz.prog 6 .u8 := ⟨by kernel_rfl⟩
instance tyZ6 : ZeroTy Tryz.prog 6 (Go.Value.int Go.IntKind.u8 0) := ⟨by kernel_rfl⟩
instance tyZ7 : ZeroTy Tryz.prog 7 (Go.Value.agg #[Go.Value.int Go.IntKind.i64 0, Go.Value.int Go.IntKind.i64 0, Go.Value.bool false, Go.Value.int Go.IntKind.u8 0]) := ⟨by kernel_rfl⟩
instance tyZ8 : ZeroTy Tryz.prog 8 (Go.Value.agg #[Go.Value.int Go.IntKind.i64 0, Go.Value.int Go.IntKind.i64 0, Go.Value.bool false, Go.Value.int Go.IntKind.u8 0]) := ⟨by kernel_rfl⟩
instance tyS9 : StrTy Tryz.prog 9 := ⟨by kernel_rfl⟩
instance tyZ9 : ZeroTy Tryz.prog 9 (Go.Value.string { data := #[] }) := ⟨by kernel_rfl⟩
instance tyS10 : StrTy Tryz.prog 10 := ⟨by kernel_rfl⟩
instance tyZ10 : ZeroTy Tryz.prog 10 (Go.Value.string { data := #[] }) := ⟨by kernel_rfl⟩
instance tyS11 : StrTy Tryz.prog 11 := ⟨by kernel_rfl⟩
instance tyZ11 : ZeroTy Tryz.prog 11 (Go.Value.string { data := #[] }) := ⟨by kernel_rfl⟩
instance tyI12 : IntTy Tryz.prog 12 .u64 := ⟨by kernel_rfl⟩
instance tyZ12 : ZeroTy Tryz.prog 12 (Go.Value.int Go.IntKind.u64 0) := ⟨by kernel_rfl⟩
instance tyZ13 : ZeroTy Tryz.prog 13 (Go.Value.agg #[Go.Value.string { data := #[] }, Go.Value.int Go.IntKind.u64 0]) := ⟨by kernel_rfl⟩
instance tyZ14 : ZeroTy Tryz.prog 14 (Go.Value.agg #[Go.Value.string { data := #[] }, Go.Value.int Go.IntKind.u64 0]) := ⟨by kernel_rfl⟩
instance tyZ18 : ZeroTy Tryz.prog 18 (Go.Value.agg #[Go.Value.pointer none]) := ⟨by kernel_rfl⟩
instance tyZ19 : ZeroTy Tryz.prog 19 (Go.Value.agg #[Go.Value.pointer none]) := ⟨by kernel_rfl⟩
instance tyZ20 : ZeroTy Tryz.prog 20 Go.Value.nilIface := ⟨by kernel_rfl⟩
instance tyI21 : IntTy Tryz.prog 21 .i32 := ⟨by kernel_rfl⟩
instance tyZ21 : ZeroTy Tryz.prog 21 (Go.Value.int Go.IntKind.i32 0) := ⟨by kernel_rfl⟩
instance tyZ22 : ZeroTy Tryz.prog 22 (Go.Value.agg #[Go.Value.int Go.IntKind.i64 0, Go.Value.int Go.IntKind.i64 0, Go.Value.int Go.IntKind.i64 0]) := ⟨by kernel_rfl⟩
instance tyZ23 : ZeroTy Tryz.prog 23 (Go.Value.agg #[Go.Value.int Go.IntKind.i64 0, Go.Value.int Go.IntKind.i64 0, Go.Value.int Go.IntKind.i64 0]) := ⟨by kernel_rfl⟩
instance tyR24 : RowTy Tryz.prog 24 42 6 88 := ⟨by kernel_rfl⟩
instance tyZ24 : ZeroTy Tryz.prog 24 (Go.Value.slice none 0 0) := ⟨by kernel_rfl⟩
instance tyZ25 : ZeroTy Tryz.prog 25 (Go.Value.agg #[Go.Value.int Go.IntKind.i64 0, Go.Value.int Go.IntKind.i64 0, Go.Value.int Go.IntKind.i64 0, Go.Value.slice none 0 0]) := ⟨by kernel_rfl⟩
instance tyZ26 : ZeroTy Tryz.prog 26 (Go.Value.agg #[Go.Value.int Go.IntKind.i64 0, Go.Value.int Go.IntKind.i64 0, Go.Value.int Go.IntKind.i64 0, Go.Value.slice none 0 0]) := ⟨by kernel_rfl⟩
instance tyI29 : IntTy Tryz.prog 29 .i64 := ⟨by kernel_rfl⟩
instance tyZ29 : ZeroTy Tryz.prog 29 (Go.Value.int Go.IntKind.i64 0) := ⟨by kernel_rfl⟩
instance tyZ35 : ZeroTy Tryz.prog 35 (Go.Value.agg #[Go.Value.int Go.IntKind.i64 0, Go.Value.int Go.IntKind.i64 0]) := ⟨by kernel_rfl⟩
instance tyZ36 : ZeroTy Tryz.prog 36 (Go.Value.agg #[Go.Value.int Go.IntKind.i64 0, Go.Value.int Go.IntKind.i64 0]) := ⟨by kernel_rfl⟩
instance tyR40 : RowTy Tryz.prog 40 3 1 8 := ⟨by kernel_rfl⟩
instance tyZ40 : ZeroTy Tryz.prog 40 (Go.Value.slice none 0 0) := ⟨by kernel_rfl⟩
instance tyZ41 : ZeroTy Tryz.prog 41 (Go.Value.agg #[Go.Value.string { data := #[] }, Go.Value.slice none 0 0, Go.Value.slice none 0 0, Go.Value.int Go.IntKind.i64 0, Go.Value.int Go.IntKind.i64 0, Go.Value.int Go.IntKind.i64 0]) := ⟨by kernel_rfl⟩
instance tyZ42 : ZeroTy Tryz.prog 42 (Go.Value.agg #[Go.Value.string { data := #[] }, Go.Value.slice none 0 0, Go.Value.slice none 0 0, Go.Value.int Go.IntKind.i64 0, Go.Value.int Go.IntKind.i64 0, Go.Value.int Go.IntKind.i64 0]) := ⟨by kernel_rfl⟩
instance tyZ51 : ZeroTy Tryz.prog 51 (Go.Value.agg #[Go.Value.int Go.IntKind.i64 0, Go.Value.int Go.IntKind.i64 0]) := ⟨by kernel_rfl⟩
instance tyZ52 : ZeroTy Tryz.prog 52 (Go.Value.agg #[Go.Value.int Go.IntKind.i64 0, Go.Value.int Go.IntKind.i64 0]) := ⟨by kernel_rfl⟩
instance tyR56 : RowTy Tryz.prog 56 5 1 1 := ⟨by kernel_rfl⟩
instance tyZ56 : ZeroTy Tryz.prog 56 (Go.Value.slice none 0 0) := ⟨by kernel_rfl⟩
instance tyZ58 : ZeroTy Tryz.prog 58 (Go.Value.agg #[Go.Value.pointer none, Go.Value.slice none 0 0]) := ⟨by kernel_rfl⟩
instance tyZ59 : ZeroTy Tryz.prog 59 (Go.Value.agg #[Go.Value.pointer none, Go.Value.slice none 0 0]) := ⟨by kernel_rfl⟩
instance tyR60 : RowTy Tryz.prog 60 9 1 16 := ⟨by kernel_rfl⟩
instance tyZ60 : ZeroTy Tryz.prog 60 (Go.Value.slice none 0 0) := ⟨by kernel_rfl⟩
instance tyZ62 : ZeroTy Tryz.prog 62 Go.Value.nilIface := ⟨by kernel_rfl⟩
instance tyZ63 : ZeroTy Tryz.prog 63 Go.Value.nilIface := ⟨by kernel_rfl⟩
instance tyR87 : RowTy Tryz.prog 87 118 4 40 := ⟨by kernel_rfl⟩
instance tyZ87 : ZeroTy Tryz.prog 87 (Go.Value.slice none 0 0) := ⟨by kernel_rfl⟩
instance tyZ90 : ZeroTy Tryz.prog 90 (Go.Value.agg #[Go.Value.int Go.IntKind.i64 0, Go.Value.int Go.IntKind.i64 0]) := ⟨by kernel_rfl⟩
instance tyZ91 : ZeroTy Tryz.prog 91 (Go.Value.agg #[Go.Value.int Go.IntKind.i64 0, Go.Value.int Go.IntKind.i64 0]) := ⟨by kernel_rfl⟩
instance tyZ94 : ZeroTy Tryz.prog 94 (Go.Value.agg #[Go.Value.slice none 0 0, Go.Value.int Go.IntKind.i64 0]) := ⟨by kernel_rfl⟩
instance tyZ95 : ZeroTy Tryz.prog 95 (Go.Value.agg #[Go.Value.slice none 0 0, Go.Value.int Go.IntKind.i64 0]) := ⟨by kernel_rfl⟩
instance tyI102 : IntTy Tryz.prog 102 .u64 := ⟨by kernel_rfl⟩
instance tyZ102 : ZeroTy Tryz.prog 102 (Go.Value.int Go.IntKind.u64 0) := ⟨by kernel_rfl⟩
instance tyZ113 : ZeroTy Tryz.prog 113 (Go.Value.agg #[Go.Value.string { data := #[] }, Go.Value.int Go.IntKind.i64 0, Go.Value.int Go.IntKind.i64 0, Go.Value.int Go.IntKind.i64 0]) := ⟨by kernel_rfl⟩
instance tyZ114 : ZeroTy Tryz.prog 114 (Go.Value.agg #[Go.Value.string { data := #[] }, Go.Value.int Go.IntKind.i64 0, Go.Value.int Go.IntKind.i64 0, Go.Value.int Go.IntKind.i64 0]) := ⟨by kernel_rfl⟩
instance tyZ117 : ZeroTy Tryz.prog 117 (Go.Value.agg #[Go.Value.int Go.IntKind.i64 0, Go.Value.string { data := #[] }, Go.Value.int Go.IntKind.i64 0, Go.Value.int Go.IntKind.i64 0]) := ⟨by kernel_rfl⟩
instance tyZ118 : ZeroTy Tryz.prog 118 (Go.Value.agg #[Go.Value.int Go.IntKind.i64 0, Go.Value.string { data := #[] }, Go.Value.int Go.IntKind.i64 0, Go.Value.int Go.IntKind.i64 0]) := ⟨by kernel_rfl⟩
instance tyI130 : IntTy Tryz.prog 130 .u32 := ⟨by kernel_rfl⟩
instance tyZ130 : ZeroTy Tryz.prog 130 (Go.Value.int Go.IntKind.u32 0) := ⟨by kernel_rfl⟩
instance tyI133 : IntTy Tryz.prog 133 .u64 := ⟨by kernel_rfl⟩
instance tyZ133 : ZeroTy Tryz.prog 133 (Go.Value.int Go.IntKind.u64 0) := ⟨by kernel_rfl⟩
instance tyZ146 : ZeroTy Tryz.prog 146 (Go.Value.agg #[Go.Value.string { data := #[] }, Go.Value.pointer none]) := ⟨by kernel_rfl⟩
instance tyR147 : RowTy Tryz.prog 147 146 2 24 := ⟨by kernel_rfl⟩
instance tyZ147 : ZeroTy Tryz.prog 147 (Go.Value.slice none 0 0) := ⟨by kernel_rfl⟩
instance tyZ151 : ZeroTy Tryz.prog 151 (Go.Value.agg #[Go.Value.int Go.IntKind.i64 0, Go.Value.int Go.IntKind.i64 0, Go.Value.int Go.IntKind.i64 0, Go.Value.int Go.IntKind.i64 0, Go.Value.int Go.IntKind.i64 0, Go.Value.int Go.IntKind.i64 0, Go.Value.int Go.IntKind.i64 0, Go.Value.int Go.IntKind.i64 0, Go.Value.int Go.IntKind.i64 0, Go.Value.int Go.IntKind.i64 0, Go.Value.int Go.IntKind.i64 0, Go.Value.int Go.IntKind.i64 0]) := ⟨by kernel_rfl⟩
instance tyZ156 : ZeroTy Tryz.prog 156 (Go.Value.agg #[Go.Value.int Go.IntKind.u8 0, Go.Value.int Go.IntKind.u8 0, Go.Value.int Go.IntKind.u8 0, Go.Value.int Go.IntKind.u8 0, Go.Value.int Go.IntKind.u8 0, Go.Value.int Go.IntKind.u8 0, Go.Value.int Go.IntKind.u8 0, Go.Value.int Go.IntKind.u8 0, Go.Value.int Go.IntKind.u8 0, Go.Value.int Go.IntKind.u8 0, Go.Value.int Go.IntKind.u8 0, Go.Value.int Go.IntKind.u8 0, Go.Value.int Go.IntKind.u8 0, Go.Value.int Go.IntKind.u8 0, Go.Value.int Go.IntKind.u8 0, Go.Value.int Go.IntKind.u8 0, Go.Value.int Go.IntKind.u8 0, Go.Value.int Go.IntKind.u8 0, Go.Value.int Go.IntKind.u8 0, Go.Value.int Go.IntKind.u8 0, Go.Value.int Go.IntKind.u8 0, Go.Value.int Go.IntKind.u8 0, Go.Value.int Go.IntKind.u8 0, Go.Value.int Go.IntKind.u8 0]) := ⟨by kernel_rfl⟩
instance tyZ164 : ZeroTy Tryz.prog 164 (Go.Value.agg (([Go.Value.int Go.IntKind.u8 0, Go.Value.int Go.IntKind.u8 0, Go.Value.int Go.IntKind.u8 0, Go.Value.int Go.IntKind.u8 0, Go.Value.int Go.IntKind.u8 0, Go.Value.int Go.IntKind.u8 0, Go.Value.int Go.IntKind.u8 0, Go.Value.int Go.IntKind.u8 0, Go.Value.int Go.IntKind.u8 0, Go.Value.int Go.IntKind.u8 0, Go.Value.int Go.IntKind.u8 0, Go.Value.int Go.IntKind.u8 0, Go.Value.int Go.IntKind.u8 0, Go.Value.int Go.IntKind.u8 0, Go.Value.int Go.IntKind.u8 0, Go.Value.int Go.IntKind.u8 0, Go.Value.int Go.IntKind.u8 0, Go.Value.int Go.IntKind.u8 0, Go.Value.int Go.IntKind.u8 0, Go.Value.int Go.IntKind.u8 0, Go.Value.int Go.IntKind.u8 0, Go.Value.int Go.IntKind.u8 0, Go.Value.int Go.IntKind.u8 0, Go.Value.int Go.IntKind.u8 0, Go.Value.int Go.IntKind.u8 0, Go.Value.int Go.IntKind.u8 0, Go.Value.int Go.IntKind.u8 0, Go.Value.int Go.IntKind.u8 0, Go.Value.int Go.IntKind.u8 0, Go.Value.int Go.IntKind.u8 0, Go.Value.int Go.IntKind.u8 0, Go.Value.int Go.IntKind.u8 0, Go.Value.int Go.IntKind.u8 0, Go.Value.int Go.IntKind.u8 0, Go.Value.int Go.IntKind.u8 0, Go.Value.int Go.IntKind.u8 0, Go.Value.int Go.IntKind.u8 0, Go.Value.int Go.IntKind.u8 0, Go.Value.int Go.IntKind.u8 0, Go.Value.int Go.IntKind.u8 0, Go.Value.int Go.IntKind.u8 0, Go.Value.int Go.IntKind.u8 0, Go.Value.int Go.IntKind.u8 0, Go.Value.int Go.IntKind.u8 0, Go.Value.int Go.IntKind.u8 0, Go.Value.int Go.IntKind.u8 0, Go.Value.int Go.IntKind.u8 0, Go.Value.int Go.IntKind.u8 0, Go.Value.int Go.IntKind.u8 0, Go.Value.int Go.IntKind.u8 0, Go.Value.int Go.IntKind.u8 0, Go.Value.int Go.IntKind.u8 0, Go.Value.int Go.IntKind.u8 0, Go.Value.int Go.IntKind.u8 0, Go.Value.int Go.IntKind.u8 0, Go.Value.int Go.IntKind.u8 0, Go.Value.int Go.IntKind.u8 0, Go.Value.int Go.IntKind.u8 0, Go.Value.int Go.IntKind.u8 0, Go.Value.int Go.IntKind.u8 0, Go.Value.int Go.IntKind.u8 0, Go.Value.int Go.IntKind.u8 0, Go.Value.int Go.IntKind.u8 0, Go.Value.int Go.IntKind.u8 0].append [Go.Value.int Go.IntKind.u8 0, Go.Value.int Go.IntKind.u8 0, Go.Value.int Go.IntKind.u8 0, Go.Value.int Go.IntKind.u8 0, Go.Value.int Go.IntKind.u8 0, Go.Value.int Go.IntKind.u8 0, Go.Value.int Go.IntKind.u8 0, Go.Value.int Go.IntKind.u8 0, Go.Value.int Go.IntKind.u8 0, Go.Value.int Go.IntKind.u8 0, Go.Value.int Go.IntKind.u8 0, Go.Value.int Go.IntKind.u8 0, Go.Value.int Go.IntKind.u8 0, Go.Value.int Go.IntKind.u8 0, Go.Value.int Go.IntKind.u8 0, Go.Value.int Go.IntKind.u8 0, Go.Value.int Go.IntKind.u8 0, Go.Value.int Go.IntKind.u8 0, Go.Value.int Go.IntKind.u8 0, Go.Value.int Go.IntKind.u8 0, Go.Value.int Go.IntKind.u8 0, Go.Value.int Go.IntKind.u8 0, Go.Value.int Go.IntKind.u8 0, Go.Value.int Go.IntKind.u8 0, Go.Value.int Go.IntKind.u8 0, Go.Value.int Go.IntKind.u8 0, Go.Value.int Go.IntKind.u8 0, Go.Value.int Go.IntKind.u8 0, Go.Value.int Go.IntKind.u8 0, Go.Value.int Go.IntKind.u8 0, Go.Value.int Go.IntKind.u8 0, Go.Value.int Go.IntKind.u8 0, Go.Value.int Go.IntKind.u8 0, Go.Value.int Go.IntKind.u8 0, Go.Value.int Go.IntKind.u8 0, Go.Value.int Go.IntKind.u8 0, Go.Value.int Go.IntKind.u8 0, Go.Value.int Go.IntKind.u8 0, Go.Value.int Go.IntKind.u8 0, Go.Value.int Go.IntKind.u8 0, Go.Value.int Go.IntKind.u8 0, Go.Value.int Go.IntKind.u8 0, Go.Value.int Go.IntKind.u8 0, Go.Value.int Go.IntKind.u8 0, Go.Value.int Go.IntKind.u8 0, Go.Value.int Go.IntKind.u8 0, Go.Value.int Go.IntKind.u8 0, Go.Value.int Go.IntKind.u8 0, Go.Value.int Go.IntKind.u8 0, Go.Value.int Go.IntKind.u8 0, Go.Value.int Go.IntKind.u8 0, Go.Value.int Go.IntKind.u8 0, Go.Value.int Go.IntKind.u8 0, Go.Value.int Go.IntKind.u8 0, Go.Value.int Go.IntKind.u8 0, Go.Value.int Go.IntKind.u8 0, Go.Value.int Go.IntKind.u8 0, Go.Value.int Go.IntKind.u8 0, Go.Value.int Go.IntKind.u8 0, Go.Value.int Go.IntKind.u8 0, Go.Value.int Go.IntKind.u8 0, Go.Value.int Go.IntKind.u8 0, Go.Value.int Go.IntKind.u8 0, Go.Value.int Go.IntKind.u8 0]).append ([Go.Value.int Go.IntKind.u8 0, Go.Value.int Go.IntKind.u8 0, Go.Value.int Go.IntKind.u8 0, Go.Value.int Go.IntKind.u8 0, Go.Value.int Go.IntKind.u8 0, Go.Value.int Go.IntKind.u8 0, Go.Value.int Go.IntKind.u8 0, Go.Value.int Go.IntKind.u8 0, Go.Value.int Go.IntKind.u8 0, Go.Value.int Go.IntKind.u8 0, Go.Value.int Go.IntKind.u8 0, Go.Value.int Go.IntKind.u8 0, Go.Value.int Go.IntKind.u8 0, Go.Value.int Go.IntKind.u8 0, Go.Value.int Go.IntKind.u8 0, Go.Value.int Go.IntKind.u8 0, Go.Value.int Go.IntKind.u8 0, Go.Value.int Go.IntKind.u8 0, Go.Value.int Go.IntKind.u8 0, Go.Value.int Go.IntKind.u8 0, Go.Value.int Go.IntKind.u8 0, Go.Value.int Go.IntKind.u8 0, Go.Value.int Go.IntKind.u8 0, Go.Value.int Go.IntKind.u8 0, Go.Value.int Go.IntKind.u8 0, Go.Value.int Go.IntKind.u8 0, Go.Value.int Go.IntKind.u8 0, Go.Value.int Go.IntKind.u8 0, Go.Value.int Go.IntKind.u8 0, Go.Value.int Go.IntKind.u8 0, Go.Value.int Go.IntKind.u8 0, Go.Value.int Go.IntKind.u8 0, Go.Value.int Go.IntKind.u8 0, Go.Value.int Go.IntKind.u8 0, Go.Value.int Go.IntKind.u8 0, Go.Value.int Go.IntKind.u8 0, Go.Value.int Go.IntKind.u8 0, Go.Value.int Go.IntKind.u8 0, Go.Value.int Go.IntKind.u8 0, Go.Value.int Go.IntKind.u8 0, Go.Value.int Go.IntKind.u8 0, Go.Value.int Go.IntKind.u8 0, Go.Value.int Go.IntKind.u8 0, Go.Value.int Go.IntKind.u8 0, Go.Value.int Go.IntKind.u8 0, Go.Value.int Go.IntKind.u8 0, Go.Value.int Go.IntKind.u8 0, Go.Value.int Go.IntKind.u8 0, Go.Value.int Go.IntKind.u8 0, Go.Value.int Go.IntKind.u8 0, Go.Value.int Go.IntKind.u8 0, Go.Value.int Go.IntKind.u8 0, Go.Value.int Go.IntKind.u8 0, Go.Value.int Go.IntKind.u8 0, Go.Value.int Go.IntKind.u8 0, Go.Value.int Go.IntKind.u8 0, Go.Value.int Go.IntKind.u8 0, Go.Value.int Go.IntKind.u8 0, Go.Value.int Go.IntKind.u8 0, Go.Value.int Go.IntKind.u8 0, Go.Value.int Go.IntKind.u8 0, Go.Value.int Go.IntKind.u8 0, Go.Value.int Go.IntKind.u8 0, Go.Value.int Go.IntKind.u8 0].append [Go.Value.int Go.IntKind.u8 0, Go.Value.int Go.IntKind.u8 0, Go.Value.int Go.IntKind.u8 0, Go.Value.int Go.IntKind.u8 0, Go.Value.int Go.IntKind.u8 0, Go.Value.int Go.IntKind.u8 0, Go.Value.int Go.IntKind.u8 0, Go.Value.int Go.IntKind.u8 0, Go.Value.int Go.IntKind.u8 0, Go.Value.int Go.IntKind.u8 0, Go.Value.int Go.IntKind.u8 0, Go.Value.int Go.IntKind.u8 0, Go.Value.int Go.IntKind.u8 0, Go.Value.int Go.IntKind.u8 0, Go.Value.int Go.IntKind.u8 0, Go.Value.int Go.IntKind.u8 0, Go.Value.int Go.IntKind.u8 0, Go.Value.int Go.IntKind.u8 0, Go.Value.int Go.IntKind.u8 0, Go.Value.int Go.IntKind.u8 0, Go.Value.int Go.IntKind.u8 0, Go.Value.int Go.IntKind.u8 0, Go.Value.int Go.IntKind.u8 0, Go.Value.int Go.IntKind.u8 0, Go.Value.int Go.IntKind.u8 0, Go.Value.int Go.IntKind.u8 0, Go.Value.int Go.IntKind.u8 0, Go.Value.int Go.IntKind.u8 0, Go.Value.int Go.IntKind.u8 0, Go.Value.int Go.IntKind.u8 0, Go.Value.int Go.IntKind.u8 0, Go.Value.int Go.IntKind.u8 0, Go.Value.int Go.IntKind.u8 0, Go.Value.int Go.IntKind.u8 0, Go.Value.int Go.IntKind.u8 0, Go.Value.int Go.IntKind.u8 0, Go.Value.int Go.IntKind.u8 0, Go.Value.int Go.IntKind.u8 0, Go.Value.int Go.IntKind.u8 0, Go.Value.int Go.IntKind.u8 0, Go.Value.int Go.IntKind.u8 0, Go.Value.int Go.IntKind.u8 0, Go.Value.int Go.IntKind.u8 0, Go.Value.int Go.IntKind.u8 0, Go.Value.int Go.IntKind.u8 0, Go.Value.int Go.IntKind.u8 0, Go.Value.int Go.IntKind.u8 0, Go.Value.int Go.IntKind.u8 0, Go.Value.int Go.IntKind.u8 0, Go.Value.int Go.IntKind.u8 0, Go.Value.int Go.IntKind.u8 0, Go.Value.int Go.IntKind.u8 0, Go.Value.int Go.IntKind.u8 0, Go.Value.int Go.IntKind.u8 0, Go.Value.int Go.IntKind.u8 0, Go.Value.int Go.IntKind.u8 0, Go.Value.int Go.IntKind.u8 0, Go.Value.int Go.IntKind.u8 0, Go.Value.int Go.IntKind.u8 0, Go.Value.int Go.IntKind.u8 0, Go.Value.int Go.IntKind.u8 0, Go.Value.int Go.IntKind.u8 0, Go.Value.int Go.IntKind.u8 0, Go.Value.int Go.IntKind.u8 0])).toArray) := ⟨by kernel_rfl⟩
instance tyZ165 : ZeroTy Tryz.prog 165 (Go.Value.agg #[Go.Value.int Go.IntKind.u8 0, Go.Value.int Go.IntKind.u8 0]) := ⟨by kernel_rfl⟩
instance tyZ166 : ZeroTy Tryz.prog 166 (Go.Value.agg #[Go.Value.int Go.IntKind.u8 0, Go.Value.int Go.IntKind.u8 0]) := ⟨by kernel_rfl⟩
instance tyZ167 : ZeroTy Tryz.prog 167 (Go.Value.agg #[Go.Value.int Go.IntKind.u8 0, Go.Value.int Go.IntKind.u8 0, Go.Value.int Go.IntKind.u8 0, Go.Value.int Go.IntKind.u8 0, Go.Value.int Go.IntKind.u8 0, Go.Value.int Go.IntKind.u8 0, Go.Value.int Go.IntKind.u8 0, Go.Value.int Go.IntKind.u8 0, Go.Value.int Go.IntKind.u8 0, Go.Value.int Go.IntKind.u8 0, Go.Value.int Go.IntKind.u8 0, Go.Value.int Go.IntKind.u8 0, Go.Value.int Go.IntKind.u8 0, Go.Value.int Go.IntKind.u8 0, Go.Value.int Go.IntKind.u8 0, Go.Value.int Go.IntKind.u8 0, Go.Value.int Go.IntKind.u8 0, Go.Value.int Go.IntKind.u8 0, Go.Value.int Go.IntKind.u8 0, Go.Value.int Go.IntKind.u8 0, Go.Value.int Go.IntKind.u8 0, Go.Value.int Go.IntKind.u8 0, Go.Value.int Go.IntKind.u8 0, Go.Value.int Go.IntKind.u8 0, Go.Value.int Go.IntKind.u8 0, Go.Value.int Go.IntKind.u8 0, Go.Value.int Go.IntKind.u8 0, Go.Value.int Go.IntKind.u8 0, Go.Value.int Go.IntKind.u8 0, Go.Value.int Go.IntKind.u8 0, Go.Value.int Go.IntKind.u8 0, Go.Value.int Go.IntKind.u8 0]) := ⟨by kernel_rfl⟩
instance tyZ169 : ZeroTy Tryz.prog 169 (Go.Value.agg #[Go.Value.int Go.IntKind.u64 0, Go.Value.int Go.IntKind.u64 0, Go.Value.int Go.IntKind.u64 0, Go.Value.int Go.IntKind.u64 0, Go.Value.int Go.IntKind.u64 0, Go.Value.int Go.IntKind.u64 0, Go.Value.int Go.IntKind.u64 0, Go.Value.int Go.IntKind.u64 0, Go.Value.int Go.IntKind.u64 0, Go.Value.int Go.IntKind.u64 0, Go.Value.int Go.IntKind.u64 0, Go.Value.int Go.IntKind.u64 0, Go.Value.int Go.IntKind.u64 0, Go.Value.int Go.IntKind.u64 0, Go.Value.int Go.IntKind.u64 0, Go.Value.int Go.IntKind.u64 0, Go.Value.int Go.IntKind.u64 0, Go.Value.int Go.IntKind.u64 0, Go.Value.int Go.IntKind.u64 0, Go.Value.int Go.IntKind.u64 0]) := ⟨by kernel_rfl⟩
instance tyZ170 : ZeroTy Tryz.prog 170 (Go.Value.agg ([Go.Value.int Go.IntKind.u8 0, Go.Value.int Go.IntKind.u8 0, Go.Value.int Go.IntKind.u8 0, Go.Value.int Go.IntKind.u8 0, Go.Value.int Go.IntKind.u8 0, Go.Value.int Go.IntKind.u8 0, Go.Value.int Go.IntKind.u8 0, Go.Value.int Go.IntKind.u8 0, Go.Value.int Go.IntKind.u8 0, Go.Value.int Go.IntKind.u8 0, Go.Value.int Go.IntKind.u8 0, Go.Value.int Go.IntKind.u8 0, Go.Value.int Go.IntKind.u8 0, Go.Value.int Go.IntKind.u8 0, Go.Value.int Go.IntKind.u8 0, Go.Value.int Go.IntKind.u8 0, Go.Value.int Go.IntKind.u8 0, Go.Value.int Go.IntKind.u8 0, Go.Value.int Go.IntKind.u8 0, Go.Value.int Go.IntKind.u8 0, Go.Value.int Go.IntKind.u8 0, Go.Value.int Go.IntKind.u8 0, Go.Value.int Go.IntKind.u8 0, Go.Value.int Go.IntKind.u8 0, Go.Value.int Go.IntKind.u8 0, Go.Value.int Go.IntKind.u8 0, Go.Value.int Go.IntKind.u8 0, Go.Value.int Go.IntKind.u8 0, Go.Value.int Go.IntKind.u8 0, Go.Value.int Go.IntKind.u8 0, Go.Value.int Go.IntKind.u8 0, Go.Value.int Go.IntKind.u8 0].append [Go.Value.int Go.IntKind.u8 0, Go.Value.int Go.IntKind.u8 0, Go.Value.int Go.IntKind.u8 0, Go.Value.int Go.IntKind.u8 0, Go.Value.int Go.IntKind.u8 0, Go.Value.int Go.IntKind.u8 0, Go.Value.int Go.IntKind.u8 0, Go.Value.int Go.IntKind.u8 0, Go.Value.int Go.IntKind.u8 0, Go.Value.int Go.IntKind.u8 0, Go.Value.int Go.IntKind.u8 0, Go.Value.int Go.IntKind.u8 0, Go.Value.int Go.IntKind.u8 0, Go.Value.int Go.IntKind.u8 0, Go.Value.int Go.IntKind.u8 0, Go.Value.int Go.IntKind.u8 0, Go.Value.int Go.IntKind.u8 0, Go.Value.int Go.IntKind.u8 0, Go.Value.int Go.IntKind.u8 0, Go.Value.int Go.IntKind.u8 0, Go.Value.int Go.IntKind.u8 0, Go.Value.int Go.IntKind.u8 0, Go.Value.int Go.IntKind.u8 0, Go.Value.int Go.IntKind.u8 0, Go.Value.int Go.IntKind.u8 0, Go.Value.int Go.IntKind.u8 0, Go.Value.int Go.IntKind.u8 0, Go.Value.int Go.IntKind.u8 0, Go.Value.int Go.IntKind.u8 0, Go.Value.int Go.IntKind.u8 0, Go.Value.int Go.IntKind.u8 0, Go.Value.int Go.IntKind.u8 0, Go.Value.int Go.IntKind.u8 0]).toArray) := ⟨by kernel_rfl⟩
instance tyI172 : IntTy Tryz.prog 172 .i64 := ⟨by kernel_rfl⟩
instance tyZ172 : ZeroTy Tryz.prog 172 (Go.Value.int Go.IntKind.i64 0) := ⟨by kernel_rfl⟩
instance tyZ183 : ZeroTy Tryz.prog 183 (Go.Value.agg #[Go.Value.string { data := #[] }, Go.Value.string { data := #[] }, Go.Value.nilIface]) := ⟨by kernel_rfl⟩
instance tyZ184 : ZeroTy Tryz.prog 184 (Go.Value.agg #[Go.Value.string { data := #[] }, Go.Value.string { data := #[] }, Go.Value.nilIface]) := ⟨by kernel_rfl⟩
instance tyZ186 : ZeroTy Tryz.prog 186 (Go.Value.agg #[Go.Value.int Go.IntKind.u8 0, Go.Value.int Go.IntKind.u8 0, Go.Value.int Go.IntKind.u8 0, Go.Value.int Go.IntKind.u8 0, Go.Value.int Go.IntKind.u8 0, Go.Value.int Go.IntKind.u8 0, Go.Value.int Go.IntKind.u8 0, Go.Value.int Go.IntKind.u8 0, Go.Value.int Go.IntKind.u8 0, Go.Value.int Go.IntKind.u8 0, Go.Value.int Go.IntKind.u8 0, Go.Value.int Go.IntKind.u8 0, Go.Value.int Go.IntKind.u8 0, Go.Value.int Go.IntKind.u8 0, Go.Value.int Go.IntKind.u8 0, Go.Value.int Go.IntKind.u8 0, Go.Value.int Go.IntKind.u8 0, Go.Value.int Go.IntKind.u8 0, Go.Value.int Go.IntKind.u8 0, Go.Value.int Go.IntKind.u8 0, Go.Value.int Go.IntKind.u8 0, Go.Value.int Go.IntKind.u8 0, Go.Value.int Go.IntKind.u8 0, Go.Value.int Go.IntKind.u8 0, Go.Value.int Go.IntKind.u8 0, Go.Value.int Go.IntKind.u8 0, Go.Value.int Go.IntKind.u8 0, Go.Value.int Go.IntKind.u8 0, Go.Value.int Go.IntKind.u8 0, Go.Value.int Go.IntKind.u8 0, Go.Value.int Go.IntKind.u8 0, Go.Value.int Go.IntKind.u8 0]) := ⟨by kernel_rfl⟩
instance tyZ187 : ZeroTy Tryz.prog 187 (Go.Value.agg #[Go.Value.int Go.IntKind.u8 0, Go.Value.int Go.IntKind.u8 0, Go.Value.int Go.IntKind.u8 0, Go.Value.int Go.IntKind.u8 0, Go.Value.int Go.IntKind.u8 0, Go.Value.int Go.IntKind.u8 0, Go.Value.int Go.IntKind.u8 0, Go.Value.int Go.IntKind.u8 0, Go.Value.int Go.IntKind.u8 0, Go.Value.int Go.IntKind.u8 0, Go.Value.int Go.IntKind.u8 0, Go.Value.int Go.IntKind.u8 0, Go.Value.int Go.IntKind.u8 0, Go.Value.int Go.IntKind.u8 0, Go.Value.int Go.IntKind.u8 0, Go.Value.int Go.IntKind.u8 0, Go.Value.int Go.IntKind.u8 0, Go.Value.int Go.IntKind.u8 0, Go.Value.int Go.IntKind.u8 0, Go.Value.int Go.IntKind.u8 0, Go.Value.int Go.IntKind.u8 0, Go.Value.int Go.IntKind.u8 0, Go.Value.int Go.IntKind.u8 0, Go.Value.int Go.IntKind.u8 0, Go.Value.int Go.IntKind.u8 0, Go.Value.int Go.IntKind.u8 0, Go.Value.int Go.IntKind.u8 0, Go.Value.int Go.IntKind.u8 0, Go.Value.int Go.IntKind.u8 0, Go.Value.int Go.IntKind.u8 0, Go.Value.int Go.IntKind.u8 0, Go.Value.int Go.IntKind.u8 0, Go.Value.int Go.IntKind.u8 0, Go.Value.int Go.IntKind.u8 0, Go.Value.int Go.IntKind.u8 0, Go.Value.int Go.IntKind.u8 0, Go.Value.int Go.IntKind.u8 0, Go.Value.int Go.IntKind.u8 0, Go.Value.int Go.IntKind.u8 0, Go.Value.int Go.IntKind.u8 0, Go.Value.int Go.IntKind.u8 0, Go.Value.int Go.IntKind.u8 0, Go.Value.int Go.IntKind.u8 0, Go.Value.int Go.IntKind.u8 0, Go.Value.int Go.IntKind.u8 0, Go.Value.int Go.IntKind.u8 0, Go.Value.int Go.IntKind.u8 0, Go.Value.int Go.IntKind.u8 0, Go.Value.int Go.IntKind.u8 0, Go.Value.int Go.IntKind.u8 0, Go.Value.int Go.IntKind.u8 0, Go.Value.int Go.IntKind.u8 0, Go.Value.int Go.IntKind.u8 0, Go.Value.int Go.IntKind.u8 0, Go.Value.int Go.IntKind.u8 0, Go.Value.int Go.IntKind.u8 0, Go.Value.int Go.IntKind.u8 0, Go.Value.int Go.IntKind.u8 0, Go.Value.int Go.IntKind.u8 0, Go.Value.int Go.IntKind.u8 0, Go.Value.int Go.IntKind.u8 0, Go.Value.int Go.IntKind.u8 0, Go.Value.int Go.IntKind.u8 0, Go.Value.int Go.IntKind.u8 0]) := ⟨by kernel_rfl⟩
instance tyZ190 : ZeroTy Tryz.prog 190 (Go.Value.agg #[Go.Value.string { data := #[] }]) := ⟨by kernel_rfl⟩
instance tyZ191 : ZeroTy Tryz.prog 191 (Go.Value.agg #[Go.Value.string { data := #[] }]) := ⟨by kernel_rfl⟩
instance tyZ192 : ZeroTy Tryz.prog 192 (Go.Value.agg #[Go.Value.pointer none, Go.Value.pointer none, Go.Value.pointer none, Go.Value.string { data := #[] }]) := ⟨by kernel_rfl⟩
instance tyZ193 : ZeroTy Tryz.prog 193 (Go.Value.agg #[Go.Value.pointer none, Go.Value.pointer none, Go.Value.pointer none, Go.Value.string { data := #[] }]) := ⟨by kernel_rfl⟩
instance tyI197 : IntTy Tryz.prog 197 .u8 := ⟨by kernel_rfl⟩
instance tyZ197 : ZeroTy Tryz.prog 197 (Go.Value.int Go.IntKind.u8 0) := ⟨by kernel_rfl⟩
instance tyI198 : IntTy Tryz.prog 198 .u8 := ⟨by kernel_rfl⟩
instance tyZ198 : ZeroTy Tryz.prog 198 (Go.Value.int Go.IntKind.u8 0) := ⟨by kernel_rfl⟩
instance tyI200 : IntTy Tryz.prog 200 .i32 := ⟨by kernel_rfl⟩
instance tyZ200 : ZeroTy Tryz.prog 200 (Go.Value.int Go.IntKind.i32 0) := ⟨by kernel_rfl⟩
instance tyI201 : IntTy Tryz.prog 201 .i32 := ⟨by kernel_rfl⟩
instance tyZ201 : ZeroTy Tryz.prog 201 (Go.Value.int Go.IntKind.i32 0) := ⟨by kernel_rfl⟩
instance tyZ202 : ZeroTy Tryz.prog 202 (Go.Value.agg #[Go.Value.int Go.IntKind.u64 0, Go.Value.int Go.IntKind.u64 0, Go.Value.int Go.IntKind.u32 0, Go.Value.int Go.IntKind.u8 0, Go.Value.int Go.IntKind.u8 0, Go.Value.int Go.IntKind.u8 0, Go.Value.int Go.IntKind.u8 0, Go.Value.nilFunc, Go.Value.pointer none, Go.Value.int Go.IntKind.i32 0, Go.Value.int Go.IntKind.i32 0]) := ⟨by kernel_rfl⟩
end Go.Proofs.YtpekkcahehhkmaaGreatDoor
/- Strings, as lists of bytes: the operations that read them. -/
set_option linter.unusedVariables false
set_option maxHeartbeats 4000000
namespace Go.Proofs.YtpekkcahehhkmaaGreatDoor
open Go.RowKit

abbrev strV (l : List UInt8) : Value := .string ⟨l.toArray⟩
theorem size_str (l : List UInt8) : (ByteArray.mk l.toArray).size = l.length := List.size_toArray
theorem beq_dec (a b : List UInt8) : (a == b) = decide (a = b) := by
  by_cases h : a = b
  · subst h; simp
  · rw [decide_eq_false h, beq_eq_false_iff_ne]; exact h
section
variable {P : Program} {n : Nat} {L : FL} {w0 : World} {H : List Hl} {d : Option Tmp} {ty : TypeId} {pos : String} {af : Array Edge} {g : Option (Nat × Bool)} {x y z : Operand} {t t' : TypeId} {k k' : IntKind} {m m' : Int} {l l' : List UInt8}
theorem y_lenS (hx : evO L x = some (strV l)) (ht : P.underlying t = some .string) : V P n L w0 H ⟨d, .call { callee := .builtin .len, args := #[x], argTypes := #[t] }, ty, pos, af, g⟩ (.int .i64 l.length) := by
  unfold V
  intro a w ha hw
  simp [execOp, resolve, invoke, builtin, ha.eval hx, run_len_string _ _ _ _ ht, goInt]
  rw [size_str]
theorem y_indexS (hx : evO L x = some (strV l)) (hy : evO L y = some (.int k m)) (ht : P.underlying t = some .string) (hm : 0 ≤ m ∧ m < l.length) : V P n L w0 H ⟨d, .index t x y, ty, pos, af, g⟩ (.int .u8 (nth l m).toNat) := by
  unfold V
  intro a w ha hw
  have h1 : 0 ≤ m ∧ m < ((ByteArray.mk l.toArray).size : Int) := by rw [size_str]; exact hm
  have h2 := run_index_string (P := P) w t ⟨l.toArray⟩ k m ht
  rw [dif_pos h1] at h2
  have h3 : (ByteArray.mk l.toArray)[m.toNat]'(by omega) = nth l m := by
    have e := nth_some hm.1 hm.2
    rw [List.getElem?_eq_getElem (by omega)] at e
    exact Option.some.inj e
  rw [h3] at h2
  simp [execOp, ha.eval hx, ha.eval hy, h2]
theorem y_sliceSLH (hx : evO L x = some (strV l)) (hy : evO L y = some (.int k m)) (hz : evO L z = some (.int k' m')) (ht : P.underlying t = some .string) (hm : 0 ≤ m ∧ m ≤ m' ∧ m' ≤ l.length) : V P n L w0 H ⟨d, .slice t x (some y) (some z) none, ty, pos, af, g⟩ (strV ((l.drop m.toNat).take (m'.toNat - m.toNat))) := by
  unfold V
  intro a w ha hw
  have h2 := run_slice_string (P := P) w t ⟨l.toArray⟩ k k' m m' ht hm.1 hm.2.1 (by rw [size_str]; exact hm.2.2)
  rw [ByteArray.extract_mk] at h2
  simp [execOp, ha.eval hx, ha.eval hy, ha.eval hz, Instr.sliceAt, run_underlying ht, h2]
theorem y_sliceSL (hx : evO L x = some (strV l)) (hy : evO L y = some (.int k m)) (ht : P.underlying t = some .string) (hm : 0 ≤ m ∧ m ≤ l.length) : V P n L w0 H ⟨d, .slice t x (some y) none none, ty, pos, af, g⟩ (strV (l.drop m.toNat)) := by
  unfold V
  intro a w ha hw
  have h2 := run_slice_string_from_if (P := P) w t ⟨l.toArray⟩ k m ht
  rw [if_pos (by rw [size_str]; exact hm), ByteArray.extract_mk, size_str, List.take_of_length_le (by simp)] at h2
  simp [execOp, ha.eval hx, ha.eval hy, Instr.sliceAt, run_underlying ht, h2]
theorem y_sliceSH (hx : evO L x = some (strV l)) (hy : evO L y = some (.int k m)) (ht : P.underlying t = some .string) (hm : 0 ≤ m ∧ m ≤ l.length) : V P n L w0 H ⟨d, .slice t x none (some y) none, ty, pos, af, g⟩ (strV (l.take m.toNat)) := by
  unfold V
  intro a w ha hw
  have h2 := run_slice_string_to_if (P := P) w t ⟨l.toArray⟩ k m ht
  rw [if_pos (by rw [size_str]; exact hm), ByteArray.extract_mk, List.drop_zero, Nat.sub_zero] at h2
  simp [execOp, ha.eval hx, ha.eval hy, Instr.sliceAt, run_underlying ht, h2]
theorem y_catS (hx : evO L x = some (strV l)) (hy : evO L y = some (strV l')) (hb : (l.length : Int) + l'.length ≤ 9223372036854775807) : V P n L w0 H ⟨d, .binOp .add t x y t', ty, pos, af, g⟩ (strV (l ++ l')) := by
  unfold V
  intro a w ha hw
  have h2 := run_string_add_sum (P := P) w ⟨l.toArray⟩ ⟨l'.toArray⟩ (by rw [size_str, size_str]; omega)
  rw [ByteArray.mk_append_mk] at h2
  simp [execOp, ha.eval hx, ha.eval hy, eqGuard, binOp_string_add, h2]
theorem y_eqS (hx : evO L x = some (strV l)) (hy : evO L y = some (strV l')) : V P n L w0 H ⟨d, .binOp .eql t x y t', ty, pos, af, g⟩ (.bool (decide (l = l'))) := by
  unfold V
  intro a w ha hw
  simp [execOp, ha.eval hx, ha.eval hy, eqGuard, binOp_string_eql, beq_dec]
theorem y_neS (hx : evO L x = some (strV l)) (hy : evO L y = some (strV l')) : V P n L w0 H ⟨d, .binOp .neq t x y t', ty, pos, af, g⟩ (.bool (!decide (l = l'))) := by
  unfold V
  intro a w ha hw
  simp [execOp, ha.eval hx, ha.eval hy, eqGuard, binOp_string_neq, beq_dec]
theorem vStr {o : Oper} {v : Value} (h : V P n L w0 H o v := by
  first
    | (apply y_lenS; rfl; exact StrTy.is; done)
    | (apply y_indexS; rfl; rfl; exact StrTy.is; exact omlA; done)
    | (apply y_sliceSLH; rfl; rfl; rfl; exact StrTy.is; exact omlA; done)
    | (apply y_sliceSL; rfl; rfl; exact StrTy.is; exact omlA; done)
    | (apply y_sliceSH; rfl; rfl; exact StrTy.is; exact omlA; done)
    | (apply y_catS; rfl; rfl; exact omlA; done)
    | (apply y_eqS; rfl; rfl; done)
    | (apply y_neS; rfl; rfl; done)) : V P n L w0 H o v := h
theorem nxVS {p q : Prop} (h : q) (s : q → p := by intro h; first | (show YK _ _ _ _ _ _ _; exact YK.ofV vStr h) | (show VK _ _ _ _ _ _ _; exact VK.mk vStr h)) : p := s h
theorem nxGS {p q : Prop} (h : q) (s : q → p := by intro h; first | (show YG _ _ _ _ _ _ _ _; exact YG.mk (fun hb => by (try (have hc := And.left hb; have hb := And.right hb; rw [hc])); (try rw [hb]); exact V.y vStr) h) | (show VG _ _ _ _ _ _ _ _; exact VG.mk (fun hb => by (try (have hc := And.left hb; have hb := And.right hb; rw [hc])); (try rw [hb]); exact vStr) h)) : p := s h
end
end Go.Proofs.YtpekkcahehhkmaaGreatDoor
/- What the library's variables hold, as the rows list it; that it stays. -/
set_option linter.unusedVariables false
set_option maxHeartbeats 4000000
namespace Go.Proofs.YtpekkcahehhkmaaGreatDoor
open Go.RowKit

theorem var_keep {P : Program} {w w' : World} {nm : String} {cs : Array Value} (h : w.var? P nm = some cs) (hb : Below w.heap.size w w') : w'.var? P nm = some cs := by
  unfold World.var? at h ⊢
  cases hg : P.globalNamed nm with
  | none => simp [hg] at h
  | some g =>
    simp only [hg, Option.bind_some] at h ⊢
    have hlt : g < w.heap.size := by
      rcases Nat.lt_or_ge g w.heap.size with h' | h'
      · exact h'
      · simp [Array.getElem?_eq_none h'] at h
    rw [hb.block g hlt]
    exact h
theorem laid_get {P : Program} {w : World} {nm : String} {d : DataW Unit} : ∀ {l : List (String × DataW Unit)} {ps : List MemPlace}, DataW.LaidVars P w l ps → (nm, d) ∈ l →
    ∃ g t cs fuel p, P.globalNamed nm = some g ∧ (P.globals[g]?).map (·.type) = some t ∧ w.var? P nm = some cs ∧ DataW.trod (fun _ => ()) P w 0 (fun _ => true) false fuel t cs.toList = some (d, p)
  | [], _, _, hm => by cases hm
  | (n', d') :: r, ps, h, hm => by
    obtain ⟨g, t, cs, fuel, p, q, h1, h2, h3, h4, h5, _⟩ := h
    rcases List.mem_cons.1 hm with e | hm
    · cases e
      exact ⟨g, t, cs, fuel, p, h1, h2, h3, h4⟩
    · exact laid_get h5 hm
/-- What the walks lean on. -/
structure Laid (w : World) : Prop where
  tab : Lib.TabIs Tryz.prog w "internal/strconv.uint64pow10" .u64 Lib.pow10Tab
  syn : ∃ tp p, w.var? Tryz.prog "strconv.ErrSyntax" = some #[.iface tp p]
  rng : ∃ tp p, w.var? Tryz.prog "strconv.ErrRange" = some #[.iface tp p]
  max : ∃ m, w.cell? ⟨0, 0, none⟩ = some (.int .i64 m)
theorem Laid.keep {w w' : World} (h : Laid w) (hb : Below w.heap.size w w') : Laid w' where
  tab := var_keep h.tab hb
  syn := by obtain ⟨tp, p, e⟩ := h.syn; exact ⟨tp, p, var_keep e hb⟩
  rng := by obtain ⟨tp, p, e⟩ := h.rng; exact ⟨tp, p, var_keep e hb⟩
  max := by obtain ⟨m, e⟩ := h.max; exact ⟨m, (hb.cell (World.block_lt_of_cell? w _ e)).trans e⟩
theorem gPow : Tryz.prog.globalNamed "internal/strconv.uint64pow10" = some 3 := by kernel_rfl
theorem iface_var {w : World} {nm : String} {g ti : Nat} {ms : Array (String × TypeId)} {x : DataW Unit} {l : List (String × DataW Unit)} {ps : List MemPlace} (h : DataW.LaidVars Tryz.prog w l ps) (hm : (nm, DataW.iface "*errors.errorString" x) ∈ l) (hg : Tryz.prog.globalNamed nm = some g) (ht : (Tryz.prog.globals[g]?).map (·.type) = some ti) (hi : Tryz.prog.underlying ti = some (.interface ms)) :
    ∃ tp p, w.var? Tryz.prog nm = some #[.iface tp p] := by
  obtain ⟨g', t', cs, fuel, p, h1, h2, h3, h4⟩ := laid_get h hm
  obtain rfl := Option.some.inj (hg.symm.trans h1)
  obtain rfl := Option.some.inj (ht.symm.trans h2)
  obtain ⟨fuel', u, v, e, _⟩ := iface_of_trod hi h4
  have e2 : cs = #[.iface u v] := Array.toList_inj.1 e
  exact ⟨u, v, e2 ▸ h3⟩
theorem laid_of {w : World} {l : List (String × DataW Unit)} (h : laidMetH Tryz.prog l w) (hp : (l.all fun x => x.2.handleName?.isNone) = true) (hs : w.ShapedOpen Tryz.prog)
    (m1 : ("internal/strconv.uint64pow10", Lib.tabData .u64 Lib.pow10Tab) ∈ l) (m2 : ∃ x, ("strconv.ErrSyntax", DataW.iface "*errors.errorString" x) ∈ l) (m3 : ∃ x, ("strconv.ErrRange", DataW.iface "*errors.errorString" x) ∈ l) : Laid w := by
  rw [MakeChecks.laidMetH_plain _ _ _ hp] at h
  obtain ⟨ps, h, _⟩ := h
  obtain ⟨x2, m2⟩ := m2
  obtain ⟨x3, m3⟩ := m3
  refine ⟨?_, iface_var h m2 (g := 4) (ti := 63) (by kernel_rfl) (by kernel_rfl) Tryz.underlying63, iface_var h m3 (g := 5) (ti := 63) (by kernel_rfl) (by kernel_rfl) Tryz.underlying63, cell_of_shapedOpen_int (t := 3) (zero := #[.int .i64 0]) hs (of_decide_eq_true (by kernel_rfl)) (by kernel_rfl) (by kernel_rfl) (by kernel_rfl) (by kernel_rfl) (by kernel_rfl)⟩
  obtain ⟨g', t', cs, fuel, p, h1, h2, h3, h4⟩ := laid_get h m1
  obtain rfl := Option.some.inj (gPow.symm.trans h1)
  unfold Lib.TabIs
  rw [h3, ← Lib.cells_of_tab (P := Tryz.prog) (t := t') (e := 133) (n := 20) (by obtain rfl := Option.some.inj ((show (Tryz.prog.globals[3]?).map (·.type) = some 169 by kernel_rfl).symm.trans h2); kernel_rfl) (by kernel_rfl) (by kernel_rfl) (by obtain rfl := Option.some.inj ((show (Tryz.prog.globals[3]?).map (·.type) = some 169 by kernel_rfl).symm.trans h2); kernel_rfl) h4]
end Go.Proofs.YtpekkcahehhkmaaGreatDoor
/- The frame of a law whose row lists package-level variables: from a contract to the tied card. -/
set_option linter.unusedVariables false
namespace Go.Proofs.YtpekkcahehhkmaaGreatDoor
open Go.ChangeShapes Go.WideShapes Go.ChangeAt Go.RowKit Go.Deep Go.Joins

theorem returns_laid {H : Type} {enc : TypeId × Value → H} {a : Assume} {C : Checked} {os : Os} {f : FuncId} {fn : Func} {s : ChangeSpec} {conds : List PathCond} {apart fresh handsOn again : Bool} {X : World → Array Value → Prop}
    (hX : ∀ (w w' : World) (args : Array Value), w.heap = w'.heap → X w args → X w' args)
    (own : ownKnob C.prog.godebug = none) (started : os.Started) (noInit : C.prog.inits.idxOf? f = none) (hfn : C.prog.funcs[f]? = some fn)
    (witness : ∃ (w : World) (tape : Tape) (i : Input), w.os = os ∧ (w.forCall tape i).Shaped C.prog ∧ i.vars = [] ∧ Input.okWide C.prog (w.forCall tape i) .any w.heap.size f i ∧
      ((s.pre enc C.prog fn conds apart (w.forCall tape i).memory i.args ∧ X (w.forCall tape i).memory i.args) ∧ sizedMet enc C.prog fn (OpenSpec.ofChange s) apart (w.forCall tape i).memory i.args) ∧ a.holds C.prog (lone (Frame.enter C.prog f i.args .normal) [] (w.forCall tape i)))
    (contract : ∀ (W : World) (base : Nat) (args : Array Value) (ds gs : List (DataW H)) (before : List MemPlace),
      (∀ (j : Nat) t v, fn.params[j]? = some t → args[j]? = some v → Value.okWide C.prog W .any base t v) →
      DataW.Whole enc C.prog fn.params.toList s.vars apart W args.toList ds gs before → W.ShapedOpen C.prog → X W args →
      Calls C.prog f args W fun e W' => ∃ v, e = .returned v ∧ s.post enc C.prog fn apart fresh handsOn again W args v W') :
    ReturnsInHanded a C os f .any (fun w args => (s.pre enc C.prog fn conds apart w args ∧ X w args) ∧ sizedMet enc C.prog fn (OpenSpec.ofChange s) apart w args) (s.post enc C.prog fn apart fresh handsOn again) := by
  refine returnsInHanded_of_calls own started noInit witness ?_
  intro w tape i _ hsh _ hok hpre _
  obtain ⟨_, _, _, fn', hfn', _, _, _, _, hval⟩ := hok
  obtain rfl : fn' = fn := Option.some.inj (hfn'.symm.trans hfn)
  obtain ⟨⟨⟨ds, gs, before, hw, _⟩, hx⟩, _⟩ := hpre
  refine (contract (w.forCall tape i) w.heap.size i.args ds gs before hval (DataW.Whole.of_heap (w' := w.forCall tape i) (by rfl) hw) hsh (hX _ _ _ (by rfl) hx)).mono fun e W' ⟨v, he, hp⟩ => ?_
  subst he
  exact ChangeSpec.post_blind hp
end Go.Proofs.YtpekkcahehhkmaaGreatDoor
/- A struct stored into an element of a slice of the call's own; regions that draw their order and store between operations that read no memory (two elements exchanged). -/
set_option linter.unusedVariables false
set_option maxHeartbeats 1000000
namespace Go.Proofs.YtpekkcahehhkmaaGreatDoor
open Go.RowKit

def setAt : List Value → Nat → List Value → List Value
  | xs, _, [] => xs
  | xs, o, u :: r => setAt (xs.set o u) (o + 1) r
theorem setAt_app : ∀ (us xs ys : List Value) (o : Nat), setAt (xs ++ ys) (xs.length + o) us = xs ++ setAt ys o us
  | [], xs, ys, o => rfl
  | u :: r, xs, ys, o => by
    show setAt ((xs ++ ys).set (xs.length + o) u) (xs.length + o + 1) r = xs ++ setAt (ys.set o u) (o + 1) r
    rw [List.set_append_right _ _ (by omega), show xs.length + o - xs.length = o by omega, Nat.add_assoc, setAt_app r]
theorem setAt_all : ∀ (us us0 ys : List Value), us0.length = us.length → setAt (us0 ++ ys) 0 us = us ++ ys
  | [], us0, ys, h => by cases us0 with
    | nil => rfl
    | cons a r => simp at h
  | u :: r, [], ys, h => by simp at h
  | u :: r, a :: t, ys, h => by
    show setAt ((a :: (t ++ ys)).set 0 u) (0 + 1) r = u :: (r ++ ys)
    have := setAt_app r [u] (t ++ ys) 0
    rw [setAt_all r t ys (by simpa using h)] at this
    exact this
section
variable {P : Program} {n : Nat} {L : FL} {w0 : World} {H HS : List Hl} {Q : Exit → Act → World → Prop} {ops : Array Oper} {rest : List Oper} {ord : List Mv} {i : Nat} {ty : TypeId} {pos : String} {af : Array Edge} {gd : Option (Nat × Bool)} {x y : Operand} {t e : TypeId} {α : Type} {f : α → List Value} {s : Nat} {l : List α} {v : Value} {m : Int}
theorem flat_setAt (hf : ∀ a, (f a).length = s) : ∀ (l : List α) (m : Nat) (b : α), m < l.length → setAt (l.flatMap f) (m * s) (f b) = (l.set m b).flatMap f
  | [], m, b, h => by simp at h
  | a :: r, 0, b, h => by
    rw [Nat.zero_mul, List.flatMap_cons, List.set_cons_zero, List.flatMap_cons]
    exact setAt_all (f b) (f a) _ (by rw [hf, hf])
  | a :: r, m + 1, b, h => by
    rw [List.flatMap_cons, List.set_cons_succ, List.flatMap_cons, Nat.succ_mul, Nat.add_comm, ← hf a, setAt_app, hf a, flat_setAt hf r m b (by simpa using h)]
theorem own_setAt {base g cap nl : Nat} : ∀ (us xs : List Value) (o : Nat) (w : World), w.ownsRow base e s (.slice (some ⟨g, 0, none⟩) nl cap) nl xs → (w.setCells g o us).ownsRow base e s (.slice (some ⟨g, 0, none⟩) nl cap) nl (setAt xs o us) ∧ w.grownBy (w.setCells g o us) (some g)
  | [], xs, o, w, h => ⟨h, World.grownBy.refl w _⟩
  | u :: r, xs, o, w, h => by
    obtain ⟨h1, h2⟩ := h.stored o u
    obtain ⟨h3, h4⟩ := own_setAt r (xs.set o u) (o + 1) _ h1
    exact ⟨h3, h2.trans h4⟩
theorem x_storeElRow [Inhabited α] {b : α} {H' : List Hl} (hx : evO L x = some (elA v s m 0)) (hy : evO L y = some (.agg (f b).toArray)) (hu1 : (f b).all (·.oneCell') = true) (hu : Upd (Hl.rw v e f s l) (Hl.rw v e f s (l.set m.toNat b)) H H') (hm : 0 ≤ m ∧ m < l.length)
    (hf : ∀ a, (f a).length = s) (hs0 : Nat.blt 0 s = true) (hs : rowB P t s = true) :
    EX P n L w0 H ⟨none, .store t x y, ty, pos, af, gd⟩ (fun _ : Unit => True) (fun _ => L) (fun _ => H') :=
  EX.of_skip fun a w ha hw => by
    have hc' : 0 < s := by simpa [Nat.blt_eq] using hs0
    have hown : w.ownsRow w0.heap.size e s v l.length (l.flatMap f) := hw.all _ hu.mem
    obtain ⟨ad, cap, rfl, hcell⟩ := (RdT.rw hu.mem).at_ hf hm (by omega) hw
    rcases hown.2 with ⟨h', _⟩ | ⟨g, cap', cur, h', hb', hg, hnc, hcm, hcs, htake⟩
    · simp at h'
    · simp only [Value.slice.injEq, Option.some.injEq] at h'
      obtain ⟨rfl, _, rfl⟩ := h'
      have hlb := hf b
      have hj : m.toNat * s + s ≤ l.length * s := by
        have h2 : (m.toNat + 1) * s ≤ l.length * s := Nat.mul_le_mul_right _ (by omega)
        rwa [Nat.succ_mul] at h2
      have hlen := flat_len hf l
      have hadd : (⟨g, 0, none⟩ : Addr).add (m.toNat * s) = ⟨g, m.toNat * s, none⟩ := by unfold Addr.add; split <;> simp_all
      have hst := own_setAt (f b) (l.flatMap f) (m.toNat * s) w hown
      rw [flat_setAt hf l m.toNat b (by omega)] at hst
      have hrun := run_storeCells_cells (P := P) g (m.toNat * s) (f b) 0 w (fun j hj' => by
          have hold : w.cell? ⟨g, m.toNat * s + 0 + j, none⟩ = (l.flatMap f)[m.toNat * s + 0 + j]? := hown.cellAt _ (by omega)
          rw [hold, List.getElem?_eq_getElem (by omega)]; rfl) (fun j _ => hown.frozenAt _) (fun u hu => List.all_eq_true.1 hu1 u hu)
      refine ⟨w.setCells g (m.toNat * s) (f b), (), by simp [execOp, ha.eval hx, ha.eval hy, elA, Instr.storeAt, Instr.sureAddr, storeVar, Value.cells, run_sizeOf_of (info_of_rowB hs), hlb, hadd, hrun], trivial, rfl, ?_⟩
      refine hw.turn hu rfl hst.2 ?_ fun b hb => .inl hb
      show World.ownsRow _ _ _ _ _ _ _
      rw [List.length_set]
      exact hst.1
theorem RS.storeElRow [Inhabited α] {b : α} {H' : List Hl} (h : RS P ops Q n L w0 H' rest) (hx : evO L x = some (elA v s m 0)) (hy : evO L y = some (.agg (f b).toArray)) (hu1 : (f b).all (·.oneCell') = true) (hu : Upd (Hl.rw v e f s l) (Hl.rw v e f s (l.set m.toNat b)) H H') (hm : 0 ≤ m ∧ m < l.length)
    (hf : ∀ a, (f a).length = s) (hs0 : Nat.blt 0 s = true) (hs : rowB P t s = true) :
    RS P ops Q n L w0 H (⟨none, .store t x y, ty, pos, af, none⟩ :: rest) := RS.actX rfl (x_storeElRow hx hy hu1 hu hm hf hs0 hs) fun _ _ => h
theorem RM.storeElRow [Inhabited α] {b : α} {H' : List Hl} (h : RM P ops Q HS n [] L w0 H' ord) (ho : ops[i]? = some ⟨none, .store t x y, ty, pos, af, none⟩) (hx : evO L x = some (elA v s m 0)) (hy : evO L y = some (.agg (f b).toArray)) (hu1 : (f b).all (·.oneCell') = true) (hu : Upd (Hl.rw v e f s l) (Hl.rw v e f s (l.set m.toNat b)) H H') (hm : 0 ≤ m ∧ m < l.length)
    (hf : ∀ a, (f a).length = s) (hs0 : Nat.blt 0 s = true) (hs : rowB P t s = true) (hl : (∀ w, St w0 H' w → St w0 HS w) ∨ lateB .any ops i = true) :
    RM P ops Q HS n [] L w0 H (.go i :: ord) := RM.actX ho rfl rfl (x_storeElRow hx hy hu1 hu hm hf hs0 hs) (hl.imp (fun h _ => h) id) fun _ _ => h
end

/-! ### Regions that draw their order and store: what reads memory comes up before the stores; what reads none may come up behind them -/
def freeB (o : Oper) : Bool := match o.op with
  | .move _ | .assign _ | .indexAddr .. | .fieldAddr .. | .extract .. | .binOp .. => true
  | _ => false
def lateF (md : Region.Mode) (ops : Array Oper) (j : Nat) : Bool := (List.range ops.size).all fun i => i == j || Region.waitsFor md ops j i || !((ops[i]?).map fun o => pureB o && !freeB o).getD false
section
variable {P : Program} {ops : Array Oper} {md : Region.Mode} {S : World → Prop} {Q : Exit → Act → World → Prop}
def wpAnyF (P : Program) (md : Region.Mode) (ops : Array Oper) (Q : Exit → Act → World → Prop) (S : World → Prop) : Nat → Array Bool → Act → World → Prop
  | 0, listed, a, w => Region.ready md ops listed = [] ∧ Q .normal a w
  | f + 1, listed, a, w => (Region.ready md ops listed = [] → Q .normal a w) ∧
    ∀ i ∈ Region.ready md ops listed, wpOp P ops Q i (fun a' w' => (lateF md ops i = false → S w → S w') ∧ wpAnyF P md ops Q S f (listed.setIfInBounds i true) a' w') a w
theorem wpAny_of_F : ∀ (f : Nat) (listed : Array Bool) (a : Act) (w : World), wpAnyF P md ops Q S f listed a w → wpAny P md ops Q f listed a w
  | 0, _, _, _, h => h
  | f + 1, _, _, _, h => ⟨h.1, fun i hi => wpOp_mono (fun a' w' h' => wpAny_of_F f _ a' w' h'.2) (h.2 i hi)⟩
theorem lateF_waits {i j : Nat} {oi : Oper} (hi : ops[i]? = some oi) (hp : pureB oi = true) (hq : freeB oi = false) (hne : i ≠ j) (hl : lateF md ops j = true) : Region.waitsFor md ops j i = true := by
  have hlt : i < ops.size := (Array.getElem?_eq_some_iff.1 hi).1
  have := List.all_eq_true.1 hl i (List.mem_range.2 hlt)
  simpa [hi, hp, hq, hne] using this
theorem wpAnyF_read {i : Nat} {oi : Oper} {v : Value} (hi : ops[i]? = some oi) (hp : pureB oi = true) (hq : freeB oi = false) (hsel : ∀ (j : Nat) (o : Oper) cs b, ops[j]? = some o → o.op ≠ .select cs b) (hQ : ∀ c a w, ¬ Q (.panic c) a w) :
    ∀ (f : Nat) (listed : Array Bool) (a : Act) (w : World),
      (∀ j oj, ops[j]? = some oj → j ≠ i → listed.getD j true = false → (∀ e ∈ oj.after, Region.binds md e = true → e.on ≠ i) → oi.apart ops oj = true) →
      i ∈ Region.ready md ops listed → YS P ops S oi v a → S w →
      wpAnyF P md ops Q S f (listed.setIfInBounds i true) (a.put oi.dst v) w → wpAnyF P md ops Q S (f + 1) listed a w
  | 0, listed, a, w, _, hr, hy, hS, hK => by
    refine ⟨fun h => (by rw [h] at hr; cases hr), fun j hj => ?_⟩
    by_cases e : j = i
    · subst e; exact hy.wpOp hi hS ⟨fun _ h => h, hK⟩
    · have := ready_mono hj e
      rw [hK.1] at this
      cases this
  | f + 1, listed, a, w, hfree, hr, hy, hS, hK => by
    refine ⟨fun h => (by rw [h] at hr; cases hr), fun j hj => ?_⟩
    by_cases e : j = i
    · subst e; exact hy.wpOp hi hS ⟨fun _ h => h, hK⟩
    · obtain ⟨hju, oj, hoj, hall⟩ := mem_ready.1 hj
      have hiu := getD_both (mem_ready.1 hr).1
      have hnot : ∀ e ∈ oj.after, Region.binds md e = true → e.on ≠ i := fun e he hb heq => by
        have h1 := hall e he hb
        rw [heq, hiu] at h1
        cases h1
      have hnl : lateF md ops j = false := by
        cases hl : lateF md ops j with
        | false => rfl
        | true =>
          obtain ⟨o', ho', e', he', hb', hon⟩ := Region.waitsFor_spec (lateF_waits hi hp hq (Ne.symm e) hl)
          have : o' = oj := Option.some.inj (ho'.symm.trans hoj)
          subst this
          exact absurd hon (hnot e' he' hb')
      have h2 := wpOp_putS hoj (hfree j oj hoj e hju hnot) (fun cs b => hsel i oi cs b hi) (fun cs b => hsel j oj cs b hoj) hQ hy (hK.2 j (ready_mono hj e))
      refine wpOp_mono (fun a' w' h3 => ⟨h3.2.1, wpAnyF_read hi hp hq hsel hQ f _ a' w' ?_ (ready_mono hr (Ne.symm e)) h3.1 (h3.2.1 hnl hS) ?_⟩) h2
      · intro k ok hk hki hku hno
        refine hfree k ok hk hki ?_ hno
        by_cases hjk : j = k
        · subst hjk; exact hju
        · rwa [getD_set_ne true hjk] at hku
      · rw [Array.setIfInBounds_comm _ _ e]
        exact h3.2.2
theorem wpAnyF_free {i : Nat} {oi : Oper} {v : Value} (hi : ops[i]? = some oi) (hsel : ∀ (j : Nat) (o : Oper) cs b, ops[j]? = some o → o.op ≠ .select cs b) (hQ : ∀ c a w, ¬ Q (.panic c) a w) :
    ∀ (f : Nat) (listed : Array Bool) (a : Act) (w : World),
      (∀ j oj, ops[j]? = some oj → j ≠ i → listed.getD j true = false → (∀ e ∈ oj.after, Region.binds md e = true → e.on ≠ i) → oi.apart ops oj = true) →
      i ∈ Region.ready md ops listed → YS P ops (fun _ => True) oi v a →
      wpAnyF P md ops Q S f (listed.setIfInBounds i true) (a.put oi.dst v) w → wpAnyF P md ops Q S (f + 1) listed a w
  | 0, listed, a, w, _, hr, hy, hK => by
    refine ⟨fun h => (by rw [h] at hr; cases hr), fun j hj => ?_⟩
    by_cases e : j = i
    · subst e; exact hy.wpOp hi trivial ⟨fun _ h => h, hK⟩
    · have := ready_mono hj e
      rw [hK.1] at this
      cases this
  | f + 1, listed, a, w, hfree, hr, hy, hK => by
    refine ⟨fun h => (by rw [h] at hr; cases hr), fun j hj => ?_⟩
    by_cases e : j = i
    · subst e; exact hy.wpOp hi trivial ⟨fun _ h => h, hK⟩
    · obtain ⟨hju, oj, hoj, hall⟩ := mem_ready.1 hj
      have hiu := getD_both (mem_ready.1 hr).1
      have hnot : ∀ e ∈ oj.after, Region.binds md e = true → e.on ≠ i := fun e he hb heq => by
        have h1 := hall e he hb
        rw [heq, hiu] at h1
        cases h1
      have h2 := wpOp_putS hoj (hfree j oj hoj e hju hnot) (fun cs b => hsel i oi cs b hi) (fun cs b => hsel j oj cs b hoj) hQ hy (hK.2 j (ready_mono hj e))
      refine wpOp_mono (fun a' w' h3 => ⟨h3.2.1, wpAnyF_free hi hsel hQ f _ a' w' ?_ (ready_mono hr (Ne.symm e)) h3.1 ?_⟩) h2
      · intro k ok hk hki hku hno
        refine hfree k ok hk hki ?_ hno
        by_cases hjk : j = k
        · subst hjk; exact hju
        · rwa [getD_set_ne true hjk] at hku
      · rw [Array.setIfInBounds_comm _ _ e]
        exact h3.2.2
theorem wp_region_F {id : Nat} {a : Act} {w : World} {l : List Oper} (hm : P.follows .mixedOrders = true) (h : wpAnyF P .any l.toArray (Calm Q) S l.length (Array.replicate l.length false) a w.drew) : (Code.region id l.toArray true).wp P Q a w := by
  refine Code.wp_mono Calm.out (wp_region_any hm (wpAny_of_F (S := S) _ _ _ _ ?_))
  simpa using h
end
section
variable {P : Program} {n : Nat} {L : FL} {w0 : World} {H HS : List Hl} {Q : Exit → Act → World → Prop} {ops : Array Oper} {ord : List Mv} {i d : Nat} {ty : TypeId} {pos : String} {af : Array Edge} {gd : Option (Nat × Bool)} {x y : Operand} {t e : TypeId} {α : Type} {f : α → List Value} {s : Nat} {l : List α} {v : Value} {m : Int} {o : Oper} {op : Op}
def RF (P : Program) (ops : Array Oper) (Q : Exit → Act → World → Prop) (HS : List Hl) (n : Nat) (L : FL) (w0 : World) (H : List Hl) (ord : List Mv) : Prop :=
  ∀ l0, mixedB .any ops ord [] l0 = true → Region.noSelect ops = true → ∀ f a w, cnt l0 ≤ f → Fr n L a → St w0 H w → wpAnyF P .any ops (Calm Q) (St w0 HS) f l0 a w
/-- In every world at all, the state having been reached once. -/
def VFr (P : Program) (n : Nat) (L : FL) (w0 : World) (H : List Hl) (o : Oper) (v : Value) : Prop := ∀ w, St w0 H w → ∀ a w', Fr n L a → (execOp a.eval o).run P w' = .ok (.value v) w'
theorem RF.step (h : RF P ops Q HS n ((d, v) :: L) w0 H ord) (ho : ops[i]? = some ⟨some d, op, ty, pos, af, none⟩ := by rfl) (hp : (pureB ⟨some d, op, ty, pos, af, none⟩ && !freeB ⟨some d, op, ty, pos, af, none⟩) = true := by rfl) (hs : ∀ w, St w0 H w → St w0 HS w) (hy : V P n L w0 HS ⟨some d, op, ty, pos, af, none⟩ v) (hd : Nat.blt d n = true := by rfl) :
    RF P ops Q HS n L w0 H (.go i :: ord) := by
  intro l0 hB hsel f a w hf ha hw
  simp only [Bool.and_eq_true, Bool.not_eq_true'] at hp
  simp only [mixedB, ho, hp.1, if_true, Bool.and_eq_true, Bool.not_eq_true', List.contains_iff_mem] at hB
  obtain ⟨⟨⟨⟨hr, hni⟩, hds⟩, hfr, _⟩, hB⟩ := hB
  obtain ⟨g, rfl, hg⟩ := cnt_ready hf hr
  refine wpAnyF_read ho hp.1 hp.2 (Region.noSelect_spec hsel) (fun c a w h => h) g l0 a w (Region.free_spec ho hfr) hr (.inl ⟨rfl, fun w hw => by unfold V at hy; exact hy a w ha hw⟩) (hs w hw) ?_
  exact h _ hB hsel g _ _ hg (ha.put (by simpa [Nat.blt_eq] using hd)) hw
theorem RF.free (h : RF P ops Q HS n ((d, v) :: L) w0 H ord) (ho : ops[i]? = some ⟨some d, op, ty, pos, af, none⟩ := by rfl) (hp : pureB ⟨some d, op, ty, pos, af, none⟩ = true := by rfl) (hy : VFr P n L w0 H ⟨some d, op, ty, pos, af, none⟩ v) (hd : Nat.blt d n = true := by rfl) :
    RF P ops Q HS n L w0 H (.go i :: ord) := by
  intro l0 hB hsel f a w hf ha hw
  simp only [mixedB, ho, hp, if_true, Bool.and_eq_true, Bool.not_eq_true', List.contains_iff_mem] at hB
  obtain ⟨⟨⟨⟨hr, hni⟩, hds⟩, hfr, _⟩, hB⟩ := hB
  obtain ⟨g, rfl, hg⟩ := cnt_ready hf hr
  refine wpAnyF_free ho (Region.noSelect_spec hsel) (fun c a w h => h) g l0 a w (Region.free_spec ho hfr) hr (.inl ⟨rfl, fun w' _ => hy w hw a w' ha⟩) ?_
  exact h _ hB hsel g _ _ hg (ha.put (by simpa [Nat.blt_eq] using hd)) hw
theorem RF.act {L' : FL} {H' : List Hl} (h : RF P ops Q HS n L' w0 H' ord) (ho : ops[i]? = some o) (hp : pureB o = false) (hg : o.guard = none) (he : EX P n L w0 H o (fun _ : Unit => True) (fun _ => L') (fun _ => H')) (hl : lateF .any ops i = true) : RF P ops Q HS n L w0 H (.go i :: ord) := by
  intro l0 hB hsel f a w hf ha hw
  simp only [mixedB, ho, hp, Bool.false_eq_true, if_false, Bool.and_eq_true, List.contains_iff_mem, subsB] at hB
  obtain ⟨⟨⟨⟨hr, hni⟩, hds⟩, hso⟩, hB⟩ := hB
  obtain ⟨g, rfl, hgc⟩ := cnt_ready hf hr
  refine ⟨fun e => (by rw [e] at hr; cases hr), fun k hk => ?_⟩
  have h3 := List.all_eq_true.1 hso k hk
  simp only [List.contains_nil, Bool.or_false, beq_iff_eq] at h3
  subst h3
  unfold wpOp
  rw [ho]
  simp only [Region.wanted, hg, if_true]
  refine .inl (he a w ha hw _ _ fun a' w' ⟨_, _, ha', hw'⟩ => ⟨fun hl' => (by rw [hl] at hl'; cases hl'), h _ hB hsel g a' w' hgc ha' hw'⟩)
theorem RF.call (h : RF P ops Q HS n ((d, v) :: L) w0 H ord) (ho : ops[i]? = some ⟨some d, op, ty, pos, af, none⟩ := by rfl) (hp : pureB ⟨some d, op, ty, pos, af, none⟩ = false := by rfl) (hs : ∀ w, St w0 H w → St w0 HS w) (hy : Y P n L w0 H ⟨some d, op, ty, pos, af, none⟩ v) (hd : Nat.blt d n = true := by rfl) :
    RF P ops Q HS n L w0 H (.go i :: ord) := by
  intro l0 hB hsel f a w hf ha hw
  simp only [mixedB, ho, hp, Bool.false_eq_true, if_false, Bool.and_eq_true, List.contains_iff_mem, subsB] at hB
  obtain ⟨⟨⟨⟨hr, hni⟩, hds⟩, hso⟩, hB⟩ := hB
  obtain ⟨g, rfl, hgc⟩ := cnt_ready hf hr
  refine ⟨fun e => (by rw [e] at hr; cases hr), fun k hk => ?_⟩
  have h3 := List.all_eq_true.1 hso k hk
  simp only [List.contains_nil, Bool.or_false, beq_iff_eq] at h3
  subst h3
  unfold wpOp
  rw [ho]
  simp only [Region.wanted, if_true]
  exact .inl (wp_of_Y hy ha hw fun w' hw' => ⟨fun _ _ => hs _ (hw.step hw'), h _ hB hsel g _ w' hgc (ha.put (by simpa [Nat.blt_eq] using hd)) (hw.step hw')⟩)
theorem RF.finish (h : X Q n L w0 H .normal) : RF P ops Q HS n L w0 H [] := by
  unfold X at h
  intro l0 hB hsel f a w hf ha hw
  simp only [mixedB, Bool.and_eq_true, List.isEmpty_iff] at hB
  cases f with
  | zero => exact ⟨hB.2, h a w ha hw⟩
  | succ f => exact ⟨fun _ => h a w ha hw, fun k hk => by rw [hB.2] at hk; cases hk⟩
theorem G.mixedF (id : Nat) (ord : List Mv) (HS : List Hl) {l : List Oper} (h : RF P l.toArray Q HS n L w0 H ord) (hm : P.follows .mixedOrders = true := by decide +kernel) (hB : regionB l ord = true := by decide +kernel) : G P Q n L w0 H (.region id l.toArray true) := by
  unfold G
  intro a w ha hw
  simp only [regionB, Bool.and_eq_true] at hB
  refine wp_region_F (S := St w0 HS) hm (h _ hB.2 hB.1 _ a w.drew ?_ ha hw.drew)
  refine Nat.le_trans (List.length_filter_le _ _) ?_
  simp
theorem vf_move {u : Operand} (hx : evO L u = some v) : VFr P n L w0 H ⟨some d, .move u, ty, pos, af, gd⟩ v := fun w hw a w' ha => by simp [execOp, ha.eval hx]
theorem vf_sub {k k' : Int} (hx : evO L x = some (.int .i64 k)) (hy : evO L y = some (.int .i64 k')) (hm : In64 (k - k')) {t' : TypeId} : VFr P n L w0 H ⟨some d, .binOp .sub t x y t', ty, pos, af, gd⟩ (.int .i64 (k - k')) := fun w hw a w' ha => by
  have := y_sub64 (P := P) (n := n) (w0 := w') (H := []) (d := some d) (ty := ty) (pos := pos) (af := af) (g := gd) (t := t) (t' := t') hx hy hm
  unfold V at this
  exact this a w' ha ⟨Below.refl _ _, fun _ h => (by cases h), trivial⟩
theorem vf_indexAddr {k : IntKind} (hx : evO L x = some v) (hy : evO L y = some (.int k m)) (h : RdT H v f s l) (hf : ∀ a, (f a).length = s) (hm : 0 ≤ m ∧ m < l.length) (hs : Nat.blt 0 s = true) (ht : sliceB P t s = true) :
    VFr P n L w0 H ⟨some d, .indexAddr t x y, ty, pos, af, gd⟩ (elA v s m 0) := fun w hw a w' ha => by
  obtain ⟨hl, A, c, rfl, _, hc, _⟩ := h _ _ hw
  obtain ⟨e, i, hu, hi, rfl⟩ := sliceB_spec ht
  have hs' : 0 < i.size := by simpa [Nat.blt_eq] using hs
  obtain ⟨ad, rfl, _⟩ := hc (flat_ne hf hs' hm)
  simp [execOp, ha.eval hx, ha.eval hy, Instr.indexAt, asIntOf, run_underlying hu, hm.1, hm.2, sizeOf, typeInfo, hi, elA]

theorem vf_of (h : ∀ w0, V P n L w0 [] o v) : VFr P n L w0 H o v := fun w _ a w' ha => by
  have := h w'
  unfold V at this
  exact this a w' ha ⟨Below.refl _ _, fun _ h => (by cases h), trivial⟩
def VFrK (P : Program) (n : Nat) (L : FL) (w0 : World) (H : List Hl) (o : Oper) (K : Value → Prop) : Prop := ∃ v, VFr P n L w0 H o v ∧ K v
theorem VFrK.mk {K : Value → Prop} (hy : VFr P n L w0 H o v) (h : K v) : VFrK P n L w0 H o K := ⟨v, hy, h⟩
theorem RF.stepK (ho : ops[i]? = some ⟨some d, op, ty, pos, af, none⟩) (hp : (pureB ⟨some d, op, ty, pos, af, none⟩ && !freeB ⟨some d, op, ty, pos, af, none⟩) = true) (hd : Nat.blt d n = true) (hs : ∀ w, St w0 H w → St w0 HS w) (h : VK P n L w0 HS ⟨some d, op, ty, pos, af, none⟩ fun v => RF P ops Q HS n ((d, v) :: L) w0 H ord) :
    RF P ops Q HS n L w0 H (.go i :: ord) := by
  unfold VK at h
  obtain ⟨v, h1, h2⟩ := h
  exact RF.step h2 ho hp hs h1 hd
theorem RF.freeK (ho : ops[i]? = some ⟨some d, op, ty, pos, af, none⟩) (hp : (pureB ⟨some d, op, ty, pos, af, none⟩ && freeB ⟨some d, op, ty, pos, af, none⟩) = true) (hd : Nat.blt d n = true) (h : VFrK P n L w0 H ⟨some d, op, ty, pos, af, none⟩ fun v => RF P ops Q HS n ((d, v) :: L) w0 H ord) :
    RF P ops Q HS n L w0 H (.go i :: ord) := by
  obtain ⟨v, h1, h2⟩ := h
  exact RF.free h2 ho (by simp only [Bool.and_eq_true] at hp; exact hp.1) h1 hd
theorem RF.callK (ho : ops[i]? = some ⟨some d, op, ty, pos, af, none⟩) (hp : pureB ⟨some d, op, ty, pos, af, none⟩ = false) (_hr : steadyB ⟨some d, op, ty, pos, af, none⟩ = true) (hd : Nat.blt d n = true) (hs : ∀ w, St w0 H w → St w0 HS w) (h : YK P n L w0 H ⟨some d, op, ty, pos, af, none⟩ fun v => RF P ops Q HS n ((d, v) :: L) w0 H ord) :
    RF P ops Q HS n L w0 H (.go i :: ord) := by
  unfold YK at h
  obtain ⟨v, h1, h2⟩ := h
  exact RF.call h2 ho hp hs h1 hd
theorem RF.storeA {b k : Nat} {cs : List Value} {H' : List Hl} {u : Value} {t' : TypeId} (ho : ops[i]? = some ⟨none, .store t x y, ty, pos, af, none⟩) (hx : evO L x = some (.pointer (some ⟨b, k, none⟩))) (hy : evO L y = some u) (hu : u.oneCell' = true)
    (hm : Upd (.blk b t' cs) (.blk b t' (cs.set k u)) H H') (hi : Nat.blt k cs.length = true) (hs : scalarB P t = true) (hl : lateF .any ops i = true) (h : RF P ops Q HS n L w0 H' ord) :
    RF P ops Q HS n L w0 H (.go i :: ord) := RF.act h ho rfl rfl (x_store hx hy hu hm hi hs) hl
theorem RF.storeRowA {b k : Nat} {cs us : List Value} {H' : List Hl} {t' : TypeId} (ho : ops[i]? = some ⟨none, .store t x y, ty, pos, af, none⟩) (hx : evO L x = some (.pointer (some ⟨b, 0, none⟩))) (hy : evO L y = some (.agg us.toArray)) (hu : us.all (·.oneCell') = true)
    (hm : Upd (.blk b t' cs) (.blk b t' us) H H') (hlc : LenIs cs k) (hl2 : LenIs us k) (hs : rowB P t k = true) (hl : lateF .any ops i = true) (h : RF P ops Q HS n L w0 H' ord) :
    RF P ops Q HS n L w0 H (.go i :: ord) := RF.act h ho rfl rfl (x_storeRow hx hy hu hm hlc hl2 hs) hl
theorem RF.storeEl [Inhabited α] {b : α} {H' : List Hl} (ho : ops[i]? = some ⟨none, .store t x y, ty, pos, af, none⟩) (hx : evO L x = some (elA v s m 0)) (hy : evO L y = some (.agg (f b).toArray)) (hu1 : (f b).all (·.oneCell') = true) (hu : Upd (Hl.rw v e f s l) (Hl.rw v e f s (l.set m.toNat b)) H H') (hm : 0 ≤ m ∧ m < l.length)
    (hf : ∀ a, (f a).length = s) (hs0 : Nat.blt 0 s = true) (hs : rowB P t s = true) (hl : lateF .any ops i = true) (h : RF P ops Q HS n L w0 H' ord) :
    RF P ops Q HS n L w0 H (.go i :: ord) := RF.act h ho rfl rfl (x_storeElRow hx hy hu1 hu hm hf hs0 hs) hl
theorem RF.storeI {ls : List Int} {b : Int} {H' : List Hl} {v : Value} {e : TypeId} {m : Int} (ho : ops[i]? = some ⟨none, .store t x y, ty, pos, af, none⟩) (hx : evO L x = some (elA v 1 m 0)) (hy : evO L y = some (.int .i64 b)) (hu : Upd (Hl.rw v e cI 1 ls) (Hl.rw v e cI 1 (ls.set m.toNat b)) H H') (hm : 0 ≤ m ∧ m < ls.length) (hs : scalarB P t = true) (hl : lateF .any ops i = true) (h : RF P ops Q HS n L w0 H' ord) :
    RF P ops Q HS n L w0 H (.go i :: ord) := RF.act h ho rfl rfl (x_storeEl (f := cI) (b := b) hx hy rfl hu hm (fun _ => rfl) rfl rfl hs) hl
theorem G.mixedFH (id : Nat) (ord : List Mv) {l : List Oper} (h : RF P l.toArray Q H n L w0 H ord) (hm : P.follows .mixedOrders = true := by decide +kernel) (hB : regionB l ord = true := by decide +kernel) : G P Q n L w0 H (.region id l.toArray true) := G.mixedF id ord H h hm hB
end
attribute [irreducible] RF VFrK
theorem nxVF {p q : Prop} (h : q) (s : q → p := by intro h; (show VFrK _ _ _ _ _ _ _); first
  | exact VFrK.mk (vf_of fun _ => vAuto) h
  | (apply VFrK.mk; (case hy => apply vf_indexAddr; (case hx => rfl); (case hy => rfl); (case h => exact rdA); (case hf => exact fun _ => rfl); (case hm => clear h; exact omlA); (case hs => rfl); (case ht => decide +kernel)); (case h => exact h))) : p := s h
theorem nxRF {p q : Prop} (h : q) (s : q → p := by intro h; (show RF _ _ _ _ _ _ _ _ _); first
  | (apply RF.freeK; (case ho => exact rfl); (case hp => exact rfl); (case hd => exact rfl); (case h => exact h))
  | (apply RF.stepK; (case ho => exact rfl); (case hp => exact rfl); (case hd => exact rfl); (case hs => exact subA); (case h => exact h))
  | (apply RF.callK; (case ho => exact rfl); (case hp => exact rfl); (case _hr => exact rfl); (case hd => exact rfl); (case hs => exact subA); (case h => exact h))
  | (apply RF.storeA; (case ho => rfl); (case hx => rfl); (case hy => rfl); (case hu => rfl); (case hm => exact updA); (case hi => rfl); (case hs => decide +kernel); (case hl => decide +kernel); (case h => exact h))
  | (apply RF.storeRowA; (case ho => rfl); (case hx => rfl); (case hy => rfl); (case hu => rfl); (case hm => exact updA); (case hlc => (repeat (first | exact .nil | apply LenIs.cons))); (case hl2 => (repeat (first | exact .nil | apply LenIs.cons))); (case hs => decide +kernel); (case hl => decide +kernel); (case h => exact h))
  | (apply RF.finish; exact h)) : p := s h
end Go.Proofs.YtpekkcahehhkmaaGreatDoor
/- Stars: names, numbers, the search by a name, Valid. -/
set_option linter.unusedVariables false
set_option maxHeartbeats 4000000
namespace Go.Proofs.YtpekkcahehhkmaaGreatDoor
open Go.RowKit

abbrev StarT := List UInt8 × Int × Int × Int
abbrev cSt (s : StarT) : List Value := [strV s.1, .int .i64 s.2.1, .int .i64 s.2.2.1, .int .i64 s.2.2.2]
abbrev stV (s : StarT) : Value := .agg [strV s.1, .int .i64 s.2.1, .int .i64 s.2.2.1, .int .i64 s.2.2.2].toArray
def letterB (b : Int) : Bool := decide (97 ≤ b) && decide (b ≤ 122) || decide (65 ≤ b) && decide (b ≤ 90)
def digitB (b : Int) : Bool := decide (48 ≤ b) && decide (b ≤ 57)
def wordB (b : Int) : Bool := letterB b || digitB b || decide (b = 95)
theorem letter_c (b : Int) : Cont Tryz.prog 108 [.int .u8 b] (.bool (letterB b)) := fun w => by
  refine enter0 Tryz.func108 rfl rfl rfl ?_
  repeat' (first
    | (refine nxV ?_)
    | (show RS _ _ _ _ _ _ _ _; first | (refine nxRS ?_) | (refine nxRS1 fun _ => ?_))
    | (show RM _ _ _ _ _ _ _ _ _ _; first | (refine nxRM ?_) | (refine nxRM1 fun _ => ?_))
    | (refine nxG ?_)
    | (refine nxX ?_)
    | (refine G.condN rfl (fun hc => ?_) (fun hc => ?_) <;> (try first | exact False.elim hc | (exfalso; omega))))
  refine X.ret (vs := [_]) rfl ⟨rfl, rfl⟩ rfl (fun w hw => ⟨ret_bool ?_, hw.ext⟩)
  unfold letterB
  simp
theorem digit_c (b : Int) : Cont Tryz.prog 121 [.int .u8 b] (.bool (digitB b)) := fun w => by
  refine enter0 Tryz.func121 rfl rfl rfl ?_
  repeat' (first
    | (refine nxV ?_)
    | (show RS _ _ _ _ _ _ _ _; first | (refine nxRS ?_) | (refine nxRS1 fun _ => ?_))
    | (show RM _ _ _ _ _ _ _ _ _ _; first | (refine nxRM ?_) | (refine nxRM1 fun _ => ?_))
    | (refine nxG ?_)
    | (refine nxX ?_)
    | (refine G.condN rfl (fun hc => ?_) (fun hc => ?_) <;> (try first | exact False.elim hc | (exfalso; omega))))
  refine X.ret (vs := [_]) rfl ⟨rfl, rfl⟩ rfl (fun w hw => ⟨ret_bool ?_, hw.ext⟩)
  unfold digitB
  simp
theorem word_c (b : Int) : Cont Tryz.prog 107 [.int .u8 b] (.bool (wordB b)) := fun w => by
  have h1 := letter_c b
  have h2 := digit_c b
  refine enter0 Tryz.func107 rfl rfl rfl ?_
  repeat' (first
    | (show YK _ _ _ _ _ _ _; first | refine YK.mk (y_callA (h1) ⟨rfl, rfl⟩) ?_ | refine YK.mk (y_callA (h2) ⟨rfl, rfl⟩) ?_)
    | (show YK _ _ _ _ _ _ _; refine YK.ofV vAuto ?_)
    | (show VK _ _ _ _ _ _ _; refine VK.mk vAuto ?_)
    | (show RS _ _ _ _ _ _ _ _; first | (refine nxRS ?_) | (refine nxRS1 fun _ => ?_))
    | (show RM _ _ _ _ _ _ _ _ _ _; first | (refine nxRM ?_) | (refine nxRM1 fun _ => ?_))
    | (show YG _ _ _ _ _ _ _ _; refine YG.mk (fun hb => by (try (have hc := And.left hb; have hb := And.right hb; rw [hc])); (try rw [hb]); first | exact (y_callA (h1) ⟨rfl, rfl⟩) | exact (y_callA (h2) ⟨rfl, rfl⟩) | exact V.y vAuto) ?_)
    | (show VG _ _ _ _ _ _ _ _; refine VG.mk (fun hb => by (try (have hc := And.left hb; have hb := And.right hb; rw [hc])); (try rw [hb]); exact vAuto) ?_)
    | (refine nxX ?_)
    | (refine G.condN rfl (fun hc => ?_) (fun hc => ?_) <;> (try first | exact False.elim hc | (exfalso; omega))))
  refine X.ret (vs := [_]) rfl ⟨rfl, rfl⟩ rfl (fun w hw => ⟨ret_bool ?_, hw.ext⟩)
  unfold wordB
  simp
def allP (p : Int → Bool) (l : List UInt8) : Bool := !l.isEmpty && l.all fun b => p b.toNat
theorem allP_f {p : Int → Bool} {l : List UInt8} {i : Nat} (hi : i < l.length) (h : p (nth l (i : Int)).toNat = false) : allP p l = false := by
  unfold allP
  rw [Bool.and_eq_false_iff]
  right
  rw [List.all_eq_false]
  exact ⟨nth l (i : Int), List.mem_of_getElem? (nth_some (by omega) (by omega)), by simp [h]⟩
theorem allP_t {p : Int → Bool} {l : List UInt8} (h : ∀ i : Nat, i < l.length → p (nth l (i : Int)).toNat = true) : allP p l = decide (¬ l = []) := by
  unfold allP
  have h1 : (l.all fun b => p b.toNat) = true := by
    rw [List.all_eq_true]
    intro b hb
    obtain ⟨i, hi, rfl⟩ := List.getElem_of_mem hb
    have e := nth_some (l := l) (m := (i : Int)) (by omega) (by omega)
    rw [Int.toNat_natCast, List.getElem?_eq_getElem hi] at e
    rw [Option.some.inj e]
    exact h i hi
  rw [h1]
  cases l <;> simp
theorem all_c {f : FuncId} (p : Int → Bool) (hp : ∀ b : Int, Cont Tryz.prog f [.int .u8 b] (.bool (p b))) (hg : isGo Tryz.prog f = true) (l : List UInt8) (hl : l.length ≤ 1000000) : Cont Tryz.prog 106 [strV l, .func (.func f) #[] #[]] (.bool (allP p l)) := fun w => by
  refine enter0 Tryz.func106 rfl rfl rfl ?_
  repeat' (first
    | (show YK _ _ _ _ _ ⟨_, .call { callee := .builtin .len, args := _, argTypes := #[9] }, _, _, _, _⟩ _; refine YK.ofV (y_lenS (by rfl) StrTy.is) ?_)
    | (show VK _ _ _ _ _ ⟨_, .call { callee := .builtin .len, args := _, argTypes := #[9] }, _, _, _, _⟩ _; refine VK.mk (y_lenS (by rfl) StrTy.is) ?_)
    | (show YG _ _ _ _ _ _ ⟨_, .call { callee := .builtin .len, args := _, argTypes := #[9] }, _, _, _, _⟩ _; refine YG.mk (fun hb => by (try (have hc := And.left hb; have hb := And.right hb; rw [hc])); (try rw [hb]); exact V.y (y_lenS (by rfl) StrTy.is)) ?_)
    | (show VG _ _ _ _ _ _ ⟨_, .call { callee := .builtin .len, args := _, argTypes := #[9] }, _, _, _, _⟩ _; refine VG.mk (fun hb => by (try (have hc := And.left hb; have hb := And.right hb; rw [hc])); (try rw [hb]); exact y_lenS (by rfl) StrTy.is) ?_)
    | (refine nxV ?_)
    | (show RS _ _ _ _ _ _ _ _; first | (refine nxRS ?_) | (refine nxRS1 fun _ => ?_))
    | (show RM _ _ _ _ _ _ _ _ _ _; first | (refine nxRM ?_) | (refine nxRM1 fun _ => ?_))
    | (refine nxG ?_)
    | (refine nxVS ?_)
    | (refine nxGS ?_)
    | (refine nxX ?_)
    | (refine G.condN rfl (fun hc => ?_) (fun hc => ?_) <;> (try first | exact False.elim hc | (exfalso; omega))))
  refine G.loop (ι := Nat) (fun i => [(0, strV l), (1, .func (.func f) #[] #[]), (7, .int .i64 l.length), (8, .int .i64 (i : Int))]) (fun _ => []) (fun i => i ≤ l.length ∧ ∀ k : Nat, k < i → p (nth l (k : Int)).toNat = true) (fun i => l.length - i) 0 ⟨Nat.zero_le _, fun k hk => by omega⟩ ⟨rfl, rfl, rfl, rfl, trivial⟩ (fun w h => h) ?_
  rintro i mx ⟨g1, g2⟩ hmx
  rcases Nat.lt_or_ge i l.length with hi | hi
  · have q1 : ContIn Tryz.prog (fun _ => True) f ([.int .u8 (nth l (i : Int)).toNat] ++ (#[] : Array Value).toList) (.bool (p (nth l (i : Int)).toNat)) := fun w _ => hp _ w
    cases hb : p (nth l (i : Int)).toNat with
    | true =>
      rw [hb] at q1
      repeat' (first
    | (show YK _ _ _ _ _ ⟨_, .call { callee := .builtin .len, args := _, argTypes := #[9] }, _, _, _, _⟩ _; refine YK.ofV (y_lenS (by rfl) StrTy.is) ?_)
    | (show VK _ _ _ _ _ ⟨_, .call { callee := .builtin .len, args := _, argTypes := #[9] }, _, _, _, _⟩ _; refine VK.mk (y_lenS (by rfl) StrTy.is) ?_)
    | (show YG _ _ _ _ _ _ ⟨_, .call { callee := .builtin .len, args := _, argTypes := #[9] }, _, _, _, _⟩ _; refine YG.mk (fun hb => by (try (have hc := And.left hb; have hb := And.right hb; rw [hc])); (try rw [hb]); exact V.y (y_lenS (by rfl) StrTy.is)) ?_)
    | (show VG _ _ _ _ _ _ ⟨_, .call { callee := .builtin .len, args := _, argTypes := #[9] }, _, _, _, _⟩ _; refine VG.mk (fun hb => by (try (have hc := And.left hb; have hb := And.right hb; rw [hc])); (try rw [hb]); exact y_lenS (by rfl) StrTy.is) ?_)
    | (show YK _ _ _ _ _ ⟨_, .call { callee := .value _, args := _, argTypes := _ }, _, _, _, _⟩ _; refine YK.mk (y_callV (f := f) (by rfl) q1 (fun _ _ => trivial) ⟨rfl, rfl⟩ hg) ?_)
    | (refine nxV ?_)
    | (show RS _ _ _ _ _ _ _ _; first | (refine nxRS ?_) | (refine nxRS1 fun _ => ?_))
    | (show RM _ _ _ _ _ _ _ _ _ _; first | (refine nxRM ?_) | (refine nxRM1 fun _ => ?_))
    | (refine nxG ?_)
    | (refine nxVS ?_)
    | (refine nxGS ?_)
    | (refine nxX ?_)
    | (refine G.condN rfl (fun hc => ?_) (fun hc => ?_) <;> (try first | exact False.elim hc | (exfalso; omega))))
      refine X.again (i + 1) ⟨by omega, fun k hk => ?_⟩ (by omega) ⟨rfl, rfl, rfl, rfl, trivial⟩ (fun w h => h)
      rcases Nat.lt_or_ge k i with h | h
      · exact g2 k h
      · rw [show k = i by omega]; exact hb
    | false =>
      rw [hb] at q1
      repeat' (first
    | (show YK _ _ _ _ _ ⟨_, .call { callee := .builtin .len, args := _, argTypes := #[9] }, _, _, _, _⟩ _; refine YK.ofV (y_lenS (by rfl) StrTy.is) ?_)
    | (show VK _ _ _ _ _ ⟨_, .call { callee := .builtin .len, args := _, argTypes := #[9] }, _, _, _, _⟩ _; refine VK.mk (y_lenS (by rfl) StrTy.is) ?_)
    | (show YG _ _ _ _ _ _ ⟨_, .call { callee := .builtin .len, args := _, argTypes := #[9] }, _, _, _, _⟩ _; refine YG.mk (fun hb => by (try (have hc := And.left hb; have hb := And.right hb; rw [hc])); (try rw [hb]); exact V.y (y_lenS (by rfl) StrTy.is)) ?_)
    | (show VG _ _ _ _ _ _ ⟨_, .call { callee := .builtin .len, args := _, argTypes := #[9] }, _, _, _, _⟩ _; refine VG.mk (fun hb => by (try (have hc := And.left hb; have hb := And.right hb; rw [hc])); (try rw [hb]); exact y_lenS (by rfl) StrTy.is) ?_)
    | (show YK _ _ _ _ _ ⟨_, .call { callee := .value _, args := _, argTypes := _ }, _, _, _, _⟩ _; refine YK.mk (y_callV (f := f) (by rfl) q1 (fun _ _ => trivial) ⟨rfl, rfl⟩ hg) ?_)
    | (refine nxV ?_)
    | (show RS _ _ _ _ _ _ _ _; first | (refine nxRS ?_) | (refine nxRS1 fun _ => ?_))
    | (show RM _ _ _ _ _ _ _ _ _ _; first | (refine nxRM ?_) | (refine nxRM1 fun _ => ?_))
    | (refine nxG ?_)
    | (refine nxVS ?_)
    | (refine nxGS ?_)
    | (refine nxX ?_)
    | (refine G.condN rfl (fun hc => ?_) (fun hc => ?_) <;> (try first | exact False.elim hc | (exfalso; omega))))
      exact X.ret (vs := [_]) rfl ⟨rfl, rfl⟩ rfl (fun w hw => ⟨ret_bool (allP_f hi hb).symm, hw.ext⟩)
  · repeat' (first
    | (show YK _ _ _ _ _ ⟨_, .call { callee := .builtin .len, args := _, argTypes := #[9] }, _, _, _, _⟩ _; refine YK.ofV (y_lenS (by rfl) StrTy.is) ?_)
    | (show VK _ _ _ _ _ ⟨_, .call { callee := .builtin .len, args := _, argTypes := #[9] }, _, _, _, _⟩ _; refine VK.mk (y_lenS (by rfl) StrTy.is) ?_)
    | (show YG _ _ _ _ _ _ ⟨_, .call { callee := .builtin .len, args := _, argTypes := #[9] }, _, _, _, _⟩ _; refine YG.mk (fun hb => by (try (have hc := And.left hb; have hb := And.right hb; rw [hc])); (try rw [hb]); exact V.y (y_lenS (by rfl) StrTy.is)) ?_)
    | (show VG _ _ _ _ _ _ ⟨_, .call { callee := .builtin .len, args := _, argTypes := #[9] }, _, _, _, _⟩ _; refine VG.mk (fun hb => by (try (have hc := And.left hb; have hb := And.right hb; rw [hc])); (try rw [hb]); exact y_lenS (by rfl) StrTy.is) ?_)
    | (refine nxV ?_)
    | (show RS _ _ _ _ _ _ _ _; first | (refine nxRS ?_) | (refine nxRS1 fun _ => ?_))
    | (show RM _ _ _ _ _ _ _ _ _ _; first | (refine nxRM ?_) | (refine nxRM1 fun _ => ?_))
    | (refine nxG ?_)
    | (refine nxVS ?_)
    | (refine nxGS ?_)
    | (refine nxX ?_)
    | (refine G.condN rfl (fun hc => ?_) (fun hc => ?_) <;> (try first | exact False.elim hc | (exfalso; omega))))
    refine X.ret (vs := [_]) rfl ⟨rfl, rfl⟩ rfl (fun w hw => ⟨ret_bool ?_, hw.ext⟩)
    rw [allP_t (fun k hk => g2 k (by omega))]
    simp
theorem and_ff (x : Bool) : ¬ ((x && false) = true) := by simp
def nameB (l : List UInt8) : Bool := decide ((l.length : Int) ≤ 20) && allP wordB l && letterB (nth l 0).toNat
theorem isName_c (l : List UInt8) (hl : l.length ≤ 1000000) : Cont Tryz.prog 70 [strV l] (.bool (nameB l)) := fun w => by
  have q1 := all_c wordB word_c (by decide +kernel) l hl
  have q2 := letter_c ((nth l 0).toNat : Int)
  have hne : allP wordB l = true → 0 < l.length := fun h => by
    cases l with
    | nil => cases h
    | cons b r => simp
  refine enter0 Tryz.func70 rfl rfl rfl ?_
  cases hb : allP wordB l with
  | true =>
    rw [hb] at q1
    have := hne hb
    repeat' (first
    | (show YK _ _ _ _ _ ⟨_, .call { callee := .builtin .len, args := _, argTypes := #[9] }, _, _, _, _⟩ _; refine YK.ofV (y_lenS (by rfl) StrTy.is) ?_)
    | (show VK _ _ _ _ _ ⟨_, .call { callee := .builtin .len, args := _, argTypes := #[9] }, _, _, _, _⟩ _; refine VK.mk (y_lenS (by rfl) StrTy.is) ?_)
    | (show YG _ _ _ _ _ _ ⟨_, .call { callee := .builtin .len, args := _, argTypes := #[9] }, _, _, _, _⟩ _; refine YG.mk (fun hb => by (try (have hc := And.left hb; have hb := And.right hb; rw [hc])); (try rw [hb]); exact V.y (y_lenS (by rfl) StrTy.is)) ?_)
    | (show VG _ _ _ _ _ _ ⟨_, .call { callee := .builtin .len, args := _, argTypes := #[9] }, _, _, _, _⟩ _; refine VG.mk (fun hb => by (try (have hc := And.left hb; have hb := And.right hb; rw [hc])); (try rw [hb]); exact y_lenS (by rfl) StrTy.is) ?_)
    | (show YK _ _ _ _ _ _ _; first | refine YK.mk (y_callA (q1) ⟨rfl, rfl, rfl⟩) ?_ | refine YK.mk (y_callA (q2) ⟨rfl, rfl⟩) ?_)
    | (show YK _ _ _ _ _ _ _; refine YK.ofV vAuto ?_)
    | (show VK _ _ _ _ _ _ _; refine VK.mk vAuto ?_)
    | (show RS _ _ _ _ _ _ _ _; first | (refine nxRS ?_) | (refine nxRS1 fun _ => ?_))
    | (show RM _ _ _ _ _ _ _ _ _ _; first | (refine nxRM ?_) | (refine nxRM1 fun _ => ?_))
    | (show YG _ _ _ _ _ _ _ _; refine YG.mk (fun hb => by (try (have hc := And.left hb; have hb := And.right hb; rw [hc])); (try rw [hb]); first | exact (y_callA (q1) ⟨rfl, rfl, rfl⟩) | exact (y_callA (q2) ⟨rfl, rfl⟩) | exact V.y vAuto) ?_)
    | (show VG _ _ _ _ _ _ _ _; refine VG.mk (fun hb => by (try (have hc := And.left hb; have hb := And.right hb; rw [hc])); (try rw [hb]); exact vAuto) ?_)
    | (refine nxVS ?_)
    | (refine nxGS ?_)
    | (refine nxX ?_)
    | (refine G.condN rfl (fun hc => ?_) (fun hc => ?_) <;> (try first | exact False.elim hc | (exfalso; omega))))
    refine X.ret (vs := [_]) rfl ⟨rfl, rfl⟩ rfl (fun w hw => ⟨ret_bool ?_, hw.ext⟩)
    simp [nameB, hb]
  | false =>
    rw [hb] at q1
    repeat' (first
    | (show YK _ _ _ _ _ ⟨_, .call { callee := .builtin .len, args := _, argTypes := #[9] }, _, _, _, _⟩ _; refine YK.ofV (y_lenS (by rfl) StrTy.is) ?_)
    | (show VK _ _ _ _ _ ⟨_, .call { callee := .builtin .len, args := _, argTypes := #[9] }, _, _, _, _⟩ _; refine VK.mk (y_lenS (by rfl) StrTy.is) ?_)
    | (show YG _ _ _ _ _ _ ⟨_, .call { callee := .builtin .len, args := _, argTypes := #[9] }, _, _, _, _⟩ _; refine YG.mk (fun hb => by (try (have hc := And.left hb; have hb := And.right hb; rw [hc])); (try rw [hb]); exact V.y (y_lenS (by rfl) StrTy.is)) ?_)
    | (show VG _ _ _ _ _ _ ⟨_, .call { callee := .builtin .len, args := _, argTypes := #[9] }, _, _, _, _⟩ _; refine VG.mk (fun hb => by (try (have hc := And.left hb; have hb := And.right hb; rw [hc])); (try rw [hb]); exact y_lenS (by rfl) StrTy.is) ?_)
    | (show YG _ _ _ _ _ _ _ _; refine YG.mk (v := .bool false) (fun hb => absurd hb (and_ff _)) ?_)
    | (show VG _ _ _ _ _ _ _ _; refine VG.mk (v := .bool false) (fun hb => absurd hb (and_ff _)) ?_)
    | (show YK _ _ _ _ _ _ _; first | refine YK.mk (y_callA (q1) ⟨rfl, rfl, rfl⟩) ?_ | refine YK.mk (y_callA (q2) ⟨rfl, rfl⟩) ?_)
    | (show YK _ _ _ _ _ _ _; refine YK.ofV vAuto ?_)
    | (show VK _ _ _ _ _ _ _; refine VK.mk vAuto ?_)
    | (show RS _ _ _ _ _ _ _ _; first | (refine nxRS ?_) | (refine nxRS1 fun _ => ?_))
    | (show RM _ _ _ _ _ _ _ _ _ _; first | (refine nxRM ?_) | (refine nxRM1 fun _ => ?_))
    | (show YG _ _ _ _ _ _ _ _; refine YG.mk (fun hb => by (try (have hc := And.left hb; have hb := And.right hb; rw [hc])); (try rw [hb]); first | exact (y_callA (q1) ⟨rfl, rfl, rfl⟩) | exact (y_callA (q2) ⟨rfl, rfl⟩) | exact V.y vAuto) ?_)
    | (show VG _ _ _ _ _ _ _ _; refine VG.mk (fun hb => by (try (have hc := And.left hb; have hb := And.right hb; rw [hc])); (try rw [hb]); exact vAuto) ?_)
    | (refine nxVS ?_)
    | (refine nxGS ?_)
    | (refine nxX ?_)
    | (refine G.condN rfl (fun hc => ?_) (fun hc => ?_) <;> (try first | exact False.elim hc | (exfalso; omega))))
    refine X.ret (vs := [_]) rfl ⟨rfl, rfl⟩ rfl (fun w hw => ⟨ret_bool ?_, hw.ext⟩)
    simp [nameB, hb]
def numB (s : StarT) : Bool := decide (0 ≤ s.2.1) && decide (s.2.1 ≤ 215999) && decide (-54000 ≤ s.2.2.1) && decide (s.2.2.1 ≤ 54000) && decide (-20 ≤ s.2.2.2) && decide (s.2.2.2 ≤ 150)
def idxS (l : List StarT) (nm : List UInt8) : Int := match (List.range l.length).find? (fun i : Nat => decide ((nth l (i : Int)).1 = nm)) with
  | some k => (k : Int)
  | none => -1
theorem findr_some {p : Nat → Bool} {m j : Nat} (hj : j < m) (h1 : ∀ k, k < j → p k = false) (h2 : p j = true) : (List.range m).find? p = some j :=
  List.find?_range_eq_some.2 ⟨h2, List.mem_range.2 hj, fun k hk => by rw [h1 k hk]; rfl⟩
theorem findr_none {p : Nat → Bool} {m : Nat} (h1 : ∀ k, k < m → p k = false) : (List.range m).find? p = none :=
  List.find?_range_eq_none.2 fun k hk => by rw [h1 k hk]; rfl
abbrev boxS (B : Nat) : Value := .slice (some ⟨B, 0, none⟩) 1 1
abbrev c1S (v : Value) : List Value := [v]
theorem boxS_of {w0 w : World} {H : List Hl} {b : Nat} {t : TypeId} {v : Value} (hw : St w0 H w) (hm : Hl.blk b t [v] ∈ H) : RO w (boxS b) 1 1 [v] := by
  refine ⟨rfl, some ⟨b, 0, none⟩, 1, rfl, Nat.le_refl _, fun _ => ⟨_, rfl, fun j u hu => ?_⟩, fun g => by cases g⟩
  match j, hu with
  | 0, hu => exact (hw.cell hm 0).trans hu
theorem boxS_m (xv : Value) : (0 : Int) ≤ 0 ∧ (0 : Int) < ([xv].length : Nat) := ⟨by decide, by simp⟩
end Go.Proofs.YtpekkcahehhkmaaGreatDoor
/- Slices of bytes that the call makes, stored into, and made a string. -/
set_option linter.unusedVariables false
set_option maxHeartbeats 4000000
namespace Go.Proofs.YtpekkcahehhkmaaGreatDoor
open Go.RowKit

abbrev cB (x : Int) : List Value := [.int .u8 x]
section
variable {P : Program} {n : Nat} {L : FL} {w0 : World} {H : List Hl} {Q : Exit → Act → World → Prop} {ops : Array Oper} {rest : List Oper} {d : Option Tmp} {dd : Nat} {ty : TypeId} {pos : String} {af : Array Edge} {g : Option (Nat × Bool)} {x y : Operand} {t t' e : TypeId} {v : Value} {k : IntKind} {m : Int} {bytes : Nat}
def zeroByteB (P : Program) (e : TypeId) : Bool := match zeroOf P e with
  | some (.int .u8 0) => true
  | _ => false
theorem zeroByteB_spec {P : Program} {e : TypeId} (h : zeroByteB P e = true) : zeroOf P e = some (.int .u8 0) := by
  unfold zeroByteB at h
  split at h
  · assumption
  · cases h
theorem RS.makeB (h : ∀ v' : Sl, RS P ops Q n ((dd, v'.v) :: L) w0 (Hl.rw v'.v e cB 1 (List.replicate m.toNat 0) :: H) rest) (hx : evO L x = some (.int k m) := by rfl) [ht : RowTy P t e 1 bytes] (hz : zeroByteB P e = true := by decide +kernel) (hm : 0 ≤ m ∧ m * bytes ≤ 140737488355328 ∧ m ≤ 140737488355328 := by exact omlA) (hd : Nat.blt dd n = true := by rfl) :
    RS P ops Q n L w0 H (⟨some dd, .makeSlice t x x, ty, pos, af, none⟩ :: rest) := RS.actX rfl (x_make (f := cB) (z0 := 0) hx hm (zeroByteB_spec hz) rfl (fun _ => rfl) (rowTy_B ht.is) hd) fun v' _ => h v'
theorem RS.storeY {ls : List Int} {b : Int} {H' : List Hl} (h : RS P ops Q n L w0 H' rest) (hx : evO L x = some (elA v 1 m 0) := by rfl) (hy : evO L y = some (.int .u8 b) := by rfl) (hu : Upd (Hl.rw v e cB 1 ls) (Hl.rw v e cB 1 (ls.set m.toNat b)) H H' := by exact updA) (hm : 0 ≤ m ∧ m < ls.length := by exact omlA) (hs : scalarB P t = true := by decide +kernel) :
    RS P ops Q n L w0 H (⟨none, .store t x y, ty, pos, af, none⟩ :: rest) := RS.actX rfl (x_storeEl (f := cB) (b := b) hx hy rfl hu hm (fun _ => rfl) rfl rfl hs) fun _ _ => h
theorem fold_push : ∀ (ns : List Int) (s : ByteArray), ns.foldl (fun r n => r.push (UInt8.ofNat n.toNat)) s = ⟨(s.data.toList ++ ns.map fun n => UInt8.ofNat n.toNat).toArray⟩
  | [], s => by cases s; simp
  | n :: ns, s => by
    rw [List.foldl_cons, fold_push ns]
    congr 1
    simp [ByteArray.push]
theorem y_strOf {ls : List Int} (hx : evO L x = some v) (h : RdT H v cB 1 ls) (h1 : P.underlying t = some (.slice e)) (h2 : P.underlying e = some (.int .u8)) (h3 : P.underlying t' = some .string) (hne : ls ≠ []) : V P n L w0 H ⟨d, .convert t t' x, ty, pos, af, g⟩ (strV (ls.map fun n => UInt8.ofNat n.toNat)) := by
  unfold V
  intro a w ha hw
  obtain ⟨hl, A, c, rfl, hnc, hcells, _⟩ := h _ _ hw
  obtain ⟨ad, rfl, hc⟩ := hcells (by cases ls with | nil => exact absurd rfl hne | cons b r => simp)
  have e1 : ls.flatMap cB = ls.map (Value.int .u8) := by
    clear hl hnc hcells hc hne hx h
    induction ls with
    | nil => rfl
    | cons b r ih => simp [ih]
  have hld : (loadCells ad ls.length).run P w = .ok (ls.map (Value.int .u8)).toArray w := by
    have := run_loadCells_list (P := P) w ad (ls.map (Value.int .u8)) (by rw [← e1]; exact hc)
    simpa using this
  have h4 := run_convert_bytes_string (P := P) w t t' e (some ad) ls.length c h1 h2 h3
  rw [run_bytesToString w ad ls.length c ls hld, fold_push] at h4
  simp only [execOp, ha.eval hx]
  simp [h4]
end
end Go.Proofs.YtpekkcahehhkmaaGreatDoor
/- A slice literal of structs; the law's constants. -/
set_option linter.unusedVariables false
set_option maxHeartbeats 4000000
namespace Go.Proofs.YtpekkcahehhkmaaGreatDoor
open Go.RowKit
section
variable {P : Program} {n : Nat} {L : FL} {w0 : World} {H : List Hl} {dd : Tmp} {ty : TypeId} {pos : String} {af : Array Edge} {gd : Option (Nat × Bool)} {t e : TypeId} {s bytes : Nat} {α : Type} {f : α → List Value} {l : List α}
/-- A slice literal whose elements are values of s cells. -/
theorem x_litS {parts : List (Nat × Operand)} {vs cs : List Value} {k : Nat} (ha : AE L (parts.map (·.2)) vs) (hi : parts.map (·.1) = List.range' 0 k) (hk : Nat.ble (k * s) 16777216 = true) (hk2 : Nat.ble k 16777216 = true) (hk0 : Nat.blt 0 (k * s) = true)
    (hfill : ∀ zs : List Value, zs.length = k * s → Instr.fill (fun i => some (i * s, s)) zs.toArray ((List.range' 0 k).zip vs) = some cs.toArray) (hcl : cs.length = k * s)
    (hc : cs = l.flatMap f) (hlk : l.length = k) (ht : rowTyB P t e s bytes = true) (hd : Nat.blt dd n = true) :
    EX P n L w0 H ⟨some dd, .buildSlice t k parts.toArray, ty, pos, af, gd⟩ (fun _ : Sl => True) (fun v' => (dd, v'.v) :: L) (fun v' => Hl.rw v'.v e f s l :: H) :=
  EX.of_run (fun a w hfr hw => by
    obtain ⟨i, z, hu1, hi1, hz1, hs, hby, hzs, h0⟩ := rowTyB_spec ht
    have hk' : k * s ≤ 16777216 := Nat.le_of_ble_eq_true hk
    have hk2 : k ≤ 16777216 := Nat.le_of_ble_eq_true hk2
    have hk3 : ¬ (16777216 < k * s) := by omega
    have hk4 : ¬ (k * s = 0) := by have := Nat.le_of_ble_eq_true hk0; omega
    have hparts : (Array.map (fun x => match x with | (i, x) => (i, a.eval x)) parts.toArray).toList = (List.range' 0 k).zip vs := by
      have := ha.map hfr
      subst this
      rw [← hi]
      simp only [List.map_toArray, List.toList_toArray]
      clear hc hi ha hfill
      induction parts with
      | nil => rfl
      | cons p r ih => simp [ih]
    have hrun : (Instr.buildSlice t k (Array.map (fun x => match x with | (i, x) => (i, a.eval x)) parts.toArray)).run P w = .ok (.slice (some ⟨w.heap.size, 0, none⟩) k k) (w.alloc (.cells cs.toArray e)) := by
      unfold Instr.buildSlice
      have hsz : (P.info? e).map (·.size) = some s := by simp [hi1, hs]
      have hzv : (zeroValue e).run P w = .ok z w := by simp [zeroValue, typeInfo, hi1, hz1]
      simp only [Sem.run_bind, run_underlying hu1, Result.andThen_ok, run_sizeOf_of hsz, hparts]
      have h5 := hfill ((Array.map (fun x => z.cells[x % z.cells.size]!) (Array.range (k * s))).toList) (by simp)
      simp only [Array.toArray_toList] at h5
      simp [hk3, hk4, hzv, h5, newRow]
    refine ⟨.slice (some ⟨w.heap.size, 0, none⟩) k k, w.alloc (.cells cs.toArray e), ⟨some ⟨w.heap.size, 0, none⟩, k, k⟩, by simp only [execOp, Sem.run_bind, hrun, Result.andThen_ok, Sem.run_pure], trivial, rfl, ?_⟩
    have h6 := hw.newRow e cs.toArray s k (by simp [hcl]) (by simp only [maxLen]; omega)
    subst hc
    rw [← hlk] at h6 ⊢
    exact h6) hd
end
end Go.Proofs.YtpekkcahehhkmaaGreatDoor
/- A map from strings to bools that the call made: a set of names. -/
set_option linter.unusedVariables false
set_option maxHeartbeats 4000000
namespace Go.Proofs.YtpekkcahehhkmaaGreatDoor
open Go.RowKit
open Go.WideElems (Fit rg)
/-- A block that is a map of at most n names; those of S are true. -/
def mapI (P : Program) (k e : TypeId) (n : Nat) (S : List (List UInt8)) (o : Obj) : Prop :=
  ∃ es clock, ∃ D : DataW Unit, o = .map es clock ∧ Fit P k (plainElem (H := Unit) P e) es clock ∧ es.size ≤ n ∧ D = .map ((es.toList.map (rg P k (plainElem (H := Unit) P e))).foldr DataW.insert []) ∧ ∀ x : List UInt8, D.atKey (.string x) (.lit (.bool false)) = .lit (.bool (decide (x ∈ S)))
abbrev Hl.map (P : Program) (k e : TypeId) (b n : Nat) (S : List (List UInt8)) : Hl := .oth b (mapI P k e n S)
theorem mapI_owns {P : Program} {k e : TypeId} {n b base : Nat} {S : List (List UInt8)} {w : World} (h : (Hl.map P k e b n S).holds base w) : ∃ D : DataW Unit, w.ownsMap P k (plainElem (H := Unit) P e) b n D ∧ ∀ x : List UInt8, D.atKey (.string x) (.lit (.bool false)) = .lit (.bool (decide (x ∈ S))) := by
  obtain ⟨_, o, h1, es, clock, D, rfl, h2, h3, h4, h5⟩ := h
  exact ⟨D, ⟨es, clock, h1, h2, h3, h4⟩, h5⟩
theorem mapI_of {P : Program} {k e : TypeId} {n b : Nat} {S : List (List UInt8)} {w : World} {D : DataW Unit} (h : w.ownsMap P k (plainElem (H := Unit) P e) b n D) (hs : ∀ x : List UInt8, D.atKey (.string x) (.lit (.bool false)) = .lit (.bool (decide (x ∈ S)))) : ∃ o, w.heap[b]? = some o ∧ mapI P k e n S o := by
  obtain ⟨es, clock, h1, h2, h3, h4⟩ := h
  exact ⟨_, h1, es, clock, D, rfl, h2, h3, h4, hs⟩
theorem plainElem_bool_inv {H : Type} {P : Program} {e : TypeId} (he : P.underlying e = some .bool) {v : Value} {z : DataW H × List MemPlace} (h : plainElem P e v = some z) : ∃ b, v = .bool b ∧ z = (.lit (.bool b), []) := by
  unfold plainElem at h
  rw [he] at h
  cases v <;> simp at h
  exact ⟨_, rfl, h.symm⟩
section
variable {P : Program} {ops : Array Oper} {n : Nat} {L : FL} {w0 : World} {H : List Hl} {Q : Exit → Act → World → Prop} {rest : List Oper} {dd : Nat} {ty t k e : TypeId} {pos : String} {af : Array Edge} {gd : Option (Nat × Bool)} {m : Operand} {x y : Operand} {b N : Nat} {S : List (List UInt8)} {s : List UInt8}
theorem x_makeMap (hd : Nat.blt dd n = true) : EX P n L w0 H ⟨some dd, .makeMap t none, ty, pos, af, gd⟩ (fun _ : Nat => True) (fun b => (dd, .map (some b)) :: L) (fun b => Hl.map P k e b 0 [] :: H) :=
  EX.of_run (fun a w ha hw => ⟨.map (some w.heap.size), w.alloc (.map #[] 0), w.heap.size, by simp [execOp, run_makeMap], trivial, rfl, by
    have h1 := hw.step ((Below.refl w.heap.size w).alloc (Nat.le_refl _) (.map #[] 0))
    refine ⟨h1.ext, fun z hz => ?_, fun z hz b hb ho => ?_, hw.apart⟩
    · rcases List.mem_cons.1 hz with rfl | hz
      · refine ⟨hw.ext.size, mapI_of (World.ownsMap_made w P k (plainElem (H := Unit) P e)) fun x => ?_⟩
        simp [DataW.atKey]
      · exact h1.all z hz
    · simp only [Hl.spot, Option.some.injEq] at hb
      subst hb
      exact absurd (Hl.lt (hw.all z hz) ho) (Nat.lt_irrefl _)⟩) hd
theorem RS.makeMap (k e : TypeId) (h : ∀ b, RS P ops Q n ((dd, .map (some b)) :: L) w0 (Hl.map P k e b 0 [] :: H) rest) (hd : Nat.blt dd n = true := by rfl) :
    RS P ops Q n L w0 H (⟨some dd, .makeMap t none, ty, pos, af, none⟩ :: rest) := RS.actX rfl (x_makeMap hd) fun b _ => h b
/-- A look-up. -/
theorem v_look (ht : P.underlying t = some (.map k e)) (hk : P.underlying k = some .string) (he : P.underlying e = some .bool) (hz : ∀ w, (zeroValue e).run P w = .ok (.bool false) w)
    (hm : evO L m = some (.map (some b))) (hx : evO L x = some (strV s)) (hs : s.length ≤ maxLen) (hh : Hl.map P k e b N S ∈ H) : V P n L w0 H ⟨some dd, .lookup t m x false, ty, pos, af, gd⟩ (.bool (decide (s ∈ S))) := by
  unfold V
  intro a w ha hw
  obtain ⟨D, h1, h2⟩ := mapI_owns (hw.all _ hh)
  obtain ⟨v, ps, hrun, hv⟩ := h1.lookup (Maps.string_keyed hk) ht (hz w) (plainElem_bool he false) (key := strV s) (kl := .string s) (by
    have := WideMaps.keyOf_string_mk hk (s := ⟨s.toArray⟩) (by simpa [ByteArray.size] using hs)
    simpa using this)
  rw [h2] at hv
  obtain ⟨c, rfl, hc⟩ := plainElem_bool_inv he hv
  simp only [Prod.mk.injEq, DataW.lit.injEq, Lit.bool.injEq] at hc
  rw [hc.1]
  simp [execOp, ha.eval hm, ha.eval hx, hrun]
theorem x_look (ht : P.underlying t = some (.map k e)) (hk : P.underlying k = some .string) (he : P.underlying e = some .bool) (hz : ∀ w, (zeroValue e).run P w = .ok (.bool false) w)
    (hm : evO L m = some (.map (some b))) (hx : evO L x = some (strV s)) (hs : s.length ≤ maxLen) (hh : Hl.map P k e b N S ∈ H) (hd : Nat.blt dd n = true) : EX P n L w0 H ⟨some dd, .lookup t m x false, ty, pos, af, gd⟩ (fun _ : Unit => True) (fun _ => (dd, .bool (decide (s ∈ S))) :: L) (fun _ => H) :=
  EX.of_run (fun a w ha hw => ⟨_, _, (), by
    have h := v_look (P := P) (n := n) (L := L) (w0 := w0) (H := H) (dd := dd) (ty := ty) (pos := pos) (af := af) (gd := gd) ht hk he hz hm hx hs hh
    unfold V at h
    exact h a w ha hw, trivial, rfl, hw⟩) hd
theorem RS.lookF {j g : Nat} (S : List (List UInt8)) {c : Bool} (hc : decide (s ∈ S) = c) (h : RS P ops Q n ((dd, .bool c) :: L) w0 H rest) (hs : s.length ≤ maxLen) (hh : Hl.map P k e b N S ∈ H) (ht : P.underlying t = some (.map k e)) (hk : P.underlying k = some .string) (he : P.underlying e = some .bool) (hz : ∀ w, (zeroValue e).run P w = .ok (.bool false) w)
    (hm : evO L m = some (.map (some b)) := by rfl) (hx : evO L x = some (strV s) := by rfl) (hj : (ops[j]?).bind (·.dst) = some g := by rfl) (hg : lk L g = some (.bool false) := by rfl) (hd : Nat.blt dd n = true := by rfl) :
    RS P ops Q n L w0 H (⟨some dd, .lookup t m x false, ty, pos, af, some (j, false)⟩ :: rest) := RS.actXT hj hg rfl (x_look ht hk he hz hm hx hs hh hd) fun _ _ => hc ▸ h
/-- A store of true. -/
theorem x_put {H' : List Hl} (ht : P.underlying t = some (.map k e)) (hk : P.underlying k = some .string) (he : P.underlying e = some .bool)
    (hm : evO L m = some (.map (some b))) (hx : evO L x = some (strV s)) (hy : evO L y = some (.bool true)) (hs : s.length ≤ maxLen) (hN : N < maxLen) (hu : Upd (Hl.map P k e b N S) (Hl.map P k e b (N + 1) (s :: S)) H H') :
    EX P n L w0 H ⟨none, .mapUpdate t m x y, ty, pos, af, gd⟩ (fun _ : Unit => True) (fun _ => L) (fun _ => H') :=
  EX.of_skip fun a w ha hw => by
    have hb := hw.all _ hu.mem
    obtain ⟨D, h1, h2⟩ := mapI_owns hb
    obtain ⟨w', hrun, h3, h4⟩ := h1.update (Maps.string_keyed hk) ht hN (key := strV s) (kl := .string s) (val := .bool true) (by
      have := WideMaps.keyOf_string_mk hk (s := ⟨s.toArray⟩) (by simpa [ByteArray.size] using hs)
      simpa using this) (plainElem_bool he true)
    refine ⟨w', (), by simp [execOp, ha.eval hm, ha.eval hx, ha.eval hy, hrun], trivial, rfl, ?_⟩
    refine hw.turn hu rfl h4 ⟨hb.1, mapI_of h3 fun z => ?_⟩ fun c hc => .inl hc
    obtain ⟨es, clock, _, _, _, hD⟩ := h1
    by_cases e1 : z = s
    · subst e1
      rw [Maps.atKey_put_same ⟨_, hD⟩ (k := .string z) (by trivial)]
      simp
    · rw [Maps.atKey_put_other (by intro h; cases h; exact e1 rfl), h2]
      simp [e1]
theorem RS.put {H' : List Hl} (hu : Upd (Hl.map P k e b N S) (Hl.map P k e b (N + 1) (s :: S)) H H') (hN : N < maxLen) (hs : s.length ≤ maxLen) (h : RS P ops Q n L w0 H' rest) (ht : P.underlying t = some (.map k e)) (hk : P.underlying k = some .string) (he : P.underlying e = some .bool)
    (hm : evO L m = some (.map (some b)) := by rfl) (hx : evO L x = some (strV s) := by rfl) (hy : evO L y = some (.bool true) := by rfl) :
    RS P ops Q n L w0 H (⟨none, .mapUpdate t m x y, ty, pos, af, none⟩ :: rest) := RS.actX rfl (x_put ht hk he hm hx hy hs hN hu) fun _ _ => h
end
end Go.Proofs.YtpekkcahehhkmaaGreatDoor
/- Pages: tracks and what they hold; within; a track's validity. -/
set_option linter.unusedVariables false
set_option maxHeartbeats 4000000
namespace Go.Proofs.YtpekkcahehhkmaaGreatDoor
open Go.RowKit

/-- A track: a name, two slices with what they hold, three numbers. -/
structure TrkT where
  nm : List UInt8
  gv : Sl
  gl : List Int
  dv : Sl
  dl : List Int
  se : Int
  pa : Int
  be : Int
instance : Inhabited TrkT := ⟨⟨[], ⟨none, 0, 0⟩, [], ⟨none, 0, 0⟩, [], 0, 0, 0⟩⟩
abbrev cT (t : TrkT) : List Value := [strV t.nm, t.gv.v, t.dv.v, .int .i64 t.se, .int .i64 t.pa, .int .i64 t.be]
abbrev trV (t : TrkT) : Value := .agg [strV t.nm, t.gv.v, t.dv.v, .int .i64 t.se, .int .i64 t.pa, .int .i64 t.be].toArray
abbrev pgV (y m d : Int) (v : Value) : Value := .agg [.int .i64 y, .int .i64 m, .int .i64 d, v].toArray
theorem RO.stay {w w' : World} {v : Value} {s n : Nat} {xs : List Value} (h : RO w v s n xs) (hb : Below w.heap.size w w') : RO w' v s n xs :=
  (Hl.keep (h := .ro false v s n xs) (base := 0) ⟨h, fun g => by cases g⟩ fun b ho => hb.block b (Hl.lt (h := .ro false v s n xs) (base := 0) ⟨h, fun g => by cases g⟩ ho)).1
def In1 (w : World) (t : TrkT) : Prop := RO w t.gv.v 1 t.gl.length (t.gl.flatMap cI) ∧ RO w t.dv.v 1 t.dl.length (t.dl.flatMap cI)
def InT (w : World) (l : List TrkT) : Prop := ∀ t ∈ l, In1 w t
abbrev PgP (v : Value) (l : List TrkT) (w : World) : Prop := RO w v 6 l.length (l.flatMap cT) ∧ InT w l
theorem In1.keep {w w' : World} {t : TrkT} (h : In1 w t) (hb : Below w.heap.size w w') : In1 w' t := ⟨h.1.stay hb, h.2.stay hb⟩
theorem InT.keep {w w' : World} {l : List TrkT} (h : InT w l) (hb : Below w.heap.size w w') : InT w' l := fun t ht => (h t ht).keep hb
theorem PgP.keep {w w' : World} {v : Value} {l : List TrkT} (h : PgP v l w) (hb : Below w.heap.size w w') : PgP v l w' := ⟨h.1.stay hb, InT.keep h.2 hb⟩
theorem InT.at {w : World} {l : List TrkT} (h : InT w l) {i : Nat} (hi : i < l.length) : In1 w (nth l (i : Int)) := by
  have e := nth_some (l := l) (m := (i : Int)) (by omega) (by omega)
  rw [Int.toNat_natCast] at e
  exact h _ (List.mem_of_getElem? e)
/-! ### A slice of old memory comes into the state -/
theorem RO.old {w : World} {v : Value} {s n : Nat} {xs : List Value} (h : RO w v s n xs) (hne : xs ≠ []) {b : Nat} (hb : v.ownBlock = some b) : b < w.heap.size := by
  obtain ⟨_, A, c, rfl, _, hc, _⟩ := h
  obtain ⟨a, rfl, hc2⟩ := hc hne
  simp only [Value.ownBlock, Option.some.injEq] at hb
  subst hb
  cases xs with
  | nil => exact absurd rfl hne
  | cons u r =>
    have := World.block_lt_of_cell? w _ (hc2 0 u rfl)
    rwa [add_block] at this
theorem St.bring {w0 w : World} {H : List Hl} {v : Value} {s n : Nat} {xs : List Value} (hr : RO w0 v s n xs) (h : St w0 H w) : St w0 (.ro false v s n xs :: H) w := by
  refine ⟨h.ext, fun x hx => ?_, fun z hz b hb ho => ?_, h.apart⟩
  · rcases List.mem_cons.1 hx with rfl | hx
    · exact ⟨hr.stay h.ext, fun g => by cases g⟩
    · exact h.all x hx
  · refine ⟨rfl, ?_⟩
    cases he : z.excl with
    | false => rfl
    | true =>
      have g := Hl.ge (h.all z hz) he ho
      cases xs with
      | nil => simp [Hl.spot] at hb
      | cons u r =>
        have := hr.old (by simp) hb
        omega
section
variable {P : Program} {Q : Exit → Act → World → Prop} {n : Nat} {L : FL} {w0 : World} {H : List Hl} {c : Code} {e : Exit} {v : Value} {s : Nat} {α : Type} {f : α → List Value} {l : List α}
theorem G.bring (hr : RO w0 v s l.length (l.flatMap f)) (h : G P Q n L w0 (Hl.rd v f s l :: H) c) : G P Q n L w0 H c := by
  unfold G at h ⊢
  exact fun a w ha hw => h a w ha (hw.bring hr)
theorem RS.splB {ops : Array Oper} {rest : List Oper} {b : Bool} (g : Nat) (hg : lk L g = some (.bool b)) (h1 : b = true → RS P ops Q n ((g, .bool true) :: L) w0 H rest) (h2 : b = false → RS P ops Q n ((g, .bool false) :: L) w0 H rest) : RS P ops Q n L w0 H rest := by
  unfold RS at *
  intro a w ha hw
  cases b with
  | true => exact h1 rfl a w (ha.known hg) hw
  | false => exact h2 rfl a w (ha.known hg) hw
theorem RS.lit1I {ops : Array Oper} {rest : List Oper} {dd : Nat} {ty t e : TypeId} {bytes : Nat} {pos : String} {af : Array Edge} {x : Operand} {m : Int} (h : ∀ v' : Sl, RS P ops Q n ((dd, v'.v) :: L) w0 (Hl.rw v'.v e cI 1 [m] :: H) rest) (hx : evO L x = some (.int .i64 m) := by rfl) [ht : RowTy P t e 1 bytes] (hd : Nat.blt dd n = true := by rfl) :
    RS P ops Q n L w0 H (⟨some dd, .buildSlice t 1 #[(0, x)], ty, pos, af, none⟩ :: rest) := RS.actX rfl (x_litS (parts := [(0, x)]) (vs := [.int .i64 m]) (cs := cI m) (f := cI) (l := [m]) ⟨hx, rfl⟩ rfl rfl rfl rfl (fun zs hz => by
      match zs, hz with
      | [_], _ => rfl) rfl rfl rfl (rowTy_B ht.is) hd) fun v' _ => h v'
theorem RS.lit1IT {ops : Array Oper} {rest : List Oper} {dd j g : Nat} {ty t e : TypeId} {bytes : Nat} {pos : String} {af : Array Edge} {x : Operand} {m : Int} (h : ∀ v' : Sl, RS P ops Q n ((dd, v'.v) :: L) w0 (Hl.rw v'.v e cI 1 [m] :: H) rest) (hx : evO L x = some (.int .i64 m) := by rfl) (hj : (ops[j]?).bind (·.dst) = some g := by rfl) (hg : lk L g = some (.bool true) := by rfl) [ht : RowTy P t e 1 bytes] (hd : Nat.blt dd n = true := by rfl) :
    RS P ops Q n L w0 H (⟨some dd, .buildSlice t 1 #[(0, x)], ty, pos, af, some (j, true)⟩ :: rest) := RS.actXT hj hg rfl (x_litS (parts := [(0, x)]) (vs := [.int .i64 m]) (cs := cI m) (f := cI) (l := [m]) ⟨hx, rfl⟩ rfl rfl rfl rfl (fun zs hz => by
      match zs, hz with
      | [_], _ => rfl) rfl rfl rfl (rowTy_B ht.is) hd) fun v' _ => h v'
end
/-- A box of one value that is read. -/
theorem y_box {P : Program} {n : Nat} {L : FL} {w0 : World} {H : List Hl} {d : Option Tmp} {ty t : TypeId} {pos : String} {af : Array Edge} {g : Option (Nat × Bool)} {x : Operand} (b : Nat) (u : Value) (hx : evO L x = some (.pointer (some ⟨b, 0, none⟩))) (h : RdT H (boxS b) c1S 1 [u]) (ht : scalarB P t = true) :
    V P n L w0 H ⟨d, .load t x, ty, pos, af, g⟩ u := y_loadEl (inst := ⟨u⟩) (u := u) (v := boxS b) (s := 1) (m := 0) (i := 0) (f := c1S) (l := [u]) hx h (fun _ => rfl) (boxS_m _) rfl rfl ht
/-! ### within -/
def inB (l : List Int) (lo hi : Int) : Bool := l.all fun n => decide (lo ≤ n) && decide (n ≤ hi)
theorem within1_c (b1 b2 : Nat) (x lo up : Int) : ContIn Tryz.prog (fun w => RO w (boxS b1) 1 1 [.int .i64 lo] ∧ RO w (boxS b2) 1 1 [.int .i64 up]) 110 ([.int .i64 x] ++ (#[.pointer (some ⟨b1, 0, none⟩), .pointer (some ⟨b2, 0, none⟩)] : Array Value).toList) (.bool (decide (x < lo) || decide (up < x))) := fun w hw0 => by
  refine enter Tryz.func110 rfl rfl rfl (Hp := [Hl.rd (boxS b1) c1S 1 [.int .i64 lo], Hl.rd (boxS b2) c1S 1 [.int .i64 up]]) (fun h hm => by
    rcases List.mem_cons.1 hm with rfl | hm
    · exact ⟨⟨hw0.1, fun h => by cases h⟩, rfl⟩
    rcases List.mem_singleton.1 hm with rfl
    exact ⟨⟨hw0.2, fun h => by cases h⟩, rfl⟩) ?_
  repeat' (first
    | (show YK _ _ _ _ _ ⟨_, .load _ (.tmp 1), _, _, _, _⟩ _; refine YK.ofV (y_box b1 (.int .i64 lo) (by rfl) (by exact rdA) (by decide +kernel)) ?_)
    | (show YG _ _ _ _ _ _ ⟨_, .load _ (.tmp 2), _, _, _, _⟩ _; refine YG.mk (fun hb => (y_box b2 (.int .i64 up) (by rfl) (by exact rdA) (by decide +kernel)).y) ?_)
    | (refine nxV ?_)
    | (show RS _ _ _ _ _ _ _ _; first | (refine nxRS ?_) | (refine nxRS1 fun _ => ?_))
    | (show RM _ _ _ _ _ _ _ _ _ _; first | (refine nxRM ?_) | (refine nxRM1 fun _ => ?_))
    | (refine nxG ?_)
    | (refine nxX ?_)
    | (refine G.condN rfl (fun hc => ?_) (fun hc => ?_) <;> (try first | exact False.elim hc | (exfalso; omega))))
  refine X.ret (vs := [_]) rfl ⟨rfl, rfl⟩ rfl (fun w hw => ⟨ret_bool ?_, hw.ext⟩)
  simp
def badI (lo up : Int) (x : Int) : Bool := decide (x < lo) || decide (up < x)
theorem indexI_c (b1 b2 : Nat) (lo up : Int) (v : Value) (l : List Int) (hl : l.length ≤ 1000000) (r : Int) (hr : r = match (List.range l.length).find? (fun i : Nat => badI lo up (nth l (i : Int))) with
      | some k => (k : Int)
      | none => -1) :
    ContIn Tryz.prog (fun w => RO w v 1 l.length (l.flatMap cI) ∧ RO w (boxS b1) 1 1 [.int .i64 lo] ∧ RO w (boxS b2) 1 1 [.int .i64 up]) 134 [v, .func (.func 110) #[] #[.pointer (some ⟨b1, 0, none⟩), .pointer (some ⟨b2, 0, none⟩)]] (.int .i64 r) := fun w hw0 => by
  refine enter Tryz.func134 rfl rfl rfl (Hp := [Hl.rd v cI 1 l]) (fun h hm => by
    rcases List.mem_singleton.1 hm with rfl
    exact ⟨⟨hw0.1, fun h => by cases h⟩, rfl⟩) ?_
  repeat' (first
    | (refine nxV ?_)
    | (show RS _ _ _ _ _ _ _ _; first | (refine nxRS ?_) | (refine nxRS1 fun _ => ?_))
    | (show RM _ _ _ _ _ _ _ _ _ _; first | (refine nxRM ?_) | (refine nxRM1 fun _ => ?_))
    | (refine nxG ?_)
    | (refine nxX ?_)
    | (refine G.condN rfl (fun hc => ?_) (fun hc => ?_) <;> (try first | exact False.elim hc | (exfalso; omega))))
  refine G.loop (ι := Nat) (fun i => [(0, v), (1, .func (.func 110) #[] #[.pointer (some ⟨b1, 0, none⟩), .pointer (some ⟨b2, 0, none⟩)]), (7, .int .i64 l.length), (8, .int .i64 (i : Int))]) (fun _ => [Hl.rd v cI 1 l]) (fun i => i ≤ l.length ∧ ∀ k : Nat, k < i → badI lo up (nth l (k : Int)) = false) (fun i => l.length - i) 0 ⟨by omega, fun k hk => by omega⟩ ⟨rfl, rfl, rfl, rfl, trivial⟩ (fun w h => h) ?_
  rintro i mx ⟨g1, g2⟩ hmx
  rcases Nat.lt_or_ge i l.length with hi | hi
  · have q1 := within1_c b1 b2 (nth l (i : Int)) lo up
    rw [show (decide (nth l (i : Int) < lo) || decide (up < nth l (i : Int))) = badI lo up (nth l (i : Int)) from rfl] at q1
    cases hb : badI lo up (nth l (i : Int)) with
    | true =>
      rw [hb] at q1
      repeat' (first
    | (show YK _ _ _ _ _ ⟨_, .call { callee := .value _, args := _, argTypes := _ }, _, _, _, _⟩ _; refine YK.mk (y_callV (f := 110) (by rfl) q1 (fun w hw => ⟨hw0.2.1.stay hw.ext, hw0.2.2.stay hw.ext⟩) ⟨rfl, rfl⟩ (by decide +kernel)) ?_)
    | (refine nxV ?_)
    | (show RS _ _ _ _ _ _ _ _; first | (refine nxRS ?_) | (refine nxRS1 fun _ => ?_))
    | (show RM _ _ _ _ _ _ _ _ _ _; first | (refine nxRM ?_) | (refine nxRM1 fun _ => ?_))
    | (refine nxG ?_)
    | (refine nxX ?_)
    | (refine G.condN rfl (fun hc => ?_) (fun hc => ?_) <;> (try first | exact False.elim hc | (exfalso; omega))))
      rw [findr_some hi g2 hb] at hr
      exact X.ret (vs := [_]) rfl ⟨rfl, rfl⟩ rfl (fun w hw => ⟨ret_int hr.symm, hw.ext⟩)
    | false =>
      rw [hb] at q1
      repeat' (first
    | (show YK _ _ _ _ _ ⟨_, .call { callee := .value _, args := _, argTypes := _ }, _, _, _, _⟩ _; refine YK.mk (y_callV (f := 110) (by rfl) q1 (fun w hw => ⟨hw0.2.1.stay hw.ext, hw0.2.2.stay hw.ext⟩) ⟨rfl, rfl⟩ (by decide +kernel)) ?_)
    | (refine nxV ?_)
    | (show RS _ _ _ _ _ _ _ _; first | (refine nxRS ?_) | (refine nxRS1 fun _ => ?_))
    | (show RM _ _ _ _ _ _ _ _ _ _; first | (refine nxRM ?_) | (refine nxRM1 fun _ => ?_))
    | (refine nxG ?_)
    | (refine nxX ?_)
    | (refine G.condN rfl (fun hc => ?_) (fun hc => ?_) <;> (try first | exact False.elim hc | (exfalso; omega))))
      refine X.again (i + 1) ⟨by omega, fun k hk => ?_⟩ (by omega) ⟨rfl, rfl, rfl, rfl, trivial⟩ (by exact fun w h => h.sub (by repeat (first | exact List.Sublist.refl _ | apply List.Sublist.cons_cons | apply List.Sublist.cons)))
      rcases Nat.lt_or_ge k i with h | h
      · exact g2 k h
      · rw [show k = i by omega]; exact hb
  · repeat' (first
    | (refine nxV ?_)
    | (show RS _ _ _ _ _ _ _ _; first | (refine nxRS ?_) | (refine nxRS1 fun _ => ?_))
    | (show RM _ _ _ _ _ _ _ _ _ _; first | (refine nxRM ?_) | (refine nxRM1 fun _ => ?_))
    | (refine nxG ?_)
    | (refine nxX ?_)
    | (refine G.condN rfl (fun hc => ?_) (fun hc => ?_) <;> (try first | exact False.elim hc | (exfalso; omega))))
    rw [findr_none (fun k hk => g2 k (by omega))] at hr
    exact X.ret (vs := [_]) rfl ⟨rfl, rfl⟩ rfl (fun w hw => ⟨ret_int hr.symm, hw.ext⟩)
theorem find_in {l : List Int} {lo up : Int} : ((List.range l.length).find? (fun i : Nat => badI lo up (nth l (i : Int)))).isNone = inB l lo up := by
  rw [Bool.eq_iff_iff]
  unfold inB
  rw [List.all_eq_true, Option.isNone_iff_eq_none, List.find?_range_eq_none]
  constructor
  · intro h x hx
    obtain ⟨i, hi, rfl⟩ := List.getElem_of_mem hx
    have e := nth_some (l := l) (m := (i : Int)) (by omega) (by omega)
    rw [Int.toNat_natCast, List.getElem?_eq_getElem hi] at e
    have := h i hi
    rw [← Option.some.inj e] at this
    simp [badI] at this
    simp; omega
  · intro h i hi
    have e := nth_some (l := l) (m := (i : Int)) (by omega) (by omega)
    rw [Int.toNat_natCast] at e
    have := h _ (List.mem_of_getElem? e)
    simp at this
    simp [badI]; omega
theorem containsI_c (b1 b2 : Nat) (lo up : Int) (v : Value) (l : List Int) (hl : l.length ≤ 1000000) :
    ContIn Tryz.prog (fun w => RO w v 1 l.length (l.flatMap cI) ∧ RO w (boxS b1) 1 1 [.int .i64 lo] ∧ RO w (boxS b2) 1 1 [.int .i64 up]) 109 [v, .func (.func 110) #[] #[.pointer (some ⟨b1, 0, none⟩), .pointer (some ⟨b2, 0, none⟩)]] (.bool (!inB l lo up)) := fun w hw0 => by
  rw [← find_in]
  have hx := indexI_c b1 b2 lo up v l hl _ rfl
  refine enter Tryz.func109 rfl rfl rfl (Hp := [Hl.rd v cI 1 l]) (fun h hm => by
    rcases List.mem_singleton.1 hm with rfl
    exact ⟨⟨hw0.1, fun h => by cases h⟩, rfl⟩) ?_
  cases hfd : (List.range l.length).find? (fun i : Nat => badI lo up (nth l (i : Int))) with
  | none =>
    rw [hfd] at hx
    dsimp only at hx
    repeat' (first
    | (refine YK.mk (y_callIn hx (fun w hw => ⟨(hw.all (Hl.rd v cI 1 l) (by exact memA)).1, hw0.2.1.stay hw.ext, hw0.2.2.stay hw.ext⟩) ⟨rfl, rfl, rfl⟩ (by decide +kernel)) ?_)
    | (refine nxV ?_)
    | (show RS _ _ _ _ _ _ _ _; first | (refine nxRS ?_) | (refine nxRS1 fun _ => ?_))
    | (show RM _ _ _ _ _ _ _ _ _ _; first | (refine nxRM ?_) | (refine nxRM1 fun _ => ?_))
    | (refine nxG ?_)
    | (refine nxX ?_)
    | (refine G.condN rfl (fun hc => ?_) (fun hc => ?_) <;> (try first | exact False.elim hc | (exfalso; omega))))
    exact X.ret (vs := [_]) rfl ⟨rfl, rfl⟩ rfl (fun w hw => ⟨rfl, hw.ext⟩)
  | some k =>
    rw [hfd] at hx
    dsimp only at hx
    repeat' (first
    | (refine YK.mk (y_callIn hx (fun w hw => ⟨(hw.all (Hl.rd v cI 1 l) (by exact memA)).1, hw0.2.1.stay hw.ext, hw0.2.2.stay hw.ext⟩) ⟨rfl, rfl, rfl⟩ (by decide +kernel)) ?_)
    | (refine nxV ?_)
    | (show RS _ _ _ _ _ _ _ _; first | (refine nxRS ?_) | (refine nxRS1 fun _ => ?_))
    | (show RM _ _ _ _ _ _ _ _ _ _; first | (refine nxRM ?_) | (refine nxRM1 fun _ => ?_))
    | (refine nxG ?_)
    | (refine nxX ?_)
    | (refine G.condN rfl (fun hc => ?_) (fun hc => ?_) <;> (try first | exact False.elim hc | (exfalso; omega))))
    exact X.ret (vs := [_]) rfl ⟨rfl, rfl⟩ rfl (fun w hw => ⟨ret_bool (by simp), hw.ext⟩)
theorem within_c (v : Value) (l : List Int) (lo up : Int) (hl : l.length ≤ 1000000) : ContR Tryz.prog [Hl.rd v cI 1 l] 71 [v, .int .i64 lo, .int .i64 up] (.bool (inB l lo up)) := fun w hw0 => by
  have hx := fun b1 b2 => containsI_c b1 b2 lo up v l hl
  refine enter Tryz.func71 rfl rfl rfl hw0 ?_
  repeat' (first
    | (show YK _ _ _ _ _ ⟨_, .call { callee := .value (.func _), args := _, argTypes := _ }, _, _, _, _⟩ _; refine YK.mk (y_callIn (hx _ _) (fun w hw => ⟨(hw.all (Hl.rd v cI 1 l) (by exact memA)).1, boxS_of hw (by exact memA), boxS_of hw (by exact memA)⟩) ⟨rfl, rfl, rfl⟩ (by decide +kernel)) ?_)
    | (refine nxV ?_)
    | (show RS _ _ _ _ _ _ _ _; first | (refine nxRS ?_) | (refine nxRS1 fun _ => ?_))
    | (show RM _ _ _ _ _ _ _ _ _ _; first | (refine nxRM ?_) | (refine nxRM1 fun _ => ?_))
    | (refine nxG ?_)
    | (refine nxX ?_)
    | (refine G.condN rfl (fun hc => ?_) (fun hc => ?_) <;> (try first | exact False.elim hc | (exfalso; omega))))
  exact X.ret (vs := [_]) rfl ⟨rfl, rfl⟩ rfl (fun w hw => ⟨ret_bool (by simp), hw.ext⟩)
/-! ### A track's validity -/
def okT (t : TrkT) : Bool := nameB t.nm && decide ((t.gl.length : Int) = 25) && decide ((t.dl.length : Int) = 25) && inB t.gl 0 215999 && inB t.dl (-54000) 54000 && inB [t.se] 0 200 && inB [t.pa] 0 620 && inB [t.be] 0 1000
theorem validTrack_c (t : TrkT) (hn : t.nm.length ≤ 1000000) (hg : t.gl.length ≤ 1000000) (hd : t.dl.length ≤ 1000000) : ContR Tryz.prog [Hl.rd t.gv.v cI 1 t.gl, Hl.rd t.dv.v cI 1 t.dl] 36 [trV t] (.bool (okT t)) := fun w hw0 => by
  have q0 := isName_c t.nm hn
  have q1 := within_c t.gv.v t.gl 0 215999 hg
  have q2 := within_c t.dv.v t.dl (-54000) 54000 hd
  have q3 := fun v => within_c v [t.se] 0 200 (by simp)
  have q4 := fun v => within_c v [t.pa] 0 620 (by simp)
  have q5 := fun v => within_c v [t.be] 0 1000 (by simp)
  unfold okT
  generalize nameB t.nm = c0 at q0
  generalize inB t.gl 0 215999 = c1 at q1
  generalize inB t.dl (-54000) 54000 = c2 at q2
  generalize inB [t.se] 0 200 = c3 at q3
  generalize inB [t.pa] 0 620 = c4 at q4
  generalize inB [t.be] 0 1000 = c5 at q5
  refine enter Tryz.func36 rfl rfl rfl hw0 ?_
  repeat' (first
    | (show YK _ _ _ _ _ ⟨_, .call { callee := .builtin .len, args := _, argTypes := #[9] }, _, _, _, _⟩ _; refine YK.ofV (y_lenS (by rfl) StrTy.is) ?_)
    | (show VK _ _ _ _ _ ⟨_, .call { callee := .builtin .len, args := _, argTypes := #[9] }, _, _, _, _⟩ _; refine VK.mk (y_lenS (by rfl) StrTy.is) ?_)
    | (show YG _ _ _ _ _ _ ⟨_, .call { callee := .builtin .len, args := _, argTypes := #[9] }, _, _, _, _⟩ _; refine YG.mk (fun hb => by (try (have hc := And.left hb; have hb := And.right hb; rw [hc])); (try rw [hb]); exact V.y (y_lenS (by rfl) StrTy.is)) ?_)
    | (show VG _ _ _ _ _ _ ⟨_, .call { callee := .builtin .len, args := _, argTypes := #[9] }, _, _, _, _⟩ _; refine VG.mk (fun hb => by (try (have hc := And.left hb; have hb := And.right hb; rw [hc])); (try rw [hb]); exact y_lenS (by rfl) StrTy.is) ?_)
    | (show RS _ _ _ _ ((28, .bool (_ && _)) :: _) _ _ _; refine RS.splB 28 rfl (fun hq => ?_) (fun hq => ?_))
    | (show RS _ _ _ _ ((34, .bool c3) :: _) _ _ _; refine RS.splB 34 rfl (fun hq => ?_) (fun hq => ?_))
    | (show RS _ _ _ _ ((40, .bool c4) :: _) _ _ _; refine RS.splB 40 rfl (fun hq => ?_) (fun hq => ?_))
    | (refine RS.lit1IT (fun v' => ?_))
    | (show YK _ _ _ _ _ _ _; first | refine YK.mk (y_callA (q0) ⟨rfl, rfl⟩) ?_ | refine YK.mk (y_callRA (q1) ⟨rfl, rfl, rfl, rfl⟩) ?_ | refine YK.mk (y_callRA (q2) ⟨rfl, rfl, rfl, rfl⟩) ?_ | refine YK.mk (y_callRA (q3 _) ⟨rfl, rfl, rfl, rfl⟩) ?_ | refine YK.mk (y_callRA (q4 _) ⟨rfl, rfl, rfl, rfl⟩) ?_ | refine YK.mk (y_callRA (q5 _) ⟨rfl, rfl, rfl, rfl⟩) ?_)
    | (show YK _ _ _ _ _ _ _; refine YK.ofV vAuto ?_)
    | (show VK _ _ _ _ _ _ _; refine VK.mk vAuto ?_)
    | (show RS _ _ _ _ _ _ _ _; first | (refine nxRS ?_) | (refine nxRS1 fun _ => ?_))
    | (show RM _ _ _ _ _ _ _ _ _ _; first | (refine nxRM ?_) | (refine nxRM1 fun _ => ?_))
    | (show YG _ _ _ _ _ _ _ _; refine YG.mk (fun hb => by (try (have hc := And.left hb; have hb := And.right hb; rw [hc])); (try rw [hb]); first | exact (y_callA (q0) ⟨rfl, rfl⟩) | exact (y_callRA (q1) ⟨rfl, rfl, rfl, rfl⟩) | exact (y_callRA (q2) ⟨rfl, rfl, rfl, rfl⟩) | exact (y_callRA (q3 _) ⟨rfl, rfl, rfl, rfl⟩) | exact (y_callRA (q4 _) ⟨rfl, rfl, rfl, rfl⟩) | exact (y_callRA (q5 _) ⟨rfl, rfl, rfl, rfl⟩) | exact V.y vAuto) ?_)
    | (show VG _ _ _ _ _ _ _ _; refine VG.mk (fun hb => by (try (have hc := And.left hb; have hb := And.right hb; rw [hc])); (try rw [hb]); exact vAuto) ?_)
    | (refine nxVS ?_)
    | (refine nxGS ?_)
    | (refine nxX ?_)
    | (refine G.condN rfl (fun hc => ?_) (fun hc => ?_) <;> (try first | exact False.elim hc | (exfalso; omega))))
  all_goals exact X.ret (vs := [_]) rfl ⟨rfl, rfl⟩ rfl (fun w hw => ⟨ret_bool (by simp_all), hw.ext⟩)
end Go.Proofs.YtpekkcahehhkmaaGreatDoor
/- A page (a date, and a slice of tracks, each with two slices of ints) among a law's arguments. -/
set_option linter.unusedVariables false
namespace Go.Proofs.YtpekkcahehhkmaaGreatDoor
open Go.ChangeShapes Go.WideShapes Go.ChangeAt Go.RowKit Go.Deep Go.Joins
section
variable {H : Type} {enc : TypeId × Value → H} {P : Program}
abbrev B64 (x : Int) : Prop := -9223372036854775808 ≤ x ∧ x ≤ 9223372036854775807
theorem trod_ints {t e : TypeId} {w : World} {u : Value} {fuel : Nat} {y : DataW H × List MemPlace} (ht : P.underlying t = some (.slice e)) (he : P.underlying e = some (.int .i64)) (ce : P.cellsOf e = 1)
    (hf : DataW.trod enc P w 0 (fun _ => true) true fuel t [u] = some y) : ∃ (g : Sl) (l : List Int), u = g.v ∧ RO w u 1 l.length (l.flatMap cI) ∧ l.length ≤ maxLen ∧ ∀ c ∈ l, B64 c := by
  rcases open_slice ht hf with ⟨hcs, _⟩ | ⟨a, len', cap', m, n, V, Pl, hcs, hb, hl, hm, hmm, hx, hel⟩
  · have : u = .slice none 0 0 := by simpa using hcs
    rw [this]
    exact ⟨⟨none, 0, 0⟩, [], rfl, RO.nil _ _, Nat.zero_le _, fun c hc => by cases hc⟩
  · have e1 : u = .slice (some a) len' cap' := by simpa using hcs
    rw [e1]
    have hlm : len' ≤ m := by rw [hmm]; split <;> omega
    have each : ∀ i, i < len' → ∃ c : Int, w.cell? (a.add i) = some (.int .i64 c) ∧ B64 c := by
      intro i hi
      obtain ⟨cs', g1, g2⟩ := hel i (by omega)
      rw [ce] at g1
      obtain ⟨_, hlen, hcell⟩ := World.cells?_some g1
      match cs', hlen with
      | [v0], _ =>
        obtain ⟨x, r0, _, w0⟩ := DataW.trod_int he g2
        simp at r0
        subst r0
        have c0 := hcell 0 (by omega)
        rw [Go.Deep.add_add] at c0
        exact ⟨x, by simpa using c0, i64_of w0⟩
    obtain ⟨q, hq⟩ := choose_lt each
    refine ⟨⟨some a, len', cap'⟩, (List.range len').map q, rfl, ?_, by simp; omega, fun c hc => ?_⟩
    · have hfl : ∀ c : Int, (cI c).length = 1 := fun _ => rfl
      have hlr : ((List.range len').map q).length = len' := by simp
      rw [hlr]
      refine ⟨by rw [flat_len hfl, hlr], some a, cap', rfl, hl, fun _ => ⟨a, rfl, fun j u hu => ?_⟩, fun h => by cases h⟩
      have hj : j < len' * 1 := by
        have := (List.getElem?_eq_some_iff.1 hu).1
        rwa [flat_len hfl, hlr] at this
      have h3 : j < len' := by omega
      have h4 := flat_get hfl ((List.range len').map q) j 0 (q j) (by simp [h3]) (by omega)
      rw [show j * 1 + 0 = j by omega, hu] at h4
      simp at h4
      subst h4
      exact (hq j h3).1
    · obtain ⟨i, hi, rfl⟩ := List.mem_map.1 hc
      exact (hq i (List.mem_range.1 hi)).2
/-- What an argument's track holds. -/
def TrkB (w : World) (t : TrkT) : Prop := In1 w t ∧ (t.gl.length ≤ maxLen ∧ ∀ c ∈ t.gl, B64 c) ∧ (t.dl.length ≤ maxLen ∧ ∀ c ∈ t.dl, B64 c) ∧ B64 t.se ∧ B64 t.pa ∧ B64 t.be
theorem trod_trks {t e : TypeId} {f0 f1 f2 f3 f4 f5 : Field} {w : World} {u : Value} {fuel : Nat} {y : DataW H × List MemPlace} {s1 s2 : TypeId} (ht : P.underlying t = some (.slice e)) (he : P.underlying e = some (.struct #[f0, f1, f2, f3, f4, f5])) (ce : P.cellsOf e = 6)
    (ho : (f0.offset, f1.offset, f2.offset, f3.offset, f4.offset, f5.offset) = (0, 1, 2, 3, 4, 5)) (hc : (P.cellsOf f0.type, P.cellsOf f1.type, P.cellsOf f2.type, P.cellsOf f3.type, P.cellsOf f4.type, P.cellsOf f5.type) = (1, 1, 1, 1, 1, 1))
    (h0 : P.underlying f0.type = some .string) (h1 : P.underlying f1.type = some (.slice s1)) (i1 : P.underlying s1 = some (.int .i64)) (c1 : P.cellsOf s1 = 1) (h2 : P.underlying f2.type = some (.slice s2)) (i2 : P.underlying s2 = some (.int .i64)) (c2 : P.cellsOf s2 = 1)
    (h3 : P.underlying f3.type = some (.int .i64)) (h4 : P.underlying f4.type = some (.int .i64)) (h5 : P.underlying f5.type = some (.int .i64))
    (hf : DataW.trod enc P w 0 (fun _ => true) true fuel t [u] = some y) :
    ∃ (g : Sl) (l : List TrkT), u = g.v ∧ RO w u 6 l.length (l.flatMap cT) ∧ l.length ≤ maxLen ∧ ∀ t ∈ l, TrkB w t := by
  simp only [Prod.mk.injEq] at ho hc
  rcases open_slice ht hf with ⟨hcs, _⟩ | ⟨a, len', cap', m, n, V, Pl, hcs, hb, hl, hm, hmm, hx, hel⟩
  · have : u = .slice none 0 0 := by simpa using hcs
    rw [this]
    exact ⟨⟨none, 0, 0⟩, [], rfl, RO.nil _ _, Nat.zero_le _, fun c hc => by cases hc⟩
  · have e1 : u = .slice (some a) len' cap' := by simpa using hcs
    rw [e1]
    have hlm : len' ≤ m := by rw [hmm]; split <;> omega
    have each : ∀ i, i < len' → ∃ c : TrkT, (∀ j u, (cT c)[j]? = some u → w.cell? (a.add (i * 6 + j)) = some u) ∧ TrkB w c := by
      intro i hi
      obtain ⟨cs', g1, g2⟩ := hel i (by omega)
      rw [ce] at g1
      obtain ⟨_, hlen, hcell⟩ := World.cells?_some g1
      obtain ⟨xs, k, hk, hxy, _, hxl, hff⟩ := DataW.trod_struct he g2
      match xs, hxl, cs', hlen with
      | [y0, y1, y2, y3, y4, y5], _, [v0, v1, v2, v3, v4, v5], _ =>
        have q0 := hff 0 f0 rfl
        have q1 := hff 1 f1 rfl
        have q2 := hff 2 f2 rfl
        have q3 := hff 3 f3 rfl
        have q4 := hff 4 f4 rfl
        have q5 := hff 5 f5 rfl
        simp [ho.1, ho.2.1, ho.2.2.1, ho.2.2.2.1, ho.2.2.2.2.1, ho.2.2.2.2.2, hc.1, hc.2.1, hc.2.2.1, hc.2.2.2.1, hc.2.2.2.2.1, hc.2.2.2.2.2] at q0 q1 q2 q3 q4 q5
        obtain ⟨s, r0, _, _⟩ := DataW.trod_string h0 q0
        obtain ⟨gv, gl, r1, a1, a2, a3⟩ := trod_ints h1 i1 c1 q1
        obtain ⟨dv, dl, r2, b1, b2, b3⟩ := trod_ints h2 i2 c2 q2
        obtain ⟨x3, r3, _, w3⟩ := DataW.trod_int h3 q3
        obtain ⟨x4, r4, _, w4⟩ := DataW.trod_int h4 q4
        obtain ⟨x5, r5, _, w5⟩ := DataW.trod_int h5 q5
        simp at r0 r3 r4 r5
        subst r0 r1 r2 r3 r4 r5
        obtain ⟨nm, rfl⟩ : ∃ nm : List UInt8, s = ⟨nm.toArray⟩ := ⟨s.data.toList, by cases s; rfl⟩
        refine ⟨⟨nm, gv, gl, dv, dl, x3, x4, x5⟩, fun j u hj => ?_, ⟨a1, b1⟩, ⟨a2, a3⟩, ⟨b2, b3⟩, i64_of w3, i64_of w4, i64_of w5⟩
        have c0 := hcell 0 (by omega)
        have c1 := hcell 1 (by omega)
        have c2 := hcell 2 (by omega)
        have c3 := hcell 3 (by omega)
        have c4 := hcell 4 (by omega)
        have c5 := hcell 5 (by omega)
        rw [Go.Deep.add_add] at c0 c1 c2 c3 c4 c5
        match j, hj with
        | 0, hj => simp at hj; subst hj; simpa using c0
        | 1, hj => simp at hj; subst hj; simpa using c1
        | 2, hj => simp at hj; subst hj; simpa using c2
        | 3, hj => simp at hj; subst hj; simpa using c3
        | 4, hj => simp at hj; subst hj; simpa using c4
        | 5, hj => simp at hj; subst hj; simpa using c5
        | j + 6, hj => simp at hj
    obtain ⟨q, hq⟩ := choose_lt each
    refine ⟨⟨some a, len', cap'⟩, (List.range len').map q, rfl, ?_, by simp; omega, fun c hc => ?_⟩
    · have hfl : ∀ c : TrkT, (cT c).length = 6 := fun _ => rfl
      have hlr : ((List.range len').map q).length = len' := by simp
      rw [hlr]
      refine ⟨by rw [flat_len hfl, hlr], some a, cap', rfl, hl, fun _ => ⟨a, rfl, fun j u hu => ?_⟩, fun h => by cases h⟩
      have hj : j < len' * 6 := by
        have := (List.getElem?_eq_some_iff.1 hu).1
        rwa [flat_len hfl, hlr] at this
      have h3 : j / 6 < len' := by omega
      have h4 := flat_get hfl ((List.range len').map q) (j / 6) (j % 6) (q (j / 6)) (by simp [h3]) (by omega)
      rw [show j / 6 * 6 + j % 6 = j by omega, hu] at h4
      have h5 := (hq (j / 6) h3).1 (j % 6) u h4.symm
      rwa [show j / 6 * 6 + j % 6 = j by omega] at h5
    · obtain ⟨i, hi, rfl⟩ := List.mem_map.1 hc
      exact (hq i (List.mem_range.1 hi)).2
/-- A page among the arguments: its date, its slice of tracks, and what these hold. -/
theorem arg_page {tp e : TypeId} {g0 g1 d0 d1 d2 f0 f1 f2 f3 f4 f5 : Field} {s1 s2 : TypeId} {w : World} {base : Nat} {v : Value} {d : DataW H} {p : List MemPlace} (hp : P.underlying tp = some (.struct #[g0, g1])) (cp : P.cellsOf tp = 4) (hg : (g0.offset, g1.offset) = (0, 3)) (cg : (P.cellsOf g0.type, P.cellsOf g1.type) = (3, 1))
    (hd : P.underlying g0.type = some (.struct #[d0, d1, d2])) (hdo : (d0.offset, d1.offset, d2.offset) = (0, 1, 2)) (hdc : (P.cellsOf d0.type, P.cellsOf d1.type, P.cellsOf d2.type) = (1, 1, 1)) (k0 : P.underlying d0.type = some (.int .i64)) (k1 : P.underlying d1.type = some (.int .i64)) (k2 : P.underlying d2.type = some (.int .i64))
    (ht : P.underlying g1.type = some (.slice e)) (he : P.underlying e = some (.struct #[f0, f1, f2, f3, f4, f5])) (ce : P.cellsOf e = 6)
    (ho : (f0.offset, f1.offset, f2.offset, f3.offset, f4.offset, f5.offset) = (0, 1, 2, 3, 4, 5)) (hc : (P.cellsOf f0.type, P.cellsOf f1.type, P.cellsOf f2.type, P.cellsOf f3.type, P.cellsOf f4.type, P.cellsOf f5.type) = (1, 1, 1, 1, 1, 1))
    (h0 : P.underlying f0.type = some .string) (h1 : P.underlying f1.type = some (.slice s1)) (i1 : P.underlying s1 = some (.int .i64)) (c1 : P.cellsOf s1 = 1) (h2 : P.underlying f2.type = some (.slice s2)) (i2 : P.underlying s2 = some (.int .i64)) (c2 : P.cellsOf s2 = 1)
    (h3 : P.underlying f3.type = some (.int .i64)) (h4 : P.underlying f4.type = some (.int .i64)) (h5 : P.underlying f5.type = some (.int .i64))
    (hv : Value.okWide P w .any base tp v) (h : DataW.Trod enc P w 0 (fun _ => true) true tp v d p) :
    ∃ (y m d : Int) (g : Sl) (l : List TrkT), v = pgV y m d g.v ∧ (B64 y ∧ B64 m ∧ B64 d) ∧ PgP g.v l w ∧ l.length ≤ maxLen ∧ ∀ t ∈ l, TrkB w t := by
  obtain ⟨cs, rfl, hsz⟩ := okWide_struct hp hv
  obtain ⟨fuel, hf⟩ := h
  simp only [Prod.mk.injEq] at hg cg hdo hdc
  obtain ⟨L⟩ := cs
  match L, hsz.trans cp with
  | [x0, x1, x2, x3], _ =>
    obtain ⟨xs, k, hk, hxy, _, hxl, hff⟩ := DataW.trod_struct hp hf
    match xs, hxl with
    | [y0, y1], _ =>
      have q0 := hff 0 g0 rfl
      have q1 := hff 1 g1 rfl
      simp [Value.cells, hg.1, hg.2, cg.1, cg.2] at q0 q1
      obtain ⟨zs, k', hk', hzy, _, hzl, hzf⟩ := DataW.trod_struct hd q0
      match zs, hzl with
      | [z0, z1, z2], _ =>
        have r0 := hzf 0 d0 rfl
        have r1 := hzf 1 d1 rfl
        have r2 := hzf 2 d2 rfl
        simp [hdo.1, hdo.2.1, hdo.2.2, hdc.1, hdc.2.1, hdc.2.2] at r0 r1 r2
        obtain ⟨y, e0, _, w0⟩ := DataW.trod_int k0 r0
        obtain ⟨m, e1, _, w1⟩ := DataW.trod_int k1 r1
        obtain ⟨d, e2, _, w2⟩ := DataW.trod_int k2 r2
        simp at e0 e1 e2
        subst e0 e1 e2
        obtain ⟨g, l, rfl, a1, a2, a3⟩ := trod_trks ht he ce ho hc h0 h1 i1 c1 h2 i2 c2 h3 h4 h5 q1
        exact ⟨y, m, d, g, l, rfl, ⟨i64_of w0, i64_of w1, i64_of w2⟩, ⟨a1, fun t ht => (a3 t ht).1⟩, a2, a3⟩
end
end Go.Proofs.YtpekkcahehhkmaaGreatDoor
/- The builtin copy into a slice of ints of the call's own; slices.Repeat of one int, at ints. -/
set_option linter.unusedVariables false
set_option maxHeartbeats 4000000
namespace Go.Proofs.YtpekkcahehhkmaaGreatDoor
open Go.RowKit

/-- A list with another one laid over it, from a place on. -/
def layI : List Int → Nat → List Int → List Int
  | l, _, [] => l
  | l, o, u :: r => layI (l.set o u) (o + 1) r
theorem layI_len : ∀ (us l : List Int) (o : Nat), (layI l o us).length = l.length
  | [], l, o => rfl
  | u :: r, l, o => by
    show (layI (l.set o u) (o + 1) r).length = _
    rw [layI_len r, List.length_set]
theorem flatI (l : List Int) : l.flatMap cI = l.map fun n => Value.int .i64 n := by
  induction l with
  | nil => rfl
  | cons a r ih => rw [List.flatMap_cons, ih]; rfl
theorem flat_layI : ∀ (us l : List Int) (o : Nat), setAt (l.flatMap cI) o (us.flatMap cI) = (layI l o us).flatMap cI
  | [], l, o => rfl
  | u :: r, l, o => by
    show setAt ((l.flatMap cI).set o (.int .i64 u)) (o + 1) (r.flatMap cI) = (layI (l.set o u) (o + 1) r).flatMap cI
    rw [← flat_layI r, flatI l, flatI (l.set o u), List.map_set]
theorem layI_app : ∀ (us xs ys : List Int) (o : Nat), layI (xs ++ ys) (xs.length + o) us = xs ++ layI ys o us
  | [], xs, ys, o => rfl
  | u :: r, xs, ys, o => by
    show layI ((xs ++ ys).set (xs.length + o) u) (xs.length + o + 1) r = xs ++ layI (ys.set o u) (o + 1) r
    rw [List.set_append_right _ _ (by omega), show xs.length + o - xs.length = o by omega, Nat.add_assoc, layI_app r]
theorem layI_all : ∀ (us us0 ys : List Int), us0.length = us.length → layI (us0 ++ ys) 0 us = us ++ ys
  | [], us0, ys, h => by cases us0 with
    | nil => rfl
    | cons a r => simp at h
  | u :: r, [], ys, h => by simp at h
  | u :: r, a :: t, ys, h => by
    show layI ((a :: (t ++ ys)).set 0 u) (0 + 1) r = u :: (r ++ ys)
    have := layI_app r [u] (t ++ ys) 0
    rw [layI_all r t ys (by simpa using h)] at this
    exact this
section
variable {P : Program} {n : Nat} {L : FL} {w0 : World} {H HS : List Hl} {Q : Exit → Act → World → Prop} {ops : Array Oper} {rest : List Oper} {ord : List Mv} {ty : TypeId} {pos : String} {af : Array Edge} {gd : Option (Nat × Bool)} {x y : Operand} {t t' e : TypeId} {dd : Nat}
theorem x_copyI {l ls : List Int} {v dv sv : Value} {off : Nat} {H' : List Hl} (hx : evO L x = some dv) (hdv : (dv = v ∧ off = 0) ∨ dv = cutV v 1 off l.length) (hy : evO L y = some sv) (hs : RdT H sv cI 1 ls) (ho : off < l.length ∧ 0 < ls.length)
    (hu : Upd (Hl.rw v e cI 1 l) (Hl.rw v e cI 1 (layI l off (ls.take (l.length - off)))) H H') (ht : sliceB P t 1 = true) (hd : Nat.blt dd n = true) :
    EX P n L w0 H ⟨some dd, .call { callee := .builtin .copy, args := #[x, y], argTypes := #[t, t'] }, ty, pos, af, gd⟩ (fun _ : Unit => True) (fun _ => (dd, .int .i64 (((ls.take (l.length - off)).length : Nat) : Int)) :: L) (fun _ => H') :=
  EX.of_run (fun a w ha hw => by
    have hown : w.ownsRow w0.heap.size e 1 v l.length (l.flatMap cI) := hw.all _ hu.mem
    obtain ⟨elem, i, hue, hi, hsz⟩ := sliceB_spec ht
    rcases hown.2 with ⟨_, h'⟩ | ⟨g, cap, cur, rfl, hb', hg, hnc, hcm, hcs, htake⟩
    · omega
    · have hdv' : ∃ dc, dv = .slice (some ⟨g, off, none⟩) (l.length - off) dc := by
        rcases hdv with ⟨rfl, rfl⟩ | rfl
        · exact ⟨cap, by simp⟩
        · refine ⟨cap - off, ?_⟩
          have hadd : (⟨g, 0, none⟩ : Addr).add (off * 1) = ⟨g, off, none⟩ := by unfold Addr.add; split <;> simp_all
          dsimp only [cutV, sliced]
          rw [if_neg (by omega)]
          simp only [Option.map_some, hadd]
      obtain ⟨dc, rfl⟩ := hdv'
      obtain ⟨_, A, c, rfl, hnc2, hcells, _⟩ := hs _ _ hw
      have hne : ls.flatMap cI ≠ [] := by
        rw [flatI]
        intro h
        rw [List.map_eq_nil_iff] at h
        rw [h] at ho; simp at ho
      obtain ⟨ad, rfl, hsrc⟩ := hcells hne
      have hlen : ∀ k : List Int, (k.flatMap cI).length = k.length := fun k => by rw [flatI, List.length_map]
      have hq : (ls.take (l.length - off)).length ≤ l.length - off := by rw [List.length_take]; omega
      have hst := own_setAt ((ls.take (l.length - off)).flatMap cI) (l.flatMap cI) off w hown
      rw [flat_layI] at hst
      have hrun := run_copy_cells (P := P) w t t' ty elem g off (l.length - off) dc ad ls.length c ((ls.take (l.length - off)).flatMap cI) hue (by rw [hi]; simp [hsz]) (by rw [hlen, List.length_take, Nat.min_comm]) (fun j u hj => hsrc j u (by
          rw [flatI] at hj ⊢
          rw [List.map_take] at hj
          rw [List.getElem?_take] at hj
          split at hj
          · exact hj
          · cases hj)) (fun j hj => by
          rw [hlen] at hj
          have hold : w.cell? ⟨g, off + j, none⟩ = (l.flatMap cI)[off + j]? := hown.cellAt _ (by omega)
          rw [hold, List.getElem?_eq_getElem (by rw [hlen]; omega)]; rfl) (fun j _ => hown.frozenAt _) (fun u hu => by
          rw [flatI] at hu
          obtain ⟨z, _, rfl⟩ := List.mem_map.1 hu
          rfl)
      rw [hlen] at hrun
      refine ⟨_, w.setCells g off ((ls.take (l.length - off)).flatMap cI), (), by
        simp [execOp, resolve, invoke, builtin, ha.eval hx, ha.eval hy, hrun, goInt], trivial, rfl, ?_⟩
      refine hw.turn hu rfl hst.2 ?_ fun b hb => .inl hb
      show World.ownsRow _ _ _ _ _ _ _
      rw [layI_len]
      exact hst.1) hd
theorem RS.copyI {l ls : List Int} {v dv sv : Value} {off : Nat} {H' : List Hl} (h : RS P ops Q n ((dd, .int .i64 (((ls.take (l.length - off)).length : Nat) : Int)) :: L) w0 H' rest) (hx : evO L x = some dv) (hdv : (dv = v ∧ off = 0) ∨ dv = cutV v 1 off l.length) (hy : evO L y = some sv) (hs : RdT H sv cI 1 ls) (ho : off < l.length ∧ 0 < ls.length)
    (hu : Upd (Hl.rw v e cI 1 l) (Hl.rw v e cI 1 (layI l off (ls.take (l.length - off)))) H H') (ht : sliceB P t 1 = true) (hd : Nat.blt dd n = true) :
    RS P ops Q n L w0 H (⟨some dd, .call { callee := .builtin .copy, args := #[x, y], argTypes := #[t, t'] }, ty, pos, af, none⟩ :: rest) := RS.actX rfl (x_copyI hx hdv hy hs ho hu ht hd) fun _ _ => h
theorem RM.copyI {i : Nat} {l ls : List Int} {v dv sv : Value} {off : Nat} {H' : List Hl} (h : RM P ops Q HS n [] ((dd, .int .i64 (((ls.take (l.length - off)).length : Nat) : Int)) :: L) w0 H' ord) (hop : ops[i]? = some ⟨some dd, .call { callee := .builtin .copy, args := #[x, y], argTypes := #[t, t'] }, ty, pos, af, none⟩) (hx : evO L x = some dv) (hdv : (dv = v ∧ off = 0) ∨ dv = cutV v 1 off l.length) (hy : evO L y = some sv) (hs : RdT H sv cI 1 ls) (ho : off < l.length ∧ 0 < ls.length)
    (hu : Upd (Hl.rw v e cI 1 l) (Hl.rw v e cI 1 (layI l off (ls.take (l.length - off)))) H H') (ht : sliceB P t 1 = true) (hd : Nat.blt dd n = true) (hl : ∀ w, St w0 H' w → St w0 HS w) :
    RM P ops Q HS n [] L w0 H (.go i :: ord) := RM.actX hop rfl rfl (x_copyI hx hdv hy hs ho hu ht hd) (.inl fun _ => hl) fun _ _ => h
theorem G.rowFact {c : Code} {α : Type} {f : α → List Value} {s : Nat} {l : List α} {A : Option Addr} {k cp : Nat} (hm : Hl.rw (.slice A k cp) e f s l ∈ H) (h : k = l.length → k ≤ cp → G P Q n L w0 H c) : G P Q n L w0 H c := by
  unfold G at *
  intro a w ha hw
  obtain ⟨_, A', c', e', hle, _⟩ := RO.of_row (hw.all _ hm)
  simp only [Value.slice.injEq] at e'
  obtain ⟨_, e2, rfl⟩ := e'
  exact h e2 (by omega) a w ha hw
theorem y_cutL {A : Option Addr} {k cp s : Nat} {kk : IntKind} {m : Int} {d : Option Tmp} (hx : evO L x = some (.slice A k cp)) (hy : evO L y = some (.int kk m)) (hm : 0 ≤ m ∧ m ≤ k) (hk : k ≤ cp) (hs : sliceB P t s = true) : V P n L w0 H ⟨d, .slice t x (some y) none none, ty, pos, af, gd⟩ (cutV (.slice A k cp) s m.toNat k) := by
  unfold V
  intro a w ha hw
  obtain ⟨e, i, hu, hi, rfl⟩ := sliceB_spec hs
  have h1 := run_sliceBound (P := P) (w := w) kk m k .sliceB hm.1 (by omega)
  simp [execOp, ha.eval hx, ha.eval hy, Instr.sliceAt, Instr.slice, Instr.sliceBounds, run_underlying hu, h1, sizeOf, typeInfo, hi, cutV, sliced]
theorem y_cutH {A : Option Addr} {k cp s : Nat} {kk : IntKind} {m : Int} {d : Option Tmp} (hx : evO L x = some (.slice A k cp)) (hy : evO L y = some (.int kk m)) (hm : 0 ≤ m ∧ m ≤ k) (hk : k ≤ cp) (hs : sliceB P t s = true) : V P n L w0 H ⟨d, .slice t x none (some y) none, ty, pos, af, gd⟩ (cutV (.slice A k cp) s 0 m.toNat) := by
  unfold V
  intro a w ha hw
  obtain ⟨e, i, hu, hi, rfl⟩ := sliceB_spec hs
  have h1 := run_sliceBound (P := P) (w := w) kk m cp .sliceAcap hm.1 (by omega)
  simp [execOp, ha.eval hx, ha.eval hy, Instr.sliceAt, Instr.slice, Instr.sliceBounds, run_underlying hu, h1, sizeOf, typeInfo, hi, cutV, sliced]
end
def repI (x : Int) (c i : Nat) : List Int := List.replicate i x ++ List.replicate (c - i) 0
theorem repI_len {x : Int} {c i : Nat} (h : i ≤ c) : (repI x c i).length = c := by simp [repI]; omega
theorem repI_step {x : Int} {c i q : Nat} (hq : i + q ≤ c) : layI (repI x c i) i (List.replicate q x) = repI x c (i + q) := by
  unfold repI
  have h := layI_app (List.replicate q x) (List.replicate i x) (List.replicate (c - i) 0) 0
  rw [List.length_replicate, Nat.add_zero] at h
  rw [h, show c - i = q + (c - (i + q)) by omega, ← List.replicate_append_replicate, layI_all _ _ _ (by simp), ← List.append_assoc, List.replicate_append_replicate]
theorem repI_take {x : Int} {c i : Nat} (h : i ≤ c) : (((repI x c i).drop 0).take (i - 0)).take ((repI x c i).length - i) = List.replicate (min i (c - i)) x := by
  rw [repI_len h]
  unfold repI
  rw [List.drop_zero, Nat.sub_zero, List.take_append_of_le_length (by simp), List.take_replicate, List.take_replicate]
  congr 1; omega
theorem mulB_c {c : Nat} (h : c < 1000000) : Cont Tryz.prog 64 [.int .u64 1, .int .u64 (c : Int)] (.tuple [.int .u64 0, .int .u64 (c : Int)].toArray) := fun w => (Tryz.bits_Mul 1 c (by decide) (by omega) w).mono fun e w' ⟨he, hw⟩ => by
  refine ⟨?_, by subst hw; exact Below.refl _ _⟩
  rw [he, Nat.one_mul, Nat.div_eq_of_lt (by omega), Nat.mod_eq_of_lt (by omega)]; rfl
theorem repeat1_c (u : Value) (x : Int) (c : Nat) (hc : 1 ≤ c ∧ c ≤ 1000) : ContX Tryz.prog [Hl.rd u cI 1 [x]] 30 [u, .int .i64 (c : Int)] (fun _ : Sl => True) (fun z => z.v) (fun z => [Hl.nw z.v cI 1 (List.replicate c x)]) := fun w hw0 => by
  have q1 := mulB_c (c := c) (by omega)
  refine enter Tryz.func30 rfl rfl rfl hw0 ?_
  have h1 : ([x].take ((List.replicate c (0 : Int)).length - 0)) = [x] := by rw [List.take_of_length_le]; simp; omega
  have h2 : layI (List.replicate c 0) 0 [x] = repI x c 1 := by
    have := repI_step (x := x) (c := c) (i := 0) (q := 1) (by omega)
    simpa [repI] using this
  repeat' (first
    | (show RS _ _ _ _ _ _ _ (⟨_, .call { callee := .builtin .copy, args := _, argTypes := _ }, _, _, _, _⟩ :: _); refine RS.copyI (l := List.replicate (c : Int).toNat 0) (ls := [x]) (off := 0) ?_ rfl (.inl ⟨rfl, rfl⟩) rfl (by exact rdA) (by simp; omega) (by exact updA) (by decide +kernel) rfl; simp only [Int.toNat_natCast, h1, h2, List.length_singleton])
    | (show YK _ _ _ _ _ _ _; first | refine YK.mk (y_callA (q1) ⟨rfl, rfl, rfl⟩) ?_)
    | (show YK _ _ _ _ _ _ _; refine YK.ofV vAuto ?_)
    | (show VK _ _ _ _ _ _ _; refine VK.mk vAuto ?_)
    | (show RS _ _ _ _ _ _ _ _; first | (refine nxRS ?_) | (refine nxRS1 fun _ => ?_))
    | (show RM _ _ _ _ _ _ _ _ _ _; first | (refine nxRM ?_) | (refine nxRM1 fun _ => ?_))
    | (show YG _ _ _ _ _ _ _ _; refine YG.mk (fun hb => by (try (have hc := And.left hb; have hb := And.right hb; rw [hc])); (try rw [hb]); first | exact (y_callA (q1) ⟨rfl, rfl, rfl⟩) | exact V.y vAuto) ?_)
    | (show VG _ _ _ _ _ _ _ _; refine VG.mk (fun hb => by (try (have hc := And.left hb; have hb := And.right hb; rw [hc])); (try rw [hb]); exact vAuto) ?_)
    | (refine G.mixedA 9 [.go 0, .go 1, .go 2, .go 3, .go 4, .go 5, .go 6, .go 7, .go 8, .go 9] ?_)
    | (refine nxX ?_)
    | (refine G.condN rfl (fun hc => ?_) (fun hc => ?_) <;> (try first | exact False.elim hc | (exfalso; omega))))
  rename_i z
  refine G.loop (ι := Nat) (fun i => [(7, z.v), (8, .int .i64 (i : Int))]) (fun i => [Hl.rw z.v 3 cI 1 (repI x c i)]) (fun i => 1 ≤ i ∧ i ≤ c) (fun i => c - i) 1 ⟨by omega, by omega⟩ ⟨rfl, rfl, trivial⟩ (by exact fun w h => h.sub (by repeat (first | exact List.Sublist.refl _ | apply List.Sublist.cons_cons | apply List.Sublist.cons))) ?_
  rintro i mx ⟨g1, g2⟩ hmx
  have hl := repI_len (x := x) g2
  refine G.rowFact (.head _) (fun f1 f2 => ?_)
  rw [hl] at f1
  rcases Nat.lt_or_ge i c with hi | hi
  · have h3 := repI_take (x := x) g2
    have h4 := repI_step (x := x) (c := c) (i := i) (q := min i (c - i)) (by omega)
    repeat' (first
    | (show VK _ _ _ _ _ ⟨_, .slice _ _ (some _) none none, _, _, _, _⟩ _; refine VK.mk (y_cutL (s := 1) rfl rfl (by omega) f2 (by decide +kernel)) ?_)
    | (show VK _ _ _ _ _ ⟨_, .slice _ _ none (some _) none, _, _, _, _⟩ _; refine VK.mk (y_cutH (s := 1) rfl rfl (by omega) f2 (by decide +kernel)) ?_)
    | (show RM _ _ _ _ _ _ _ _ _ (.go 7 :: _); refine RM.copyI (l := repI x c i) (ls := ((repI x c i).drop 0).take (i - 0)) (v := z.v) (off := i) ?_ rfl rfl (.inr (by rw [hl, ← f1]; rfl)) rfl (RdT.cut (RdT.rw (by exact memA)) (fun _ => rfl) (by omega) (by omega)) ⟨by omega, by rw [List.length_take, List.length_drop]; omega⟩ (by exact updA) (by decide +kernel) rfl (fun w h => h.sub (by repeat (first | exact List.Sublist.refl _ | apply List.Sublist.cons_cons | apply List.Sublist.cons))); simp only [h3, h4, List.length_replicate])
    | (refine G.mixedM 9 [.go 0, .go 1, .go 2, .go 3, .go 4, .go 5, .go 6, .go 7, .go 8, .go 9] [false] ?_; dsimp only [maskH])
    | (refine nxV ?_)
    | (show RS _ _ _ _ _ _ _ _; first | (refine nxRS ?_) | (refine nxRS1 fun _ => ?_))
    | (show RM _ _ _ _ _ _ _ _ _ _; first | (refine nxRM ?_) | (refine nxRM1 fun _ => ?_))
    | (refine nxG ?_)
    | (refine nxX ?_)
    | (refine G.condN rfl (fun hc => ?_) (fun hc => ?_) <;> (try first | exact False.elim hc | (exfalso; omega))))
    exact X.again (i + min i (c - i)) ⟨by omega, by omega⟩ (by omega) ⟨rfl, rfl, trivial⟩ (by exact fun w h => h.sub (by repeat (first | exact List.Sublist.refl _ | apply List.Sublist.cons_cons | apply List.Sublist.cons)))
  · obtain rfl : i = c := by omega
    repeat' (first
    | (refine nxV ?_)
    | (show RS _ _ _ _ _ _ _ _; first | (refine nxRS ?_) | (refine nxRS1 fun _ => ?_))
    | (show RM _ _ _ _ _ _ _ _ _ _; first | (refine nxRM ?_) | (refine nxRM1 fun _ => ?_))
    | (refine nxG ?_)
    | (refine G.mixedA 9 [.go 0, .go 1, .go 2, .go 3, .go 4, .go 5, .go 6, .go 7, .go 8, .go 9] ?_)
    | (refine nxX ?_)
    | (refine G.condN rfl (fun hc => ?_) (fun hc => ?_) <;> (try first | exact False.elim hc | (exfalso; omega))))
    rw [show repI x i i = List.replicate i x by simp [repI]]
    exact X.retN (vs := [_]) z rfl ⟨rfl, rfl⟩ rfl trivial rfl (NewIn.rw (by exact memA) NewIn.nil)
end Go.Proofs.YtpekkcahehhkmaaGreatDoor
/- The library's functions on strings and numerals: what the kit's contracts say, in this walk's words. -/
set_option linter.unusedVariables false
set_option maxHeartbeats 4000000
namespace Go.Proofs.YtpekkcahehhkmaaGreatDoor
open Go.RowKit

theorem below_grown (w : World) (k : Nat) (os : Array Obj) : Below w.heap.size w (Go.Sort.grow (w.drewN k) os) :=
  ⟨rfl, rfl, rfl, by simp [Go.Sort.grow, World.drewN], fun j hj => by simp [Go.Sort.grow, World.drewN, Array.getElem?_append, hj]⟩
theorem below_drawn (w : World) (k : Nat) : Below w.heap.size w (w.drewN k) := ⟨rfl, rfl, rfl, Nat.le_refl _, fun _ _ => rfl⟩
theorem dec_len : ∀ (k u : Nat), u < 10 ^ (k + 1) → (Lib.decDigits u).length ≤ k + 1
  | 0, u, h => by
    rw [Lib.decDigits, dif_pos (by simpa using h)]; simp
  | k + 1, u, h => by
    rw [Lib.decDigits]
    split
    · simp
    · have := dec_len k (u / 10) (by rw [Nat.pow_succ] at h; omega)
      simp; omega
theorem itoa_len {n : Int} (h : -9223372036854775808 ≤ n ∧ n ≤ 9223372036854775807) : (Lib.itoa n).length ≤ 20 := by
  unfold Lib.itoa
  split
  · have := dec_len 18 n.natAbs (by omega)
    simp; omega
  · have := dec_len 18 n.toNat (by omega)
    omega
theorem itoa_c {n : Int} (h : -9223372036854775808 ≤ n ∧ n ≤ 9223372036854775807) : ContIn Tryz.prog Laid 53 [.int .i64 n] (strV (Lib.itoa n)) := fun w hI =>
  (Tryz.strconv_Itoa n h.1 h.2 w hI.tab).mono fun e w' ⟨he, k, os, hw⟩ => ⟨he, by subst hw; exact below_grown w k os⟩
theorem repeat_c (l : List UInt8) {m : Int} (h : 0 ≤ m ∧ m ≤ 1000000) (hl : l.length ≤ 1000000) : Cont Tryz.prog 135 [strV l, .int .i64 m] (strV (Lib.repeatL l m.toNat)) := fun w => by
  obtain ⟨c, rfl⟩ := Int.eq_ofNat_of_zero_le h.1
  have hc : c ≤ 1000000 := by omega
  refine (Tryz.strings_Repeat ⟨l.toArray⟩ c w (by omega) (by rw [size_str]; exact Nat.le_trans (Nat.mul_le_mul hl hc) (by decide))).mono fun e w' ⟨he, hb⟩ => ⟨?_, hb⟩
  rw [he]
  simp
theorem cut_c (l sep : List UInt8) (hl : l.length < 4294967281) : ContIn Tryz.prog Laid 124 [strV l, strV sep] (.tuple [strV (Lib.cut l sep).1, strV (Lib.cut l sep).2.1, .bool (Lib.cut l sep).2.2].toArray) := fun w hI => by
  obtain ⟨m, hm⟩ := hI.max
  refine (Tryz.strings_Cut ⟨l.toArray⟩ ⟨sep.toArray⟩ m w (by rw [size_str]; exact hl) hm).mono fun e w' ⟨he, k, hw⟩ => ⟨?_, by subst hw; exact below_drawn w k⟩
  rw [he]
end Go.Proofs.YtpekkcahehhkmaaGreatDoor
/- Decimal texts: digits, read back; a text cut at a byte. Plain. -/
set_option linter.unusedVariables false
set_option maxHeartbeats 1000000
namespace Go.Proofs.YtpekkcahehhkmaaGreatDoor
open Go.RowKit

/-- The byte of a digit. -/
def dgt (x : Nat) : UInt8 := UInt8.ofNat (48 + x)
theorem dgt_nat {x : Nat} (h : x < 10) : (dgt x).toNat = 48 + x := by
  unfold dgt
  rw [UInt8.toNat_ofNat']; omega
def isDg (b : UInt8) : Bool := decide (48 ≤ b.toNat) && decide (b.toNat ≤ 57)
theorem isDg_dgt {x : Nat} (h : x < 10) : isDg (dgt x) = true := by
  unfold isDg
  rw [dgt_nat h, decide_eq_true (by omega), decide_eq_true (by omega)]; rfl
theorem dgt_of {b : UInt8} (h : isDg b = true) : ∃ x : Nat, x < 10 ∧ b = dgt x := by
  simp only [isDg, Bool.and_eq_true, decide_eq_true_eq] at h
  refine ⟨b.toNat - 48, by omega, ?_⟩
  unfold dgt
  rw [show 48 + (b.toNat - 48) = b.toNat by omega, UInt8.ofNat_toNat]
theorem deci_lt {u : Nat} (h : u < 10) : Lib.decDigits u = [dgt u] := by rw [Lib.decDigits, dif_pos h]; rfl
theorem deci_ge {u : Nat} (h : 10 ≤ u) : Lib.decDigits u = Lib.decDigits (u / 10) ++ [dgt (u % 10)] := by rw [Lib.decDigits, dif_neg (by omega)]; rfl
theorem itoa_of_nat (u : Nat) : Lib.itoa (u : Int) = Lib.decDigits u := by
  unfold Lib.itoa
  rw [if_neg (by omega)]; simp
theorem itoa_of_neg {u : Nat} (h : 0 < u) : Lib.itoa (-(u : Int)) = 45 :: Lib.decDigits u := by
  unfold Lib.itoa
  rw [if_pos (by omega)]; simp
theorem deci_ne (u : Nat) : Lib.decDigits u ≠ [] := by
  by_cases h : u < 10
  · rw [deci_lt h]; simp
  · rw [deci_ge (by omega)]; simp
theorem deci_all : ∀ (k u : Nat), u ≤ k → ∀ b ∈ Lib.decDigits u, isDg b = true
  | 0, u, h, b, hb => by
    rw [deci_lt (by omega)] at hb
    rw [List.mem_singleton.1 hb]
    exact isDg_dgt (by omega)
  | k + 1, u, h, b, hb => by
    by_cases h1 : u < 10
    · rw [deci_lt h1] at hb
      rw [List.mem_singleton.1 hb]
      exact isDg_dgt h1
    · rw [deci_ge (by omega), List.mem_append] at hb
      rcases hb with hb | hb
      · exact deci_all k (u / 10) (by omega) b hb
      · rw [List.mem_singleton.1 hb]
        exact isDg_dgt (by omega)
theorem deci_dg {u : Nat} {b : UInt8} (h : b ∈ Lib.decDigits u) : isDg b = true := deci_all u u (Nat.le_refl _) b h
theorem deci_head (u : Nat) : ∃ x r, x < 10 ∧ Lib.decDigits u = dgt x :: r := by
  cases hd : Lib.decDigits u with
  | nil => exact absurd hd (deci_ne u)
  | cons b r =>
    obtain ⟨x, hx, rfl⟩ := dgt_of (deci_dg (u := u) (b := b) (by rw [hd]; exact List.mem_cons_self))
    exact ⟨x, r, hx, rfl⟩
theorem parse_dgt {acc x : Nat} (h : x < 10) (ha : acc ≤ 1000000000000000000) (r : List UInt8) : Lib.parseUint10 acc (dgt x :: r) = Lib.parseUint10 (acc * 10 + x) r := by
  have e := dgt_nat h
  conv => lhs; unfold Lib.parseUint10
  rw [e, if_pos (by omega), if_neg (by omega), if_neg (by omega), show 48 + x - 48 = x by omega]
theorem parse_deci : ∀ (k u : Nat), u ≤ k → u ≤ 1000000000000000000 → ∀ r, Lib.parseUint10 0 (Lib.decDigits u ++ r) = Lib.parseUint10 u r
  | 0, u, h, hb, r => by
    rw [deci_lt (by omega), List.singleton_append, parse_dgt (by omega) (by omega)]
    rw [show 0 * 10 + u = u by omega]
  | k + 1, u, h, hb, r => by
    by_cases h1 : u < 10
    · rw [deci_lt h1, List.singleton_append, parse_dgt h1 (by omega), show 0 * 10 + u = u by omega]
    · rw [deci_ge (by omega), List.append_assoc, parse_deci k (u / 10) (by omega) (by omega), List.singleton_append, parse_dgt (by omega) (by omega), show u / 10 * 10 + u % 10 = u by omega]
theorem mag_deci {u : Nat} (h : u ≤ 1000000000000000000) : Lib.parseMag (Lib.decDigits u) = .ok u := by
  unfold Lib.parseMag
  rw [if_neg (deci_ne u)]
  have := parse_deci u u (Nat.le_refl _) h []
  rw [List.append_nil] at this
  rw [this]; rfl
theorem atoi_itoa {n : Int} (h : -1000000000000000000 ≤ n ∧ n ≤ 1000000000000000000) : Lib.atoiAll (Lib.itoa n) = .ok n := by
  rcases Int.lt_or_le n 0 with h0 | h0
  · obtain ⟨u, rfl, hu⟩ : ∃ u : Nat, n = -(u : Int) ∧ 0 < u := ⟨n.natAbs, by omega, by omega⟩
    rw [itoa_of_neg hu]
    unfold Lib.atoiAll
    dsimp only
    rw [if_pos (.inr rfl), mag_deci (by omega)]
    dsimp only
    rw [if_neg (by simp), if_neg (by omega)]
    rfl
  · obtain ⟨u, rfl⟩ := Int.eq_ofNat_of_zero_le h0
    rw [itoa_of_nat]
    have hm := mag_deci (u := u) (by omega)
    obtain ⟨x, r, hx, e⟩ := deci_head u
    rw [e] at hm ⊢
    have hd := dgt_nat hx
    unfold Lib.atoiAll
    dsimp only
    rw [if_neg (by omega), hm]
    dsimp only
    rw [if_neg (by omega), if_neg (by omega), if_neg (by omega)]
theorem index_not {c : UInt8} : ∀ (x : List UInt8), c ∉ x → Lib.index x [c] = -1
  | [], _ => rfl
  | b :: r, h => by
    rw [List.mem_cons, not_or] at h
    unfold Lib.index
    rw [if_neg (by simp [List.isPrefixOf, h.1]), index_not r h.2]; rfl
theorem index_at {c : UInt8} : ∀ (x y : List UInt8), c ∉ x → Lib.index (x ++ c :: y) [c] = x.length
  | [], y, _ => by
    show Lib.index (c :: y) [c] = 0
    unfold Lib.index
    rw [if_pos (by simp [List.isPrefixOf])]
  | b :: r, y, h => by
    rw [List.mem_cons, not_or] at h
    show Lib.index (b :: (r ++ c :: y)) [c] = _
    unfold Lib.index
    rw [if_neg (by simp [List.isPrefixOf, h.1]), index_at r y h.2, if_neg (by simp), List.length_cons]
    omega
theorem cut_at {c : UInt8} {x : List UInt8} (y : List UInt8) (h : c ∉ x) : Lib.cut (x ++ c :: y) [c] = (x, y, true) := by
  unfold Lib.cut
  rw [index_at x y h, if_pos (by omega), Int.toNat_natCast, List.take_left, List.length_singleton, List.drop_append, List.drop_eq_nil_of_le (by omega), show x.length + 1 - x.length = 1 by omega]
  rfl
theorem cut_not {c : UInt8} {x : List UInt8} (h : c ∉ x) : Lib.cut x [c] = (x, [], false) := by
  unfold Lib.cut
  rw [index_not x h, if_neg (by decide)]
theorem itoa_mem {n : Int} {b : UInt8} (h : b ∈ Lib.itoa n) : isDg b = true ∨ b = 45 := by
  unfold Lib.itoa at h
  split at h
  · rcases List.mem_cons.1 h with h | h
    · exact .inr h
    · exact .inl (deci_dg h)
  · exact .inl (deci_dg h)
theorem itoa_not {n : Int} {c : UInt8} (h : isDg c = false) (h2 : c ≠ 45) : c ∉ Lib.itoa n := fun g => by
  rcases itoa_mem g with g | g
  · rw [h] at g; cases g
  · exact h2 g
end Go.Proofs.YtpekkcahehhkmaaGreatDoor
/- Tokens of a text, and what the reader of pages makes of them. Plain. -/
set_option linter.unusedVariables false
set_option maxHeartbeats 1000000
namespace Go.Proofs.YtpekkcahehhkmaaGreatDoor
open Go.RowKit

/-- A token: kind, text, line, column; and without its place. -/
abbrev TokT := Int × List UInt8 × Int × Int
abbrev TkE := Int × List UInt8
def ke (t : TokT) : TkE := (t.1, t.2.1)
def spanN (p : Int → Bool) : List UInt8 → Nat
  | [] => 0
  | b :: r => if p (b.toNat : Int) = true then spanN p r + 1 else 0
theorem spanN_le (p : Int → Bool) : ∀ l : List UInt8, spanN p l ≤ l.length
  | [] => Nat.le_refl _
  | b :: r => by
    have := spanN_le p r
    unfold spanN
    split <;> simp <;> omega
theorem spanN_app {p : Int → Bool} {r : List UInt8} (hr : spanN p r = 0) : ∀ {w : List UInt8}, (∀ b ∈ w, p (b.toNat : Int) = true) → spanN p (w ++ r) = w.length
  | [], _ => by simpa using hr
  | b :: w, h => by
    show spanN p (b :: (w ++ r)) = _
    unfold spanN
    rw [if_pos (h b List.mem_cons_self), spanN_app hr fun c hc => h c (List.mem_cons_of_mem _ hc)]
    rfl
theorem spanN_no {p : Int → Bool} {b : UInt8} {r : List UInt8} (h : p (b.toNat : Int) = false) : spanN p (b :: r) = 0 := by
  unfold spanN
  rw [if_neg (by rw [h]; decide)]
def numN (l : List UInt8) : Nat :=
  match l.drop (spanN digitB l) with
  | [] => spanN digitB l
  | c :: r => if c = 46 ∧ 0 < spanN digitB r then spanN digitB l + 1 + spanN digitB r else spanN digitB l
def symB (b : UInt8) : Bool := decide (0 ≤ Lib.indexByte [45, 43, 58, 44, 59, 47, 61, 40, 41, 60, 62, 42, 64, 63] b)
def notNl (b : Int) : Bool := !decide (b = 10)
/-- The kind and the length of the token that begins here. -/
def tokN : List UInt8 → Int × Nat
  | [] => (-1, 1)
  | c :: r =>
    if c = 32 ∨ c = 9 then (0, 1)
    else if c = 10 then (4, 1)
    else if c = 35 then (0, spanN notNl (c :: r))
    else if letterB (c.toNat : Int) = true then (if 20 < spanN wordB (c :: r) then (-1, spanN wordB (c :: r)) else (1, spanN wordB (c :: r)))
    else if digitB (c.toNat : Int) = true then (2, numN (c :: r))
    else if symB c = true then (3, 1) else (-1, 1)
theorem tokN_cons (c : UInt8) (r : List UInt8) : tokN (c :: r) =
    if c = 32 ∨ c = 9 then (0, 1)
    else if c = 10 then (4, 1)
    else if c = 35 then (0, spanN notNl (c :: r))
    else if letterB (c.toNat : Int) = true then (if 20 < spanN wordB (c :: r) then (-1, spanN wordB (c :: r)) else (1, spanN wordB (c :: r)))
    else if digitB (c.toNat : Int) = true then (2, numN (c :: r))
    else if symB c = true then (3, 1) else (-1, 1) := rfl
/-- The tokens of a text: none where one cannot stand. -/
def lexE : Nat → List UInt8 → Option (List TkE)
  | 0, [] => some [(5, [])]
  | 0, _ :: _ => none
  | _ + 1, [] => some [(5, [])]
  | k + 1, c :: l =>
    if (tokN (c :: l)).1 < 0 then none
    else match lexE k ((c :: l).drop (tokN (c :: l)).2) with
      | none => none
      | some r => if (tokN (c :: l)).1 = 0 then some r else if (tokN (c :: l)).1 = 4 then some ((4, []) :: r) else some (((tokN (c :: l)).1, (c :: l).take (tokN (c :: l)).2) :: r)
theorem digit_span {c : UInt8} {r : List UInt8} (h : digitB (c.toNat : Int) = true) : 0 < spanN digitB (c :: r) := by
  unfold spanN
  rw [if_pos h]; omega
theorem numN_pos {c : UInt8} {r : List UInt8} (h : digitB (c.toNat : Int) = true) : 0 < numN (c :: r) := by
  have := digit_span (r := r) h
  unfold numN
  split
  · exact this
  · split <;> omega
theorem numN_le (l : List UInt8) : numN l ≤ l.length := by
  have h1 := spanN_le digitB l
  unfold numN
  split
  · exact h1
  · rename_i c r h
    have h2 := spanN_le digitB r
    have h3 : (l.drop (spanN digitB l)).length = r.length + 1 := by rw [h]; rfl
    rw [List.length_drop] at h3
    split <;> omega
theorem tokN_pos (c : UInt8) (l : List UInt8) : 0 < (tokN (c :: l)).2 := by
  rw [tokN_cons]
  split
  · decide
  split
  · decide
  split
  · rename_i h1 h2 h
    subst h
    unfold spanN
    rw [if_pos (by decide)]
    exact Nat.succ_pos _
  split
  · rename_i h
    have : 0 < spanN wordB (c :: l) := by
      unfold spanN
      rw [if_pos (by unfold wordB; rw [h]; rfl)]; omega
    split <;> exact this
  split
  · rename_i h
    exact numN_pos h
  split <;> exact Nat.zero_lt_one
theorem tokN_le (c : UInt8) (l : List UInt8) : (tokN (c :: l)).2 ≤ (c :: l).length := by
  have h1 := spanN_le notNl (c :: l)
  have h2 := spanN_le wordB (c :: l)
  have h3 := numN_le (c :: l)
  have h4 : 1 ≤ (c :: l).length := by simp
  rw [tokN_cons]
  split
  · exact h4
  split
  · exact h4
  split
  · exact h1
  split
  · split <;> exact h2
  split
  · exact h3
  split <;> exact h4
theorem lexE_cons (k : Nat) (c : UInt8) (l : List UInt8) : lexE (k + 1) (c :: l) = if (tokN (c :: l)).1 < 0 then none
    else match lexE k ((c :: l).drop (tokN (c :: l)).2) with
      | none => none
      | some r => if (tokN (c :: l)).1 = 0 then some r else if (tokN (c :: l)).1 = 4 then some ((4, []) :: r) else some (((tokN (c :: l)).1, (c :: l).take (tokN (c :: l)).2) :: r) := rfl
/-- More steps than bytes do not matter. -/
theorem lexE_more : ∀ (k : Nat) (l : List UInt8), l.length ≤ k → lexE k l = lexE l.length l
  | 0, [], _ => rfl
  | 0, _ :: _, h => by simp at h
  | k + 1, [], _ => rfl
  | k + 1, c :: l, h => by
    have hp := tokN_pos c l
    have hl : ((c :: l).drop (tokN (c :: l)).2).length ≤ l.length := by rw [List.length_drop, List.length_cons]; omega
    have h' : l.length ≤ k := by simpa using h
    show lexE (k + 1) (c :: l) = lexE (l.length + 1) (c :: l)
    rw [lexE_cons, lexE_cons, lexE_more k _ (Nat.le_trans hl h'), lexE_more l.length _ hl]
termination_by k l => k + l.length
decreasing_by all_goals simp_wf; simp at *; omega
/-- A text stands for these tokens. -/
def Lx (l : List UInt8) (E : List TkE) : Prop := lexE l.length l = some E
theorem Lx.nil : Lx [] [(5, [])] := rfl
theorem Lx.step {c : UInt8} {l : List UInt8} {k : Int} {n : Nat} {E : List TkE} (ht : tokN (c :: l) = (k, n)) (h : Lx ((c :: l).drop n) E) (hk : 0 ≤ k) : Lx (c :: l) (if k = 0 then E else if k = 4 then (4, []) :: E else (k, (c :: l).take n) :: E) := by
  unfold Lx at h ⊢
  have hp := tokN_pos c l
  rw [ht] at hp
  have hl : ((c :: l).drop n).length ≤ l.length := by rw [List.length_drop, List.length_cons]; omega
  show lexE (l.length + 1) (c :: l) = _
  rw [lexE_cons, ht]
  dsimp only
  rw [if_neg (by omega), lexE_more l.length _ hl, h]
  dsimp only
  by_cases h0 : k = 0
  · rw [if_pos h0, if_pos h0]
  · rw [if_neg h0, if_neg h0]
    by_cases h4 : k = 4
    · rw [if_pos h4, if_pos h4]
    · rw [if_neg h4, if_neg h4]
theorem Lx.blank {l : List UInt8} {E : List TkE} (h : Lx l E) : Lx (32 :: l) E := Lx.step (k := 0) (n := 1) (by rw [tokN_cons, if_pos (.inl rfl)]) h (by decide)
theorem Lx.tab {l : List UInt8} {E : List TkE} (h : Lx l E) : Lx (9 :: l) E := Lx.step (k := 0) (n := 1) (by rw [tokN_cons, if_pos (.inr rfl)]) h (by decide)
theorem Lx.line {l : List UInt8} {E : List TkE} (h : Lx l E) : Lx (10 :: l) ((4, []) :: E) := Lx.step (k := 4) (n := 1) (by rw [tokN_cons, if_neg (by decide), if_pos rfl]) h (by decide)
theorem Lx.note {w l : List UInt8} {E : List TkE} (hw : ∀ b ∈ w, notNl (b.toNat : Int) = true) (h : Lx (10 :: l) E) : Lx (35 :: (w ++ 10 :: l)) E :=
  Lx.step (k := 0) (n := w.length + 1) (by
    have e := spanN_app (p := notNl) (r := 10 :: l) (spanN_no (by decide)) (w := 35 :: w) (by
      intro b hb
      rcases List.mem_cons.1 hb with rfl | hb
      · decide
      · exact hw b hb)
    rw [tokN_cons, if_neg (by decide), if_neg (by decide), if_pos rfl]
    exact congrArg _ e) (by simpa using h) (by decide)
theorem Lx.dash {l : List UInt8} {E : List TkE} (h : Lx l E) : Lx (45 :: l) ((3, [45]) :: E) := Lx.step (k := 3) (n := 1) (by
  rw [tokN_cons, if_neg (by decide), if_neg (by decide), if_neg (by decide), if_neg (by decide), if_neg (by decide), if_pos (by decide +kernel)]) h (by decide)
theorem letter_out {c : UInt8} (h : letterB (c.toNat : Int) = true) : ¬ (c = 32 ∨ c = 9) ∧ ¬ c = 10 ∧ ¬ c = 35 := by
  refine ⟨?_, ?_, ?_⟩
  · rintro (rfl | rfl) <;> exact absurd h (by decide)
  · rintro rfl; exact absurd h (by decide)
  · rintro rfl; exact absurd h (by decide)
theorem digit_out {c : UInt8} (h : digitB (c.toNat : Int) = true) : ¬ (c = 32 ∨ c = 9) ∧ ¬ c = 10 ∧ ¬ c = 35 ∧ ¬ letterB (c.toNat : Int) = true := by
  refine ⟨?_, ?_, ?_, ?_⟩
  · rintro (rfl | rfl) <;> exact absurd h (by decide)
  · rintro rfl; exact absurd h (by decide)
  · rintro rfl; exact absurd h (by decide)
  · unfold digitB at h
    unfold letterB
    simp only [Bool.and_eq_true, Bool.or_eq_true, decide_eq_true_eq] at h ⊢
    omega
theorem Lx.name {c : UInt8} {w l : List UInt8} {E : List TkE} (h : Lx l E) (hc : letterB (c.toNat : Int) = true) (hw : ∀ b ∈ w, wordB (b.toNat : Int) = true) (hn : w.length < 20) (hl : spanN wordB l = 0) : Lx (c :: w ++ l) ((1, c :: w) :: E) := by
  have e := spanN_app hl (w := c :: w) (by
    intro b hb
    rcases List.mem_cons.1 hb with rfl | hb
    · unfold wordB; rw [hc]; rfl
    · exact hw b hb)
  obtain ⟨g1, g2, g3⟩ := letter_out hc
  have := Lx.step (c := c) (l := w ++ l) (k := 1) (n := (c :: w).length) (E := E) (by
    rw [tokN_cons, if_neg g1, if_neg g2, if_neg g3, if_pos hc]
    rw [show spanN wordB (c :: (w ++ l)) = (c :: w).length from e, if_neg (by simp; omega)]) (by
      show Lx (((c :: w) ++ l).drop (c :: w).length) E
      rw [List.drop_left]; exact h) (by decide)
  rw [if_neg (by decide), if_neg (by decide)] at this
  rw [show (c :: (w ++ l)).take (c :: w).length = c :: w from List.take_left (l₁ := c :: w)] at this
  exact this
def dgs (w : List UInt8) : Prop := w ≠ [] ∧ ∀ b ∈ w, digitB (b.toNat : Int) = true
theorem Lx.int {w l : List UInt8} {E : List TkE} (h : Lx l E) (hw : dgs w) (hl : spanN digitB l = 0) (hp : ∀ r, l ≠ 46 :: r) : Lx (w ++ l) ((2, w) :: E) := by
  have e := spanN_app hl hw.2
  obtain ⟨c, w', rfl⟩ : ∃ c w', w = c :: w' := by
    cases w with
    | nil => exact absurd rfl hw.1
    | cons c w' => exact ⟨c, w', rfl⟩
  have hc := hw.2 c List.mem_cons_self
  obtain ⟨g1, g2, g3, g4⟩ := digit_out hc
  have hn : numN (c :: w' ++ l) = (c :: w').length := by
    unfold numN
    rw [e, List.drop_left]
    cases l with
    | nil => rfl
    | cons d r =>
      dsimp only
      rw [if_neg]
      rintro ⟨rfl, _⟩
      exact hp r rfl
  have := Lx.step (c := c) (l := w' ++ l) (k := 2) (n := (c :: w').length) (E := E) (by
    rw [tokN_cons, if_neg g1, if_neg g2, if_neg g3, if_neg g4, if_pos hc]
    exact congrArg _ hn) (by
      show Lx (((c :: w') ++ l).drop (c :: w').length) E
      rw [List.drop_left]; exact h) (by decide)
  rw [if_neg (by decide), if_neg (by decide)] at this
  rw [show (c :: (w' ++ l)).take (c :: w').length = c :: w' from List.take_left (l₁ := c :: w')] at this
  exact this
theorem Lx.dec {w u l : List UInt8} {E : List TkE} (h : Lx l E) (hw : dgs w) (hu : dgs u) (hl : spanN digitB l = 0) : Lx (w ++ 46 :: (u ++ l)) ((2, w ++ 46 :: u) :: E) := by
  have e := spanN_app (p := digitB) (r := 46 :: (u ++ l)) (spanN_no (by decide)) hw.2
  have e2 := spanN_app hl hu.2
  obtain ⟨c, w', rfl⟩ : ∃ c w', w = c :: w' := by
    cases w with
    | nil => exact absurd rfl hw.1
    | cons c w' => exact ⟨c, w', rfl⟩
  have hc := hw.2 c List.mem_cons_self
  obtain ⟨g1, g2, g3, g4⟩ := digit_out hc
  have hn : numN (c :: w' ++ 46 :: (u ++ l)) = (c :: w' ++ 46 :: u).length := by
    unfold numN
    rw [e, List.drop_left]
    dsimp only
    rw [e2, if_pos ⟨rfl, List.length_pos_iff.2 hu.1⟩]
    simp; omega
  have ea : c :: (w' ++ 46 :: (u ++ l)) = (c :: w' ++ 46 :: u) ++ l := by simp
  have := Lx.step (c := c) (l := w' ++ 46 :: (u ++ l)) (k := 2) (n := (c :: w' ++ 46 :: u).length) (E := E) (by
    rw [tokN_cons, if_neg g1, if_neg g2, if_neg g3, if_neg g4, if_pos hc]
    exact congrArg _ hn) (by
      rw [ea, List.drop_left]; exact h) (by decide)
  rw [if_neg (by decide), if_neg (by decide), ea, List.take_left] at this
  show Lx (c :: (w' ++ 46 :: (u ++ l))) _
  rw [ea]
  exact this

/-! ### What the reader makes of them -/
def nextP (k : Int) (t : List UInt8) : List TkE → Option (List UInt8 × List TkE)
  | [] => none
  | x :: r => if x.1 = k ∧ (t = [] ∨ x.2 = t) then some (x.2, if k = 5 then x :: r else r) else none
def skipP : List TkE → List TkE
  | [] => []
  | x :: r => if x.1 = 4 then skipP r else x :: r
def endP : List TkE → Option (List TkE)
  | [] => none
  | x :: r => if x.1 = 5 then some (x :: r) else if x.1 = 4 then some r else none
/-- The form of a number's text. -/
abbrev numC (whole part : Nat) (s : List UInt8) : Prop := (Lib.cut s [46]).2.2 = decide (0 < part) ∧ (Lib.cut s [46]).2.1.length = part ∧ 0 < (Lib.cut s [46]).1.length ∧ s.length ≤ 20 ∧ (if 0 < whole then (Lib.cut s [46]).1.length = whole else (Lib.cut s [46]).1.length ≤ 6 ∧ ((Lib.cut s [46]).1.length = 1 ∨ ¬ nth (Lib.cut s [46]).1 0 = 48))
/-- The number that a number's text has, if the text has the form. -/
def numV (whole part : Nat) (s : List UInt8) : Option Int :=
  if numC whole part s then
    match Lib.atoiAll ((Lib.cut s [46]).1 ++ (Lib.cut s [46]).2.1) with
    | .ok n => if 0 ≤ n ∧ n ≤ 99999999 then some n else none
    | _ => none
  else none
def numP (whole part : Nat) : List TkE → Option (Int × List TkE)
  | [] => none
  | x :: r => if x.1 = 2 then (match numV whole part x.2 with
    | none => none
    | some n => some (n, r)) else none
def angP (E : List TkE) : Option (Int × List TkE) := do
  let (d, r1) ← numP 0 0 E
  let (_, r2) ← nextP 3 [45] r1
  let (m, r3) ← numP 2 1 r2
  if m < 600 then some (600 * d + m, r3) else none
def sideP : List TkE → Option (Bool × List TkE)
  | [] => none
  | x :: r => if x.1 = 1 ∧ x.2 = [83] then some (true, r) else if x.1 = 1 ∧ x.2 = [78] then some (false, r) else none
def entryP (hour : Int) (E : List TkE) : Option ((Int × Int) × List TkE) := do
  let (h, r1) ← numP 0 0 E
  if h ≠ hour then none else
  let (g, r2) ← angP r1
  let (south, r3) ← sideP r2
  let (d, r4) ← angP r3
  let r5 ← endP r4
  some ((g, if south = true then -d else d), r5)
end Go.Proofs.YtpekkcahehhkmaaGreatDoor
/- What the reader of pages makes of tokens: tracks and pages; extra ends of lines do not matter. Plain. -/
set_option linter.unusedVariables false
set_option maxHeartbeats 1000000
namespace Go.Proofs.YtpekkcahehhkmaaGreatDoor
open Go.RowKit

/-- A track without the places of its lists. -/
abbrev TrkP := List UInt8 × List Int × List Int × Int × Int × Int
abbrev bBody : List UInt8 := [98, 111, 100, 121]
abbrev bSemi : List UInt8 := [115, 101, 109, 105]
abbrev bPar : List UInt8 := [112, 97, 114]
abbrev bBend : List UInt8 := [98, 101, 110, 100]
abbrev bPage : List UInt8 := [112, 97, 103, 101]
def fieldP (w : List UInt8) (E : List TkE) : Option (Int × List TkE) := do
  let (_, r1) ← nextP 1 w E
  numP 0 1 r1
def headP (E : List TkE) : Option ((List UInt8 × Int × Int × Int) × List TkE) := do
  let (_, r1) ← nextP 1 bBody E
  let (nm, r2) ← nextP 1 [] r1
  let (se, r3) ← fieldP bSemi r2
  let (pa, r4) ← fieldP bPar r3
  let (be, r5) ← fieldP bBend r4
  let r6 ← endP r5
  some ((nm, se, pa, be), r6)
def entsP : Nat → Int → List TkE → Option (List (Int × Int) × List TkE)
  | 0, _, E => some ([], E)
  | k + 1, h, E => do
    let (x, r1) ← entryP h (skipP E)
    let (xs, r2) ← entsP k (h + 1) r1
    some (x :: xs, r2)
def trackP (E : List TkE) : Option (TrkP × List TkE) := do
  let (x, r1) ← headP E
  let (es, r2) ← entsP 25 0 r1
  some ((x.1, es.map (·.1), es.map (·.2), x.2.1, x.2.2.1, x.2.2.2), r2)
def isBodyP (E : List TkE) : Bool := match E with
  | [] => false
  | x :: _ => decide (x.1 = 1) && decide (x.2 = bBody)
def tracksP : Nat → List TkE → Option (List TrkP)
  | 0, _ => none
  | k + 1, E =>
    if isBodyP (skipP E) = true then do
      let (t, r) ← trackP (skipP E)
      let ts ← tracksP k r
      some (t :: ts)
    else match skipP E with
      | [] => none
      | x :: _ => if x.1 = 5 then some [] else none
def dateH (E : List TkE) : Option ((Int × Int × Int) × List TkE) := do
  let (_, r1) ← nextP 1 bPage (skipP E)
  let (y, r2) ← numP 4 0 r1
  let (_, r3) ← nextP 3 [45] r2
  let (m, r4) ← numP 2 0 r3
  let (_, r5) ← nextP 3 [45] r4
  let (d, r6) ← numP 2 0 r5
  let r7 ← endP r6
  some ((y, m, d), r7)
def pageP (k : Nat) (E : List TkE) : Option ((Int × Int × Int) × List TrkP) := do
  let (x, r) ← dateH E
  let ts ← tracksP k r
  some (x, ts)

/-! ### Ends of lines ahead of a line -/
def eols (a : Nat) (E : List TkE) : List TkE := List.replicate a (4, []) ++ E
theorem skipP_cons (x : TkE) (r : List TkE) : skipP (x :: r) = if x.1 = 4 then skipP r else x :: r := rfl
theorem nextP_cons (k : Int) (t : List UInt8) (x : TkE) (r : List TkE) : nextP k t (x :: r) = if x.1 = k ∧ (t = [] ∨ x.2 = t) then some (x.2, if k = 5 then x :: r else r) else none := rfl
theorem numP_cons (whole part : Nat) (x : TkE) (r : List TkE) : numP whole part (x :: r) = if x.1 = 2 then (match numV whole part x.2 with
    | none => none
    | some n => some (n, r)) else none := rfl
theorem skip_eols {E : List TkE} : ∀ a : Nat, skipP (eols a E) = skipP E
  | 0 => rfl
  | a + 1 => by
    show skipP ((4, []) :: eols a E) = _
    rw [skipP_cons, if_pos rfl, skip_eols a]
theorem skip_no {x : TkE} {r : List TkE} (h : ¬ x.1 = 4) : skipP (x :: r) = x :: r := by
  rw [skipP_cons, if_neg h]
/-- Lines of tokens, each with some ends of lines ahead, and some behind all. -/
inductive BL : List (List TkE) → List TkE → Prop
  | nil (a : Nat) : BL [] (eols a [(5, [])])
  | cons (a : Nat) {t : List TkE} {ls : List (List TkE)} {E : List TkE} : BL ls E → BL (t :: ls) (eols a (t ++ (4, []) :: E))
/-- A degree's digits, and a minute's. -/
def angE (deg mn : List UInt8) : List TkE := [(2, deg), (3, [45]), (2, mn)]
theorem next_eq {k : Int} {t : List UInt8} {s : List UInt8} {r : List TkE} (hk : k ≠ 5) (h : t = [] ∨ s = t) : nextP k t ((k, s) :: r) = some (s, r) := by
  rw [nextP_cons, if_pos ⟨rfl, h⟩, if_neg hk]
theorem num_eq {whole part : Nat} {s : List UInt8} {n : Int} {r : List TkE} (h : numV whole part s = some n) : numP whole part ((2, s) :: r) = some (n, r) := by
  rw [numP_cons, if_pos rfl, h]
theorem ang_eq {deg mn : List UInt8} {d m : Int} {r : List TkE} (h1 : numV 0 0 deg = some d) (h2 : numV 2 1 mn = some m) (hm : m < 600) : angP (angE deg mn ++ r) = some (600 * d + m, r) := by
  unfold angP angE
  simp only [List.cons_append, List.nil_append, num_eq h1, num_eq h2, next_eq (k := 3) (t := [45]) (s := [45]) (by decide) (.inr rfl), Option.bind_eq_bind, Option.bind_some, if_pos hm]
theorem side_eq {b : Bool} {r : List TkE} : sideP ((1, if b = true then [83] else [78]) :: r) = some (b, r) := by
  cases b <;> rfl
def entE (h g1 g2 : List UInt8) (b : Bool) (d1 d2 : List UInt8) : List TkE := (2, h) :: (angE g1 g2 ++ (1, if b = true then [83] else [78]) :: angE d1 d2)
theorem entry_eq {h g1 g2 d1 d2 : List UInt8} {b : Bool} {hour x1 x2 y1 y2 : Int} {r : List TkE} (e0 : numV 0 0 h = some hour) (e1 : numV 0 0 g1 = some x1) (e2 : numV 2 1 g2 = some x2) (e3 : numV 0 0 d1 = some y1) (e4 : numV 2 1 d2 = some y2) (l2 : x2 < 600) (l4 : y2 < 600) :
    entryP hour (entE h g1 g2 b d1 d2 ++ (4, []) :: r) = some ((600 * x1 + x2, if b = true then -(600 * y1 + y2) else 600 * y1 + y2), r) := by
  unfold entryP entE
  simp only [List.cons_append, List.append_assoc, num_eq e0, Option.bind_eq_bind, Option.bind_some, ne_eq, not_true_eq_false, if_false, ang_eq e1 e2 l2, side_eq, ang_eq e3 e4 l4]
  rfl
/-- What an entry's line says: the hour, the angle, and the signed angle. -/
def EntOk (t : List TkE) (hour g d : Int) : Prop := ∃ h g1 g2 d1 d2 : List UInt8, ∃ b : Bool, ∃ x1 x2 y1 y2 : Int, t = entE h g1 g2 b d1 d2 ∧ numV 0 0 h = some hour ∧ (numV 0 0 g1 = some x1 ∧ numV 2 1 g2 = some x2 ∧ x2 < 600 ∧ g = 600 * x1 + x2) ∧ numV 0 0 d1 = some y1 ∧ numV 2 1 d2 = some y2 ∧ y2 < 600 ∧ d = if b = true then -(600 * y1 + y2) else 600 * y1 + y2
theorem ent_read {t : List TkE} {hour g d : Int} (h : EntOk t hour g d) {a : Nat} {E : List TkE} : entryP hour (skipP (eols a (t ++ (4, []) :: E))) = some ((g, d), E) := by
  obtain ⟨h0, g1, g2, d1, d2, b, x1, x2, y1, y2, rfl, e0, ⟨e1, e2, l2, rfl⟩, e3, e4, l4, rfl⟩ := h
  rw [skip_eols, show entE h0 g1 g2 b d1 d2 ++ (4, []) :: E = (2, h0) :: (angE g1 g2 ++ (1, if b = true then [83] else [78]) :: angE d1 d2 ++ (4, []) :: E) from rfl, skip_no (x := (2, h0)) (by show ¬ (2 : Int) = 4; decide)]
  exact entry_eq e0 e1 e2 e3 e4 l2 l4
/-- The lines of entries from an hour on. -/
def EntsOk : Int → List (List TkE) → List (Int × Int) → Prop
  | _, [], [] => True
  | h, t :: ts, x :: xs => EntOk t h x.1 x.2 ∧ EntsOk (h + 1) ts xs
  | _, _, _ => False
theorem ents_read : ∀ (ts : List (List TkE)) (xs : List (Int × Int)) (h : Int) (ls : List (List TkE)) (E : List TkE), EntsOk h ts xs → BL (ts ++ ls) E → ∃ E', entsP xs.length h E = some (xs, E') ∧ BL ls E'
  | [], [], h, ls, E, _, hb => ⟨E, rfl, hb⟩
  | t :: ts, x :: xs, h, ls, E, ho, hb => by
    obtain ⟨h1, h2⟩ := ho
    rw [List.cons_append] at hb
    cases hb with
    | cons a hb' =>
      obtain ⟨E', h3, h4⟩ := ents_read ts xs (h + 1) ls _ h2 hb'
      refine ⟨E', ?_, h4⟩
      show entsP (xs.length + 1) h _ = _
      unfold entsP
      simp only [Option.bind_eq_bind, ent_read h1, Option.bind_some, h3]
  | [], _ :: _, _, _, _, ho, _ => by exact ho.elim
  | _ :: _, [], _, _, _, ho, _ => by exact ho.elim
def bodyE (nm se pa be : List UInt8) : List TkE := [(1, bBody), (1, nm), (1, bSemi), (2, se), (1, bPar), (2, pa), (1, bBend), (2, be)]
theorem head_eq {nm se pa be : List UInt8} {s p b : Int} {r : List TkE} (e1 : numV 0 1 se = some s) (e2 : numV 0 1 pa = some p) (e3 : numV 0 1 be = some b) : headP (bodyE nm se pa be ++ (4, []) :: r) = some ((nm, s, p, b), r) := by
  unfold headP fieldP bodyE
  simp only [List.cons_append, List.nil_append, next_eq (k := 1) (t := bBody) (s := bBody) (by decide) (.inr rfl), next_eq (k := 1) (t := []) (s := nm) (by decide) (.inl rfl), next_eq (k := 1) (t := bSemi) (s := bSemi) (by decide) (.inr rfl), next_eq (k := 1) (t := bPar) (s := bPar) (by decide) (.inr rfl), next_eq (k := 1) (t := bBend) (s := bBend) (by decide) (.inr rfl), num_eq e1, num_eq e2, num_eq e3, Option.bind_eq_bind, Option.bind_some]
  rfl
/-- The lines of a track. -/
def TrkOk (ts : List (List TkE)) (t : TrkP) : Prop := ∃ se pa be : List UInt8, ∃ es : List (List TkE), ts = bodyE t.1 se pa be :: es ∧ numV 0 1 se = some t.2.2.2.1 ∧ numV 0 1 pa = some t.2.2.2.2.1 ∧ numV 0 1 be = some t.2.2.2.2.2 ∧ t.2.1.length = 25 ∧ t.2.2.1.length = 25 ∧ EntsOk 0 es (t.2.1.zip t.2.2.1)
theorem track_read {ts : List (List TkE)} {t : TrkP} {ls : List (List TkE)} {E : List TkE} (h : TrkOk ts t) (hb : BL (ts ++ ls) E) : isBodyP (skipP E) = true ∧ ∃ E', trackP (skipP E) = some (t, E') ∧ BL ls E' := by
  obtain ⟨se, pa, be, es, rfl, e1, e2, e3, l1, l2, h4⟩ := h
  rw [List.cons_append] at hb
  cases hb with
  | @cons a _ _ E1 hb' =>
    obtain ⟨E', h5, h6⟩ := ents_read es _ 0 ls _ h4 hb'
    rw [List.length_zip, l1, l2, Nat.min_self] at h5
    rw [skip_eols, show bodyE t.1 se pa be ++ (4, []) :: E1 = (1, bBody) :: ([(1, t.1), (1, bSemi), (2, se), (1, bPar), (2, pa), (1, bBend), (2, be)] ++ (4, []) :: E1) from rfl, skip_no (by decide)]
    refine ⟨rfl, E', ?_, h6⟩
    show trackP (bodyE t.1 se pa be ++ (4, []) :: E1) = _
    unfold trackP
    simp only [head_eq e1 e2 e3, Option.bind_eq_bind, Option.bind_some, h5]
    have m1 : (t.2.1.zip t.2.2.1).map (·.1) = t.2.1 := by rw [List.map_fst_zip (by omega)]
    have m2 : (t.2.1.zip t.2.2.1).map (·.2) = t.2.2.1 := by rw [List.map_snd_zip (by omega)]
    rw [m1, m2]
def TrksOk : List (List TkE) → List TrkP → Prop
  | ls, [] => ls = []
  | ls, t :: ts => ∃ l1 l2, ls = l1 ++ l2 ∧ TrkOk l1 t ∧ TrksOk l2 ts
theorem tracks_read : ∀ (ts : List TrkP) (ls : List (List TkE)) (E : List TkE), TrksOk ls ts → BL ls E → ∀ k, ts.length < k → tracksP k E = some ts
  | [], ls, E, h, hb, k, hk => by
    obtain rfl : ls = [] := h
    cases hb with
    | nil a =>
      obtain ⟨k, rfl⟩ : ∃ j, k = j + 1 := ⟨k - 1, by simp at hk; omega⟩
      unfold tracksP
      rw [skip_eols]
      rfl
  | t :: ts, ls, E, h, hb, k, hk => by
    obtain ⟨l1, l2, rfl, h1, h2⟩ := h
    obtain ⟨g1, E', g2, g3⟩ := track_read h1 hb
    rw [List.length_cons] at hk
    obtain ⟨k, rfl⟩ : ∃ j, k = j + 1 := ⟨k - 1, by omega⟩
    unfold tracksP
    rw [if_pos g1]
    simp only [g2, Option.bind_eq_bind, Option.bind_some, tracks_read ts l2 E' h2 g3 k (by omega)]
def dateE (y m d : List UInt8) : List TkE := [(1, bPage), (2, y), (3, [45]), (2, m), (3, [45]), (2, d)]
theorem page_read {yt mt dt : List UInt8} {y m d : Int} {ts : List TrkP} {ls : List (List TkE)} {E : List TkE} (e1 : numV 4 0 yt = some y) (e2 : numV 2 0 mt = some m) (e3 : numV 2 0 dt = some d) (h : TrksOk ls ts) (hb : BL (dateE yt mt dt :: ls) E) (k : Nat) (hk : ts.length < k) :
    pageP k E = some ((y, m, d), ts) := by
  cases hb with
  | @cons a _ _ E1 hb' =>
    have h1 : dateH (eols a (dateE yt mt dt ++ (4, []) :: E1)) = some ((y, m, d), E1) := by
      unfold dateH
      rw [skip_eols, show dateE yt mt dt ++ (4, []) :: E1 = (1, bPage) :: ([(2, yt), (3, [45]), (2, mt), (3, [45]), (2, dt)] ++ (4, []) :: E1) from rfl, skip_no (by decide)]
      simp only [List.cons_append, List.nil_append, next_eq (k := 1) (t := bPage) (s := bPage) (by decide) (.inr rfl), next_eq (k := 3) (t := [45]) (s := [45]) (by decide) (.inr rfl), num_eq e1, num_eq e2, num_eq e3, Option.bind_eq_bind, Option.bind_some]
      rfl
    unfold pageP
    simp only [h1, Option.bind_eq_bind, Option.bind_some, tracks_read ts ls E1 h hb' k hk]
end Go.Proofs.YtpekkcahehhkmaaGreatDoor
/- Functions that turn a slice of the caller's, or hand on one of their own: contracts. -/
set_option linter.unusedVariables false
set_option maxHeartbeats 4000000
namespace Go.Proofs.YtpekkcahehhkmaaGreatDoor
open Go.RowKit

/-- The heaplet x stands in the list, between A and B. -/
inductive At (x : Hl) : List Hl → List Hl → List Hl → Prop
  | here {B : List Hl} : At x [] B (x :: B)
  | there {h : Hl} {A B H : List Hl} : At x A B H → At x (h :: A) B (h :: H)
theorem At.mem {x : Hl} {A B H : List Hl} (h : At x A B H) : x ∈ H := by
  induction h with
  | here => exact List.mem_cons_self
  | there _ ih => exact List.mem_cons_of_mem _ ih
theorem At.subset {x y : Hl} {A B H : List Hl} (h : At x A B H) (hy : y ∈ x :: (A ++ B)) : y ∈ H := by
  induction h with
  | here => simpa using hy
  | there h ih =>
    rcases List.mem_cons.1 hy with rfl | hy
    · exact List.mem_cons_of_mem _ (ih List.mem_cons_self)
    · rcases List.mem_cons.1 hy with rfl | hy
      · exact List.mem_cons_self
      · exact List.mem_cons_of_mem _ (ih (List.mem_cons_of_mem _ hy))
theorem At.apart {x : Hl} {A B H : List Hl} (h : At x A B H) (ha : allApart H) : allApart (x :: (A ++ B)) := by
  induction h with
  | here => exact ha
  | @there z A B H h ih =>
    obtain ⟨h1, h2⟩ := ha
    obtain ⟨h3, h4⟩ := ih h2
    refine ⟨fun y hy b hb ho => ?_, fun y hy b hb ho => ?_, h4⟩
    · rcases List.mem_cons.1 hy with rfl | hy
      · exact (h1 x h.mem b ho hb).symm
      · exact h3 y hy b hb ho
    · exact h1 y (h.subset (List.mem_cons_of_mem _ hy)) b hb ho
theorem St.front {w0 w : World} {x : Hl} {A B H : List Hl} (h : At x A B H) (hw : St w0 H w) : St w0 (x :: (A ++ B)) w :=
  ⟨hw.ext, fun y hy => hw.all y (h.subset hy), h.apart hw.apart⟩
/-- A contract that turns the heaplet X of the caller's, whatever else stands beside it: Y z stands in its place. -/
def ContU (P : Program) (X : Hl) (f : FuncId) (args : List Value) {ι : Type} (post : ι → Prop) (v : ι → Value) (Y : ι → List Hl) : Prop :=
  ∀ w0 HR w, St w0 (X :: HR) w → Calls P f args.toArray w fun e w' => ∃ z, post z ∧ e = .returned (v z) ∧ St w0 (Y z ++ HR) w'
section
variable {P : Program} {n : Nat} {L : FL} {w0 : World} {H HS : List Hl} {Q : Exit → Act → World → Prop} {ops : Array Oper} {rest : List Oper} {ord : List Mv} {ps : List Pd} {d dd i : Nat} {ty : TypeId} {pos : String} {af : Array Edge} {gd : Option (Nat × Bool)} {x y z q : Operand} {t e : TypeId} {ι α : Type} {f : α → List Value} {s bytes : Nat} {l l' : List α} {u v : Value} {k k' k'' : IntKind} {m m' m'' : Int}
theorem enterU {f : FuncId} {fn : Func} {c : Code} {vs : List Value} {w : World} {R : Ending → World → Prop} (hf : P.funcs[f]? = some fn) (hb : fn.body = some c) (hn : fn.ntmps = n) (hl : Nat.ble vs.length n = true) (hw : St w0 H w)
    (h : G P (bodyPost P fn R) n (argsL 0 vs) w0 H c) : Calls P f vs.toArray w R := by
  unfold G at h
  refine calls_of_wp hf hb (h _ _ ⟨?_, rfl, fun i v hi => ?_⟩ hw)
  · have := Nat.le_of_ble_eq_true hl
    simp [hn]; omega
  · have := (lk_argsL vs 0 i v hi).2
    have hlt := (List.getElem?_eq_some_iff.1 this).1
    simp at this
    have hlt' : i < vs.length := by omega
    have h2 := (List.getElem?_eq_some_iff.1 this).2
    simpa [Array.getElem?_append, hlt'] using h2
theorem x_callU {X : Hl} {A B : List Hl} {f : FuncId} {xs : List Operand} {vs : List Value} {tys : Array TypeId} {post : ι → Prop} {v : ι → Value} {Y : ι → List Hl} (hc : ContU P X f vs post v Y) (ha : AE L xs vs) (hA : At X A B H) (hg : isGo P f = true) (hd : Nat.blt dd n = true) :
    EX P n L w0 H ⟨some dd, .call { callee := .value (.func f), args := xs.toArray, argTypes := tys }, ty, pos, af, gd⟩ post (fun z => (dd, v z) :: L) (fun z => Y z ++ (A ++ B)) := fun a w hfr hw K Q hK => by
  unfold Oper.wp
  rw [run_call hfr ha hg]
  refine (hc w0 (A ++ B) w (St.front hA hw)).mono ?_
  rintro e w' ⟨z, hz, rfl, hs⟩
  exact hK _ _ ⟨z, hz, hfr.put (by simpa [Nat.blt_eq] using hd), hs⟩
theorem RS.callU {X : Hl} {A B : List Hl} {f : FuncId} {xs : List Operand} {vs : List Value} {tys : Array TypeId} {post : ι → Prop} {v : ι → Value} {Y : ι → List Hl} (hc : ContU P X f vs post v Y) (ha : AE L xs vs) (h : ∀ z, post z → RS P ops Q n ((dd, v z) :: L) w0 (Y z ++ (A ++ B)) rest)
    (hA : At X A B H := by first | exact .here | exact .there .here | exact .there (.there .here) | exact .there (.there (.there .here)) | exact .there (.there (.there (.there .here))) | exact .there (.there (.there (.there (.there .here)))))
    (hg : isGo P f = true := by decide +kernel) (hd : Nat.blt dd n = true := by rfl) :
    RS P ops Q n L w0 H (⟨some dd, .call { callee := .value (.func f), args := xs.toArray, argTypes := tys }, ty, pos, af, none⟩ :: rest) := RS.actX rfl (x_callU hc ha hA hg hd) h
/-- The same where the callee leans on something that the caller's frame gives. -/
def ContC (P : Program) (C : World → Prop) (X : Hl) (f : FuncId) (args : List Value) {ι : Type} (post : ι → Prop) (v : ι → Value) (Y : ι → List Hl) : Prop :=
  ∀ w0 HR, (∀ w, St w0 HR w → C w) → ∀ w, St w0 (X :: HR) w → Calls P f args.toArray w fun e w' => ∃ z, post z ∧ e = .returned (v z) ∧ St w0 (Y z ++ HR) w'
theorem x_callC {C : World → Prop} {X : Hl} {A B : List Hl} {f : FuncId} {xs : List Operand} {vs : List Value} {tys : Array TypeId} {post : ι → Prop} {v : ι → Value} {Y : ι → List Hl} (hc : ContC P C X f vs post v Y) (ha : AE L xs vs) (hA : At X A B H) (hC : ∀ w, St w0 (A ++ B) w → C w) (hg : isGo P f = true) (hd : Nat.blt dd n = true) :
    EX P n L w0 H ⟨some dd, .call { callee := .value (.func f), args := xs.toArray, argTypes := tys }, ty, pos, af, gd⟩ post (fun z => (dd, v z) :: L) (fun z => Y z ++ (A ++ B)) := fun a w hfr hw K Q hK => by
  unfold Oper.wp
  rw [run_call hfr ha hg]
  refine (hc w0 (A ++ B) hC w (St.front hA hw)).mono ?_
  rintro e w' ⟨z, hz, rfl, hs⟩
  exact hK _ _ ⟨z, hz, hfr.put (by simpa [Nat.blt_eq] using hd), hs⟩
theorem RS.callC {C : World → Prop} {X : Hl} {A B : List Hl} {f : FuncId} {xs : List Operand} {vs : List Value} {tys : Array TypeId} {post : ι → Prop} {v : ι → Value} {Y : ι → List Hl} (hc : ContC P C X f vs post v Y) (ha : AE L xs vs) (hC : ∀ w, St w0 (A ++ B) w → C w) (h : ∀ z, post z → RS P ops Q n ((dd, v z) :: L) w0 (Y z ++ (A ++ B)) rest)
    (hA : At X A B H := by first | exact .here | exact .there .here | exact .there (.there .here) | exact .there (.there (.there .here)) | exact .there (.there (.there (.there .here))))
    (hg : isGo P f = true := by decide +kernel) (hd : Nat.blt dd n = true := by rfl) :
    RS P ops Q n L w0 H (⟨some dd, .call { callee := .value (.func f), args := xs.toArray, argTypes := tys }, ty, pos, af, none⟩ :: rest) := RS.actX rfl (x_callC hc ha hA hC hg hd) h
end
end Go.Proofs.YtpekkcahehhkmaaGreatDoor
