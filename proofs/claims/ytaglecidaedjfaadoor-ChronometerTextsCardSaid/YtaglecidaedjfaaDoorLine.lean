/- chronometer.line: a range over strings.SplitSeq. -/
import Derived.Test.YtaglecidaedjfaaDoorSeq
set_option linter.unusedVariables false
namespace Go.Proofs.YtaglecidaedjfaaDoor
open Go.RowKit Go.Shelf
attribute [local go_sem] Oper.semAt_some

abbrev w3 (w : World) (s : List UInt8) : World := ((w.alloc (.cells #[strV s] 9)).alloc (.cells #[strV [32]] 9)).alloc (.cells #[.int .i64 0] 3)
set_option maxRecDepth 100000 in
set_option maxHeartbeats 2000000 in
theorem splitSeq_c (s : List UInt8) (w : World) : Calls Tryd.prog 90 #[strV s, strV [32]] w fun e w' => e = .returned (.func (.func 132) #[] #[.pointer (some ⟨w.heap.size + 1, 0, none⟩), .pointer (some ⟨w.heap.size, 0, none⟩), .pointer (some ⟨w.heap.size + 2, 0, none⟩)]) ∧ w' = w3 w s := by
  refine (callsIn_wide (n := 3)).1 ?_
  refine callsIn_of_wp Tryd.func90 rfl trivial ?_ rfl
  simp only [Tryd.ntmps90, List.size_toArray, List.length_cons, List.length_nil, Nat.reduceAdd, Nat.reduceSub, Array.replicate_succ, Array.replicate_zero, List.push_toArray, List.append_toArray, List.nil_append, List.cons_append]
  have h : CallsIn Fence.wide 2 Tryd.prog 114 #[strV s, strV [32], .int .i64 0] w fun e w' => e = .returned (.func (.func 132) #[] #[.pointer (some ⟨w.heap.size + 1, 0, none⟩), .pointer (some ⟨w.heap.size, 0, none⟩), .pointer (some ⟨w.heap.size + 2, 0, none⟩)]) ∧ w' = w3 w s := by
    refine callsIn_of_wp Tryd.func114 rfl trivial ?_ rfl
    simp only [Tryd.ntmps114, List.size_toArray, List.length_cons, List.length_nil, Nat.reduceAdd, Nat.reduceSub, Array.replicate_succ, Array.replicate_zero, List.push_toArray, List.append_toArray, List.nil_append, List.cons_append]
    gi_wp2
    go_ret
    exact ⟨rfl, rfl⟩
  gi_wp2_with (refine ⟨trivial, ?_⟩; gi_at_call 114; refine h.mono ?_; rintro e w' ⟨rfl, rfl⟩)
  go_ret
  exact ⟨rfl, rfl⟩
theorem w3_cells (W : World) (s : List UInt8) : (w3 W s).heap.size = W.heap.size + 3 ∧ (w3 W s).cell? ⟨W.heap.size, 0, none⟩ = some (strV s) ∧ (w3 W s).frozen? ⟨W.heap.size, 0, none⟩ = false ∧ (w3 W s).cell? ⟨W.heap.size + 1, 0, none⟩ = some (strV [32]) ∧ (w3 W s).cell? ⟨W.heap.size + 2, 0, none⟩ = some (.int .i64 0) ∧ Below W.heap.size W (w3 W s) := by
  have h1 := ((Boxed.new W 9 (strV s)).alloc (.cells #[strV [32]] 9)).alloc (.cells #[.int .i64 0] 3)
  have h2 := (Boxed.new (W.alloc (.cells #[strV s] 9)) 9 (strV [32])).alloc (.cells #[.int .i64 0] 3)
  have h3 := Boxed.new ((W.alloc (.cells #[strV s] 9)).alloc (.cells #[strV [32]] 9)) 3 (.int .i64 0)
  rw [World.size_alloc] at h2
  rw [World.size_alloc, World.size_alloc] at h3
  exact ⟨by simp, h1.cell, h1.frozen, h2.cell, h3.cell, (((Below.refl _ W).alloc (Nat.le_refl _) _).alloc (by simp) _).alloc (by simp; omega) _⟩
def intW (w : List UInt8) : Option Int := match Lib.atoiAll w with
  | .ok v => if Lib.itoa v = w then some v else none
  | _ => none
def lineP (s : List UInt8) : (Int × Int × Int) × Bool := match (Lib.split s [32]).map intW with
  | [some a, some b, some c] => ((a, b, c), true)
  | _ => ((0, 0, 0), false)
abbrev lineV (z : (Int × Int × Int) × Bool) : Value := .tuple [.agg [.int .i64 z.1.1, .int .i64 z.1.2.1, .int .i64 z.1.2.2].toArray, .bool z.2].toArray
/-- Between two rounds. B0: the heap's size at the start; the line's cells lie from B0 on: the answer's two blocks, the box of the numbers, the iterator's three. -/
structure LineI (B0 : Nat) (w : World) (pre : List (Wd 100000)) (W : World) : Prop where
  vals : ∃ vs : List Int, pre.map (fun x => intW x.1) = vs.map some ∧ ∃ v, Boxed W (B0 + 2) 25 v ∧ W.ownsRow (B0 + 6) 3 1 v vs.length (vs.map (Value.int .i64))
  res : W.heap[B0]? = some (.cells #[.int .i64 0, .int .i64 0, .int .i64 0] 58 (0, 0))
  fin : Boxed W (B0 + 1) 4 (.bool false)
  it : B0 + 6 ≤ W.heap.size
  low : Below B0 w W
theorem LineI.grow {B0 : Nat} {w W W' : World} {pre : List (Wd 100000)} {row : Option Nat} (h : LineI B0 w pre W) (hg : W.grownBy W' row) (hr : ∀ r, row = some r → B0 ≤ r ∧ ∃ o : Obj, W.heap[r]? = some o ∧ o.isCells = false) (hB : B0 ≤ w.heap.size) : LineI B0 w pre W' := by
  have hr' : ∀ r, row = some r → ∃ o : Obj, W.heap[r]? = some o ∧ o.isCells = false := fun r e => (hr r e).2
  obtain ⟨vs, e, v, hv, hrow⟩ := h.vals
  obtain ⟨v', hv', hrow', _⟩ := holdsRow_own (B0 + 6) (B0 + 2) 25 3 1 (fun _ : Unit => vs.length) (fun _ => vs.map (Value.int .i64)) (fun _ _ => True) () W W' row ⟨v, hv, hrow, trivial⟩ hg hr'
  exact ⟨⟨vs, e, v', hv', hrow'⟩, (grownBy_keeps_cells hg hr' h.res rfl).trans h.res, (grownBy_keeps_cells hg hr' h.fin rfl).trans h.fin, Nat.le_trans h.it hg.size, h.low.grown hg (Nat.le_trans hB h.low.size) (fun k e => (hr k e).1)⟩
theorem LineI.put {B0 : Nat} {w W : World} {pre : List (Wd 100000)} (h : LineI B0 w pre W) (u : Value) : LineI B0 w pre (putC (B0 + 3) W u) := by
  obtain ⟨vs, e, v, hv, hrow⟩ := h.vals
  exact ⟨⟨vs, e, v, (Below.heap_setCell W _ _ (B0 + 2) (by simp)).trans hv, ownsRow_setCell_below hrow (by simp) _⟩, (Below.heap_setCell W _ _ B0 (by simp)).trans h.res, (Below.heap_setCell W _ _ (B0 + 1) (by simp)).trans h.fin, by simpa using h.it, h.low.setCell (by simp) _⟩
/-- A round has left: some word is no number. -/
structure LineX (B0 : Nat) (w : World) (pre : List (Wd 100000)) (W : World) : Prop where
  bad : ∃ x ∈ pre, intW x.1 = none
  res : W.heap[B0]? = some (.cells #[.int .i64 0, .int .i64 0, .int .i64 0] 58 (0, 0))
  fin : Boxed W (B0 + 1) 4 (.bool false)
  low : Below B0 w W
theorem LineX.grow {B0 : Nat} {w W W' : World} {pre : List (Wd 100000)} {row : Option Nat} (h : LineX B0 w pre W) (hg : W.grownBy W' row) (hr : ∀ r, row = some r → B0 ≤ r ∧ ∃ o : Obj, W.heap[r]? = some o ∧ o.isCells = false) (hB : B0 ≤ w.heap.size) : LineX B0 w pre W' := by
  have hr' : ∀ r, row = some r → ∃ o : Obj, W.heap[r]? = some o ∧ o.isCells = false := fun r e => (hr r e).2
  exact ⟨h.bad, (grownBy_keeps_cells hg hr' h.res rfl).trans h.res, (grownBy_keeps_cells hg hr' h.fin rfl).trans h.fin, h.low.grown hg (Nat.le_trans hB h.low.size) (fun k e => (hr k e).1)⟩
theorem grown_of {W W' : World} (h : Below W.heap.size W W') : W.grownBy W' none := ⟨h.os, h.tape, h.output, h.size, fun k hk _ => h.block k hk⟩
theorem others_of {W W' : World} (h : Below W.heap.size W W') : KeepsOthers W W' := ⟨h.size, fun k o hk _ => (h.block k (Array.getElem?_eq_some_iff.1 hk).1).trans hk⟩
theorem keepL_of {W W' : World} {ks : List Nat} (h : Below W.heap.size W W') (hk : ∀ k ∈ ks, k < W.heap.size) : KeepL ks W W' := fun k hm => h.block k (hk k hm)
theorem row_below {B size k : Nat} {e : TypeId} {v : Value} {xs : List Value} {W W' : World} (h : W.ownsRow B e size v k xs) (hb : Below W.heap.size W W') : W'.ownsRow B e size v k xs := h.kept (grown_of hb) (by cases v.ownBlock <;> simp)
theorem row_low {B B' size k : Nat} {e : TypeId} {v : Value} {xs : List Value} {W : World} (h : W.ownsRow B e size v k xs) (hb : B' ≤ B) : W.ownsRow B' e size v k xs :=
  ⟨h.1, h.2.imp id fun ⟨g, cap, cur, a, b, c⟩ => ⟨g, cap, cur, a, Nat.le_trans hb b, c⟩⟩
theorem put_same {w : World} {B i : Nat} {cs : Array Value} {T : TypeId} {fr : Nat × Nat} {v : Value} (h : w.heap[B]? = some (.cells cs T fr)) (hv : cs[i]? = some v) : w.setCell ⟨B, i, none⟩ v = w := by
  have e : (w.setCell ⟨B, i, none⟩ v).heap = w.heap := by
    unfold World.setCell
    apply Array.ext_getElem?
    intro k
    simp only [Array.getElem?_modify]
    split
    · rename_i e
      subst e
      rw [h]
      show some (Obj.cells (cs.setIfInBounds i v) T fr) = _
      congr 2
      apply Array.ext_getElem?
      intro j
      rw [Array.getElem?_setIfInBounds]
      split
      · rename_i e
        subst e
        rw [if_pos (Array.getElem?_eq_some_iff.1 hv).1, hv]
      · rfl
    · rfl
  have e2 : w.setCell ⟨B, i, none⟩ v = { w with heap := (w.setCell ⟨B, i, none⟩ v).heap } := rfl
  rw [e2, e]
theorem put_cells {w : World} {B i : Nat} {cs : Array Value} {T : TypeId} {fr : Nat × Nat} {v : Value} (h : w.heap[B]? = some (.cells cs T fr)) : (w.setCell ⟨B, i, none⟩ v).heap[B]? = some (.cells (cs.setIfInBounds i v) T fr) := by
  unfold World.setCell
  simp only [Array.getElem?_modify, h]
  rfl
theorem line_end {B0 D : Nat} {w W : World} {a b c : Int} {T : TypeId} (hr : W.heap[B0]? = some (.cells #[.int .i64 0, .int .i64 0, .int .i64 0] T (0, 0))) (hf : Boxed W (B0 + 1) 4 (.bool false)) (hK : W.heap[D]? = some (.deferred (some []))) (hD : B0 + 2 ≤ D) (low : Below B0 w W) :
    let X := (((((W.setCell ⟨B0, 0, none⟩ (.int .i64 a)).setCell ⟨B0, 1, none⟩ (.int .i64 b)).setCell ⟨B0, 2, none⟩ (.int .i64 c)).setCell ⟨B0 + 1, 0, none⟩ (.bool true)).drew)
    X.heap[D]? = some (.deferred (some [])) ∧ (X.putObj D (.deferred none)).heap[B0]? = some (.cells #[.int .i64 a, .int .i64 b, .int .i64 c] T (0, 0)) ∧ (X.putObj D (.deferred none)).cell? ⟨B0 + 1, 0, none⟩ = some (.bool true) ∧ Below B0 w (X.putObj D (.deferred none)) := by
  intro X
  have k1 := put_cells (i := 2) (v := .int .i64 c) (put_cells (i := 1) (v := .int .i64 b) (put_cells (i := 0) (v := .int .i64 a) hr))
  have k2 : X.heap[B0]? = some (.cells #[.int .i64 a, .int .i64 b, .int .i64 c] T (0, 0)) := (Below.heap_setCell _ _ _ B0 (by simp)).trans k1
  have hK2 : X.heap[D]? = some (.deferred (some [])) := (KeepsOthers.setCell _ _ _).same _ _ ((KeepsOthers.setCell _ _ _).same _ _ ((KeepsOthers.setCell _ _ _).same _ _ ((KeepsOthers.setCell _ _ _).same _ _ hK rfl) rfl) rfl) rfl
  have f1 : Boxed (((W.setCell ⟨B0, 0, none⟩ (.int .i64 a)).setCell ⟨B0, 1, none⟩ (.int .i64 b)).setCell ⟨B0, 2, none⟩ (.int .i64 c)) (B0 + 1) 4 (.bool false) := (Below.heap_setCell _ _ _ (B0 + 1) (by simp)).trans ((Below.heap_setCell _ _ _ (B0 + 1) (by simp)).trans ((Below.heap_setCell _ _ _ (B0 + 1) (by simp)).trans hf))
  have f2 := f1.set (.bool true)
  have k3 : X.heap[B0 + 1]? = some (.cells #[.bool true] 4 (0, 0)) := f2
  have low2 : Below B0 w X := ((((low.setCell (p := ⟨B0, 0, none⟩) (Nat.le_refl _) _).setCell (p := ⟨B0, 1, none⟩) (Nat.le_refl _) _).setCell (p := ⟨B0, 2, none⟩) (Nat.le_refl _) _).setCell (p := ⟨B0 + 1, 0, none⟩) (Nat.le_succ _) _).drew
  generalize X = Y at k2 k3 hK2 low2 ⊢
  have k4 : (Y.putObj D (.deferred none)).heap[B0 + 1]? = some (.cells #[.bool true] 4 (0, 0)) := (World.putObj_heap_other (by omega)).trans k3
  have k5 : Boxed (Y.putObj D (.deferred none)) (B0 + 1) 4 (.bool true) := k4
  exact ⟨hK2, (World.putObj_heap_other (by omega)).trans k2, k5.cell, low2.os, low2.tape, low2.output, by simpa using low2.size, fun k hk => (World.putObj_heap_other (by omega)).trans (low2.block k hk)⟩
theorem LineI.below {B0 : Nat} {w W W' : World} {pre : List (Wd 100000)} (h : LineI B0 w pre W) (hb : Below W.heap.size W W') (hB : B0 ≤ w.heap.size) : LineI B0 w pre W' := h.grow (grown_of hb) (fun r e => by cases e) hB
theorem intW_cases (x : List UInt8) : (∃ v, Lib.atoiAll x = .ok v ∧ Lib.itoa v = x ∧ intW x = some v) ∨ (∃ v, Lib.atoiAll x = .ok v ∧ ¬ Lib.itoa v = x ∧ intW x = none) ∨ ((∀ v, Lib.atoiAll x ≠ .ok v) ∧ intW x = none) := by
  unfold intW
  cases h : Lib.atoiAll x with
  | ok v =>
    by_cases g : Lib.itoa v = x
    · exact .inl ⟨v, rfl, g, by simp [g]⟩
    · exact .inr (.inl ⟨v, rfl, g, by simp [g]⟩)
  | _ => exact .inr (.inr ⟨(fun v e => by cases e), rfl⟩)
theorem infoI : (Tryd.prog.info? 3).map (fun i => (i.zero, i.size, i.bytes)) = some (some (.int .i64 0), 1, 8) := by kernel_rfl
theorem results_line {tmps : Array Value} {B0 : Nat} {W : World} {a b c : Int} {k : Bool} {T : TypeId} {fr : Nat × Nat} (h2 : tmps.getD 2 undef = .pointer (some ⟨B0, 0, none⟩)) (h3 : tmps.getD 3 undef = .pointer (some ⟨B0 + 1, 0, none⟩)) (hr : W.heap[B0]? = some (.cells #[.int .i64 a, .int .i64 b, .int .i64 c] T fr)) (hf : W.cell? ⟨B0 + 1, 0, none⟩ = some (.bool k)) :
    (results Tryd.f54 tmps).run Tryd.prog W = .ok (lineV ((a, b, c), k)) W := by
  have hres : Tryd.f54.results = #[.cell 2 58, .cell 3 4] := rfl
  have e1 : (loadVar 58 ⟨B0, 0, none⟩).run Tryd.prog W = .ok (.agg #[.int .i64 a, .int .i64 b, .int .i64 c]) W := run_loadVar_row W B0 _ _ _ _ _ hr Tryd.underlying58 rfl (by kernel_rfl)
  have e2 : (loadVar 4 ⟨B0 + 1, 0, none⟩).run Tryd.prog W = .ok (.bool k) W := by
    simp [loadVar, run_isAgg_false (P := Tryd.prog) (t := 4) (by kernel_rfl), hf]
  have h2' : tmps[2]?.getD undef = .pointer (some ⟨B0, 0, none⟩) := by simpa using h2
  have h3' : tmps[3]?.getD undef = .pointer (some ⟨B0 + 1, 0, none⟩) := by simpa using h3
  simp [results, hres, h2', h3', asAddr, e1, e2, Sem.run_bind, Result.andThen]
theorem lineP_bad {s : List UInt8} {y : List UInt8} (hy : y ∈ Lib.split s [32]) (h : intW y = none) : lineP s = ((0, 0, 0), false) := by
  unfold lineP
  split
  · rename_i a b c e
    have := List.mem_map_of_mem (f := intW) hy
    rw [e, h] at this
    simp at this
  · rfl
theorem lineP_ok {s : List UInt8} {a b c : Int} (h : (Lib.split s [32]).map intW = [a, b, c].map some) : lineP s = ((a, b, c), true) := by
  unfold lineP
  rw [h]; rfl
theorem lineP_no {s : List UInt8} {vs : List Int} (h : (Lib.split s [32]).map intW = vs.map some) (hl : vs.length ≠ 3) : lineP s = ((0, 0, 0), false) := by
  unfold lineP
  rw [h]
  match vs, hl with
  | [], _ => rfl
  | [_], _ => rfl
  | [_, _], _ => rfl
  | [_, _, _], hl => exact absurd rfl hl
  | _ :: _ :: _ :: _ :: _, _ => rfl
set_option maxRecDepth 100000 in
set_option maxHeartbeats 2000000 in
theorem cline_c (s : List UInt8) (hs : s.length ≤ 100000) : ContIn Tryd.prog Laid 54 [strV s] (lineV (lineP s)) := fun w hI => by
  refine (callsIn_wide (n := 6)).1 ?_
  refine callsIn_of_wp_marks Tryd.func54 rfl trivial ?_ rfl
  simp only [Tryd.ntmps54, List.size_toArray, List.length_cons, List.length_nil, Nat.reduceAdd, Nat.reduceSub, Array.replicate_succ, Array.replicate_zero, List.push_toArray, List.append_toArray, List.nil_append, List.cons_append]
  gi_wp2_with (refine ⟨trivial, ?_⟩; gi_at_call 90; refine (callsIn_wide.2 (splitSeq_c s _)).mono ?_; rintro e w' ⟨rfl, rfl⟩)
  have hB : w.heap.size ≤ w.heap.size := Nat.le_refl _
  obtain ⟨i0, hi, hz0, hz1', hz2'⟩ := info_parts infoI
  obtain ⟨WS, hWS⟩ : ∃ WS, w3 (((w.alloc (.cells #[.int .i64 0, .int .i64 0, .int .i64 0] 58)).alloc (.cells #[.bool false] 4)).alloc (.cells #[.slice none 0 0] 25)) s = WS := ⟨_, rfl⟩
  have hsz : WS.heap.size = w.heap.size + 6 := by rw [← hWS]; simp
  rw [hWS]
  have hb0 := (((Below.refl w.heap.size w).alloc (Nat.le_refl _) (.cells #[.int .i64 0, .int .i64 0, .int .i64 0] 58)).alloc (by simp) (.cells #[.bool false] 4)).alloc (by simp; omega) (.cells #[.slice none 0 0] 25)
  have x1 : (((w.alloc (.cells #[.int .i64 0, .int .i64 0, .int .i64 0] 58)).alloc (.cells #[.bool false] 4)).alloc (.cells #[.slice none 0 0] 25)).heap[w.heap.size]? = some (.cells #[.int .i64 0, .int .i64 0, .int .i64 0] 58 (0, 0)) := (Below.heap_alloc _ _ _ (by simp; omega)).trans ((Below.heap_alloc _ _ _ (by simp)).trans (World.alloc_heap_new w _))
  have x2 := (Boxed.new (w.alloc (.cells #[.int .i64 0, .int .i64 0, .int .i64 0] 58)) 4 (.bool false)).alloc (.cells #[.slice none 0 0] 25)
  have x3 := Boxed.new ((w.alloc (.cells #[.int .i64 0, .int .i64 0, .int .i64 0] 58)).alloc (.cells #[.bool false] 4)) 25 (.slice none 0 0)
  rw [World.size_alloc] at x2
  rw [World.size_alloc, World.size_alloc] at x3
  have xs3 : (((w.alloc (.cells #[.int .i64 0, .int .i64 0, .int .i64 0] 58)).alloc (.cells #[.bool false] 4)).alloc (.cells #[.slice none 0 0] 25)).heap.size = w.heap.size + 3 := by simp
  obtain ⟨y1, y2, y3, y4, y5, y6⟩ := w3_cells (((w.alloc (.cells #[.int .i64 0, .int .i64 0, .int .i64 0] 58)).alloc (.cells #[.bool false] 4)).alloc (.cells #[.slice none 0 0] 25)) s
  rw [hWS] at y1 y2 y3 y4 y5 y6
  rw [xs3] at y1 y2 y3 y4 y5 y6
  refine range_cell (α := Wd 100000) rfl (by omega) (gf := 132) (lb := #[.pointer (some ⟨w.heap.size + 4, 0, none⟩), .pointer (some ⟨w.heap.size + 3, 0, none⟩), .pointer (some ⟨w.heap.size + 5, 0, none⟩)]) rfl trivial (enters_of Tryd.func132 (by kernel_rfl) rfl) (ks := [w.heap.size + 4, w.heap.size + 3, w.heap.size + 5]) (cs := w.heap.size + 3) (by rw [hsz]; simp)
    (split_seq _ (by omega) (w.heap.size + 4) (w.heap.size + 3) (w.heap.size + 5) 100000 ⟨by omega, by omega⟩ s hs (by omega) WS (by omega) ?c1 ?c2 ?c3 ?cf) (fun _ => rfl)
    (LineI w.heap.size w) (LineX w.heap.size w) ?oI ?oC ?oX ?h0
    (fun x => { tmps := #[strV s, undef, .pointer (some ⟨w.heap.size, 0, none⟩), .pointer (some ⟨w.heap.size + 1, 0, none⟩), .pointer (some ⟨w.heap.size + 1 + 1, 0, none⟩), strV x.1, undef, undef, strV s, .func (.func 132) #[] #[.pointer (some ⟨w.heap.size + 1 + 1 + 1 + 1, 0, none⟩), .pointer (some ⟨w.heap.size + 1 + 1 + 1, 0, none⟩), .pointer (some ⟨w.heap.size + 1 + 1 + 1 + 2, 0, none⟩)], strV x.1, undef, undef, undef, undef, undef, undef, undef, undef, undef, undef, undef, undef, undef, undef, undef, undef, undef, undef, undef, undef, undef, undef, undef, undef, undef, undef, undef, undef, undef, undef, undef, undef], defers := [] }) ?assign ?body ?done ?stop
  case c1 => exact y4
  case c2 => exact y2
  case c3 => exact y5
  case cf => exact y3
  case oI => exact fun s A B row h hg hr => h.grow hg (fun r e => ⟨by have := (hr r e).1; omega, (hr r e).2⟩) hB
  case oC => exact fun s A v h => h.put v
  case oX => exact fun s A B row h hg hr => h.grow hg (fun r e => ⟨by have := (hr r e).1; omega, (hr r e).2⟩) hB
  case h0 => exact ⟨⟨[], rfl, _, (y6.block _ (by omega)).trans x3, World.ownsRow_nil _ _ _ _⟩, (y6.block _ (by omega)).trans x1, (y6.block _ (by omega)).trans x2, by omega, hb0.trans (y6.mono (by omega))⟩
  case assign =>
    intro l x W K hK
    gi_wp2
    exact hK
  case body =>
    rintro l pre x W hM h
    obtain ⟨vs, hvs, v, hv, hrow⟩ := h.vals
    have hIW : Laid W := hI.keep h.low
    have hcn := split_cntB s [32]
    have hvl : vs.length ≤ 100001 := by
      have := congrArg List.length hvs
      simp only [List.length_map] at this
      omega
    have hxl := x.2
    have hit := h.it
    rcases intW_cases x.1 with ⟨n, e1, e2, e3⟩ | ⟨n, e1, e2, e3⟩ | ⟨e1, e3⟩
    · have qa := fun W' => atoi_ok_c (l := x.1) (by omega) e1 W'
      have qi := fun W' hW' => itoa_c (atoi_bd e1) W' hW'
      rw [e2] at qi
      gi_wp2_with (first
        | (refine ⟨trivial, ?_⟩; gi_at_call 91; refine (CallsIn.inRound l (callsIn_wide.2 (qa _))).mono ?_; rintro e w' ⟨rfl, hb1⟩)
        | (refine ⟨trivial, ?_⟩; gi_at_call 57; refine (CallsIn.inRound l (callsIn_wide.2 (qi _ (hIW.keep hb1)))).mono ?_; rintro e w2 ⟨rfl, hb2⟩; have hz1 := hb1.size; have hz2 := hb2.size; have hv2 : Boxed w2 (w.heap.size + 2) 25 v := (hb2.block _ (by have := hv.lt; omega)).trans ((hb1.block _ hv.lt).trans hv); have hrow2 := row_below (row_below hrow hb1) hb2; have cv2 : w2.cell? ⟨w.heap.size + 1 + 1, 0, none⟩ = some v := hv2.cell)
        | (gi_at_builtin; refine wpListIn_append_own _ rfl _ _ 25 rfl (w.heap.size + 6) 3 i0 (.int .i64 0) 1 8 Tryd.underlying25 hi hz0 hz1' hz2' rfl (by decide) _ _ _ rfl (hrow2.alloc _) ⟨w2.heap.size, 0, none⟩ 1 1 [.int .i64 n] rfl rfl (cell_one_new _ _ _) (by simp [Value.oneCell']) (by have : maxLen = 9223372036854775807 := rfl; omega) (by omega) (by simp; omega) ?_; intro v' w4 hown' hgrow _; obtain ⟨g', cap', rfl⟩ := ownsRow_succ hown'; obtain ⟨hv1, hv3, hr3, hk3, hb3⟩ := hv2.appended (n₀ := w.heap.size) (e := 3) (by decide) (row_low hrow2 (by omega)) (by omega) (by omega) (row_low hown' (by omega)) hgrow; have hc1 : w4.cell? ⟨w.heap.size + 1 + 1, 0, none⟩ = some v := hv1.cell; have hf1 : w4.frozen? ⟨w.heap.size + 1 + 1, 0, none⟩ = false := hv1.frozen))
      have keep : ∀ k, k < w.heap.size + 6 → k ≠ w.heap.size + 2 → (w4.setCell ⟨w.heap.size + 1 + 1, 0, none⟩ (Value.slice (some ⟨g', 0, none⟩) (vs.length + 1) cap')).heap[k]? = W.heap[k]? := fun k k1 k2 => by
        refine (Below.heap_setCell w4 _ _ k k2).trans ((hgrow.block k (by simp; omega) (fun e => ?_)).trans ((Below.heap_alloc w2 _ k (by omega)).trans ((hb2.block k (by omega)).trans (hb1.block k (by omega)))))
        have := (hrow2.lt k e.symm).1
        omega
      refine ⟨(others_of hb1).trans ((others_of hb2).trans hk3), fun k hk => keep k ?_ ?_, ⟨⟨vs ++ [n], by simp [hvs, e3], _, hv3, ?_⟩, (keep _ (by omega) (by omega)).trans h.res, (keep _ (by omega) (by omega)).trans h.fin, ?_, ((h.low.trans (hb1.mono (by omega))).trans (hb2.mono (by omega))).trans hb3⟩⟩
      · simp at hk; omega
      · simp at hk; omega
      · have := ownsRow_setCell_below hown' (a := ⟨w.heap.size + 1 + 1, 0, none⟩) (by simp) (Value.slice (some ⟨g', 0, none⟩) (vs.length + 1) cap')
        simpa using this
      · have := hgrow.size
        simp at this ⊢
        omega
    · have qa := fun W' => atoi_ok_c (l := x.1) (by omega) e1 W'
      have qi := fun W' hW' => itoa_c (atoi_bd e1) W' hW'
      generalize Lib.itoa n = y at qi e2
      have e5 : (y == x.1) = false := by simpa using e2
      have hr0 := h.res
      have hf0 := h.fin
      gi_wp2_with (first
        | (refine ⟨trivial, ?_⟩; gi_at_call 91; refine (CallsIn.inRound l (callsIn_wide.2 (qa _))).mono ?_; rintro e w' ⟨rfl, hb1⟩)
        | (refine ⟨trivial, ?_⟩; gi_at_call 57; refine (CallsIn.inRound l (callsIn_wide.2 (qi _ (hIW.keep hb1)))).mono ?_; rintro e w2 ⟨rfl, hb2⟩; have hz1 := hb1.size; have hz2 := hb2.size; have hr2 := (hb2.block w.heap.size (by omega)).trans ((hb1.block w.heap.size (by omega)).trans hr0); have hf2 : Boxed w2 (w.heap.size + 1) 4 (.bool false) := (hb2.block _ (by omega)).trans ((hb1.block _ (by omega)).trans hf0); have cf2 := hf2.cell; have ff2 := hf2.frozen; have s0 : w2.setCell ⟨w.heap.size, 0, none⟩ (.int .i64 0) = w2 := put_same hr2 rfl; have s1 : w2.setCell ⟨w.heap.size, 1, none⟩ (.int .i64 0) = w2 := put_same hr2 rfl; have s2 : w2.setCell ⟨w.heap.size, 2, none⟩ (.int .i64 0) = w2 := put_same hr2 rfl; have s3 : w2.setCell ⟨w.heap.size + 1, 0, none⟩ (.bool false) = w2 := put_same hf2 rfl; have c0 : w2.cell? ⟨w.heap.size, 0, none⟩ = some (.int .i64 0) := (by simp [World.cell?, hr2]); have c1 : w2.cell? ⟨w.heap.size, 1, none⟩ = some (.int .i64 0) := (by simp [World.cell?, hr2]); have c2 : w2.cell? ⟨w.heap.size, 2, none⟩ = some (.int .i64 0) := (by simp [World.cell?, hr2]); have f0 : w2.frozen? ⟨w.heap.size, 0, none⟩ = false := (by simp [World.frozen?, hr2]); have f1 : w2.frozen? ⟨w.heap.size, 1, none⟩ = false := (by simp [World.frozen?, hr2]); have f2 : w2.frozen? ⟨w.heap.size, 2, none⟩ = false := (by simp [World.frozen?, hr2])))
      exact ⟨(others_of hb1).trans (others_of hb2), ⟨x, by simp, e3⟩, hr2, hf2, (h.low.trans (hb1.mono (by omega))).trans (hb2.mono (by omega))⟩
    · have qc := fun W' (hW' : Laid W') => atoi_no_c (l := x.1) (by omega) e1 W' hW'
      have hr0 := h.res
      have hf0 := h.fin
      gi_wp2_with (first | (refine ⟨trivial, ?_⟩; gi_at_call 91; refine (CallsIn.inRound l (callsIn_wide.2 (qc _ hIW))).mono ?_; rintro e w' ⟨z, _, rfl, hb1, _⟩; have hz1 := hb1.size; have hr2 := (hb1.block w.heap.size (by omega)).trans hr0; have hf2 : Boxed w' (w.heap.size + 1) 4 (.bool false) := (hb1.block _ (by omega)).trans hf0; have cf2 := hf2.cell; have ff2 := hf2.frozen; have s0 : w'.setCell ⟨w.heap.size, 0, none⟩ (.int .i64 0) = w' := put_same hr2 rfl; have s1 : w'.setCell ⟨w.heap.size, 1, none⟩ (.int .i64 0) = w' := put_same hr2 rfl; have s2 : w'.setCell ⟨w.heap.size, 2, none⟩ (.int .i64 0) = w' := put_same hr2 rfl; have s3 : w'.setCell ⟨w.heap.size + 1, 0, none⟩ (.bool false) = w' := put_same hf2 rfl; have c0 : w'.cell? ⟨w.heap.size, 0, none⟩ = some (.int .i64 0) := (by simp [World.cell?, hr2]); have c1 : w'.cell? ⟨w.heap.size, 1, none⟩ = some (.int .i64 0) := (by simp [World.cell?, hr2]); have c2 : w'.cell? ⟨w.heap.size, 2, none⟩ = some (.int .i64 0) := (by simp [World.cell?, hr2]); have f0 : w'.frozen? ⟨w.heap.size, 0, none⟩ = false := (by simp [World.frozen?, hr2]); have f1 : w'.frozen? ⟨w.heap.size, 1, none⟩ = false := (by simp [World.frozen?, hr2]); have f2 : w'.frozen? ⟨w.heap.size, 2, none⟩ = false := (by simp [World.frozen?, hr2])) | (refine ⟨trivial, ?_⟩))
      exact ⟨others_of hb1, ⟨x, by simp, e3⟩, hr2, hf2, h.low.trans (hb1.mono (by omega))⟩
  case done =>
    rintro D xs W hD hS h hK
    obtain ⟨vs, hvs, v, hv, hrow⟩ := h.vals
    have hmap : (Lib.split s [32]).map intW = vs.map some := by
      rw [← hS, ← hvs, List.map_map]; rfl
    have hr2 := h.res
    have hf2 := h.fin
    have cv : W.cell? ⟨w.heap.size + 1 + 1, 0, none⟩ = some v := hv.cell
    have cf2 := hf2.cell
    have ff2 := hf2.frozen
    have f0 : W.frozen? ⟨w.heap.size, 0, none⟩ = false := by simp [World.frozen?, hr2]
    have f1 : W.frozen? ⟨w.heap.size, 1, none⟩ = false := by simp [World.frozen?, hr2]
    have f2 : W.frozen? ⟨w.heap.size, 2, none⟩ = false := by simp [World.frozen?, hr2]
    have c0 : W.cell? ⟨w.heap.size, 0, none⟩ = some (.int .i64 0) := by simp [World.cell?, hr2]
    have c1 : W.cell? ⟨w.heap.size, 1, none⟩ = some (.int .i64 0) := by simp [World.cell?, hr2]
    have c2 : W.cell? ⟨w.heap.size, 2, none⟩ = some (.int .i64 0) := by simp [World.cell?, hr2]
    have h2 := h.grow (grownBy_putObj' W D (.deferred none)) (fun r e => by cases e; exact ⟨by omega, _, hK, rfl⟩) hB
    by_cases hl : vs.length = 3
    · obtain ⟨a, b, c, rfl⟩ : ∃ a b c, vs = [a, b, c] := by
        match vs, hl with
        | [a, b, c], _ => exact ⟨a, b, c, rfl⟩
      have e := lineP_ok hmap
      obtain ⟨g, cap, rfl⟩ : ∃ g cap, v = .slice (some ⟨g, 0, none⟩) 3 cap := by
        rcases hrow.2 with ⟨rfl, h0⟩ | ⟨g, cap, cur, rfl, _⟩
        · cases h0
        · exact ⟨g, cap, rfl⟩
      have g0 : W.cell? ⟨g, 0, none⟩ = some (.int .i64 a) := hrow.cellAt 0 (by simp)
      have g1 : W.cell? ⟨g, 1, none⟩ = some (.int .i64 b) := hrow.cellAt 1 (by simp)
      have g2 : W.cell? ⟨g, 2, none⟩ = some (.int .i64 c) := hrow.cellAt 2 (by simp)
      clear hmap hvs hrow hv
      have hmx : Tryd.prog.follows .mixedOrders = true := by kernel_rfl
      have hend := line_end (a := a) (b := b) (c := c) hr2 hf2 hK (by omega) h.low
      dsimp only at hend
      obtain ⟨hK2, n1, n2, n3⟩ := hend
      gi_wp2
      gi_region
      all_goals gi_wp2
      all_goals (try go_bits)
      refine ⟨by simp, .inl ⟨_, _, rfl, run_takeDeferred hK2, ?_⟩⟩
      exact ⟨_, results_line rfl rfl n1 n2, by rw [e], n3⟩
    · have e := lineP_no hmap hl
      have hform : ∃ A c, v = .slice A vs.length c := by
        rcases hrow.2 with ⟨rfl, h0⟩ | ⟨g, cap, cur, rfl, _⟩
        · exact ⟨none, 0, by rw [h0]⟩
        · exact ⟨_, cap, rfl⟩
      obtain ⟨A, cc, rfl⟩ := hform
      have hl3 : ¬ ((vs.length : Int) = 3) := by omega
      have s0 : W.setCell ⟨w.heap.size, 0, none⟩ (.int .i64 0) = W := put_same hr2 rfl
      have s1 : W.setCell ⟨w.heap.size, 1, none⟩ (.int .i64 0) = W := put_same hr2 rfl
      have s2 : W.setCell ⟨w.heap.size, 2, none⟩ (.int .i64 0) = W := put_same hr2 rfl
      have s3 : W.setCell ⟨w.heap.size + 1, 0, none⟩ (.bool false) = W := put_same hf2 rfl
      clear hmap hvs hrow hv hl
      gi_wp2
      refine ⟨by simp, .inl ⟨_, _, rfl, run_takeDeferred hK, ?_⟩⟩
      exact ⟨_, results_line rfl rfl h2.res h2.fin.cell, by rw [e], h2.low⟩
  case stop =>
    rintro D pre W hD hS h hK
    gi_wp2
    have h2 := h.grow (grownBy_putObj' W D (.deferred none)) (fun r e => by cases e; exact ⟨by omega, _, hK, rfl⟩) hB
    obtain ⟨x, hx, hn⟩ := h.bad
    have e := lineP_bad (hS.subset (List.mem_map_of_mem (f := fun x : Wd 100000 => x.1) hx)) hn
    refine ⟨by simp, .inl ⟨_, _, rfl, run_takeDeferred hK, ?_⟩⟩
    exact ⟨_, results_line rfl rfl h2.res h2.fin.cell, by rw [e], h2.low⟩
end Go.Proofs.YtaglecidaedjfaaDoor
