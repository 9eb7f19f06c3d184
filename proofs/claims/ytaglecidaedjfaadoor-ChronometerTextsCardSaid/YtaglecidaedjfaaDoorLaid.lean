/- What the library's variables hold, as the rows list it; that it stays. -/
import Derived.Test.YtaglecidaedjfaaDoorStr
import Derived.LaidMore
import Derived.LaidHandle
import Derived.LaidSub
import Derived.Lib.LaidTab
import Derived.Lib.ItoaNum
import Derived.Shelf.Vars
import Derived.MakeChecks
set_option linter.unusedVariables false
set_option maxHeartbeats 4000000
namespace Go.Proofs.YtaglecidaedjfaaDoor
open Go.RowKit

theorem var_keep {P : Program} {w w' : World} {nm : String} {cs : Array Value} (h : w.var? P nm = some cs) (hb : Below w.heap.size w w') : w'.var? P nm = some cs := by
  unfold World.var? at h ⊢
  cases hg : P.globalNamed nm with
  | none => simp [hg] at h
  | some g =>
    simp only [hg, Option.bind_some] at h ⊢
    have hlt : g < w.heap.size := by
      rcases Nat.lt_or_ge g w.heap.size with h' | h'
      · exact h'
      · simp [Array.getElem?_eq_none h'] at h
    rw [hb.block g hlt]
    exact h
theorem laid_get {P : Program} {w : World} {nm : String} {d : DataW Unit} : ∀ {l : List (String × DataW Unit)} {ps : List MemPlace}, DataW.LaidVars P w l ps → (nm, d) ∈ l →
    ∃ g t cs fuel p, P.globalNamed nm = some g ∧ (P.globals[g]?).map (·.type) = some t ∧ w.var? P nm = some cs ∧ DataW.trod (fun _ => ()) P w 0 (fun _ => true) false fuel t cs.toList = some (d, p)
  | [], _, _, hm => by cases hm
  | (n', d') :: r, ps, h, hm => by
    obtain ⟨g, t, cs, fuel, p, q, h1, h2, h3, h4, h5, _⟩ := h
    rcases List.mem_cons.1 hm with e | hm
    · cases e
      exact ⟨g, t, cs, fuel, p, h1, h2, h3, h4⟩
    · exact laid_get h5 hm
/-- What the walks lean on. -/
structure Laid (w : World) : Prop where
  tab : Lib.TabIs Tryd.prog w "internal/strconv.uint64pow10" .u64 Lib.pow10Tab
  syn : ∃ tp p, w.var? Tryd.prog "strconv.ErrSyntax" = some #[.iface tp p]
  rng : ∃ tp p, w.var? Tryd.prog "strconv.ErrRange" = some #[.iface tp p]
  max : ∃ m, w.cell? ⟨0, 0, none⟩ = some (.int .i64 m)
theorem Laid.keep {w w' : World} (h : Laid w) (hb : Below w.heap.size w w') : Laid w' where
  tab := var_keep h.tab hb
  syn := by obtain ⟨tp, p, e⟩ := h.syn; exact ⟨tp, p, var_keep e hb⟩
  rng := by obtain ⟨tp, p, e⟩ := h.rng; exact ⟨tp, p, var_keep e hb⟩
  max := by obtain ⟨m, e⟩ := h.max; exact ⟨m, (hb.cell (World.block_lt_of_cell? w _ e)).trans e⟩
theorem gPow : Tryd.prog.globalNamed "internal/strconv.uint64pow10" = some 5 := by kernel_rfl
theorem iface_var {w : World} {nm : String} {g ti : Nat} {ms : Array (String × TypeId)} {x : DataW Unit} {l : List (String × DataW Unit)} {ps : List MemPlace} (h : DataW.LaidVars Tryd.prog w l ps) (hm : (nm, DataW.iface "*errors.errorString" x) ∈ l) (hg : Tryd.prog.globalNamed nm = some g) (ht : (Tryd.prog.globals[g]?).map (·.type) = some ti) (hi : Tryd.prog.underlying ti = some (.interface ms)) :
    ∃ tp p, w.var? Tryd.prog nm = some #[.iface tp p] := by
  obtain ⟨g', t', cs, fuel, p, h1, h2, h3, h4⟩ := laid_get h hm
  obtain rfl := Option.some.inj (hg.symm.trans h1)
  obtain rfl := Option.some.inj (ht.symm.trans h2)
  obtain ⟨fuel', u, v, e, _⟩ := iface_of_trod hi h4
  have e2 : cs = #[.iface u v] := Array.toList_inj.1 e
  exact ⟨u, v, e2 ▸ h3⟩
theorem laid_of {w : World} {l : List (String × DataW Unit)} (h : laidMetH Tryd.prog l w) (hp : (l.all fun x => x.2.handleName?.isNone) = true) (hs : w.ShapedOpen Tryd.prog)
    (m1 : ("internal/strconv.uint64pow10", Lib.tabData .u64 Lib.pow10Tab) ∈ l) (m2 : ∃ x, ("strconv.ErrSyntax", DataW.iface "*errors.errorString" x) ∈ l) (m3 : ∃ x, ("strconv.ErrRange", DataW.iface "*errors.errorString" x) ∈ l) : Laid w := by
  rw [MakeChecks.laidMetH_plain _ _ _ hp] at h
  obtain ⟨ps, h, _⟩ := h
  obtain ⟨x2, m2⟩ := m2
  obtain ⟨x3, m3⟩ := m3
  refine ⟨?_, iface_var h m2 (g := 3) (ti := 80) (by kernel_rfl) (by kernel_rfl) Tryd.underlying80, iface_var h m3 (g := 4) (ti := 80) (by kernel_rfl) (by kernel_rfl) Tryd.underlying80, cell_of_shapedOpen_int (t := 3) (zero := #[.int .i64 0]) hs (of_decide_eq_true (by kernel_rfl)) (by kernel_rfl) (by kernel_rfl) (by kernel_rfl) (by kernel_rfl) (by kernel_rfl)⟩
  obtain ⟨g', t', cs, fuel, p, h1, h2, h3, h4⟩ := laid_get h m1
  obtain rfl := Option.some.inj (gPow.symm.trans h1)
  unfold Lib.TabIs
  rw [h3, ← Lib.cells_of_tab (P := Tryd.prog) (t := t') (e := 141) (n := 20) (by obtain rfl := Option.some.inj ((show (Tryd.prog.globals[5]?).map (·.type) = some 184 by kernel_rfl).symm.trans h2); kernel_rfl) (by kernel_rfl) (by kernel_rfl) (by obtain rfl := Option.some.inj ((show (Tryd.prog.globals[5]?).map (·.type) = some 184 by kernel_rfl).symm.trans h2); kernel_rfl) h4]
end Go.Proofs.YtaglecidaedjfaaDoor
