/- The table of powers of ten alone: what chapter 3 leans on where nothing is read from a text. -/
import Derived.Test.YtnanempkkeokbaaDoorLib
set_option linter.unusedVariables false
set_option maxHeartbeats 4000000
namespace Go.Proofs.YtnanempkkeokbaaDoor
open Go.RowKit

structure LaidT (w : World) : Prop where
  tab : Lib.TabIs Tryd.prog w "internal/strconv.uint64pow10" .u64 Lib.pow10Tab
theorem LaidT.keep {w w' : World} (h : LaidT w) (hb : Below w.heap.size w w') : LaidT w' where
  tab := var_keep h.tab hb
theorem laidT_of {w : World} {l : List (String × DataW Unit)} (h : laidMetH Tryd.prog l w) (hp : (l.all fun x => x.2.handleName?.isNone) = true)
    (m1 : ("internal/strconv.uint64pow10", Lib.tabData .u64 Lib.pow10Tab) ∈ l) : LaidT w := by
  rw [MakeChecks.laidMetH_plain _ _ _ hp] at h
  obtain ⟨ps, h, _⟩ := h
  refine ⟨?_⟩
  obtain ⟨g', t', cs, fuel, p, h1, h2, h3, h4⟩ := laid_get h m1
  obtain rfl := Option.some.inj (gPow.symm.trans h1)
  unfold Lib.TabIs
  rw [h3, ← Lib.cells_of_tab (P := Tryd.prog) (t := t') (e := 57) (n := 20) (by obtain rfl := Option.some.inj ((show (Tryd.prog.globals[3]?).map (·.type) = some 135 by kernel_rfl).symm.trans h2); kernel_rfl) (by kernel_rfl) (by kernel_rfl) (by obtain rfl := Option.some.inj ((show (Tryd.prog.globals[3]?).map (·.type) = some 135 by kernel_rfl).symm.trans h2); kernel_rfl) h4]
theorem itoaT_c {n : Int} (h : -9223372036854775808 ≤ n ∧ n ≤ 9223372036854775807) : ContIn Tryd.prog LaidT 58 [.int .i64 n] (strV (Lib.itoa n)) := fun w hI =>
  (Tryd.strconv_Itoa n h.1 h.2 w hI.tab).mono fun e w' ⟨he, k, os, hw⟩ => ⟨he, by subst hw; exact below_grown w k os⟩
end Go.Proofs.YtnanempkkeokbaaDoor
