/- What rows without error variables list: the table of powers, and the bound of bytealg. -/
import Derived.Test.YtaglecidaedjfaaDoorLib2
set_option linter.unusedVariables false
set_option maxHeartbeats 4000000
namespace Go.Proofs.YtaglecidaedjfaaDoor
open Go.RowKit

structure LaidC (w : World) : Prop where
  tab : Lib.TabIs Tryd.prog w "internal/strconv.uint64pow10" .u64 Lib.pow10Tab
  max : ∃ m, w.cell? ⟨0, 0, none⟩ = some (.int .i64 m)
theorem LaidC.keep {w w' : World} (h : LaidC w) (hb : Below w.heap.size w w') : LaidC w' where
  tab := var_keep h.tab hb
  max := by obtain ⟨m, e⟩ := h.max; exact ⟨m, (hb.cell (World.block_lt_of_cell? w _ e)).trans e⟩
theorem laidC_of {w : World} {l : List (String × DataW Unit)} (h : laidMetH Tryd.prog l w) (hp : (l.all fun x => x.2.handleName?.isNone) = true) (hs : w.ShapedOpen Tryd.prog)
    (m1 : ("internal/strconv.uint64pow10", Lib.tabData .u64 Lib.pow10Tab) ∈ l) : LaidC w := by
  rw [MakeChecks.laidMetH_plain _ _ _ hp] at h
  obtain ⟨ps, h, _⟩ := h
  refine ⟨?_, cell_of_shapedOpen_int (t := 3) (zero := #[.int .i64 0]) hs (of_decide_eq_true (by kernel_rfl)) (by kernel_rfl) (by kernel_rfl) (by kernel_rfl) (by kernel_rfl) (by kernel_rfl)⟩
  obtain ⟨g', t', cs, fuel, p, h1, h2, h3, h4⟩ := laid_get h m1
  obtain rfl := Option.some.inj (gPow.symm.trans h1)
  unfold Lib.TabIs
  rw [h3, ← Lib.cells_of_tab (P := Tryd.prog) (t := t') (e := 141) (n := 20) (by obtain rfl := Option.some.inj ((show (Tryd.prog.globals[5]?).map (·.type) = some 184 by kernel_rfl).symm.trans h2); kernel_rfl) (by kernel_rfl) (by kernel_rfl) (by obtain rfl := Option.some.inj ((show (Tryd.prog.globals[5]?).map (·.type) = some 184 by kernel_rfl).symm.trans h2); kernel_rfl) h4]
theorem itoaC_c {n : Int} (h : -9223372036854775808 ≤ n ∧ n ≤ 9223372036854775807) : ContIn Tryd.prog LaidC 57 [.int .i64 n] (strV (Lib.itoa n)) := fun w hI =>
  (Tryd.strconv_Itoa n h.1 h.2 w hI.tab).mono fun e w' ⟨he, k, os, hw⟩ => ⟨he, by subst hw; exact below_grown w k os⟩
theorem cutC_c (l sep : List UInt8) (hl : l.length < 4294967281) : ContIn Tryd.prog LaidC 48 [strV l, strV sep] (.tuple [strV (Lib.cut l sep).1, strV (Lib.cut l sep).2.1, .bool (Lib.cut l sep).2.2].toArray) := fun w hI => by
  obtain ⟨m, hm⟩ := hI.max
  refine (Tryd.strings_Cut ⟨l.toArray⟩ ⟨sep.toArray⟩ m w (by rw [size_str]; exact hl) hm).mono fun e w' ⟨he, k, hw⟩ => ⟨?_, by subst hw; exact below_drawn w k⟩
  rw [he]
theorem splitC_c (l sep : List UInt8) (hl : l.length < 4294967281) (h1 : 1 ≤ sep.length) : ContXI Tryd.prog LaidC 76 [strV l, strV sep] (fun _ : Sl => True) (fun z => z.v) (fun z => [Hl.nw z.v cS 1 (Lib.split l sep)]) := fun w hI => by
  obtain ⟨m, hm⟩ := hI.max
  refine (Tryd.strings_Split ⟨l.toArray⟩ ⟨sep.toArray⟩ m w (by rw [size_str]; exact hl) hm (by rw [size_str]; exact h1)).mono fun e w' ⟨he, hw⟩ => ?_
  subst hw
  obtain ⟨k, hk⟩ : ∃ k, Lib.countB ⟨l.toArray⟩ ⟨sep.toArray⟩ = k := ⟨_, rfl⟩
  have hd := Lib.splitB_data ⟨sep.toArray⟩ 0 k ⟨l.toArray⟩
  have hs : Lib.split l sep = (Lib.splitB ⟨sep.toArray⟩ 0 k ⟨l.toArray⟩).map (·.data.toList) := by rw [hd, ← hk]; rfl
  have hlen : (Lib.splitB ⟨sep.toArray⟩ 0 k ⟨l.toArray⟩).length = k + 1 := Lib.splitB_all _ (by rw [size_str]; exact h1) 0 k _ hk
  rw [hk] at he ⊢
  have hkb : k ≤ l.length + 1 := by rw [← hk]; exact Lib.count_le l sep
  have hf : (Lib.splitB ⟨sep.toArray⟩ 0 k ⟨l.toArray⟩).map Value.string = (Lib.split l sep).flatMap cS := by
    rw [hs, List.flatMap_map]
    induction Lib.splitB ⟨sep.toArray⟩ 0 k ⟨l.toArray⟩ with
    | nil => rfl
    | cons b r ih => simp [ih]
  have hsl : (Lib.split l sep).length = k + 1 := by rw [hs, List.length_map, hlen]
  have own := World.ownsRow_lit (base := w.heap.size) (e := 9) (size := 1) w ((Lib.splitB ⟨sep.toArray⟩ 0 k ⟨l.toArray⟩).map Value.string).toArray (k + 1) (Nat.le_refl _) (by unfold maxLen; omega) (by simp [hlen])
  refine ⟨⟨some ⟨w.heap.size, 0, none⟩, k + 1, k + 1⟩, trivial, he, (Below.refl w.heap.size w).alloc (Nat.le_refl _) _, fun x hx => ?_⟩
  rcases List.mem_singleton.1 hx with rfl
  refine ⟨⟨?_, fun _ _ b hb => ?_⟩, rfl⟩
  · have := RO.of_row own
    rw [hsl]
    simpa [hf] using this
  · simp [Value.ownBlock] at hb; omega
end Go.Proofs.YtaglecidaedjfaaDoor
