/- slices.AppendSeq, Collect at fractions over slices.Values. -/
import Derived.Test.YtnanempkkeokbaaDoorIter3
set_option linter.unusedVariables false
namespace Go.Proofs.YtnanempkkeokbaaDoor
open Go.RowKit Go.Shelf
attribute [local go_sem] Oper.semAt_some

abbrev cQ (x : FrQ) : List Value := [.int .i64 x.1, .int .i64 x.2]
/-- The slice value holds the fractions, in a block below n₀. -/
def FracsAt (n₀ : Nat) (W : World) (b off : Nat) (zs : List FrQ) : Prop :=
  b < n₀ ∧ ∀ j, j < zs.length → W.cell? ⟨b, off + j * 2, none⟩ = some (.int .i64 (zs[j]?.getD (0, 0)).1) ∧ W.cell? ⟨b, off + j * 2 + 1, none⟩ = some (.int .i64 (zs[j]?.getD (0, 0)).2)
theorem FracsAt.below {n₀ : Nat} {A B : World} {b off : Nat} {zs : List FrQ} (h : Below n₀ A B) (hf : FracsAt n₀ A b off zs) : FracsAt n₀ B b off zs :=
  ⟨hf.1, fun j hj => ⟨(h.cell (p := ⟨b, off + j * 2, none⟩) hf.1).trans (hf.2 j hj).1, (h.cell (p := ⟨b, off + j * 2 + 1, none⟩) hf.1).trans (hf.2 j hj).2⟩⟩
theorem values_stops (F : Fence) (n : Nat) (h7 : F.fn 65) (hro : F.round = none) (hn : 1 ≤ n) (Bs n₀ b off cap : Nat) (zs : List FrQ) (hreach : zs.length ≤ 1000000) (w : World) (hBn : Bs < n₀) (hn₀ : n₀ ≤ w.heap.size)
    (hc : w.cell? ⟨Bs, 0, none⟩ = some (.slice (some ⟨b, off, none⟩) zs.length cap)) (hI : FracsAt n₀ w b off zs) :
    SeqStopsK F n Tryd.prog 65 #[.pointer (some ⟨Bs, 0, none⟩)] (fun x : FrQ => #[.agg #[.int .i64 x.1, .int .i64 x.2]]) (Below n₀) (fun ys => ys = zs) (fun _ => True) zs.length w := fun l J Jx W hW hJ _ hY h0 => by
  have hc' := (hW.cell (p := ⟨Bs, 0, none⟩) (Nat.lt_of_lt_of_le hBn hn₀)).trans hc
  have hI' := hI.below (hW.mono hn₀)
  refine (values1_in F n h7 hro hn l Bs n₀ b off zs.length cap zs (by omega) hI'.1 J Jx hY W hJ (Nat.le_trans hn₀ hW.size) hc' hBn hI'.2 h0).mono fun e W' ⟨he, h⟩ => ⟨he, ?_⟩
  rcases h with ⟨ys, hy, hj⟩ | ⟨pre, _, hj⟩
  · exact .inl ⟨ys, by rw [hy, upto_all], hj⟩
  · exact .inr ⟨pre, trivial, hj⟩
theorem infoFr : (Tryd.prog.info? 24).map (fun i => (i.zero, i.size, i.bytes)) = some (some (.agg #[.int .i64 0, .int .i64 0]), 2, 16) := by kernel_rfl
theorem two_new (W : World) (a b : Value) (t : TypeId) : ∀ j u, [a, b][j]? = some u → (W.alloc (.cells #[a, b] t)).cell? ((⟨W.heap.size, 0, none⟩ : Addr).add j) = some u := by
  intro j u h
  have hb := World.alloc_heap_new W (.cells #[a, b] t)
  match j, h with
  | 0, h =>
    have e : ((⟨W.heap.size, 0, none⟩ : Addr).add 0) = ⟨W.heap.size, 0, none⟩ := rfl
    rw [e]; unfold World.cell?; dsimp only; rw [hb]; exact h
  | 1, h =>
    have e : ((⟨W.heap.size, 0, none⟩ : Addr).add 1) = ⟨W.heap.size, 1, none⟩ := rfl
    rw [e]; unfold World.cell?; dsimp only; rw [hb]; exact h
theorem cells_two {W : World} {B : Nat} {a b : Value} {t : TypeId} (h : W.heap[B]? = some (.cells #[a, b] t (0, 0))) : W.cell? ⟨B, 0, none⟩ = some a ∧ W.cell? ⟨B, 1, none⟩ = some b := by
  constructor <;> (unfold World.cell?; dsimp only; rw [h]; rfl)

set_option maxRecDepth 100000 in
set_option maxHeartbeats 2000000 in
theorem append_in (F : Fence) (n : Nat) (h72 : F.fn 72) (h65 : F.fn 65) (hro : F.round = none) (hn : 3 ≤ n) (Bs b off cap : Nat) (zs : List FrQ) (hreach : zs.length ≤ 1000000) (w : World) (hBn : Bs < w.heap.size)
    (hc : w.cell? ⟨Bs, 0, none⟩ = some (.slice (some ⟨b, off, none⟩) zs.length cap)) (hI : FracsAt w.heap.size w b off zs) :
    CallsIn F n Tryd.prog 72 #[.slice none 0 0, .func (.func 65) #[] #[.pointer (some ⟨Bs, 0, none⟩)]] w fun e W' =>
      (∃ v, e = .returned v ∧ W'.ownsRow w.heap.size 24 2 v zs.length (zs.flatMap cQ)) ∧ Below w.heap.size w W' := by
  have h1 : 1 ≤ n := by omega
  obtain ⟨i0, hi, hz0, hz1, hz2⟩ := info_parts infoFr
  refine callsIn_of_wp_marks Tryd.func72 rfl h72 ?_ hro
  simp only [Tryd.ntmps72, List.size_toArray, List.length_cons, List.length_nil, Nat.reduceAdd, Nat.reduceSub, Array.replicate_succ, Array.replicate_zero, List.push_toArray, List.append_toArray, List.nil_append, List.cons_append]
  gi_wp2
  have bS := Boxed.new w 42 (.slice none 0 0)
  have hB0 : Below w.heap.size w (w.alloc (.cells #[.slice none 0 0] 42)) := (Below.refl _ w).alloc (Nat.le_refl _) _
  have hc0 : (w.alloc (.cells #[.slice none 0 0] 42)).cell? ⟨Bs, 0, none⟩ = some (.slice (some ⟨b, off, none⟩) zs.length cap) := (hB0.cell (p := ⟨Bs, 0, none⟩) hBn).trans hc
  refine wpIn_rangeFunc_ownH hro h1 (gf := 65) (lb := #[.pointer (some ⟨Bs, 0, none⟩)]) rfl h65 (enters_of Tryd.func65 (by kernel_rfl) rfl)
    (values_stops F (n - 1) h65 hro (by omega) Bs w.heap.size b off cap zs hreach _ hBn hB0.size hc0 (hI.below hB0)) belowK_t (belowK_b (by simp)) (Below.refl _ _) (fun _ => rfl)
    (fun pre W => (∃ v, Boxed W w.heap.size 42 v ∧ W.ownsRow w.heap.size 24 2 v pre.length (pre.flatMap cQ) ∧ True) ∧ Below w.heap.size w W)
    (fun _ _ _ => False)
    (OwnFrom.and (Own.from (holdsRow_own w.heap.size w.heap.size 42 24 2 (fun pre : List FrQ => pre.length) (fun pre => pre.flatMap cQ) (fun _ _ => True)) _) (ownFrom_below (Nat.le_refl _) (by simp)))
    (fun _ _ _ _ _ hs _ _ => hs)
    ⟨⟨_, bS, World.ownsRow_nil _ _ _ _, trivial⟩, hB0⟩
    (fun x a' W => ∃ Bx, w.heap.size < Bx ∧ W.heap[Bx]? = some (.cells #[.int .i64 x.1, .int .i64 x.2] 24 (0, 0)) ∧ a' = { tmps := #[.slice none 0 0, .func (.func 65) #[] #[.pointer (some ⟨Bs, 0, none⟩)], .pointer (some ⟨w.heap.size, 0, none⟩), undef, .slice none 0 0, .pointer (some ⟨Bx, 0, none⟩), .func (.func 65) #[] #[.pointer (some ⟨Bs, 0, none⟩)], .agg #[.int .i64 x.1, .int .i64 x.2], undef, undef, undef, undef, undef], defers := [] })
    (fun x a' _ X Y row hs hg hr => by
      obtain ⟨Bx, h1, h2, h3⟩ := hs
      exact ⟨Bx, h1, (hg.block Bx (Array.getElem?_eq_some_iff.1 h2).1 (fun e => by obtain ⟨_, o, ho, hcc⟩ := hr Bx e.symm; rw [h2] at ho; cases ho; cases hcc)).trans h2, h3⟩)
    ?assign ?body ?done ?stop
  case assign =>
    rintro l pre x W K ⟨⟨v, hv, hrow, _⟩, hB⟩ hK
    gi_wp2
    exact hK _ _ ((KeepsOthers.alloc _ _).from _) ((Below.refl _ W).alloc hB.size _) ⟨⟨v, hv.alloc _, hrow.alloc _, trivial⟩, hB.alloc hB.size _⟩ ⟨W.heap.size, hv.lt, World.alloc_heap_new _ _, rfl⟩
  case body =>
    rintro l pre x a' W hl ⟨r, hrr⟩ ⟨⟨v, hv, hrow, _⟩, hB⟩ ⟨Bx, hBx, hX, rfl⟩ hlt
    have cv := hv.cell
    obtain ⟨cx0, cx1⟩ := cells_two hX
    have hle := hB.size
    gi_wp2_with (gi_at_builtin; refine wpListIn_append_own _ rfl _ _ 42 rfl w.heap.size 24 i0 (.agg #[.int .i64 0, .int .i64 0]) 2 16 Tryd.underlying42 hi hz0 hz1 hz2 rfl (by decide) _ _ _ rfl (hrow.alloc _) ⟨W.heap.size, 0, none⟩ 1 1 [.int .i64 x.1, .int .i64 x.2] rfl rfl (two_new _ _ _ _) (by simp [Value.oneCell']) (by have : maxLen = 9223372036854775807 := rfl; omega) (by omega) (by simp; omega) ?_; intro v' w1 hown' hgrow _; obtain ⟨g', cap', rfl⟩ := ownsRow_succ hown'; obtain ⟨hv1, hv2, hr2, hk2, hb2⟩ := hv.appended (by decide) hrow hB.size (Nat.le_refl _) hown' hgrow; have hc1 := hv1.cell; have hf1 := hv1.frozen)
    refine ⟨hk2.from _, hb2, ⟨⟨_, hv2, ?_, trivial⟩, hB.trans hb2⟩⟩
    rw [List.length_append, List.flatMap_append]
    exact hr2
  case done =>
    rintro D ys W hD rfl ⟨⟨v, hv, hrow, _⟩, hB⟩ hK
    have cv := hv.cell
    gi_wp2
    refine ⟨by simp, .inl ⟨_, _, rfl, run_takeDeferred hK, ?_⟩⟩
    exact ⟨_, results_tmp rfl _ _ _, ⟨v, rfl, ownsRow_putObj hrow _ hK rfl⟩, hB.trans (belowK_b (w := w) (Nat.le_refl _) W D _ _ (by simp at hD; omega) hK rfl rfl)⟩
  case stop =>
    rintro D c pre W _ _ h _
    exact h.elim
end Go.Proofs.YtnanempkkeokbaaDoor
