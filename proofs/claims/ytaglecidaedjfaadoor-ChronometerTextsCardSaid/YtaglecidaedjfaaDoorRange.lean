/- A range over a function whose iterator keeps its state in a cell of its own (block cs): what the caller owes, what the iterator owes. -/
import Derived.RangeFuncNested
import Derived.RangeFuncBound
import Derived.RangeFuncCalls
import Derived.RangeFuncLeaves
import Derived.RangeFuncBox
import Derived.Shelf.Abstract
import Derived.Shelf.RegionOpen
import Derived.WalkKit
import Derived.OwnWalkIn
import Derived.TacticsInMore
import Derived.LoopNIn
import Derived.LoopIn
import Derived.Maps.AppendAt
import Derived.Test.YtaglecidaedjfaaDoorChecked
set_option linter.unusedVariables false
set_option maxHeartbeats 4000000
namespace Go.Proofs.YtaglecidaedjfaaDoor
open Go.RowKit Go.Shelf

/-- A store into the iterator's cell. -/
abbrev putC (cs : Nat) (W : World) (v : Value) : World := W.setCell ⟨cs, 0, none⟩ v
/-- Blocks that lie as they lay. -/
def KeepL (ks : List Nat) (A B : World) : Prop := ∀ k ∈ ks, B.heap[k]? = A.heap[k]?
theorem KeepL.trans {ks : List Nat} {A B C : World} (h : KeepL ks A B) (g : KeepL ks B C) : KeepL ks A C := fun k hk => (g k hk).trans (h k hk)
/-- The iterator's word: for every loop l and every J that abides new blocks and stores into cs, with rounds that keep the blocks ks. -/
def SeqCell {α : Type} (F : Fence) (n : Nat) (P : Program) (gf : Nat) (lb : Array Value) (encs : α → Array Value) (ks : List Nat) (cs M : Nat) (S Sp : List α → Prop) (w0 : World) : Prop :=
  ∀ (l : Nat) (J Jx : List α → World → Prop) (W : World), Below w0.heap.size w0 W → AbidesFrom W.heap.size J → (∀ s A v, J s A → J s (putC cs A v)) →
    (∀ pre x A, pre.length < M → J pre A → YieldAt F (n - 1) P l (encs x) A fun e B => (e = .returned (.bool true) ∧ J (pre ++ [x]) B ∧ KeepL ks A B) ∨ (e = .returned (.bool false) ∧ Jx (pre ++ [x]) B)) →
    J [] W → CallsIn F n P gf (#[.func (.yield l) #[] #[]] ++ lb) W fun e B => (∃ v, e = .returned v) ∧ ((∃ xs, S xs ∧ J xs B) ∨ (∃ pre, Sp pre ∧ Jx pre B))
/-- The loop's two blocks of book-keeping. -/
structure Book (D : Nat) (r : Loop) (W : World) : Prop where
  lp : W.heap[D + 1]? = some (.loop r)
  df : W.heap[D]? = some (.deferred (some []))
theorem Book.cell {D cs : Nat} {r : Loop} {W : World} (h : Book D r W) (v : Value) : Book D r (putC cs W v) := ⟨(KeepsOthers.setCell W _ v).same _ _ h.lp rfl, (KeepsOthers.setCell W _ v).same _ _ h.df rfl⟩
theorem Book.keep {D : Nat} {r : Loop} {W W' : World} (h : Book D r W) (hk : KeepsOthers W W') : Book D r W' := ⟨hk.same _ _ h.lp rfl, hk.same _ _ h.df rfl⟩
theorem Book.grown {D : Nat} {r : Loop} {A B : World} {row : Option Nat} (h : Book D r A) (hg : A.grownBy B row) (hr : ∀ k, row = some k → ∃ o : Obj, A.heap[k]? = some o ∧ o.isWalk = true) : Book D r B :=
  ⟨(grownBy_keeps hg hr h.lp rfl).trans h.lp, (grownBy_keeps hg hr h.df rfl).trans h.df⟩
theorem Book.turn {D : Nat} {r r' : Loop} {W : World} (h : Book D r W) : Book D r' (W.putObj (D + 1) (.loop r')) :=
  ⟨World.putObj_heap_same (Array.getElem?_eq_some_iff.1 h.lp).1, (World.putObj_heap_other (by omega)).trans h.df⟩
section
variable {P : Program} {F : Fence} {n : Nat} {α : Type}
/-- How a round may be left. -/
def outC (ks : List Nat) (I Ix : List α → World → Prop) (xs : List α) (W : World) : Exit → Act → World → Prop
  | .normal, _, W' => KeepsOthers W W' ∧ KeepL ks W W' ∧ I xs W'
  | .ret, _, W' => KeepsOthers W W' ∧ Ix xs W'
  | _, _, _ => False
theorem range_cell {g : Operand} {ps : Array Tmp} {assign body : Code} {Q : Exit → Act → World → Prop} {a : Act} {w : World} (hro : F.round = none) (h1 : 1 ≤ n) {gf : Nat} {lb : Array Value} (hg : a.eval g = .func (.func gf) #[] lb) (hF : F.fn gf) (eg : ∀ args w, (callFunc gf args).run P w = .ok (.enter gf args) w)
    {encs : α → Array Value} {ks : List Nat} {cs M : Nat} (hn : ∀ k ∈ ks, k < w.heap.size) {S Sp : List α → Prop} (hs : SeqCell F (n - 1) P gf lb encs ks cs M S Sp w) (hps : ∀ x, (encs x).size = ps.size)
    (I Ix : List α → World → Prop) (oI : OwnFrom w.heap.size I) (oC : ∀ s A v, I s A → I s (putC cs A v)) (oX : OwnFrom w.heap.size Ix) (h0 : I [] w) (a₁ : α → Act)
    (hassign : ∀ (l : Nat) (x : α) (W : World) (K : Act → World → Prop), K (a₁ x) W → assign.wpIn (F.inRound l) (n - 1 - 1) P (Exit.then K (fun _ _ _ => False)) { tmps := (ps.zip (encs x)).foldl (fun t (p, v) => t.setIfInBounds p v) a.tmps, defers := [] } W)
    (hbody : ∀ (l : Nat) (pre : List α) (x : α) (W : World), pre.length < M → I pre W → body.wpIn (F.inRound l) (n - 1 - 1) P (outC ks I Ix (pre ++ [x]) W) (a₁ x) W)
    (hdone : ∀ (D : Nat) (xs : List α) (W : World), w.heap.size ≤ D → S xs → I xs W → W.heap[D]? = some (.deferred (some [])) → Q .normal { a with defers := { target := .collected D, args := #[] } :: a.defers } W)
    (hstop : ∀ (D : Nat) (pre : List α) (W : World), w.heap.size ≤ D → Sp pre → Ix pre W → W.heap[D]? = some (.deferred (some [])) → Code.ret.wpIn F n P Q { a with defers := { target := .collected D, args := #[] } :: a.defers } W) :
    (Code.rangeFunc g ps assign body).wpIn F n P Q a w := by
  refine wpIn_rangeFunc fun fn hfn => ?_
  rw [hro]
  obtain ⟨D, hD⟩ : ∃ D, w.heap.size = D := ⟨_, rfl⟩
  obtain ⟨rec, hrec⟩ : ∃ rec : LoopState → Option Code → Loop, rec = fun st pe => { state := st, pending := pe, fn, tmps := a.tmps, params := ps, assign, body, defers := D } := ⟨_, rfl⟩
  have hstart := run_enterLoop_outer (P := P) (w := w) fn a.tmps ps assign body
  rw [hD] at hstart hn oI oX hdone hstop
  obtain ⟨W1, hW1⟩ : ∃ W1, (w.alloc (.deferred (some []))).alloc (.loop (rec .ready none)) = W1 := ⟨_, rfl⟩
  have hb1 : Below w.heap.size w W1 := by
    rw [← hW1]; exact ((Below.refl _ w).alloc (Nat.le_refl _) _).alloc (by simp) _
  have bk1 : Book D (rec .ready none) W1 := by
    rw [← hW1, ← hD]
    refine ⟨?_, (Below.heap_alloc _ _ _ (by simp)).trans (World.alloc_heap_new w _)⟩
    have := World.alloc_heap_new (w.alloc (.deferred (some []))) (.loop (rec .ready none))
    rwa [World.size_alloc] at this
  have i1 : I [] W1 := by rw [← hW1]; exact oI.alloc _ (oI.alloc _ h0)
  have hsz : W1.heap.size = D + 2 := by rw [← hW1]; simp [hD]
  have turn : ∀ {s : List α} {A : World} {r r' : Loop}, I s A → Book D r A → I s (A.putObj (D + 1) (.loop r')) := fun hi hb => oI.putObj _ hi (by omega) hb.lp rfl
  have turnX : ∀ {s : List α} {A : World} {r r' : Loop}, Ix s A → Book D r A → Ix s (A.putObj (D + 1) (.loop r')) := fun hi hb => oX.putObj _ hi (by omega) hb.lp rfl
  have low : ∀ (A : World) (o : Obj), KeepL ks A (A.putObj (D + 1) o) := fun A o k hk => World.putObj_heap_other (by have := hn k hk; omega)
  refine ⟨D + 1, [{ target := .collected D, args := #[] }], W1, { target := .fn (.func gf) lb, args := #[.func (.yield (D + 1)) #[] #[]] }, W1, gf, #[.func (.yield (D + 1)) #[] #[]] ++ lb, W1, ?_, ?_, ?_, ?_, fun _ => h1, ?_⟩
  · rw [hstart, ← hW1, hrec]
  · simp only [resolve, hg]
    simp [go_sem]
  · intro f' hf'; simp [Target.leads] at hf'; subst hf'; exact hF
  · simp [invoke, go_sem, eg]
  refine (hs (D + 1) (fun s A => I s A ∧ Book D (rec .ready none) A) (fun s A => Ix s A ∧ Book D (rec .done (some .ret)) A) W1 hb1 ?_ ?_ ?_ ⟨i1, bk1⟩).mono ?_
  · rintro s A B row ⟨hi, hb⟩ hgr hr
    exact ⟨oI s A B row hi hgr (fun k e => by obtain ⟨h2, o, ho, hw⟩ := hr k e; exact ⟨by omega, o, ho, Obj.not_cells_of_walk hw⟩), hb.grown hgr (fun k e => (hr k e).2)⟩
  · rintro s A v ⟨hi, hb⟩
    exact ⟨oC s A v hi, hb.cell v⟩
  · rintro pre x A hM ⟨hi, hb⟩
    have hlt : D + 1 < A.heap.size := (Array.getElem?_eq_some_iff.1 hb.lp).1
    have hy := run_yield (P := P) (args := encs x) hb.lp (by rw [hrec]; exact hps x)
    rw [hrec] at hy
    have bk2 : Book D (rec .busy none) (A.putObj (D + 1) (.loop (rec .busy none))) := hb.turn
    have hbeg : (Instr.beginRound (D + 1)).run P A = .ok () (A.putObj (D + 1) (.loop (rec .busy none))) := by
      have := run_beginRound (P := P) hb.lp (by rw [hrec])
      rw [this, hrec]
    refine ⟨fn, _, assign, body, hy, roundIn_of_wpIn hfn (hassign _ x A _ ⟨_, hbeg, ?_⟩)⟩
    have low1 := low A (.loop (rec .busy none))
    have i2 : I pre (A.putObj (D + 1) (.loop (rec .busy none))) := turn hi hb
    generalize A.putObj (D + 1) (.loop (rec .busy none)) = A2 at bk2 low1 i2 ⊢
    refine wpIn_mono (hbody _ pre x _ hM i2) ?_
    rintro e a3 W3 hp
    cases e with
    | normal =>
      obtain ⟨k3, b3, i3⟩ := hp
      have bk3 := bk2.keep k3
      have hend := run_endRound (P := P) none bk3.lp
      have hlt3 : D + 1 < W3.heap.size := (Array.getElem?_eq_some_iff.1 bk3.lp).1
      have low3 := low W3 (.loop (rec .ready none))
      refine ⟨_, _, hend, .inl ⟨rfl, ⟨?_, ?_⟩, ?_⟩⟩
      · exact turn i3 bk3
      · have := bk3.turn (r' := rec .ready none)
        rw [hrec] at this ⊢; exact this
      · rw [hrec] at low3
        exact (low1.trans b3).trans (by rw [hrec]; exact low3)
    | ret =>
      obtain ⟨k3, i3⟩ := hp
      have bk3 := bk2.keep k3
      have hend := run_endRound (P := P) (some .ret) bk3.lp
      refine ⟨_, _, hend, .inr ⟨rfl, turnX i3 bk3, ?_⟩⟩
      have := bk3.turn (r' := rec .done (some .ret))
      rw [hrec] at this ⊢; exact this
    | exit id => exact hp.elim
    | goto t => exact hp.elim
    | panic ch => exact hp.elim
    | outgrown => exact hp.elim
  · rintro e W2 ⟨⟨v, rfl⟩, (⟨xs, hS, hi, hb⟩ | ⟨pre, hSp, hi, hb⟩)⟩
    · have := run_endLoop (P := P) hb.lp (by rw [hrec]; simp)
      have bk := hb.turn (r' := rec .exhausted none)
      refine ⟨none, _, ?_, hdone D xs _ (Nat.le_refl _) hS (turn hi hb) bk.df⟩
      rw [this, hrec]
    · have := run_endLoop (P := P) hb.lp (by rw [hrec]; simp)
      have bk := hb.turn (r' := rec .exhausted (some .ret))
      refine ⟨some .ret, _, ?_, hstop D pre _ (Nat.le_refl _) hSp (turnX hi hb) bk.df⟩
      rw [this, hrec]
end
end Go.Proofs.YtaglecidaedjfaaDoor
