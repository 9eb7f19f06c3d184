/- slices.Clone, slices.Delete at comparisons. -/
import Derived.Test.YtcjganfppcjdfaaMut
set_option linter.unusedVariables false
set_option maxHeartbeats 4000000
namespace Go.Proofs.Ytcjganfppcjdfaa
open Go.RowKit

theorem RM.appF {P : Program} {n : Nat} {L : FL} {w0 : World} {H HS H' : List Hl} {Q : Exit → Act → World → Prop} {ops : Array Oper} {ord : List Mv} {dd i : Nat} {ty : TypeId} {pos : String} {af : Array Edge} {x y : Operand} {t e : TypeId} {α : Type} {f : α → List Value} {s bytes : Nat} {l l' : List α} {g j cap nn q c : Nat} {A : Option Addr}
    (h : RM P ops Q HS n [] ((dd, .slice (some ⟨g, 0, none⟩) (j + l'.length) cap) :: L) w0 H' ord) (ho : ops[i]? = some ⟨some dd, .call { callee := .builtin .append, args := #[x, y], argTypes := #[t, t] }, ty, pos, af, none⟩)
    (hx : evO L x = some (.slice (some ⟨g, 0, none⟩) j cap)) (hy : evO L y = some (.slice A q c)) (hq : q = l'.length) (hA : ∃ ad, A = some ad) (hr : RdT H (.slice A q c) f s l') (hf : ∀ a, (f a).length = s) (h1 : ∀ a, (f a).all (·.oneCell') = true)
    (hu : Upd (Hl.rw (.slice (some ⟨g, 0, none⟩) nn cap) e f s l) (Hl.rw (.slice (some ⟨g, 0, none⟩) (j + l'.length) cap) e f s (l.take j ++ l')) H H') (hj : j ≤ l.length) (hb : j + l'.length ≤ l.length) (ht : rowTyB P t e s bytes = true) (hs : ∀ w, St w0 H' w → St w0 HS w) (hd : Nat.blt dd n = true) :
    RM P ops Q HS n [] L w0 H (.go i :: ord) := by
  subst hq
  exact RM.actX ho rfl rfl (x_appendF (m := 0) hx hy hA hr hf h1 hu hj hb ht hd) (.inl fun _ w hw => hs w hw) fun _ _ => h
theorem clone_c (u : Value) (l : List Chk) (hl : 1 ≤ l.length ∧ l.length ≤ 1000000) : ContU Try.prog (Hl.rd u cC 3 l) 24 [u] (fun _ : Sl => True) (fun z => z.v) (fun z => [Hl.rw z.v 54 cC 3 l, Hl.rd u cC 3 l]) := fun w0 HR w hw => by
  obtain ⟨h1, A, c, rfl, hnc, hcells, _⟩ := (hw.all _ List.mem_cons_self).1
  obtain ⟨ad, rfl, _⟩ := hcells (fun hn => by rw [hn] at h1; simp at h1; omega)
  refine enterU Try.func24 rfl rfl rfl hw ?_
  repeat' (first
    | (refine nxV ?_)
    | (show RS _ _ _ _ _ _ _ _; first | (refine nxRS ?_) | (refine nxRS1 fun _ => ?_))
    | (show RM _ _ _ _ _ _ _ _ _ _; first | (refine nxRM ?_) | (refine nxRM1 fun _ => ?_))
    | (refine nxG ?_)
    | (refine nxX ?_)
    | (refine G.condN rfl (fun hc => ?_) (fun hc => ?_) <;> (try first | exact False.elim hc | (exfalso; omega))))
  · exact absurd hc (by simp [nilB])
  · rename_i v'
    exact X.ret (vs := [_]) rfl ⟨rfl, rfl⟩ rfl (fun w hw => ⟨v', trivial, rfl, hw⟩)
theorem delete_c (v : Sl) (l : List Chk) {i : Int} (hl : l.length ≤ 1000000) (hi : 0 ≤ i ∧ i < l.length) : ContU Try.prog (Hl.rw v.v 54 cC 3 l) 25 [v.v, .int .i64 i, .int .i64 (i + 1)] (fun _ : Sl => True) (fun z => z.v) (fun z => [Hl.rw z.v 54 cC 3 (l.take i.toNat ++ l.drop (i + 1).toNat)]) := fun w0 HR w hw => by
  have hown : w.ownsRow w0.heap.size 54 3 v.v l.length (l.flatMap cC) := hw.all _ List.mem_cons_self
  rcases hown.2 with ⟨_, h0⟩ | ⟨g, cap, cur, hv, _, _, hnc, hcm, _⟩
  · omega
  clear hown
  unfold maxLen at hcm
  rw [hv] at hw ⊢
  have hr : RdT (Hl.rw (.slice (some ⟨g, 0, none⟩) l.length cap) 54 cC 3 l :: HR) (sliced (some ⟨g, 0, none⟩) (i + 1).toNat l.length cap 3) cC 3 (l.drop (i + 1).toNat) :=
    ((RdT.rw (v := .slice (some ⟨g, 0, none⟩) l.length cap) (e := 54) (f := cC) (s := 3) (l := l) (List.Mem.head _)).cut (i := (i + 1).toNat) (j := l.length) (fun _ => rfl) (by omega) (Nat.le_refl _)).cast (List.take_of_length_le (by simp))
  have hdl : (l.drop (i + 1).toNat).length = l.length - (i + 1).toNat := List.length_drop
  have htl : (l.take i.toNat ++ l.drop (i + 1).toNat).length = l.length - 1 := by simp; omega
  have hz : zeroOf Try.prog 54 = some (.agg #[.int .i64 0, .int .i64 0, .int .i64 0]) := by kernel_rfl
  refine enterU Try.func25 rfl rfl rfl hw ?_
  repeat' (first
    | (show YK _ _ _ _ _ ⟨_, .slice _ _ (some _) (some _) (some _), _, _, _, _⟩ _; refine YK.ofV (y_sliceX3 (s := 3) (by rfl) (by rfl) (by rfl) (by rfl) (by decide +kernel) (by omega)) ?_)
    | (show YK _ _ _ _ _ ⟨_, .slice _ _ (some _) (some _) none, _, _, _, _⟩ _; refine YK.ofV (y_sliceX2 (s := 3) (by rfl) (by rfl) (by rfl) (by decide +kernel) (by omega)) ?_)
    | (show VK _ _ _ _ _ ⟨_, .slice _ _ none (some _) none, _, _, _, _⟩ _; refine VK.mk (y_sliceXH (s := 3) (by rfl) (by rfl) (by decide +kernel) (by omega)) ?_)
    | (show VK _ _ _ _ _ ⟨_, .slice _ _ (some _) none none, _, _, _, _⟩ _; refine VK.mk (y_sliceXL (s := 3) (by rfl) (by rfl) (by decide +kernel) (by omega)) ?_)
    | (show RM _ _ _ _ _ _ _ _ _ _; refine RM.appF (bytes := 24) (l := l) (l' := l.drop (i + 1).toNat) (g := g) (cap := cap) (nn := l.length) (j := i.toNat) ?_ (by rfl) (by rfl) (by rfl) (by omega) (by split <;> exact ⟨_, rfl⟩) hr (fun _ => rfl) (fun _ => rfl) (by exact updA) (by omega) (by omega) (rowTy_B RowTy.is) (by exact fun _ h => h.sub (.cons _ (List.Sublist.refl _))) (by rfl))
    | (show RS _ _ _ _ _ _ _ (⟨none, .call _, _, _, _, _⟩ :: _); refine RS.actX rfl (x_clear (f := cC) (s := 3) (bytes := 24) (by rfl) (by exact memA) (fun _ => rfl) (by omega) hz (by decide) (rowTy_B RowTy.is)) (fun _ _ => ?_))
    | (refine G.mixedM 5 [.go 0, .go 1, .go 2, .go 3, .go 4, .go 5, .go 6, .go 7] [false] ?_; dsimp only [maskH])
    | (refine nxV ?_)
    | (show RS _ _ _ _ _ _ _ _; first | (refine nxRS ?_) | (refine nxRS1 fun _ => ?_))
    | (show RM _ _ _ _ _ _ _ _ _ _; first | (refine nxRM ?_) | (refine nxRM1 fun _ => ?_))
    | (refine nxG ?_)
    | (refine nxX ?_)
    | (refine G.condN rfl (fun hc => ?_) (fun hc => ?_) <;> (try first | exact False.elim hc | (exfalso; omega))))
  exact X.ret (vs := [_]) rfl ⟨rfl, rfl⟩ rfl (fun w hw => ⟨⟨some ⟨g, 0, none⟩, i.toNat + (l.drop (i + 1).toNat).length, cap⟩, trivial, rfl, hw⟩)
end Go.Proofs.Ytcjganfppcjdfaa
