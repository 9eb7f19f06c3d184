/- The chronometer's Consistent: its closure, the library's search. -/
import Derived.Test.YtaglecidaedjfaaDoorCons
set_option linter.unusedVariables false
set_option maxHeartbeats 4000000
namespace Go.Proofs.YtaglecidaedjfaaDoor
open Go.RowKit

/-- Cells of a block that was there. -/
def Has (w : World) (b : Nat) (cs : List Value) : Prop := ∀ j u, cs[j]? = some u → w.cell? ⟨b, j, none⟩ = some u
theorem Has.keep {w w' : World} {b : Nat} {cs : List Value} (h : Has w b cs) (hb : Below w.heap.size w w') : Has w' b cs := fun j u hu => (hb.cell (World.block_lt_of_cell? w _ (h j u hu))).trans (h j u hu)
theorem St.has {w0 w : World} {H : List Hl} {b : Nat} {t : TypeId} {cs : List Value} (h : St w0 H w) (hm : Hl.blk b t cs ∈ H) : Has w b cs := fun j u hu => (h.cell hm j).trans hu
section
variable {P : Program} {n : Nat} {L : FL} {w0 : World} {H : List Hl} {d : Option Tmp} {ty : TypeId} {pos : String} {af : Array Edge} {g : Option (Nat × Bool)} {x : Operand} {t : TypeId} {v : Value} {b i : Nat} {cs : List Value}
theorem y_loadHas (hx : evO L x = some (.pointer (some ⟨b, i, none⟩))) (h0 : Has w0 b cs) (hi : cs[i]? = some v) (hs : scalarB P t = true) : V P n L w0 H ⟨d, .load t x, ty, pos, af, g⟩ v := y_loadX hx (h0 i v hi) hs
theorem y_loadHasRow {k : Nat} (hx : evO L x = some (.pointer (some ⟨b, 0, none⟩))) (h0 : Has w0 b cs) (hl : LenIs cs k) (hs : rowB P t k = true) : V P n L w0 H ⟨d, .load t x, ty, pos, af, g⟩ (.agg cs.toArray) := by
  unfold V
  intro a w ha hw
  rw [← hl.eq] at hs
  have h1 := h0.keep hw.ext
  have hl := run_loadCells_list (P := P) w ⟨b, 0, none⟩ cs (fun j u hu => by
    have e : (⟨b, 0, none⟩ : Addr).add j = ⟨b, j, none⟩ := by unfold Addr.add; split <;> simp_all
    rw [e]
    exact h1 j u hu)
  simp [execOp, ha.eval hx, Instr.loadAt, Instr.sureAddr, loadVar, run_isAgg_true hs, run_sizeOf_of (info_of_rowB hs), hl]
end
theorem near_c {a c : Chk} {n d : Int} {b3 b8 : Nat} (h : (okC a ∧ okC c) ∧ ((0 ≤ n ∧ n ≤ 1073741824) ∧ 1 ≤ d ∧ d ≤ 1073741824) ∧ a.face < c.face) : ContIn Tryd.prog (fun w => Has w b3 [.int .i64 n, .int .i64 d] ∧ Has w b8 [.int .i64 c.face, .int .i64 c.ut, .int .i64 c.within]) 89 [chkV a, .pointer (some ⟨b3, 0, none⟩), .pointer (some ⟨b8, 0, none⟩)] (.bool (!nearB n d a c)) := fun w hI => by
  obtain ⟨⟨ha, hb⟩, hnd, hlt⟩ := h
  obtain ⟨i1, i2⟩ := hI
  have e : nearB n d a c = allowB n d (max (a.face - a.ut - (c.face - c.ut)) (c.face - c.ut - (a.face - a.ut)) - a.within - c.within) (c.face - a.face) := by
    unfold nearB; congr 1; omega
  refine enter0 Tryd.func89 rfl rfl rfl ?_
  repeat' (first
    | (refine VK.mk (y_loadHasRow (by rfl) i1 (by (repeat (first | exact .nil | apply LenIs.cons))) (by decide +kernel)) ?_)
    | (refine VK.mk (y_loadHasRow (by rfl) i2 (by (repeat (first | exact .nil | apply LenIs.cons))) (by decide +kernel)) ?_)
    | (refine VK.mk (y_loadHas (by rfl) i2 (by rfl) (by decide +kernel)) ?_)
    | (show YK _ _ _ _ _ _ _; first | refine YK.mk (y_callP slow_c ⟨rfl, rfl⟩) ?_ | refine YK.mk (y_callP far_c ⟨rfl, rfl, rfl⟩) ?_ | refine YK.mk (y_callP allows_c ⟨rfl, rfl, rfl, rfl⟩) ?_)
    | (show YK _ _ _ _ _ _ _; refine YK.ofV vAuto ?_)
    | (show VK _ _ _ _ _ _ _; refine VK.mk vAuto ?_)
    | (show RS _ _ _ _ _ _ _ _; first | (refine nxRS ?_) | (refine nxRS1 fun _ => ?_))
    | (show RM _ _ _ _ _ _ _ _ _ _; first | (refine nxRM ?_) | (refine nxRM1 fun _ => ?_))
    | (show YG _ _ _ _ _ _ _ _; refine YG.mk (fun hb => by (try (have hc := And.left hb; have hb := And.right hb; rw [hc])); (try rw [hb]); first | exact (y_callP slow_c ⟨rfl, rfl⟩) | exact (y_callP far_c ⟨rfl, rfl, rfl⟩) | exact (y_callP allows_c ⟨rfl, rfl, rfl, rfl⟩) | exact V.y vAuto) ?_)
    | (show VG _ _ _ _ _ _ _ _; refine VG.mk (fun hb => by (try (have hc := And.left hb; have hb := And.right hb; rw [hc])); (try rw [hb]); exact vAuto) ?_)
    | (refine G.mixedA 1 [.go 0, .go 1, .go 3, .go 6, .go 7, .go 9, .go 10, .go 12, .go 13, .go 14, .go 15, .go 16, .go 2, .go 4, .go 5, .go 8, .go 11, .go 17, .go 18, .go 19] ?_)
    | (refine nxX ?_)
    | (refine G.condN rfl (fun hc => ?_) (fun hc => ?_) <;> (try first | exact False.elim hc | (exfalso; omega))))
  exact X.ret (vs := [_]) rfl ⟨rfl, rfl⟩ rfl (fun w hw => ⟨ret_bool (by rw [e]), hw.ext⟩)
/-- slices.IndexFunc: the first at which the predicate holds. -/
theorem indexF_c {I : World → Prop} (hI : ∀ w w', I w → Below w.heap.size w w' → I w') {f : FuncId} {cap : List Value} (hg : isGo Tryd.prog f = true) (p : Chk → Bool) (v : Value) (l : List Chk) (hl : l.length ≤ 1000000)
    (hf : ∀ i : Nat, i < l.length → ContIn Tryd.prog I f ([chkV (nth l i)] ++ cap) (.bool (p (nth l i)))) (r : Int) (hr : r = match (List.range l.length).find? (fun i : Nat => p (nth l i)) with
      | some k => (k : Int)
      | none => -1) :
    ContIn Tryd.prog (fun w => RO w v 3 l.length (l.flatMap cC) ∧ I w) 113 [v, .func (.func f) #[] cap.toArray] (.int .i64 r) := fun w hw0 => by
  refine enter Tryd.func113 rfl rfl rfl (Hp := [Hl.rd v cC 3 l]) (fun h hm => by
    rcases List.mem_singleton.1 hm with rfl
    exact ⟨⟨hw0.1, fun h => by cases h⟩, rfl⟩) ?_
  repeat' (first
    | (refine nxV ?_)
    | (show RS _ _ _ _ _ _ _ _; first | (refine nxRS ?_) | (refine nxRS1 fun _ => ?_))
    | (show RM _ _ _ _ _ _ _ _ _ _; first | (refine nxRM ?_) | (refine nxRM1 fun _ => ?_))
    | (refine nxG ?_)
    | (refine nxX ?_)
    | (refine G.condN rfl (fun hc => ?_) (fun hc => ?_) <;> (try first | exact False.elim hc | (exfalso; omega))))
  refine G.loop (ι := Nat) (fun i => [(0, v), (1, .func (.func f) #[] cap.toArray), (7, .int .i64 l.length), (8, .int .i64 (i : Int))]) (fun _ => [Hl.rd v cC 3 l]) (fun i => i ≤ l.length ∧ ∀ k, k < i → p (nth l k) = false) (fun i => l.length - i) 0 ⟨by omega, fun k hk => by omega⟩ ⟨rfl, rfl, rfl, rfl, trivial⟩ (fun w h => h) ?_
  rintro i mx ⟨g1, g2⟩ hmx
  rcases Nat.lt_or_ge i l.length with hi | hi
  · repeat' (first
    | (refine YK.mk (y_callV (C := I) (by rfl) (hf i hi) (fun w hw => hI _ _ hw0.2 hw.ext) ⟨rfl, rfl⟩ hg) ?_)
    | (refine nxV ?_)
    | (show RS _ _ _ _ _ _ _ _; first | (refine nxRS ?_) | (refine nxRS1 fun _ => ?_))
    | (show RM _ _ _ _ _ _ _ _ _ _; first | (refine nxRM ?_) | (refine nxRM1 fun _ => ?_))
    | (refine nxG ?_)
    | (refine nxX ?_)
    | (refine G.condN rfl (fun hc => ?_) (fun hc => ?_) <;> (try first | exact False.elim hc | (exfalso; omega))))
    · rw [find_some hi g2 hc] at hr
      exact X.ret (vs := [_]) rfl ⟨rfl, rfl⟩ rfl (fun w hw => ⟨ret_int hr.symm, hw.ext⟩)
    · refine X.again (i + 1) ⟨by omega, fun k hk => ?_⟩ (by omega) ⟨rfl, rfl, rfl, rfl, trivial⟩ (by exact fun w h => h.sub (by repeat (first | exact List.Sublist.refl _ | apply List.Sublist.cons_cons | apply List.Sublist.cons)))
      rcases Nat.lt_or_ge k i with h | h
      · exact g2 k h
      · rw [show k = i by omega]; exact hc
  · repeat' (first
    | (refine nxV ?_)
    | (show RS _ _ _ _ _ _ _ _; first | (refine nxRS ?_) | (refine nxRS1 fun _ => ?_))
    | (show RM _ _ _ _ _ _ _ _ _ _; first | (refine nxRM ?_) | (refine nxRM1 fun _ => ?_))
    | (refine nxG ?_)
    | (refine nxX ?_)
    | (refine G.condN rfl (fun hc => ?_) (fun hc => ?_) <;> (try first | exact False.elim hc | (exfalso; omega))))
    rw [find_none (fun k hk => g2 k (by omega))] at hr
    exact X.ret (vs := [_]) rfl ⟨rfl, rfl⟩ rfl (fun w hw => ⟨ret_int hr.symm, hw.ext⟩)
/-- slices.ContainsFunc. -/
theorem containsF_c {I : World → Prop} (hI : ∀ w w', I w → Below w.heap.size w w' → I w') {f : FuncId} {cap : List Value} (hg : isGo Tryd.prog f = true) (p : Chk → Bool) (v : Value) (l : List Chk) (hl : l.length ≤ 1000000)
    (hf : ∀ i : Nat, i < l.length → ContIn Tryd.prog I f ([chkV (nth l i)] ++ cap) (.bool (p (nth l i)))) :
    ContIn Tryd.prog (fun w => RO w v 3 l.length (l.flatMap cC) ∧ I w) 88 [v, .func (.func f) #[] cap.toArray] (.bool ((List.range l.length).any fun i : Nat => p (nth l i))) := fun w hw0 => by
  have hx := indexF_c hI hg p v l hl hf _ rfl
  have hany : ((List.range l.length).any fun i : Nat => p (nth l i)) = ((List.range l.length).find? fun i : Nat => p (nth l i)).isSome := by rw [Bool.eq_iff_iff]; simp [List.find?_isSome]
  refine enter Tryd.func88 rfl rfl rfl (Hp := [Hl.rd v cC 3 l]) (fun h hm => by
    rcases List.mem_singleton.1 hm with rfl
    exact ⟨⟨hw0.1, fun h => by cases h⟩, rfl⟩) ?_
  cases hfd : (List.range l.length).find? (fun i : Nat => p (nth l i)) with
  | none =>
    rw [hfd] at hx hany
    repeat' (first
    | (refine YK.mk (y_callIn hx (fun w hw => ⟨(hw.all _ (List.Mem.head _)).1, hI _ _ hw0.2 hw.ext⟩) ⟨rfl, rfl, rfl⟩ (by decide +kernel)) ?_)
    | (refine nxV ?_)
    | (show RS _ _ _ _ _ _ _ _; first | (refine nxRS ?_) | (refine nxRS1 fun _ => ?_))
    | (show RM _ _ _ _ _ _ _ _ _ _; first | (refine nxRM ?_) | (refine nxRM1 fun _ => ?_))
    | (refine nxG ?_)
    | (refine nxX ?_)
    | (refine G.condN rfl (fun hc => ?_) (fun hc => ?_) <;> (try first | exact False.elim hc | (exfalso; omega))))
    exact X.ret (vs := [_]) rfl ⟨rfl, rfl⟩ rfl (fun w hw => ⟨ret_bool (by rw [hany]; rfl), hw.ext⟩)
  | some k =>
    rw [hfd] at hx hany
    repeat' (first
    | (refine YK.mk (y_callIn hx (fun w hw => ⟨(hw.all _ (List.Mem.head _)).1, hI _ _ hw0.2 hw.ext⟩) ⟨rfl, rfl, rfl⟩ (by decide +kernel)) ?_)
    | (refine nxV ?_)
    | (show RS _ _ _ _ _ _ _ _; first | (refine nxRS ?_) | (refine nxRS1 fun _ => ?_))
    | (show RM _ _ _ _ _ _ _ _ _ _; first | (refine nxRM ?_) | (refine nxRM1 fun _ => ?_))
    | (refine nxG ?_)
    | (refine nxX ?_)
    | (refine G.condN rfl (fun hc => ?_) (fun hc => ?_) <;> (try first | exact False.elim hc | (exfalso; omega))))
    exact X.ret (vs := [_]) rfl ⟨rfl, rfl⟩ rfl (fun w hw => ⟨ret_bool (by rw [hany]; simp), hw.ext⟩)
end Go.Proofs.YtaglecidaedjfaaDoor
