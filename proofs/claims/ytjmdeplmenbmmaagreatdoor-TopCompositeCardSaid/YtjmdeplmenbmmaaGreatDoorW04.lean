/- Joined texts: RowSt. -/
import Derived.Test.YtjmdeplmenbmmaaGreatDoorW02
import Derived.Laws.IdiomCopy
import Derived.Maps.AppendAt
set_option linter.unusedVariables false
set_option maxHeartbeats 1000000
namespace Go.Proofs.YtjmdeplmenbmmaaGreatDoor
open Go.RowKit
def setAt : List Value → Nat → List Value → List Value
  | xs, _, [] => xs
  | xs, o, u :: r => setAt (xs.set o u) (o + 1) r
theorem setAt_app : ∀ (us xs ys : List Value) (o : Nat), setAt (xs ++ ys) (xs.length + o) us = xs ++ setAt ys o us
  | [], xs, ys, o => rfl
  | u :: r, xs, ys, o => by
    show setAt ((xs ++ ys).set (xs.length + o) u) (xs.length + o + 1) r = xs ++ setAt (ys.set o u) (o + 1) r
    rw [List.set_append_right _ _ (by omega), show xs.length + o - xs.length = o by omega, Nat.add_assoc, setAt_app r]
theorem setAt_all : ∀ (us us0 ys : List Value), us0.length = us.length → setAt (us0 ++ ys) 0 us = us ++ ys
  | [], us0, ys, h => by cases us0 with
    | nil => rfl
    | cons a r => simp at h
  | u :: r, [], ys, h => by simp at h
  | u :: r, a :: t, ys, h => by
    show setAt ((a :: (t ++ ys)).set 0 u) (0 + 1) r = u :: (r ++ ys)
    have := setAt_app r [u] (t ++ ys) 0
    rw [setAt_all r t ys (by simpa using h)] at this
    exact this
section
variable {P : Program} {n : Nat} {L : FL} {w0 : World} {H HS : List Hl} {Q : Exit → Act → World → Prop} {ops : Array Oper} {rest : List Oper} {ord : List Mv} {i : Nat} {ty : TypeId} {pos : String} {af : Array Edge} {gd : Option (Nat × Bool)} {x y : Operand} {t e : TypeId} {α : Type} {f : α → List Value} {s : Nat} {l : List α} {v : Value} {m : Int}
theorem flat_setAt (hf : ∀ a, (f a).length = s) : ∀ (l : List α) (m : Nat) (b : α), m < l.length → setAt (l.flatMap f) (m * s) (f b) = (l.set m b).flatMap f
  | [], m, b, h => by simp at h
  | a :: r, 0, b, h => by
    rw [Nat.zero_mul, List.flatMap_cons, List.set_cons_zero, List.flatMap_cons]
    exact setAt_all (f b) (f a) _ (by rw [hf, hf])
  | a :: r, m + 1, b, h => by
    rw [List.flatMap_cons, List.set_cons_succ, List.flatMap_cons, Nat.succ_mul, Nat.add_comm, ← hf a, setAt_app, hf a, flat_setAt hf r m b (by simpa using h)]
theorem own_setAt {base g cap nl : Nat} : ∀ (us xs : List Value) (o : Nat) (w : World), w.ownsRow base e s (.slice (some ⟨g, 0, none⟩) nl cap) nl xs → (w.setCells g o us).ownsRow base e s (.slice (some ⟨g, 0, none⟩) nl cap) nl (setAt xs o us) ∧ w.grownBy (w.setCells g o us) (some g)
  | [], xs, o, w, h => ⟨h, World.grownBy.refl w _⟩
  | u :: r, xs, o, w, h => by
    obtain ⟨h1, h2⟩ := h.stored o u
    obtain ⟨h3, h4⟩ := own_setAt r (xs.set o u) (o + 1) _ h1
    exact ⟨h3, h2.trans h4⟩
theorem x_storeElRow [Inhabited α] {b : α} {H' : List Hl} (hx : evO L x = some (elA v s m 0)) (hy : evO L y = some (.agg (f b).toArray)) (hu1 : (f b).all (·.oneCell') = true) (hu : Upd (Hl.rw v e f s l) (Hl.rw v e f s (l.set m.toNat b)) H H') (hm : 0 ≤ m ∧ m < l.length)
    (hf : ∀ a, (f a).length = s) (hs0 : Nat.blt 0 s = true) (hs : rowB P t s = true) :
    EX P n L w0 H ⟨none, .store t x y, ty, pos, af, gd⟩ (fun _ : Unit => True) (fun _ => L) (fun _ => H') :=
  EX.of_skip fun a w ha hw => by
    have hc' : 0 < s := by simpa [Nat.blt_eq] using hs0
    have hown : w.ownsRow w0.heap.size e s v l.length (l.flatMap f) := hw.all _ hu.mem
    obtain ⟨ad, cap, rfl, hcell⟩ := (RdT.rw hu.mem).at_ hf hm (by omega) hw
    rcases hown.2 with ⟨h', _⟩ | ⟨g, cap', cur, h', hb', hg, hnc, hcm, hcs, htake⟩
    · simp at h'
    · simp only [Value.slice.injEq, Option.some.injEq] at h'
      obtain ⟨rfl, _, rfl⟩ := h'
      have hlb := hf b
      have hj : m.toNat * s + s ≤ l.length * s := by
        have h2 : (m.toNat + 1) * s ≤ l.length * s := Nat.mul_le_mul_right _ (by omega)
        rwa [Nat.succ_mul] at h2
      have hlen := flat_len hf l
      have hadd : (⟨g, 0, none⟩ : Addr).add (m.toNat * s) = ⟨g, m.toNat * s, none⟩ := by unfold Addr.add; split <;> simp_all
      have hst := own_setAt (f b) (l.flatMap f) (m.toNat * s) w hown
      rw [flat_setAt hf l m.toNat b (by omega)] at hst
      have hrun := run_storeCells_cells (P := P) g (m.toNat * s) (f b) 0 w (fun j hj' => by
          have hold : w.cell? ⟨g, m.toNat * s + 0 + j, none⟩ = (l.flatMap f)[m.toNat * s + 0 + j]? := hown.cellAt _ (by omega)
          rw [hold, List.getElem?_eq_getElem (by omega)]; rfl) (fun j _ => hown.frozenAt _) (fun u hu => List.all_eq_true.1 hu1 u hu)
      refine ⟨w.setCells g (m.toNat * s) (f b), (), by simp [execOp, ha.eval hx, ha.eval hy, elA, Instr.storeAt, Instr.sureAddr, storeVar, Value.cells, run_sizeOf_of (info_of_rowB hs), hlb, hadd, hrun], trivial, rfl, ?_⟩
      refine hw.turn hu rfl hst.2 ?_ fun b hb => .inl hb
      show World.ownsRow _ _ _ _ _ _ _
      rw [List.length_set]
      exact hst.1
theorem RS.storeElRow [Inhabited α] {b : α} {H' : List Hl} (h : RS P ops Q n L w0 H' rest) (hx : evO L x = some (elA v s m 0)) (hy : evO L y = some (.agg (f b).toArray)) (hu1 : (f b).all (·.oneCell') = true) (hu : Upd (Hl.rw v e f s l) (Hl.rw v e f s (l.set m.toNat b)) H H') (hm : 0 ≤ m ∧ m < l.length)
    (hf : ∀ a, (f a).length = s) (hs0 : Nat.blt 0 s = true) (hs : rowB P t s = true) :
    RS P ops Q n L w0 H (⟨none, .store t x y, ty, pos, af, none⟩ :: rest) := RS.actX rfl (x_storeElRow hx hy hu1 hu hm hf hs0 hs) fun _ _ => h
end
/-! ### Regions that draw their order and store: what reads memory comes up before the stores; what reads none may come up behind them -/
def freeB (o : Oper) : Bool := match o.op with
  | .move _ | .assign _ | .indexAddr .. | .fieldAddr .. | .extract .. | .binOp .. => true
  | _ => false
def lateF (md : Region.Mode) (ops : Array Oper) (j : Nat) : Bool := (List.range ops.size).all fun i => i == j || Region.waitsFor md ops j i || !((ops[i]?).map fun o => pureB o && !freeB o).getD false
section
variable {P : Program} {ops : Array Oper} {md : Region.Mode} {S : World → Prop} {Q : Exit → Act → World → Prop}
def wpAnyF (P : Program) (md : Region.Mode) (ops : Array Oper) (Q : Exit → Act → World → Prop) (S : World → Prop) : Nat → Array Bool → Act → World → Prop
  | 0, listed, a, w => Region.ready md ops listed = [] ∧ Q .normal a w
  | f + 1, listed, a, w => (Region.ready md ops listed = [] → Q .normal a w) ∧
    ∀ i ∈ Region.ready md ops listed, wpOp P ops Q i (fun a' w' => (lateF md ops i = false → S w → S w') ∧ wpAnyF P md ops Q S f (listed.setIfInBounds i true) a' w') a w
theorem wpAny_of_F : ∀ (f : Nat) (listed : Array Bool) (a : Act) (w : World), wpAnyF P md ops Q S f listed a w → wpAny P md ops Q f listed a w
  | 0, _, _, _, h => h
  | f + 1, _, _, _, h => ⟨h.1, fun i hi => wpOp_mono (fun a' w' h' => wpAny_of_F f _ a' w' h'.2) (h.2 i hi)⟩
theorem lateF_waits {i j : Nat} {oi : Oper} (hi : ops[i]? = some oi) (hp : pureB oi = true) (hq : freeB oi = false) (hne : i ≠ j) (hl : lateF md ops j = true) : Region.waitsFor md ops j i = true := by
  have hlt : i < ops.size := (Array.getElem?_eq_some_iff.1 hi).1
  have := List.all_eq_true.1 hl i (List.mem_range.2 hlt)
  simpa [hi, hp, hq, hne] using this
theorem wpAnyF_read {i : Nat} {oi : Oper} {v : Value} (hi : ops[i]? = some oi) (hp : pureB oi = true) (hq : freeB oi = false) (hsel : ∀ (j : Nat) (o : Oper) cs b, ops[j]? = some o → o.op ≠ .select cs b) (hQ : ∀ c a w, ¬ Q (.panic c) a w) :
    ∀ (f : Nat) (listed : Array Bool) (a : Act) (w : World),
      (∀ j oj, ops[j]? = some oj → j ≠ i → listed.getD j true = false → (∀ e ∈ oj.after, Region.binds md e = true → e.on ≠ i) → oi.apart ops oj = true) →
      i ∈ Region.ready md ops listed → YS P ops S oi v a → S w →
      wpAnyF P md ops Q S f (listed.setIfInBounds i true) (a.put oi.dst v) w → wpAnyF P md ops Q S (f + 1) listed a w
  | 0, listed, a, w, _, hr, hy, hS, hK => by
    refine ⟨fun h => (by rw [h] at hr; cases hr), fun j hj => ?_⟩
    by_cases e : j = i
    · subst e; exact hy.wpOp hi hS ⟨fun _ h => h, hK⟩
    · have := ready_mono hj e
      rw [hK.1] at this
      cases this
  | f + 1, listed, a, w, hfree, hr, hy, hS, hK => by
    refine ⟨fun h => (by rw [h] at hr; cases hr), fun j hj => ?_⟩
    by_cases e : j = i
    · subst e; exact hy.wpOp hi hS ⟨fun _ h => h, hK⟩
    · obtain ⟨hju, oj, hoj, hall⟩ := mem_ready.1 hj
      have hiu := getD_both (mem_ready.1 hr).1
      have hnot : ∀ e ∈ oj.after, Region.binds md e = true → e.on ≠ i := fun e he hb heq => by
        have h1 := hall e he hb
        rw [heq, hiu] at h1
        cases h1
      have hnl : lateF md ops j = false := by
        cases hl : lateF md ops j with
        | false => rfl
        | true =>
          obtain ⟨o', ho', e', he', hb', hon⟩ := Region.waitsFor_spec (lateF_waits hi hp hq (Ne.symm e) hl)
          have : o' = oj := Option.some.inj (ho'.symm.trans hoj)
          subst this
          exact absurd hon (hnot e' he' hb')
      have h2 := wpOp_putS hoj (hfree j oj hoj e hju hnot) (fun cs b => hsel i oi cs b hi) (fun cs b => hsel j oj cs b hoj) hQ hy (hK.2 j (ready_mono hj e))
      refine wpOp_mono (fun a' w' h3 => ⟨h3.2.1, wpAnyF_read hi hp hq hsel hQ f _ a' w' ?_ (ready_mono hr (Ne.symm e)) h3.1 (h3.2.1 hnl hS) ?_⟩) h2
      · intro k ok hk hki hku hno
        refine hfree k ok hk hki ?_ hno
        by_cases hjk : j = k
        · subst hjk; exact hju
        · rwa [getD_set_ne true hjk] at hku
      · rw [Array.setIfInBounds_comm _ _ e]
        exact h3.2.2
theorem wpAnyF_free {i : Nat} {oi : Oper} {v : Value} (hi : ops[i]? = some oi) (hsel : ∀ (j : Nat) (o : Oper) cs b, ops[j]? = some o → o.op ≠ .select cs b) (hQ : ∀ c a w, ¬ Q (.panic c) a w) :
    ∀ (f : Nat) (listed : Array Bool) (a : Act) (w : World),
      (∀ j oj, ops[j]? = some oj → j ≠ i → listed.getD j true = false → (∀ e ∈ oj.after, Region.binds md e = true → e.on ≠ i) → oi.apart ops oj = true) →
      i ∈ Region.ready md ops listed → YS P ops (fun _ => True) oi v a →
      wpAnyF P md ops Q S f (listed.setIfInBounds i true) (a.put oi.dst v) w → wpAnyF P md ops Q S (f + 1) listed a w
  | 0, listed, a, w, _, hr, hy, hK => by
    refine ⟨fun h => (by rw [h] at hr; cases hr), fun j hj => ?_⟩
    by_cases e : j = i
    · subst e; exact hy.wpOp hi trivial ⟨fun _ h => h, hK⟩
    · have := ready_mono hj e
      rw [hK.1] at this
      cases this
  | f + 1, listed, a, w, hfree, hr, hy, hK => by
    refine ⟨fun h => (by rw [h] at hr; cases hr), fun j hj => ?_⟩
    by_cases e : j = i
    · subst e; exact hy.wpOp hi trivial ⟨fun _ h => h, hK⟩
    · obtain ⟨hju, oj, hoj, hall⟩ := mem_ready.1 hj
      have hiu := getD_both (mem_ready.1 hr).1
      have hnot : ∀ e ∈ oj.after, Region.binds md e = true → e.on ≠ i := fun e he hb heq => by
        have h1 := hall e he hb
        rw [heq, hiu] at h1
        cases h1
      have h2 := wpOp_putS hoj (hfree j oj hoj e hju hnot) (fun cs b => hsel i oi cs b hi) (fun cs b => hsel j oj cs b hoj) hQ hy (hK.2 j (ready_mono hj e))
      refine wpOp_mono (fun a' w' h3 => ⟨h3.2.1, wpAnyF_free hi hsel hQ f _ a' w' ?_ (ready_mono hr (Ne.symm e)) h3.1 ?_⟩) h2
      · intro k ok hk hki hku hno
        refine hfree k ok hk hki ?_ hno
        by_cases hjk : j = k
        · subst hjk; exact hju
        · rwa [getD_set_ne true hjk] at hku
      · rw [Array.setIfInBounds_comm _ _ e]
        exact h3.2.2
theorem wp_region_F {id : Nat} {a : Act} {w : World} {l : List Oper} (hm : P.follows .mixedOrders = true) (h : wpAnyF P .any l.toArray (Calm Q) S l.length (Array.replicate l.length false) a w.drew) : (Code.region id l.toArray true).wp P Q a w := by
  refine Code.wp_mono Calm.out (wp_region_any hm (wpAny_of_F (S := S) _ _ _ _ ?_))
  simpa using h
end
section
variable {P : Program} {n : Nat} {L : FL} {w0 : World} {H HS : List Hl} {Q : Exit → Act → World → Prop} {ops : Array Oper} {ord : List Mv} {i d : Nat} {ty : TypeId} {pos : String} {af : Array Edge} {gd : Option (Nat × Bool)} {x y : Operand} {t e : TypeId} {α : Type} {f : α → List Value} {s : Nat} {l : List α} {v : Value} {m : Int} {o : Oper} {op : Op}
def RF (P : Program) (ops : Array Oper) (Q : Exit → Act → World → Prop) (HS : List Hl) (n : Nat) (L : FL) (w0 : World) (H : List Hl) (ord : List Mv) : Prop :=
  ∀ l0, mixedB .any ops ord [] l0 = true → Region.noSelect ops = true → ∀ f a w, cnt l0 ≤ f → Fr n L a → St w0 H w → wpAnyF P .any ops (Calm Q) (St w0 HS) f l0 a w
def VFr (P : Program) (n : Nat) (L : FL) (w0 : World) (H : List Hl) (o : Oper) (v : Value) : Prop := ∀ w, St w0 H w → ∀ a w', Fr n L a → (execOp a.eval o).run P w' = .ok (.value v) w'
theorem RF.step (h : RF P ops Q HS n ((d, v) :: L) w0 H ord) (ho : ops[i]? = some ⟨some d, op, ty, pos, af, none⟩ := by rfl) (hp : (pureB ⟨some d, op, ty, pos, af, none⟩ && !freeB ⟨some d, op, ty, pos, af, none⟩) = true := by rfl) (hs : ∀ w, St w0 H w → St w0 HS w) (hy : V P n L w0 HS ⟨some d, op, ty, pos, af, none⟩ v) (hd : Nat.blt d n = true := by rfl) :
    RF P ops Q HS n L w0 H (.go i :: ord) := by
  intro l0 hB hsel f a w hf ha hw
  simp only [Bool.and_eq_true, Bool.not_eq_true'] at hp
  simp only [mixedB, ho, hp.1, if_true, Bool.and_eq_true, Bool.not_eq_true', List.contains_iff_mem] at hB
  obtain ⟨⟨⟨⟨hr, hni⟩, hds⟩, hfr, _⟩, hB⟩ := hB
  obtain ⟨g, rfl, hg⟩ := cnt_ready hf hr
  refine wpAnyF_read ho hp.1 hp.2 (Region.noSelect_spec hsel) (fun c a w h => h) g l0 a w (Region.free_spec ho hfr) hr (.inl ⟨rfl, fun w hw => by unfold V at hy; exact hy a w ha hw⟩) (hs w hw) ?_
  exact h _ hB hsel g _ _ hg (ha.put (by simpa [Nat.blt_eq] using hd)) hw
theorem RF.free (h : RF P ops Q HS n ((d, v) :: L) w0 H ord) (ho : ops[i]? = some ⟨some d, op, ty, pos, af, none⟩ := by rfl) (hp : pureB ⟨some d, op, ty, pos, af, none⟩ = true := by rfl) (hy : VFr P n L w0 H ⟨some d, op, ty, pos, af, none⟩ v) (hd : Nat.blt d n = true := by rfl) :
    RF P ops Q HS n L w0 H (.go i :: ord) := by
  intro l0 hB hsel f a w hf ha hw
  simp only [mixedB, ho, hp, if_true, Bool.and_eq_true, Bool.not_eq_true', List.contains_iff_mem] at hB
  obtain ⟨⟨⟨⟨hr, hni⟩, hds⟩, hfr, _⟩, hB⟩ := hB
  obtain ⟨g, rfl, hg⟩ := cnt_ready hf hr
  refine wpAnyF_free ho (Region.noSelect_spec hsel) (fun c a w h => h) g l0 a w (Region.free_spec ho hfr) hr (.inl ⟨rfl, fun w' _ => hy w hw a w' ha⟩) ?_
  exact h _ hB hsel g _ _ hg (ha.put (by simpa [Nat.blt_eq] using hd)) hw
theorem RF.act {L' : FL} {H' : List Hl} (h : RF P ops Q HS n L' w0 H' ord) (ho : ops[i]? = some o) (hp : pureB o = false) (hg : o.guard = none) (he : EX P n L w0 H o (fun _ : Unit => True) (fun _ => L') (fun _ => H')) (hl : lateF .any ops i = true) : RF P ops Q HS n L w0 H (.go i :: ord) := by
  intro l0 hB hsel f a w hf ha hw
  simp only [mixedB, ho, hp, Bool.false_eq_true, if_false, Bool.and_eq_true, List.contains_iff_mem, subsB] at hB
  obtain ⟨⟨⟨⟨hr, hni⟩, hds⟩, hso⟩, hB⟩ := hB
  obtain ⟨g, rfl, hgc⟩ := cnt_ready hf hr
  refine ⟨fun e => (by rw [e] at hr; cases hr), fun k hk => ?_⟩
  have h3 := List.all_eq_true.1 hso k hk
  simp only [List.contains_nil, Bool.or_false, beq_iff_eq] at h3
  subst h3
  unfold wpOp
  rw [ho]
  simp only [Region.wanted, hg, if_true]
  refine .inl (he a w ha hw _ _ fun a' w' ⟨_, _, ha', hw'⟩ => ⟨fun hl' => (by rw [hl] at hl'; cases hl'), h _ hB hsel g a' w' hgc ha' hw'⟩)
theorem RF.call (h : RF P ops Q HS n ((d, v) :: L) w0 H ord) (ho : ops[i]? = some ⟨some d, op, ty, pos, af, none⟩ := by rfl) (hp : pureB ⟨some d, op, ty, pos, af, none⟩ = false := by rfl) (hs : ∀ w, St w0 H w → St w0 HS w) (hy : Y P n L w0 H ⟨some d, op, ty, pos, af, none⟩ v) (hd : Nat.blt d n = true := by rfl) :
    RF P ops Q HS n L w0 H (.go i :: ord) := by
  intro l0 hB hsel f a w hf ha hw
  simp only [mixedB, ho, hp, Bool.false_eq_true, if_false, Bool.and_eq_true, List.contains_iff_mem, subsB] at hB
  obtain ⟨⟨⟨⟨hr, hni⟩, hds⟩, hso⟩, hB⟩ := hB
  obtain ⟨g, rfl, hgc⟩ := cnt_ready hf hr
  refine ⟨fun e => (by rw [e] at hr; cases hr), fun k hk => ?_⟩
  have h3 := List.all_eq_true.1 hso k hk
  simp only [List.contains_nil, Bool.or_false, beq_iff_eq] at h3
  subst h3
  unfold wpOp
  rw [ho]
  simp only [Region.wanted, if_true]
  exact .inl (wp_of_Y hy ha hw fun w' hw' => ⟨fun _ _ => hs _ (hw.step hw'), h _ hB hsel g _ w' hgc (ha.put (by simpa [Nat.blt_eq] using hd)) (hw.step hw')⟩)
theorem RF.finish (h : X Q n L w0 H .normal) : RF P ops Q HS n L w0 H [] := by
  unfold X at h
  intro l0 hB hsel f a w hf ha hw
  simp only [mixedB, Bool.and_eq_true, List.isEmpty_iff] at hB
  cases f with
  | zero => exact ⟨hB.2, h a w ha hw⟩
  | succ f => exact ⟨fun _ => h a w ha hw, fun k hk => by rw [hB.2] at hk; cases hk⟩
theorem G.mixedF (id : Nat) (ord : List Mv) (HS : List Hl) {l : List Oper} (h : RF P l.toArray Q HS n L w0 H ord) (hm : P.follows .mixedOrders = true := by decide +kernel) (hB : regionB l ord = true := by decide +kernel) : G P Q n L w0 H (.region id l.toArray true) := by
  unfold G
  intro a w ha hw
  simp only [regionB, Bool.and_eq_true] at hB
  refine wp_region_F (S := St w0 HS) hm (h _ hB.2 hB.1 _ a w.drew ?_ ha hw.drew)
  refine Nat.le_trans (List.length_filter_le _ _) ?_
  simp
theorem vf_indexAddr {k : IntKind} (hx : evO L x = some v) (hy : evO L y = some (.int k m)) (h : RdT H v f s l) (hf : ∀ a, (f a).length = s) (hm : 0 ≤ m ∧ m < l.length) (hs : Nat.blt 0 s = true) (ht : sliceB P t s = true) :
    VFr P n L w0 H ⟨some d, .indexAddr t x y, ty, pos, af, gd⟩ (elA v s m 0) := fun w hw a w' ha => by
  obtain ⟨hl, A, c, rfl, _, hc, _⟩ := h _ _ hw
  obtain ⟨e, i, hu, hi, rfl⟩ := sliceB_spec ht
  have hs' : 0 < i.size := by simpa [Nat.blt_eq] using hs
  obtain ⟨ad, rfl, _⟩ := hc (flat_ne hf hs' hm)
  simp [execOp, ha.eval hx, ha.eval hy, Instr.indexAt, asIntOf, run_underlying hu, hm.1, hm.2, sizeOf, typeInfo, hi, elA]
theorem vf_of (h : ∀ w0, V P n L w0 [] o v) : VFr P n L w0 H o v := fun w _ a w' ha => by
  have := h w'
  unfold V at this
  exact this a w' ha ⟨Below.refl _ _, fun _ h => (by cases h), trivial⟩
def VFrK (P : Program) (n : Nat) (L : FL) (w0 : World) (H : List Hl) (o : Oper) (K : Value → Prop) : Prop := ∃ v, VFr P n L w0 H o v ∧ K v
theorem VFrK.mk {K : Value → Prop} (hy : VFr P n L w0 H o v) (h : K v) : VFrK P n L w0 H o K := ⟨v, hy, h⟩
theorem RF.stepK (ho : ops[i]? = some ⟨some d, op, ty, pos, af, none⟩) (hp : (pureB ⟨some d, op, ty, pos, af, none⟩ && !freeB ⟨some d, op, ty, pos, af, none⟩) = true) (hd : Nat.blt d n = true) (hs : ∀ w, St w0 H w → St w0 HS w) (h : VK P n L w0 HS ⟨some d, op, ty, pos, af, none⟩ fun v => RF P ops Q HS n ((d, v) :: L) w0 H ord) :
    RF P ops Q HS n L w0 H (.go i :: ord) := by
  unfold VK at h
  obtain ⟨v, h1, h2⟩ := h
  exact RF.step h2 ho hp hs h1 hd
theorem RF.freeK (ho : ops[i]? = some ⟨some d, op, ty, pos, af, none⟩) (hp : (pureB ⟨some d, op, ty, pos, af, none⟩ && freeB ⟨some d, op, ty, pos, af, none⟩) = true) (hd : Nat.blt d n = true) (h : VFrK P n L w0 H ⟨some d, op, ty, pos, af, none⟩ fun v => RF P ops Q HS n ((d, v) :: L) w0 H ord) :
    RF P ops Q HS n L w0 H (.go i :: ord) := by
  obtain ⟨v, h1, h2⟩ := h
  exact RF.free h2 ho (by simp only [Bool.and_eq_true] at hp; exact hp.1) h1 hd
theorem RF.callK (ho : ops[i]? = some ⟨some d, op, ty, pos, af, none⟩) (hp : pureB ⟨some d, op, ty, pos, af, none⟩ = false) (_hr : steadyB ⟨some d, op, ty, pos, af, none⟩ = true) (hd : Nat.blt d n = true) (hs : ∀ w, St w0 H w → St w0 HS w) (h : YK P n L w0 H ⟨some d, op, ty, pos, af, none⟩ fun v => RF P ops Q HS n ((d, v) :: L) w0 H ord) :
    RF P ops Q HS n L w0 H (.go i :: ord) := by
  unfold YK at h
  obtain ⟨v, h1, h2⟩ := h
  exact RF.call h2 ho hp hs h1 hd
theorem RF.storeA {b k : Nat} {cs : List Value} {H' : List Hl} {u : Value} {t' : TypeId} (ho : ops[i]? = some ⟨none, .store t x y, ty, pos, af, none⟩) (hx : evO L x = some (.pointer (some ⟨b, k, none⟩))) (hy : evO L y = some u) (hu : u.oneCell' = true)
    (hm : Upd (.blk b t' cs) (.blk b t' (cs.set k u)) H H') (hi : Nat.blt k cs.length = true) (hs : scalarB P t = true) (hl : lateF .any ops i = true) (h : RF P ops Q HS n L w0 H' ord) :
    RF P ops Q HS n L w0 H (.go i :: ord) := RF.act h ho rfl rfl (x_store hx hy hu hm hi hs) hl
theorem G.mixedFH (id : Nat) (ord : List Mv) {l : List Oper} (h : RF P l.toArray Q H n L w0 H ord) (hm : P.follows .mixedOrders = true := by decide +kernel) (hB : regionB l ord = true := by decide +kernel) : G P Q n L w0 H (.region id l.toArray true) := G.mixedF id ord H h hm hB
end
attribute [irreducible] RF VFrK
theorem nxVF {p q : Prop} (h : q) (s : q → p := by intro h; (show VFrK _ _ _ _ _ _ _); first
  | exact VFrK.mk (vf_of fun _ => vAuto) h
  | (apply VFrK.mk; (case hy => apply vf_indexAddr; (case hx => rfl); (case hy => rfl); (case h => exact rdA); (case hf => exact fun _ => rfl); (case hm => clear h; exact omlA); (case hs => rfl); (case ht => decide +kernel)); (case h => exact h))) : p := s h
theorem nxRF {p q : Prop} (h : q) (s : q → p := by intro h; (show RF _ _ _ _ _ _ _ _ _); first
  | (apply RF.freeK; (case ho => exact rfl); (case hp => exact rfl); (case hd => exact rfl); (case h => exact h))
  | (apply RF.stepK; (case ho => exact rfl); (case hp => exact rfl); (case hd => exact rfl); (case hs => exact subA); (case h => exact h))
  | (apply RF.callK; (case ho => exact rfl); (case hp => exact rfl); (case _hr => exact rfl); (case hd => exact rfl); (case hs => exact subA); (case h => exact h))
  | (apply RF.storeA; (case ho => rfl); (case hx => rfl); (case hy => rfl); (case hu => rfl); (case hm => exact updA); (case hi => rfl); (case hs => decide +kernel); (case hl => decide +kernel); (case h => exact h))
  | (apply RF.storeRowA; (case ho => rfl); (case hx => rfl); (case hy => rfl); (case hu => rfl); (case hm => exact updA); (case hlc => (repeat (first | exact .nil | apply LenIs.cons))); (case hl2 => (repeat (first | exact .nil | apply LenIs.cons))); (case hs => decide +kernel); (case hl => decide +kernel); (case h => exact h))
  | (apply RF.finish; exact h)) : p := s h
end Go.Proofs.YtjmdeplmenbmmaaGreatDoor
