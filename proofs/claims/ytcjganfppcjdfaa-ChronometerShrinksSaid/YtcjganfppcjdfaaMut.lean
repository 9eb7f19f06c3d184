/- Functions that turn a slice of the caller's: contracts, and slices.Clone, slices.Delete at comparisons. -/
import Derived.Test.YtcjganfppcjdfaaTruth
import Derived.Maps.AppendAt
set_option linter.unusedVariables false
set_option maxHeartbeats 4000000
namespace Go.Proofs.Ytcjganfppcjdfaa
open Go.RowKit

/-- The heaplet x stands in the list, between A and B. -/
inductive At (x : Hl) : List Hl → List Hl → List Hl → Prop
  | here {B : List Hl} : At x [] B (x :: B)
  | there {h : Hl} {A B H : List Hl} : At x A B H → At x (h :: A) B (h :: H)
theorem At.mem {x : Hl} {A B H : List Hl} (h : At x A B H) : x ∈ H := by
  induction h with
  | here => exact List.mem_cons_self
  | there _ ih => exact List.mem_cons_of_mem _ ih
theorem At.subset {x y : Hl} {A B H : List Hl} (h : At x A B H) (hy : y ∈ x :: (A ++ B)) : y ∈ H := by
  induction h with
  | here => simpa using hy
  | there h ih =>
    rcases List.mem_cons.1 hy with rfl | hy
    · exact List.mem_cons_of_mem _ (ih List.mem_cons_self)
    · rcases List.mem_cons.1 hy with rfl | hy
      · exact List.mem_cons_self
      · exact List.mem_cons_of_mem _ (ih (List.mem_cons_of_mem _ hy))
theorem At.apart {x : Hl} {A B H : List Hl} (h : At x A B H) (ha : allApart H) : allApart (x :: (A ++ B)) := by
  induction h with
  | here => exact ha
  | @there z A B H h ih =>
    obtain ⟨h1, h2⟩ := ha
    obtain ⟨h3, h4⟩ := ih h2
    refine ⟨fun y hy b hb ho => ?_, fun y hy b hb ho => ?_, h4⟩
    · rcases List.mem_cons.1 hy with rfl | hy
      · exact (h1 x h.mem b ho hb).symm
      · exact h3 y hy b hb ho
    · exact h1 y (h.subset (List.mem_cons_of_mem _ hy)) b hb ho
theorem St.front {w0 w : World} {x : Hl} {A B H : List Hl} (h : At x A B H) (hw : St w0 H w) : St w0 (x :: (A ++ B)) w :=
  ⟨hw.ext, fun y hy => hw.all y (h.subset hy), h.apart hw.apart⟩
/-- A contract that turns the heaplet X of the caller's, whatever else stands beside it: Y z stands in its place. -/
def ContU (P : Program) (X : Hl) (f : FuncId) (args : List Value) {ι : Type} (post : ι → Prop) (v : ι → Value) (Y : ι → List Hl) : Prop :=
  ∀ w0 HR w, St w0 (X :: HR) w → Calls P f args.toArray w fun e w' => ∃ z, post z ∧ e = .returned (v z) ∧ St w0 (Y z ++ HR) w'
section
variable {P : Program} {n : Nat} {L : FL} {w0 : World} {H HS : List Hl} {Q : Exit → Act → World → Prop} {ops : Array Oper} {rest : List Oper} {ord : List Mv} {ps : List Pd} {d dd i : Nat} {ty : TypeId} {pos : String} {af : Array Edge} {gd : Option (Nat × Bool)} {x y z q : Operand} {t e : TypeId} {ι α : Type} {f : α → List Value} {s bytes : Nat} {l l' : List α} {u v : Value} {k k' k'' : IntKind} {m m' m'' : Int}
theorem enterU {f : FuncId} {fn : Func} {c : Code} {vs : List Value} {w : World} {R : Ending → World → Prop} (hf : P.funcs[f]? = some fn) (hb : fn.body = some c) (hn : fn.ntmps = n) (hl : Nat.ble vs.length n = true) (hw : St w0 H w)
    (h : G P (bodyPost P fn R) n (argsL 0 vs) w0 H c) : Calls P f vs.toArray w R := by
  unfold G at h
  refine calls_of_wp hf hb (h _ _ ⟨?_, rfl, fun i v hi => ?_⟩ hw)
  · have := Nat.le_of_ble_eq_true hl
    simp [hn]; omega
  · have := (lk_argsL vs 0 i v hi).2
    have hlt := (List.getElem?_eq_some_iff.1 this).1
    simp at this
    have hlt' : i < vs.length := by omega
    have h2 := (List.getElem?_eq_some_iff.1 this).2
    simpa [Array.getElem?_append, hlt'] using h2
theorem x_callU {X : Hl} {A B : List Hl} {f : FuncId} {xs : List Operand} {vs : List Value} {tys : Array TypeId} {post : ι → Prop} {v : ι → Value} {Y : ι → List Hl} (hc : ContU P X f vs post v Y) (ha : AE L xs vs) (hA : At X A B H) (hg : isGo P f = true) (hd : Nat.blt dd n = true) :
    EX P n L w0 H ⟨some dd, .call { callee := .value (.func f), args := xs.toArray, argTypes := tys }, ty, pos, af, gd⟩ post (fun z => (dd, v z) :: L) (fun z => Y z ++ (A ++ B)) := fun a w hfr hw K Q hK => by
  unfold Oper.wp
  rw [run_call hfr ha hg]
  refine (hc w0 (A ++ B) w (St.front hA hw)).mono ?_
  rintro e w' ⟨z, hz, rfl, hs⟩
  exact hK _ _ ⟨z, hz, hfr.put (by simpa [Nat.blt_eq] using hd), hs⟩
theorem RS.callU {X : Hl} {A B : List Hl} {f : FuncId} {xs : List Operand} {vs : List Value} {tys : Array TypeId} {post : ι → Prop} {v : ι → Value} {Y : ι → List Hl} (hc : ContU P X f vs post v Y) (ha : AE L xs vs) (h : ∀ z, post z → RS P ops Q n ((dd, v z) :: L) w0 (Y z ++ (A ++ B)) rest)
    (hA : At X A B H := by first | exact .here | exact .there .here | exact .there (.there .here) | exact .there (.there (.there .here)) | exact .there (.there (.there (.there .here))) | exact .there (.there (.there (.there (.there .here)))))
    (hg : isGo P f = true := by decide +kernel) (hd : Nat.blt dd n = true := by rfl) :
    RS P ops Q n L w0 H (⟨some dd, .call { callee := .value (.func f), args := xs.toArray, argTypes := tys }, ty, pos, af, none⟩ :: rest) := RS.actX rfl (x_callU hc ha hA hg hd) h

/-! A slice whose parts are known is cut. -/
variable {A : Option Addr} {n0 c : Nat}
theorem y_sliceX2 (hx : evO L x = some (.slice A n0 c)) (hy : evO L y = some (.int k m)) (hz : evO L z = some (.int k' m')) (hs : sliceB P t s = true) (hm : 0 ≤ m ∧ m ≤ m' ∧ m' ≤ c) :
    V P n L w0 H ⟨some d, .slice t x (some y) (some z) none, ty, pos, af, gd⟩ (sliced A m.toNat m'.toNat c s) := by
  unfold V
  intro a w ha hw
  obtain ⟨e, i, hu, hi, rfl⟩ := sliceB_spec hs
  have h1 := run_sliceBound (P := P) (w := w) k' m' c .sliceAcap (by omega) (by omega)
  have h2 := run_sliceBound (P := P) (w := w) k m m'.toNat .sliceB hm.1 (by omega)
  simp [execOp, ha.eval hx, ha.eval hy, ha.eval hz, Instr.sliceAt, Instr.slice, Instr.sliceBounds, run_underlying hu, h1, h2, sizeOf, typeInfo, hi, sliced]
theorem sliced0 (A : Option Addr) (h m s : Nat) : sliced A 0 h m s = .slice A h m := by
  have e : ∀ a : Addr, a.add 0 = a := fun a => by unfold Addr.add; split <;> simp_all
  cases A <;> simp [sliced, e]
theorem y_sliceXH (hx : evO L x = some (.slice A n0 c)) (hz : evO L z = some (.int k' m')) (hs : sliceB P t s = true) (hm : 0 ≤ m' ∧ m' ≤ c) :
    V P n L w0 H ⟨some d, .slice t x none (some z) none, ty, pos, af, gd⟩ (.slice A m'.toNat c) := by
  rw [← sliced0 A m'.toNat c s]
  unfold V
  intro a w ha hw
  obtain ⟨e, i, hu, hi, rfl⟩ := sliceB_spec hs
  have h1 := run_sliceBound (P := P) (w := w) k' m' c .sliceAcap (by omega) (by omega)
  simp [execOp, ha.eval hx, ha.eval hz, Instr.sliceAt, Instr.slice, Instr.sliceBounds, run_underlying hu, h1, sizeOf, typeInfo, hi, sliced]
theorem y_sliceXL (hx : evO L x = some (.slice A n0 c)) (hy : evO L y = some (.int k m)) (hs : sliceB P t s = true) (hm : 0 ≤ m ∧ m ≤ n0 ∧ n0 ≤ c) :
    V P n L w0 H ⟨some d, .slice t x (some y) none none, ty, pos, af, gd⟩ (sliced A m.toNat n0 c s) := by
  unfold V
  intro a w ha hw
  obtain ⟨e, i, hu, hi, rfl⟩ := sliceB_spec hs
  have h1 := run_sliceBound (P := P) (w := w) k m n0 .sliceB hm.1 (by omega)
  simp [execOp, ha.eval hx, ha.eval hy, Instr.sliceAt, Instr.slice, Instr.sliceBounds, run_underlying hu, h1, sizeOf, typeInfo, hi, sliced]
theorem y_sliceX3 (hx : evO L x = some (.slice A n0 c)) (hy : evO L y = some (.int k m)) (hz : evO L z = some (.int k' m')) (hq : evO L q = some (.int k'' m'')) (hs : sliceB P t s = true) (hm : 0 ≤ m ∧ m ≤ m' ∧ m' ≤ m'' ∧ m'' ≤ c) :
    V P n L w0 H ⟨some d, .slice t x (some y) (some z) (some q), ty, pos, af, gd⟩ (sliced A m.toNat m'.toNat m''.toNat s) := by
  unfold V
  intro a w ha hw
  obtain ⟨e, i, hu, hi, rfl⟩ := sliceB_spec hs
  have h1 := run_sliceBound (P := P) (w := w) k'' m'' c .slice3Acap (by omega) (by omega)
  have h2 := run_sliceBound (P := P) (w := w) k' m' m''.toNat .slice3B (by omega) (by omega)
  have h3 := run_sliceBound (P := P) (w := w) k m m'.toNat .slice3C hm.1 (by omega)
  simp [execOp, ha.eval hx, ha.eval hy, ha.eval hz, ha.eval hq, Instr.sliceAt, Instr.slice, Instr.sliceBounds, run_underlying hu, h1, h2, h3, sizeOf, typeInfo, hi, sliced]
variable {g j cap nn : Nat}
/-- The first j of a row, as a row. -/
theorem own_cut {w : World} {base : Nat} (hf : ∀ a, (f a).length = s) (h : w.ownsRow base e s (.slice (some ⟨g, 0, none⟩) nn cap) l.length (l.flatMap f)) (hj : j ≤ l.length) : nn = l.length ∧ l.length ≤ cap ∧ w.ownsRow base e s (.slice (some ⟨g, 0, none⟩) j cap) j ((l.take j).flatMap f) := by
  rcases h.2 with ⟨h', _⟩ | ⟨g', cap', cur, h', hb, hg, hnc, hcm, hcs, htake⟩
  · simp at h'
  · simp only [Value.slice.injEq, Option.some.injEq, Addr.mk.injEq, and_true, true_and] at h'
    obtain ⟨rfl, rfl, rfl⟩ := h'
    refine ⟨rfl, hnc, by rw [flat_len hf, List.length_take, Nat.min_eq_left hj], .inr ⟨g, cap, cur, rfl, hb, hg, by omega, hcm, hcs, ?_⟩⟩
    rw [← flat_take hf, ← htake, List.take_take, Nat.min_eq_left (Nat.mul_le_mul_right _ hj)]
/-- append onto the first elements of a row, where there is room. -/
theorem x_appendF {m c : Nat} {A : Option Addr} {H' : List Hl} (hx : evO L x = some (.slice (some ⟨g, 0, none⟩) j cap)) (hy : evO L y = some (.slice A l'.length c)) (hA : ∃ ad, A = some ad) (hr : RdT H (.slice A l'.length c) f s l') (hf : ∀ a, (f a).length = s) (h1 : ∀ a, (f a).all (·.oneCell') = true)
    (hu : Upd (Hl.rw (.slice (some ⟨g, 0, none⟩) nn cap) e f s l) (Hl.rw (.slice (some ⟨g, 0, none⟩) (j + l'.length) cap) e f s (l.take j ++ l')) H H') (hj : j ≤ l.length) (hb : j + l'.length ≤ l.length) (ht : rowTyB P t e s bytes = true) (hd : Nat.blt dd n = true) :
    EX P n L w0 H ⟨some dd, .call { callee := .builtin .append, args := #[x, y], argTypes := #[t, t] }, ty, pos, af, gd⟩ (fun _ : Unit => True) (fun _ => (dd, .slice (some ⟨g, 0, none⟩) (j + l'.length) cap) :: L) (fun _ => H') :=
  EX.of_run (fun a w ha hw => by
    obtain ⟨i, z, hu1, hi, hz, hs, hby, hzs, h0⟩ := rowTyB_spec ht
    obtain ⟨ad, rfl⟩ := hA
    obtain ⟨h2, h3, h4⟩ := own_cut hf (hw.all _ hu.mem) hj
    obtain ⟨hl, A', c', he, hnc, hcells, _⟩ := hr _ _ hw
    simp only [Value.slice.injEq] at he
    obtain ⟨he1, _, he3⟩ := he
    subst he1 he3
    obtain ⟨w', hr1, h5, h6⟩ := run_append_fits (P := P) w w0.heap.size t ty e i s hu1 hi hs g j cap _ h4 ad l'.length c (l'.flatMap f) hl (fun j u hju => by
      obtain ⟨ad', e', hh⟩ := hcells (fun hn => by rw [hn] at hju; cases hju)
      cases e'
      exact hh j u hju) (flat_one h1 l') (by omega)
    refine ⟨_, w', (), by simp [execOp, resolve, invoke, builtin, ha.eval hx, ha.eval hy, hr1], trivial, rfl, hw.turn hu rfl h6 ?_ fun b hb => .inl hb⟩
    show w'.ownsRow _ _ _ _ _ _
    rw [List.length_append, List.length_take, Nat.min_eq_left hj, List.flatMap_append]
    exact h5) hd
/-- Cells behind the row's elements may be stored into. -/
theorem own_setCells {base : Nat} {xs : List Value} {nl : Nat} : ∀ (us : List Value) (o : Nat) (w : World), w.ownsRow base e s (.slice (some ⟨g, 0, none⟩) nl cap) nl xs → nl * s ≤ o → (w.setCells g o us).ownsRow base e s (.slice (some ⟨g, 0, none⟩) nl cap) nl xs ∧ w.grownBy (w.setCells g o us) (some g)
  | [], o, w, h, _ => ⟨h, World.grownBy.refl w _⟩
  | u :: r, o, w, h, ho => by
    obtain ⟨h1, h2⟩ := h.stored o u
    rw [List.set_eq_of_length_le (by rw [h.1]; omega)] at h1
    obtain ⟨h3, h4⟩ := own_setCells r (o + 1) _ h1 (by omega)
    exact ⟨h3, h2.trans h4⟩
theorem own_cell {w : World} {base nl : Nat} {xs : List Value} (h : w.ownsRow base e s (.slice (some ⟨g, 0, none⟩) nl cap) nl xs) {o : Nat} (ho : o < cap * s) : (w.cell? ⟨g, o, none⟩).isSome = true := by
  rcases h.2 with ⟨h', _⟩ | ⟨g', cap', cur, h', hb, hg, hnc, hcm, hcs, htake⟩
  · simp at h'
  · simp only [Value.slice.injEq, Option.some.injEq, Addr.mk.injEq, and_true, true_and] at h'
    obtain ⟨rfl, rfl⟩ := h'
    rw [cell_of_row w g o cur e (0, 0) hg]
    simp [hcs, ho]
theorem upd_self {y : Hl} : ∀ {H : List Hl}, y ∈ H → Upd y y H H
  | h :: r, hm => by
    rcases List.mem_cons.1 hm with rfl | hm
    · exact .here _
    · exact .there _ (upd_self hm)
/-- clear of elements behind a row's. -/
theorem x_clear {p q : Nat} {z : Value} (hx : evO L x = some (sliced (some ⟨g, 0, none⟩) p q cap s)) (hm : Hl.rw (.slice (some ⟨g, 0, none⟩) nn cap) e f s l ∈ H) (hf : ∀ a, (f a).length = s) (hp : l.length ≤ p ∧ p < q ∧ q ≤ cap) (hz : zeroOf P e = some z) (h1 : z.cells.toList.all (·.oneCell') = true) (ht : rowTyB P t e s bytes = true) :
    EX P n L w0 H ⟨none, .call { callee := .builtin .clear, args := #[x], argTypes := #[t] }, ty, pos, af, gd⟩ (fun _ : Unit => True) (fun _ => L) (fun _ => H) := fun a w ha hw K Q hK => by
  obtain ⟨i, z', hu1, hi, hz', hs, hby, hzs, h0⟩ := rowTyB_spec ht
  have ez : z' = z := by
    unfold zeroOf at hz
    simpa [hi, hz'] using hz
  subst ez
  obtain ⟨h2, h3, h4⟩ := own_cut (j := l.length) hf (hw.all _ hm) (Nat.le_refl _)
  rw [List.take_length] at h4
  subst h2
  have hps : l.length * s ≤ p * s := Nat.mul_le_mul_right _ hp.1
  have hqs : p * s + (q - p) * s ≤ cap * s := by rw [← Nat.add_mul]; exact Nat.mul_le_mul_right _ (by omega)
  have hadd : (⟨g, 0, none⟩ : Addr).add (p * s) = ⟨g, p * s, none⟩ := by unfold Addr.add; split <;> simp_all
  have hlen : (Builtin.zeroCells z'.cells (q - p)).toList.length = (q - p) * s := by simp [Builtin.zeroCells, hzs]
  have hst := run_storeCells_cells (P := P) g (p * s) (Builtin.zeroCells z'.cells (q - p)).toList 0 w (fun j hj => own_cell h4 (by omega)) (fun j hj => h4.frozenAt _) (fun u hu => by
    simp only [Builtin.zeroCells, Array.toList_map, List.mem_map] at hu
    obtain ⟨i, _, rfl⟩ := hu
    have hlt : i % z'.cells.size < z'.cells.size := Nat.mod_lt _ (by omega)
    rw [getElem!_pos z'.cells _ hlt]
    exact List.all_eq_true.1 h1 _ (Array.getElem_mem_toList hlt))
  simp only [Nat.add_zero] at hst
  obtain ⟨h5, h6⟩ := own_setCells (Builtin.zeroCells z'.cells (q - p)).toList (p * s) w h4 hps
  have hzv : (zeroValue e).run P w = .ok z' w := by simp [zeroValue, typeInfo, hi, hz']
  have hcp : ¬ cap = p := by omega
  obtain ⟨r, hr⟩ : ∃ r, q - p = r + 1 := ⟨q - p - 1, by omega⟩
  have hrun : (Builtin.clear_ #[t] ty #[.slice (some ⟨g, p * s, none⟩) (q - p) (cap - p)]).run P w = .ok (.tuple #[]) (w.setCells g (p * s) (Builtin.zeroCells z'.cells (q - p)).toList) := by
    rw [hr] at hst ⊢
    simp [Builtin.clear_, run_underlying hu1, hzv, hst]
  have hval : a.eval x = .slice (some ⟨g, p * s, none⟩) (q - p) (cap - p) := by
    rw [ha.eval hx]
    simp [sliced, hcp, hadd]
  have he : (execOp a.eval ⟨none, .call { callee := .builtin .clear, args := #[x], argTypes := #[t] }, ty, pos, af, gd⟩).run P w = .ok (.value (.tuple #[])) (w.setCells g (p * s) (Builtin.zeroCells z'.cells (q - p)).toList) := by
    simp [execOp, resolve, invoke, builtin, hval, hrun]
  unfold Oper.wp
  rw [he]
  refine hK _ _ ⟨(), trivial, ha, ?_⟩
  exact hw.turn (upd_self hm) rfl h6 h5 fun b hb => .inl hb
end
end Go.Proofs.Ytcjganfppcjdfaa
