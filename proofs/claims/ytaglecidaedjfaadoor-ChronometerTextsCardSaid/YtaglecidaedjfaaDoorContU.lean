/- Functions that turn a slice of the caller's, or hand on one of their own: contracts. -/
import Derived.Test.YtaglecidaedjfaaDoorStep
set_option linter.unusedVariables false
set_option maxHeartbeats 4000000
namespace Go.Proofs.YtaglecidaedjfaaDoor
open Go.RowKit

/-- The heaplet x stands in the list, between A and B. -/
inductive At (x : Hl) : List Hl → List Hl → List Hl → Prop
  | here {B : List Hl} : At x [] B (x :: B)
  | there {h : Hl} {A B H : List Hl} : At x A B H → At x (h :: A) B (h :: H)
theorem At.mem {x : Hl} {A B H : List Hl} (h : At x A B H) : x ∈ H := by
  induction h with
  | here => exact List.mem_cons_self
  | there _ ih => exact List.mem_cons_of_mem _ ih
theorem At.subset {x y : Hl} {A B H : List Hl} (h : At x A B H) (hy : y ∈ x :: (A ++ B)) : y ∈ H := by
  induction h with
  | here => simpa using hy
  | there h ih =>
    rcases List.mem_cons.1 hy with rfl | hy
    · exact List.mem_cons_of_mem _ (ih List.mem_cons_self)
    · rcases List.mem_cons.1 hy with rfl | hy
      · exact List.mem_cons_self
      · exact List.mem_cons_of_mem _ (ih (List.mem_cons_of_mem _ hy))
theorem At.apart {x : Hl} {A B H : List Hl} (h : At x A B H) (ha : allApart H) : allApart (x :: (A ++ B)) := by
  induction h with
  | here => exact ha
  | @there z A B H h ih =>
    obtain ⟨h1, h2⟩ := ha
    obtain ⟨h3, h4⟩ := ih h2
    refine ⟨fun y hy b hb ho => ?_, fun y hy b hb ho => ?_, h4⟩
    · rcases List.mem_cons.1 hy with rfl | hy
      · exact (h1 x h.mem b ho hb).symm
      · exact h3 y hy b hb ho
    · exact h1 y (h.subset (List.mem_cons_of_mem _ hy)) b hb ho
theorem St.front {w0 w : World} {x : Hl} {A B H : List Hl} (h : At x A B H) (hw : St w0 H w) : St w0 (x :: (A ++ B)) w :=
  ⟨hw.ext, fun y hy => hw.all y (h.subset hy), h.apart hw.apart⟩
/-- A contract that turns the heaplet X of the caller's, whatever else stands beside it: Y z stands in its place. -/
def ContU (P : Program) (X : Hl) (f : FuncId) (args : List Value) {ι : Type} (post : ι → Prop) (v : ι → Value) (Y : ι → List Hl) : Prop :=
  ∀ w0 HR w, St w0 (X :: HR) w → Calls P f args.toArray w fun e w' => ∃ z, post z ∧ e = .returned (v z) ∧ St w0 (Y z ++ HR) w'
section
variable {P : Program} {n : Nat} {L : FL} {w0 : World} {H HS : List Hl} {Q : Exit → Act → World → Prop} {ops : Array Oper} {rest : List Oper} {ord : List Mv} {ps : List Pd} {d dd i : Nat} {ty : TypeId} {pos : String} {af : Array Edge} {gd : Option (Nat × Bool)} {x y z q : Operand} {t e : TypeId} {ι α : Type} {f : α → List Value} {s bytes : Nat} {l l' : List α} {u v : Value} {k k' k'' : IntKind} {m m' m'' : Int}
theorem enterU {f : FuncId} {fn : Func} {c : Code} {vs : List Value} {w : World} {R : Ending → World → Prop} (hf : P.funcs[f]? = some fn) (hb : fn.body = some c) (hn : fn.ntmps = n) (hl : Nat.ble vs.length n = true) (hw : St w0 H w)
    (h : G P (bodyPost P fn R) n (argsL 0 vs) w0 H c) : Calls P f vs.toArray w R := by
  unfold G at h
  refine calls_of_wp hf hb (h _ _ ⟨?_, rfl, fun i v hi => ?_⟩ hw)
  · have := Nat.le_of_ble_eq_true hl
    simp [hn]; omega
  · have := (lk_argsL vs 0 i v hi).2
    have hlt := (List.getElem?_eq_some_iff.1 this).1
    simp at this
    have hlt' : i < vs.length := by omega
    have h2 := (List.getElem?_eq_some_iff.1 this).2
    simpa [Array.getElem?_append, hlt'] using h2
theorem x_callU {X : Hl} {A B : List Hl} {f : FuncId} {xs : List Operand} {vs : List Value} {tys : Array TypeId} {post : ι → Prop} {v : ι → Value} {Y : ι → List Hl} (hc : ContU P X f vs post v Y) (ha : AE L xs vs) (hA : At X A B H) (hg : isGo P f = true) (hd : Nat.blt dd n = true) :
    EX P n L w0 H ⟨some dd, .call { callee := .value (.func f), args := xs.toArray, argTypes := tys }, ty, pos, af, gd⟩ post (fun z => (dd, v z) :: L) (fun z => Y z ++ (A ++ B)) := fun a w hfr hw K Q hK => by
  unfold Oper.wp
  rw [run_call hfr ha hg]
  refine (hc w0 (A ++ B) w (St.front hA hw)).mono ?_
  rintro e w' ⟨z, hz, rfl, hs⟩
  exact hK _ _ ⟨z, hz, hfr.put (by simpa [Nat.blt_eq] using hd), hs⟩
theorem RS.callU {X : Hl} {A B : List Hl} {f : FuncId} {xs : List Operand} {vs : List Value} {tys : Array TypeId} {post : ι → Prop} {v : ι → Value} {Y : ι → List Hl} (hc : ContU P X f vs post v Y) (ha : AE L xs vs) (h : ∀ z, post z → RS P ops Q n ((dd, v z) :: L) w0 (Y z ++ (A ++ B)) rest)
    (hA : At X A B H := by first | exact .here | exact .there .here | exact .there (.there .here) | exact .there (.there (.there .here)) | exact .there (.there (.there (.there .here))) | exact .there (.there (.there (.there (.there .here)))))
    (hg : isGo P f = true := by decide +kernel) (hd : Nat.blt dd n = true := by rfl) :
    RS P ops Q n L w0 H (⟨some dd, .call { callee := .value (.func f), args := xs.toArray, argTypes := tys }, ty, pos, af, none⟩ :: rest) := RS.actX rfl (x_callU hc ha hA hg hd) h
/-- The same where the callee leans on something that the caller's frame gives. -/
def ContC (P : Program) (C : World → Prop) (X : Hl) (f : FuncId) (args : List Value) {ι : Type} (post : ι → Prop) (v : ι → Value) (Y : ι → List Hl) : Prop :=
  ∀ w0 HR, (∀ w, St w0 HR w → C w) → ∀ w, St w0 (X :: HR) w → Calls P f args.toArray w fun e w' => ∃ z, post z ∧ e = .returned (v z) ∧ St w0 (Y z ++ HR) w'
theorem x_callC {C : World → Prop} {X : Hl} {A B : List Hl} {f : FuncId} {xs : List Operand} {vs : List Value} {tys : Array TypeId} {post : ι → Prop} {v : ι → Value} {Y : ι → List Hl} (hc : ContC P C X f vs post v Y) (ha : AE L xs vs) (hA : At X A B H) (hC : ∀ w, St w0 (A ++ B) w → C w) (hg : isGo P f = true) (hd : Nat.blt dd n = true) :
    EX P n L w0 H ⟨some dd, .call { callee := .value (.func f), args := xs.toArray, argTypes := tys }, ty, pos, af, gd⟩ post (fun z => (dd, v z) :: L) (fun z => Y z ++ (A ++ B)) := fun a w hfr hw K Q hK => by
  unfold Oper.wp
  rw [run_call hfr ha hg]
  refine (hc w0 (A ++ B) hC w (St.front hA hw)).mono ?_
  rintro e w' ⟨z, hz, rfl, hs⟩
  exact hK _ _ ⟨z, hz, hfr.put (by simpa [Nat.blt_eq] using hd), hs⟩
theorem RS.callC {C : World → Prop} {X : Hl} {A B : List Hl} {f : FuncId} {xs : List Operand} {vs : List Value} {tys : Array TypeId} {post : ι → Prop} {v : ι → Value} {Y : ι → List Hl} (hc : ContC P C X f vs post v Y) (ha : AE L xs vs) (hC : ∀ w, St w0 (A ++ B) w → C w) (h : ∀ z, post z → RS P ops Q n ((dd, v z) :: L) w0 (Y z ++ (A ++ B)) rest)
    (hA : At X A B H := by first | exact .here | exact .there .here | exact .there (.there .here) | exact .there (.there (.there .here)) | exact .there (.there (.there (.there .here))))
    (hg : isGo P f = true := by decide +kernel) (hd : Nat.blt dd n = true := by rfl) :
    RS P ops Q n L w0 H (⟨some dd, .call { callee := .value (.func f), args := xs.toArray, argTypes := tys }, ty, pos, af, none⟩ :: rest) := RS.actX rfl (x_callC hc ha hA hC hg hd) h
end
end Go.Proofs.YtaglecidaedjfaaDoor
