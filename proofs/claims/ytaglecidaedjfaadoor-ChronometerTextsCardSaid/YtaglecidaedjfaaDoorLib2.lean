/- The library's Split and Atoi in this walk's words; contracts that lean on what the variables hold and bring new slices. -/
import Derived.Test.YtaglecidaedjfaaDoorLib
import Derived.Lib.AtoiErrMem
import Derived.Stop.IfaceNil
import Derived.Lib.Split
import Derived.Lib.SplitLaws
import Derived.Lib.CountLaws
set_option linter.unusedVariables false
set_option maxHeartbeats 4000000
namespace Go.Proofs.YtaglecidaedjfaaDoor
open Go.RowKit

/-- As ContX, under a fact on the world that stays. -/
def ContXI (P : Program) (C : World → Prop) (f : FuncId) (args : List Value) {ι : Type} (post : ι → Prop) (v : ι → Value) (Hn : ι → List Hl) : Prop :=
  ∀ w, C w → Calls P f args.toArray w (RetX post v Hn w)
section
variable {P : Program} {C : World → Prop} {n : Nat} {L : FL} {w0 : World} {H : List Hl} {Q : Exit → Act → World → Prop} {ops : Array Oper} {rest : List Oper} {d : Option Tmp} {dd : Nat} {ty : TypeId} {pos : String} {af : Array Edge} {gd g : Option (Nat × Bool)} {x : Operand} {t t' : TypeId} {ι : Type} {te : TypeId} {p : Value}
theorem x_callI {f : FuncId} {xs : List Operand} {vs : List Value} {tys : Array TypeId} {post : ι → Prop} {v : ι → Value} {Hn : ι → List Hl} (hc : ContXI P C f vs post v Hn) (ha : AE L xs vs) (hC : ∀ w, St w0 H w → C w) (hg : isGo P f = true) (hd : Nat.blt dd n = true) :
    EX P n L w0 H ⟨some dd, .call { callee := .value (.func f), args := xs.toArray, argTypes := tys }, ty, pos, af, gd⟩ post (fun z => (dd, v z) :: L) (fun z => Hn z ++ H) := fun a w hfr hw K Q hK => by
  unfold Oper.wp
  rw [run_call hfr ha hg]
  refine (hc w (hC w hw)).mono ?_
  rintro e w' ⟨z, hz, rfl, hb, hn⟩
  exact hK _ _ ⟨z, hz, hfr.put (by simpa [Nat.blt_eq] using hd), hw.news hb hn⟩
theorem RS.callI {f : FuncId} {xs : List Operand} {vs : List Value} {tys : Array TypeId} {post : ι → Prop} {v : ι → Value} {Hn : ι → List Hl} (hc : ContXI P C f vs post v Hn) (ha : AE L xs vs) (hC : ∀ w, St w0 H w → C w) (h : ∀ z, post z → RS P ops Q n ((dd, v z) :: L) w0 (Hn z ++ H) rest) (hg : isGo P f = true := by decide +kernel) (hd : Nat.blt dd n = true := by rfl) :
    RS P ops Q n L w0 H (⟨some dd, .call { callee := .value (.func f), args := xs.toArray, argTypes := tys }, ty, pos, af, none⟩ :: rest) := RS.actX rfl (x_callI hc ha hC hg hd) h
theorem y_neNil0 (hx : evO L x = some .nilIface) (h : P.isIface t = true) : V P n L w0 H ⟨d, .binOp .neq t x (.const .nilIface) t', ty, pos, af, g⟩ (.bool false) := by
  unfold V
  intro a w ha hw
  have hy : a.eval (.const .nilIface) = .nilIface := ha.eval (show evO L (.const .nilIface) = some .nilIface from rfl)
  simp [execOp, ha.eval hx, hy, run_neq_nil_nil_at _ _ h, eqGuard_nil_constR]
theorem y_neNil1 (hx : evO L x = some (.iface te p)) (h : P.isIface t = true) : V P n L w0 H ⟨d, .binOp .neq t x (.const .nilIface) t', ty, pos, af, g⟩ (.bool true) := by
  unfold V
  intro a w ha hw
  have hy : a.eval (.const .nilIface) = .nilIface := ha.eval (show evO L (.const .nilIface) = some .nilIface from rfl)
  simp [execOp, ha.eval hx, hy, run_neq_iface_nil _ _ h, eqGuard_at_iface]
end
abbrev cS (l : List UInt8) : List Value := [strV l]
theorem split_c (l sep : List UInt8) (hl : l.length < 4294967281) (h1 : 1 ≤ sep.length) : ContXI Tryd.prog Laid 76 [strV l, strV sep] (fun _ : Sl => True) (fun z => z.v) (fun z => [Hl.nw z.v cS 1 (Lib.split l sep)]) := fun w hI => by
  obtain ⟨m, hm⟩ := hI.max
  refine (Tryd.strings_Split ⟨l.toArray⟩ ⟨sep.toArray⟩ m w (by rw [size_str]; exact hl) hm (by rw [size_str]; exact h1)).mono fun e w' ⟨he, hw⟩ => ?_
  subst hw
  obtain ⟨k, hk⟩ : ∃ k, Lib.countB ⟨l.toArray⟩ ⟨sep.toArray⟩ = k := ⟨_, rfl⟩
  have hd := Lib.splitB_data ⟨sep.toArray⟩ 0 k ⟨l.toArray⟩
  have hs : Lib.split l sep = (Lib.splitB ⟨sep.toArray⟩ 0 k ⟨l.toArray⟩).map (·.data.toList) := by rw [hd, ← hk]; rfl
  have hlen : (Lib.splitB ⟨sep.toArray⟩ 0 k ⟨l.toArray⟩).length = k + 1 := Lib.splitB_all _ (by rw [size_str]; exact h1) 0 k _ hk
  rw [hk] at he ⊢
  have hkb : k ≤ l.length + 1 := by rw [← hk]; exact Lib.count_le l sep
  have hf : (Lib.splitB ⟨sep.toArray⟩ 0 k ⟨l.toArray⟩).map Value.string = (Lib.split l sep).flatMap cS := by
    rw [hs, List.flatMap_map]
    induction Lib.splitB ⟨sep.toArray⟩ 0 k ⟨l.toArray⟩ with
    | nil => rfl
    | cons b r ih => simp [ih]
  have hsl : (Lib.split l sep).length = k + 1 := by rw [hs, List.length_map, hlen]
  have own := World.ownsRow_lit (base := w.heap.size) (e := 9) (size := 1) w ((Lib.splitB ⟨sep.toArray⟩ 0 k ⟨l.toArray⟩).map Value.string).toArray (k + 1) (Nat.le_refl _) (by unfold maxLen; omega) (by simp [hlen])
  refine ⟨⟨some ⟨w.heap.size, 0, none⟩, k + 1, k + 1⟩, trivial, he, (Below.refl w.heap.size w).alloc (Nat.le_refl _) _, fun x hx => ?_⟩
  rcases List.mem_singleton.1 hx with rfl
  refine ⟨⟨?_, fun _ _ b hb => ?_⟩, rfl⟩
  · have := RO.of_row own
    rw [hsl]
    simpa [hf] using this
  · simp [Value.ownBlock] at hb; omega
theorem atoi_ok_c {l : List UInt8} {v : Int} (hl : l.length ≤ 1000000) (h : Lib.atoiAll l = .ok v) : Cont Tryd.prog 91 [strV l] (.tuple [.int .i64 v, .nilIface].toArray) := fun w => by
  refine (Tryd.strconv_Atoi_ok ⟨l.toArray⟩ (by rw [size_str]; omega) v (by simpa using h) w).mono fun e w' ⟨he, hw⟩ => ⟨he, ?_⟩
  rcases hw with rfl | ⟨t, rfl⟩
  · exact Below.refl _ _
  · exact Lib.bytesWorld_below w 5 t
theorem atoi_no_c {l : List UInt8} (hl : l.length ≤ 1000000) (h : ∀ v, Lib.atoiAll l ≠ .ok v) : ContXI Tryd.prog Laid 91 [strV l] (fun _ : Int × Nat => True) (fun z => .tuple [.int .i64 z.1, .iface 165 (.pointer (some ⟨z.2, 0, none⟩))].toArray) (fun _ => []) := fun w hI => by
  have hn : ∀ w', New w w' [] := fun w' x hx => by cases hx
  cases hc : Lib.atoiAll l with
  | ok v => exact absurd hc (h v)
  | range =>
    obtain ⟨tp, p, hv⟩ := hI.rng
    refine (Tryd.strconv_Atoi_range_var ⟨l.toArray⟩ (by rw [size_str]; omega) (by simpa using hc) tp p w hv).mono fun e w' ⟨N, he, _, _, hb⟩ => ⟨(Lib.atoiSat l, N), trivial, by simpa using he, hb, hn w'⟩
  | _ =>
    have n1 : ∀ v, Lib.atoiAll l ≠ .ok v := fun v g => by rw [hc] at g; cases g
    have n2 : Lib.atoiAll l ≠ .range := fun g => by rw [hc] at g; cases g
    obtain ⟨tp, p, hv⟩ := hI.syn
    refine (Tryd.strconv_Atoi_syntax_var ⟨l.toArray⟩ (by rw [size_str]; omega) (fun v g => n1 v (by simpa using g)) (fun g => n2 (by simpa using g)) tp p w hv).mono fun e w' ⟨N, he, _, _, hb⟩ => ⟨(0, N), trivial, he, hb, hn w'⟩
/-- An error of Atoi's: nil, or a *NumError in a block. -/
def errV : Option Nat → Value
  | none => .nilIface
  | some N => .iface 165 (.pointer (some ⟨N, 0, none⟩))
theorem y_neErr {n : Nat} {L : FL} {w0 : World} {H : List Hl} {d : Option Tmp} {ty : TypeId} {pos : String} {af : Array Edge} {g : Option (Nat × Bool)} {x : Operand} {t' : TypeId} {o : Option Nat} (hx : evO L x = some (errV o)) : V Tryd.prog n L w0 H ⟨d, .binOp .neq 80 x (.const .nilIface) t', ty, pos, af, g⟩ (.bool o.isSome) := by
  cases o with
  | none => exact y_neNil0 hx (by kernel_rfl)
  | some N => exact y_neNil1 hx (by kernel_rfl)
theorem atoi_bd {l : List UInt8} {v : Int} (h : Lib.atoiAll l = .ok v) : -9223372036854775808 ≤ v ∧ v ≤ 9223372036854775807 := by
  unfold Lib.atoiAll at h
  split at h
  · cases h
  · dsimp only at h
    split at h
    · cases h
    · cases h
    · split at h
      · cases h
      · split at h
        · cases h
        · cases h
          split <;> omega
def atoiP (l : List UInt8) (z : Option Nat × Int) : Prop := (-9223372036854775808 ≤ z.2 ∧ z.2 ≤ 9223372036854775807) ∧ match z.1 with
  | none => Lib.atoiAll l = .ok z.2
  | some _ => ∀ v, Lib.atoiAll l ≠ .ok v
theorem atoi_c {l : List UInt8} (hl : l.length ≤ 1000000) : ContXI Tryd.prog Laid 91 [strV l] (atoiP l) (fun z => .tuple [.int .i64 z.2, errV z.1].toArray) (fun _ => []) := fun w hI => by
  have hn : ∀ w', New w w' [] := fun w' x hx => by cases hx
  cases hc : Lib.atoiAll l with
  | ok v => exact (atoi_ok_c hl hc w).mono fun e w' ⟨he, hb⟩ => ⟨(none, v), ⟨atoi_bd hc, hc⟩, he, hb, hn w'⟩
  | range =>
    obtain ⟨tp, p, hv⟩ := hI.rng
    refine (Tryd.strconv_Atoi_range_var ⟨l.toArray⟩ (by rw [size_str]; omega) (by simpa using hc) tp p w hv).mono fun e w' ⟨N, he, _, _, hb⟩ => ⟨(some N, Lib.atoiSat l), ⟨by unfold Lib.atoiSat; dsimp only; split <;> omega, fun v hv => ?_⟩, he, hb, hn w'⟩
    rw [hc] at hv; cases hv
  | _ =>
    have n1 : ∀ v, Lib.atoiAll l ≠ .ok v := fun v g => by rw [hc] at g; cases g
    have n2 : Lib.atoiAll l ≠ .range := fun g => by rw [hc] at g; cases g
    obtain ⟨tp, p, hv⟩ := hI.syn
    refine (Tryd.strconv_Atoi_syntax_var ⟨l.toArray⟩ (by rw [size_str]; omega) (fun v g => n1 v (by simpa using g)) (fun g => n2 (by simpa using g)) tp p w hv).mono fun e w' ⟨N, he, _, _, hb⟩ => ⟨(some N, 0), ⟨(by dsimp only; omega), fun v hv => ?_⟩, he, hb, hn w'⟩
    rw [hc] at hv; cases hv
end Go.Proofs.YtaglecidaedjfaaDoor
