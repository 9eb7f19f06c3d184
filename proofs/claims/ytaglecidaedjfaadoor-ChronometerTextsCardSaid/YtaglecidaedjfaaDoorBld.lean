/- strings.Builder: copyCheck, WriteByte, WriteString (walked: the shelf's form does not fit where a copied builder is refused). -/
import Derived.Test.YtaglecidaedjfaaDoorBytes
import Derived.Test.YtaglecidaedjfaaDoorStab2
import Derived.Lib.Builder
import Derived.Lib.AppendStr
import Derived.Test.YtaglecidaedjfaaDoorShelf
set_option linter.unusedVariables false
set_option maxHeartbeats 4000000
namespace Go.Proofs.YtaglecidaedjfaaDoor
open Go.RowKit

section
variable {P : Program} {n : Nat} {L : FL} {w0 : World} {H : List Hl} {Q : Exit → Act → World → Prop} {ops : Array Oper} {rest : List Oper} {d : Option Tmp} {dd : Nat} {ty : TypeId} {pos : String} {af : Array Edge} {g : Option (Nat × Bool)} {x y : Operand} {t t' e : TypeId} {v : Value} {b : Nat}
theorem y_eqNil0 (hx : evO L x = some (.pointer none)) (hy : evO L y = some (.pointer none)) (ht : P.underlying t = some (.pointer e)) : V P n L w0 H ⟨d, .binOp .eql t x y t', ty, pos, af, g⟩ (.bool true) := by
  unfold V
  intro a w ha hw
  have h : ∀ k : Nat, (Op.equalIn (k + 1) t (.pointer none) (.pointer none)).run P w = .ok true w := fun k => by simp [Op.equalIn, run_underlying ht]
  simp [execOp, ha.eval hx, ha.eval hy, eqGuard, binOp, Op.equal, Op.maxDepth, h 9999]
theorem y_eqNil1 {a0 : Addr} (hx : evO L x = some (.pointer (some a0))) (hy : evO L y = some (.pointer none)) (ht : P.underlying t = some (.pointer e)) : V P n L w0 H ⟨d, .binOp .eql t x y t', ty, pos, af, g⟩ (.bool false) := by
  unfold V
  intro a w ha hw
  have h : ∀ k : Nat, (Op.equalIn (k + 1) t (.pointer (some a0)) (.pointer none)).run P w = .ok false w := fun k => by simp [Op.equalIn, run_underlying ht]
  simp [execOp, ha.eval hx, ha.eval hy, eqGuard, binOp, Op.equal, Op.maxDepth, h 9999]
theorem y_neSame {a0 : Addr} (hx : evO L x = some (.pointer (some a0))) (hy : evO L y = some (.pointer (some a0))) (ht : P.underlying t = some (.pointer e)) (hi : (P.info? e).isSome = true) : V P n L w0 H ⟨d, .binOp .neq t x y t', ty, pos, af, g⟩ (.bool false) := by
  unfold V
  intro a w ha hw
  obtain ⟨j, hj⟩ := Option.isSome_iff_exists.1 hi
  have h := Lib.run_neq_ptr_same w a0 ht hj
  simp [execOp, ha.eval hx, ha.eval hy, eqGuard, h]
theorem shape_of {T : TypeId} {cs : List Value} {w : World} (hm : Hl.blk b T cs ∈ H) (hw : St w0 H w) : w.shape? b = some (T, cs.length) := by
  have := (hw.all _ hm : _ ∧ w.heap[b]? = some (.cells cs.toArray T (0, 0))).2
  simp [World.shape?, this]
theorem y_toUnsafe {T : TypeId} {cs : List Value} (hx : evO L x = some (.pointer (some ⟨b, 0, none⟩))) (hm : Hl.blk b T cs ∈ H) (h0 : 0 < cs.length) (hs : P.underlying t = some (.pointer e)) (hd : P.underlying t' = some .unsafePointer) (hi : (P.info? e).map (·.size) = some 2) : V P n L w0 H ⟨d, .convert t t' x, ty, pos, af, g⟩ (.pointer (some ⟨b, 0, none⟩)) := by
  unfold V
  intro a w ha hw
  obtain ⟨j, hj, hz⟩ := Option.map_eq_some_iff.1 hi
  have h := Lib.run_to_unsafe w ⟨b, 0, none⟩ hs hd hj (by omega) (shape_of hm hw) h0
  simp [execOp, ha.eval hx, h]
theorem y_fromUnsafe {k : Nat} {T : TypeId} {cs : List Value} (hx : evO L x = some (.pointer (some ⟨b, 0, none⟩))) (hm : Hl.blk b T cs ∈ H) (hs : P.underlying t = some .unsafePointer) (hd : P.underlying t' = some (.pointer e)) (hi : (P.info? e).isSome = true) (hk : cs.length = k) (hl : liesAt P P.depth T (k / P.cellsOf T) 0 e 1 = true) : V P n L w0 H ⟨d, .convert t t' x, ty, pos, af, g⟩ (.pointer (some ⟨b, 0, none⟩)) := by
  unfold V
  intro a w ha hw
  obtain ⟨j, hj⟩ := Option.isSome_iff_exists.1 hi
  have h := Lib.run_from_unsafe w ⟨b, 0, none⟩ hs hd hj (shape_of hm hw) (by rw [hk]; exact hl)
  simp [execOp, ha.eval hx, h]
theorem y_noEsc {f : FuncId} {fn : Func} {tys : Array TypeId} (hx : evO L x = some v) (hf : P.funcs[f]? = some fn) (hname : (fn.name == "runtime.NumGoroutine") = false) (hb : fn.body.isNone = true) (hn : Extern.findNext fn = none) (he : Extern.find fn = some Extern.AbiNoEscape.same) : V P n L w0 H ⟨d, .call { callee := .value (.func f), args := #[x], argTypes := tys }, ty, pos, af, g⟩ v := by
  unfold V
  intro a w ha hw
  rw [show execOp a.eval ⟨d, .call { callee := .value (.func f), args := #[x], argTypes := tys }, ty, pos, af, g⟩ = callFunc f (#[] ++ #[x].map a.eval ++ #[]) from rfl]
  rw [run_callFunc_extern hf hname hb hn he]
  simp [ha.eval hx, Lib.run_noEscape]
theorem y_nil {a0 : Addr} (hx : evO L x = some (.pointer (some a0))) : V P n L w0 H ⟨d, .nilCheck x, ty, pos, af, g⟩ (.pointer (some a0)) := by
  unfold V
  intro a w ha hw
  simp [execOp, ha.eval hx]
end
abbrev cU (c : UInt8) : List Value := [.int .u8 c.toNat]
theorem strCells_cU (l : List UInt8) : Lib.strCells ⟨l.toArray⟩ = l.flatMap cU := by
  unfold Lib.strCells
  show l.map _ = _
  induction l with
  | nil => rfl
  | cons c r ih => simp [ih]
section
variable {P : Program} {n : Nat} {L : FL} {w0 : World} {H : List Hl} {Q : Exit → Act → World → Prop} {ops : Array Oper} {rest : List Oper} {dd : Nat} {ty : TypeId} {pos : String} {af : Array Edge} {gd : Option (Nat × Bool)} {x y : Operand} {t u e : TypeId} {v : Value}
theorem run_appStr_at (w : World) (base : Nat) (t u ty e : TypeId) (i : TypeInfo) (ht : P.underlying t = some (.slice e)) (hu : P.underlying u = some .string) (hi : P.info? e = some i) (hz : i.zero = some (.int .u8 0)) (hsize : i.size = 1) (hby : i.bytes = 1)
    (v : Value) (n : Nat) (xs : List Value) (hown : w.ownsRow base e 1 v n xs) (s : ByteArray) (hbytes : n + s.size ≤ 140737488355328) (hbase : base ≤ w.heap.size) :
    ∃ v' w', (Builtin.append_ #[t, u] ty #[v, .string s]).run P w = .ok v' w' ∧ w'.ownsRow base e 1 v' (n + s.size) (xs ++ Lib.strCells s) ∧ w.grownBy w' v.ownBlock ∧ ∀ b, v'.ownBlock = some b → v.ownBlock = some b ∨ w.heap.size ≤ b := by
  have hxl : xs.length = n := by simpa using hown.1
  obtain ⟨v', w', hr, h2, h3, h4⟩ := Lib.run_append_own_string (P := P) w base t u ty e i ht hu hi hz hsize hby v n xs hown s (by simp only [maxLen]; omega) hbytes hbase
  refine ⟨v', w', hr, h2, h3, fun b hb => ?_⟩
  rcases hown.2 with ⟨rfl, rfl⟩ | ⟨g, cap, cur, rfl, hbg, hg, hnc, hcm, hcs, htake⟩
  · by_cases hm : s.size = 0
    · rw [h4.2 ⟨rfl, hm⟩] at hb; simp [Value.ownBlock] at hb
    · have hr2 := run_append_nil_string (P := P) w t u ty e i (.int .u8 0) ht hu hi hz s (by omega) (by omega) (by rw [hby]; omega)
      rw [hr2] at hr
      simp only [Result.ok.injEq] at hr
      rw [← hr.1] at hb
      simp only [Value.ownBlock, Option.some.injEq] at hb
      exact .inr (by omega)
  · by_cases hroom : n + s.size ≤ cap
    · have hcs' : cur.size = cap := by simpa using hcs
      have hr2 := Lib.run_append_room_string (P := P) w t u ty e i ht hu hi hsize g n cap cur hg s hroom (by omega)
      rw [hr2] at hr
      simp only [Result.ok.injEq] at hr
      rw [← hr.1] at hb
      exact .inl hb
    · have holds : ∀ j u, xs[j]? = some u → w.cell? ((⟨g, 0, none⟩ : Addr).add j) = some u := hown.cells (g := g) rfl
      have hr2 := Lib.run_append_grow_string (P := P) w t u ty e i (.int .u8 0) ht hu hi hz ⟨g, 0, none⟩ n cap xs (by rw [hsize]; simpa using hxl) holds s (by omega) (by omega) (by rw [hby]; exact growslice_fits (by omega) (by omega))
      rw [hr2] at hr
      simp only [Result.ok.injEq] at hr
      rw [← hr.1] at hb
      simp only [Value.ownBlock, Option.some.injEq] at hb
      exact .inr (by omega)
theorem x_appStr {l l' : List UInt8} {H' : Sl → List Hl} (hx : evO L x = some v) (hy : evO L y = some (strV l')) (hu : ∀ v' : Sl, Upd (Hl.rw v e cU 1 l) (Hl.rw v'.v e cU 1 (l ++ l')) H (H' v')) (hb : l.length + l'.length ≤ 140737488355328) (ht : rowTyB P t e 1 1 = true) (hz0 : zeroByteB P e = true) (hs : P.underlying u = some .string) (hd : Nat.blt dd n = true) :
    EX P n L w0 H ⟨some dd, .call { callee := .builtin .append, args := #[x, y], argTypes := #[t, u] }, ty, pos, af, gd⟩ (fun _ : Sl => True) (fun v' => (dd, v'.v) :: L) H' :=
  EX.of_run (fun a w ha hw => by
    obtain ⟨i, z, hu1, hi, hz, hs1, hby, hzs, h0⟩ := rowTyB_spec ht
    have hz2 : i.zero = some (.int .u8 0) := by
      have := zeroByteB_spec hz0
      simp [zeroOf, hi] at this
      exact this
    have hsz : (⟨l'.toArray⟩ : ByteArray).size = l'.length := size_str l'
    obtain ⟨v', w', hr1, h2, h3, h4⟩ := run_appStr_at (P := P) w w0.heap.size t u ty e i hu1 hs hi hz2 hs1 hby v l.length _ (hw.all _ (hu ⟨none, 0, 0⟩).mem) ⟨l'.toArray⟩ (by rw [hsz]; exact hb) hw.ext.size
    rw [hsz, strCells_cU] at h2
    obtain ⟨x', rfl⟩ := owns_sl h2
    refine ⟨_, w', x', by simp [execOp, resolve, invoke, builtin, ha.eval hx, ha.eval hy, hr1], trivial, rfl, hw.turn (hu x') rfl h3 ?_ h4⟩
    show w'.ownsRow _ _ _ _ _ _
    rw [List.length_append, List.flatMap_append]
    exact h2) hd
theorem RS.appStr {l l' : List UInt8} {H' : Sl → List Hl} (h : ∀ v' : Sl, RS P ops Q n ((dd, v'.v) :: L) w0 (H' v') rest) (hx : evO L x = some v) (hy : evO L y = some (strV l')) (hu : ∀ v' : Sl, Upd (Hl.rw v e cU 1 l) (Hl.rw v'.v e cU 1 (l ++ l')) H (H' v')) (hb : l.length + l'.length ≤ 140737488355328) (ht : rowTyB P t e 1 1 = true) (hz0 : zeroByteB P e = true) (hs : P.underlying u = some .string) (hd : Nat.blt dd n = true) :
    RS P ops Q n L w0 H (⟨some dd, .call { callee := .builtin .append, args := #[x, y], argTypes := #[t, u] }, ty, pos, af, none⟩ :: rest) := RS.actX rfl (x_appStr hx hy hu hb ht hz0 hs hd) fun v' _ => h v'
end
abbrev pB (b : Nat) : Value := .pointer (some ⟨b, 0, none⟩)
theorem copyCheck1_c (b : Nat) (sl : Value) : ContU Tryd.prog (Hl.blk b 76 [pB b, sl]) 74 [pB b] (fun _ : Unit => True) (fun _ => .tuple #[]) (fun _ => [Hl.blk b 76 [pB b, sl]]) := fun w0 HR w hw => by
  refine enterU Tryd.func74 rfl rfl rfl hw ?_
  repeat' (first
    | (show YK _ _ _ _ _ ⟨_, .nilCheck _, _, _, _, _⟩ _; refine YK.ofV (y_nil (by rfl)) ?_)
    | (show YK _ _ _ _ _ ⟨_, .binOp .eql _ _ _ _, _, _, _, _⟩ _; refine YK.ofV (y_eqNil1 (by rfl) (by rfl) Tryd.underlying73) ?_)
    | (show YK _ _ _ _ _ ⟨_, .binOp .neq _ _ _ _, _, _, _, _⟩ _; refine YK.ofV (y_neSame (by rfl) (by rfl) Tryd.underlying73 (by decide +kernel)) ?_)
    | (refine nxV ?_)
    | (show RS _ _ _ _ _ _ _ _; first | (refine nxRS ?_) | (refine nxRS1 fun _ => ?_))
    | (show RM _ _ _ _ _ _ _ _ _ _; first | (refine nxRM ?_) | (refine nxRM1 fun _ => ?_))
    | (refine nxG ?_)
    | (refine nxX ?_)
    | (refine G.condN rfl (fun hc => ?_) (fun hc => ?_) <;> (try first | exact False.elim hc | (exfalso; omega))))
  exact X.endN rfl (fun w hw => ⟨(), trivial, rfl, hw⟩)
theorem copyCheck0_c (b : Nat) (sl : Value) : ContU Tryd.prog (Hl.blk b 76 [.pointer none, sl]) 74 [pB b] (fun _ : Unit => True) (fun _ => .tuple #[]) (fun _ => [Hl.blk b 76 [pB b, sl]]) := fun w0 HR w hw => by
  refine enterU Tryd.func74 rfl rfl rfl hw ?_
  repeat' (first
    | (show YK _ _ _ _ _ ⟨_, .nilCheck _, _, _, _, _⟩ _; refine YK.ofV (y_nil (by rfl)) ?_)
    | (show YK _ _ _ _ _ ⟨_, .binOp .eql _ _ _ _, _, _, _, _⟩ _; refine YK.ofV (y_eqNil0 (by rfl) (by rfl) Tryd.underlying73) ?_)
    | (show YK _ _ _ _ _ ⟨_, .binOp .neq _ _ _ _, _, _, _, _⟩ _; refine YK.ofV (y_neSame (by rfl) (by rfl) Tryd.underlying73 (by decide +kernel)) ?_)
    | (show YK _ _ _ _ _ ⟨_, .call _, _, _, _, _⟩ _; refine YK.ofV (y_noEsc (by rfl) Tryd.func101 (by kernel_rfl) (by kernel_rfl) (by kernel_rfl) (by kernel_rfl)) ?_)
    | (show YK _ _ _ _ _ ⟨_, .convert 73 _ _, _, _, _, _⟩ _; refine YK.ofV (y_toUnsafe (by rfl) (List.Mem.head _) (Nat.zero_lt_succ _) Tryd.underlying73 Tryd.underlying132 (by kernel_rfl)) ?_)
    | (show YK _ _ _ _ _ ⟨_, .convert 132 _ _, _, _, _, _⟩ _; refine YK.ofV (y_fromUnsafe (k := 2) (by rfl) (List.Mem.head _) Tryd.underlying132 Tryd.underlying73 (by decide +kernel) rfl (by kernel_rfl)) ?_)
    | (refine nxV ?_)
    | (show RS _ _ _ _ _ _ _ _; first | (refine nxRS ?_) | (refine nxRS1 fun _ => ?_))
    | (show RM _ _ _ _ _ _ _ _ _ _; first | (refine nxRM ?_) | (refine nxRM1 fun _ => ?_))
    | (refine nxG ?_)
    | (refine nxX ?_)
    | (refine G.condN rfl (fun hc => ?_) (fun hc => ?_) <;> (try first | exact False.elim hc | (exfalso; omega))))
  exact X.endN rfl (fun w hw => ⟨(), trivial, rfl, hw⟩)
/-- A contract that turns two heaplets of the caller's. -/
def ContW (P : Program) (X1 X2 : Hl) (f : FuncId) (args : List Value) {ι : Type} (post : ι → Prop) (v : ι → Value) (Y : ι → List Hl) : Prop :=
  ∀ w0 HR w, St w0 (X1 :: X2 :: HR) w → Calls P f args.toArray w fun e w' => ∃ z, post z ∧ e = .returned (v z) ∧ St w0 (Y z ++ HR) w'
section
variable {P : Program} {n : Nat} {L : FL} {w0 : World} {H : List Hl} {Q : Exit → Act → World → Prop} {ops : Array Oper} {rest : List Oper} {dd : Nat} {ty : TypeId} {pos : String} {af : Array Edge} {gd : Option (Nat × Bool)} {ι : Type}
theorem x_callW {X1 X2 : Hl} {A B A' B' : List Hl} {f : FuncId} {xs : List Operand} {vs : List Value} {tys : Array TypeId} {post : ι → Prop} {v : ι → Value} {Y : ι → List Hl} (hc : ContW P X1 X2 f vs post v Y) (ha : AE L xs vs) (hA : At X2 A B H) (hA2 : At X1 A' B' (A ++ B)) (hg : isGo P f = true) (hd : Nat.blt dd n = true) :
    EX P n L w0 H ⟨some dd, .call { callee := .value (.func f), args := xs.toArray, argTypes := tys }, ty, pos, af, gd⟩ post (fun z => (dd, v z) :: L) (fun z => Y z ++ (A' ++ B')) := fun a w hfr hw K Q hK => by
  unfold Oper.wp
  rw [run_call hfr ha hg]
  have h1 := St.front hA hw
  have h2 := St.front (At.there (h := X2) hA2) h1
  refine (hc w0 (A' ++ B') w h2).mono ?_
  rintro e w' ⟨z, hz, rfl, hs⟩
  exact hK _ _ ⟨z, hz, hfr.put (by simpa [Nat.blt_eq] using hd), hs⟩
theorem RS.callW {X1 X2 : Hl} {A B A' B' : List Hl} {f : FuncId} {xs : List Operand} {vs : List Value} {tys : Array TypeId} {post : ι → Prop} {v : ι → Value} {Y : ι → List Hl} (hc : ContW P X1 X2 f vs post v Y) (ha : AE L xs vs) (h : ∀ z, post z → RS P ops Q n ((dd, v z) :: L) w0 (Y z ++ (A' ++ B')) rest)
    (hA : At X2 A B H := by first | exact .here | exact .there .here | exact .there (.there .here) | exact .there (.there (.there .here)) | exact .there (.there (.there (.there .here))))
    (hA2 : At X1 A' B' (A ++ B) := by first | exact .here | exact .there .here | exact .there (.there .here) | exact .there (.there (.there .here)) | exact .there (.there (.there (.there .here))))
    (hg : isGo P f = true := by decide +kernel) (hd : Nat.blt dd n = true := by rfl) :
    RS P ops Q n L w0 H (⟨some dd, .call { callee := .value (.func f), args := xs.toArray, argTypes := tys }, ty, pos, af, none⟩ :: rest) := RS.actX rfl (x_callW hc ha hA hA2 hg hd) h
end
abbrev bldB (b : Nat) (p : Value) (x : Sl) : Hl := Hl.blk b 76 [p, x.v]
abbrev bldR (x : Sl) (l : List UInt8) : Hl := Hl.rw x.v 5 cU 1 l
theorem writeS_c (b : Nat) (p : Value) (hp : p = .pointer none ∨ p = pB b) (x : Sl) (l l' : List UInt8) (hb : l.length + l'.length ≤ 140737488355328) : ContW Tryd.prog (bldR x l) (bldB b p x) 46 [pB b, strV l'] (fun _ : Sl => True) (fun _ => .tuple [.int .i64 l'.length, .nilIface].toArray) (fun z => [bldB b (pB b) z, bldR z (l ++ l')]) := fun w0 HR w hw => by
  have qc : ContU Tryd.prog (bldB b p x) 74 [pB b] (fun _ : Unit => True) (fun _ => .tuple #[]) (fun _ => [bldB b (pB b) x]) := by
    rcases hp with rfl | rfl
    · exact copyCheck0_c b x.v
    · exact copyCheck1_c b x.v
  refine enterU Tryd.func46 rfl rfl rfl hw ?_
  repeat' (first
    | (refine RS.callU qc ⟨rfl, rfl⟩ ?_; rintro z0 _; dsimp only [List.cons_append, List.nil_append])
    | (show YK _ _ _ _ _ ⟨_, .nilCheck _, _, _, _, _⟩ _; refine YK.ofV (y_nil (by rfl)) ?_)
    | (refine RS.appStr ?_ (by rfl) (by rfl) (fun v' => .there _ (.here _)) hb (by decide +kernel) (by decide +kernel) Tryd.underlying9 (by rfl); intro z1)
    | (refine nxV ?_)
    | (show RS _ _ _ _ _ _ _ _; first | (refine nxRS ?_) | (refine nxRS1 fun _ => ?_))
    | (show RM _ _ _ _ _ _ _ _ _ _; first | (refine nxRM ?_) | (refine nxRM1 fun _ => ?_))
    | (refine nxG ?_)
    | (refine nxVS ?_)
    | (refine nxGS ?_)
    | (refine nxX ?_)
    | (refine G.condN rfl (fun hc => ?_) (fun hc => ?_) <;> (try first | exact False.elim hc | (exfalso; omega))))
  exact X.ret (vs := [_, _]) rfl ⟨rfl, rfl, rfl⟩ rfl (fun w hw => ⟨z1, trivial, rfl, hw⟩)
theorem RS.litU {P : Program} {ops : Array Oper} {Q : Exit → Act → World → Prop} {n : Nat} {L : FL} {w0 : World} {H : List Hl} {dd : Tmp} {ty : TypeId} {pos : String} {af : Array Edge} {t e : TypeId} {x : Operand} {c : UInt8} {rest : List Oper} (h : ∀ v' : Sl, RS P ops Q n ((dd, v'.v) :: L) w0 (Hl.rw v'.v e cU 1 [c] :: H) rest) (hx : evO L x = some (.int .u8 c.toNat)) (ht : rowTyB P t e 1 1 = true) (hd : Nat.blt dd n = true) :
    RS P ops Q n L w0 H (⟨some dd, .buildSlice t 1 #[(0, x)], ty, pos, af, none⟩ :: rest) := RS.actX rfl (x_lit (parts := [(0, x)]) (vs := [.int .u8 c.toNat]) (f := cU) (l := [c]) ⟨hx, rfl⟩ rfl rfl rfl rfl rfl rfl ht hd) fun v' _ => h v'
theorem writeB_c (b : Nat) (p : Value) (hp : p = .pointer none ∨ p = pB b) (x : Sl) (l : List UInt8) (c : UInt8) (hb : l.length ≤ 1000000) : ContW Tryd.prog (bldR x l) (bldB b p x) 98 [pB b, .int .u8 c.toNat] (fun _ : Sl => True) (fun _ => .nilIface) (fun z => [bldB b (pB b) z, bldR z (l ++ [c])]) := fun w0 HR w hw => by
  have qc : ContU Tryd.prog (bldB b p x) 74 [pB b] (fun _ : Unit => True) (fun _ => .tuple #[]) (fun _ => [bldB b (pB b) x]) := by
    rcases hp with rfl | rfl
    · exact copyCheck0_c b x.v
    · exact copyCheck1_c b x.v
  refine enterU Tryd.func98 rfl rfl rfl hw ?_
  repeat' (first
    | (refine RS.callU qc ⟨rfl, rfl⟩ ?_; rintro z0 _; dsimp only [List.cons_append, List.nil_append])
    | (show YK _ _ _ _ _ ⟨_, .nilCheck _, _, _, _, _⟩ _; refine YK.ofV (y_nil (by rfl)) ?_)
    | (show RS _ _ _ _ _ _ _ (⟨_, .buildSlice _ _ _, _, _, _, _⟩ :: _); refine RS.litU (e := 5) (c := c) ?_ (by rfl) (by decide +kernel) (by rfl); intro z2)
    | (show RS _ _ _ _ _ _ _ (⟨_, .call { callee := .builtin .append, args := _, argTypes := _ }, _, _, _, _⟩ :: _); refine RS.appendA (f := cU) (l := l) (l' := [c]) ?_; intro z1)
    | (refine nxV ?_)
    | (show RS _ _ _ _ _ _ _ _; first | (refine nxRS ?_) | (refine nxRS1 fun _ => ?_))
    | (show RM _ _ _ _ _ _ _ _ _ _; first | (refine nxRM ?_) | (refine nxRM1 fun _ => ?_))
    | (refine nxG ?_)
    | (refine nxVS ?_)
    | (refine nxGS ?_)
    | (refine nxX ?_)
    | (refine G.condN rfl (fun hc => ?_) (fun hc => ?_) <;> (try first | exact False.elim hc | (exfalso; omega))))
  exact X.ret (vs := [_]) rfl ⟨rfl, rfl⟩ rfl (fun w hw => ⟨z1, trivial, rfl, hw.sub (List.sublist_cons_self _ _)⟩)
theorem bytes_cU (l : List UInt8) : Lib.byteCells l = l.flatMap cU := by
  unfold Lib.byteCells
  induction l with
  | nil => rfl
  | cons c r ih => simp [ih]
section
variable {n : Nat} {L : FL} {w0 : World} {H : List Hl} {Q : Exit → Act → World → Prop} {ops : Array Oper} {rest : List Oper} {dd : Nat} {ty : TypeId} {pos : String} {af : Array Edge} {gd : Option (Nat × Bool)} {x : Operand} {tys : Array TypeId}
theorem isBld {b : Nat} {p : Value} (hp : p = .pointer none ∨ p = pB b) {z : Sl} {l : List UInt8} {w : World} (h1 : bldB b p z ∈ H) (h2 : bldR z l ∈ H) (hw : St w0 H w) : Lib.IsBuilder 76 5 w0.heap.size b (Lib.byteCells l) w := by
  have a1 : _ ∧ w.heap[b]? = some (.cells [p, z.v].toArray 76 (0, 0)) := hw.all _ h1
  have a2 : w.ownsRow w0.heap.size 5 1 z.v l.length (l.flatMap cU) := hw.all _ h2
  have e : (Lib.byteCells l).length = l.length := by unfold Lib.byteCells; simp
  have a3 : Lib.BuilderAt 76 5 w0.heap.size b p (Lib.byteCells l) w := ⟨a1.1, z.v, a1.2, by rw [e, bytes_cU]; exact a2, Lib.ownBlock_ne a2 a1.2 (by decide)⟩
  rcases hp with rfl | rfl
  · exact .inl a3
  · exact .inr a3
theorem RS.string {b : Nat} {p : Value} {z : Sl} {l : List UInt8} (h : RS Tryd.prog ops Q n ((dd, strV l) :: L) w0 [] rest) (hp : p = .pointer none ∨ p = pB b) (h1 : bldB b p z ∈ H) (h2 : bldR z l ∈ H) (ha : AE L [x] [pB b]) (hd : Nat.blt dd n = true := by rfl) :
    RS Tryd.prog ops Q n L w0 H (⟨some dd, .call { callee := .value (.func 47), args := [x].toArray, argTypes := tys }, ty, pos, af, none⟩ :: rest) :=
  RS.actX rfl (post := fun _ : Unit => True) (fun a w hfr hw K Q hK => by
    unfold Oper.wp
    rw [run_call hfr ha (by decide +kernel)]
    refine (Tryd.Builder_String_any w0.heap.size b l w (isBld hp h1 h2 hw) hw.ext.size).mono ?_
    rintro e w' ⟨rfl, hs⟩
    exact hK _ _ ⟨(), trivial, hfr.put (by simpa [Nat.blt_eq] using hd), hw.ext.trans hs, (fun y hy => by cases hy), trivial⟩) fun _ _ => h
end
end Go.Proofs.YtaglecidaedjfaaDoor
