/- Joined texts: Bld, Pix, Fx3. -/
import Derived.Test.YtjmdeplmenbmmaaGreatDoorW03
import Derived.Test.YtjmdeplmenbmmaaGreatDoorW10
import Derived.Lib.Builder
import Derived.Lib.AppendStr
import Derived.Test.YtjmdeplmenbmmaaGreatDoorW06
import Derived.Test.YtjmdeplmenbmmaaGreatDoorW09
set_option linter.unusedVariables false
set_option maxHeartbeats 4000000
namespace Go.Proofs.YtjmdeplmenbmmaaGreatDoor
open Go.RowKit
section
variable {P : Program} {n : Nat} {L : FL} {w0 : World} {H : List Hl} {Q : Exit → Act → World → Prop} {ops : Array Oper} {rest : List Oper} {d : Option Tmp} {dd : Nat} {ty : TypeId} {pos : String} {af : Array Edge} {g : Option (Nat × Bool)} {x y : Operand} {t t' e : TypeId} {v : Value} {b : Nat}
theorem y_eqNil0 (hx : evO L x = some (.pointer none)) (hy : evO L y = some (.pointer none)) (ht : P.underlying t = some (.pointer e)) : V P n L w0 H ⟨d, .binOp .eql t x y t', ty, pos, af, g⟩ (.bool true) := by
  unfold V
  intro a w ha hw
  have h : ∀ k : Nat, (Op.equalIn (k + 1) t (.pointer none) (.pointer none)).run P w = .ok true w := fun k => by simp [Op.equalIn, run_underlying ht]
  simp [execOp, ha.eval hx, ha.eval hy, eqGuard, binOp, Op.equal, Op.maxDepth, h 9999]
theorem y_eqNil1 {a0 : Addr} (hx : evO L x = some (.pointer (some a0))) (hy : evO L y = some (.pointer none)) (ht : P.underlying t = some (.pointer e)) : V P n L w0 H ⟨d, .binOp .eql t x y t', ty, pos, af, g⟩ (.bool false) := by
  unfold V
  intro a w ha hw
  have h : ∀ k : Nat, (Op.equalIn (k + 1) t (.pointer (some a0)) (.pointer none)).run P w = .ok false w := fun k => by simp [Op.equalIn, run_underlying ht]
  simp [execOp, ha.eval hx, ha.eval hy, eqGuard, binOp, Op.equal, Op.maxDepth, h 9999]
theorem y_neSame {a0 : Addr} (hx : evO L x = some (.pointer (some a0))) (hy : evO L y = some (.pointer (some a0))) (ht : P.underlying t = some (.pointer e)) (hi : (P.info? e).isSome = true) : V P n L w0 H ⟨d, .binOp .neq t x y t', ty, pos, af, g⟩ (.bool false) := by
  unfold V
  intro a w ha hw
  obtain ⟨j, hj⟩ := Option.isSome_iff_exists.1 hi
  have h := Lib.run_neq_ptr_same w a0 ht hj
  simp [execOp, ha.eval hx, ha.eval hy, eqGuard, h]
theorem shape_of {T : TypeId} {cs : List Value} {w : World} (hm : Hl.blk b T cs ∈ H) (hw : St w0 H w) : w.shape? b = some (T, cs.length) := by
  have := (hw.all _ hm : _ ∧ w.heap[b]? = some (.cells cs.toArray T (0, 0))).2
  simp [World.shape?, this]
theorem y_toUnsafe {T : TypeId} {cs : List Value} (hx : evO L x = some (.pointer (some ⟨b, 0, none⟩))) (hm : Hl.blk b T cs ∈ H) (h0 : 0 < cs.length) (hs : P.underlying t = some (.pointer e)) (hd : P.underlying t' = some .unsafePointer) (hi : (P.info? e).map (·.size) = some 2) : V P n L w0 H ⟨d, .convert t t' x, ty, pos, af, g⟩ (.pointer (some ⟨b, 0, none⟩)) := by
  unfold V
  intro a w ha hw
  obtain ⟨j, hj, hz⟩ := Option.map_eq_some_iff.1 hi
  have h := Lib.run_to_unsafe w ⟨b, 0, none⟩ hs hd hj (by omega) (shape_of hm hw) h0
  simp [execOp, ha.eval hx, h]
theorem y_fromUnsafe {k : Nat} {T : TypeId} {cs : List Value} (hx : evO L x = some (.pointer (some ⟨b, 0, none⟩))) (hm : Hl.blk b T cs ∈ H) (hs : P.underlying t = some .unsafePointer) (hd : P.underlying t' = some (.pointer e)) (hi : (P.info? e).isSome = true) (hk : cs.length = k) (hl : liesAt P P.depth T (k / P.cellsOf T) 0 e 1 = true) : V P n L w0 H ⟨d, .convert t t' x, ty, pos, af, g⟩ (.pointer (some ⟨b, 0, none⟩)) := by
  unfold V
  intro a w ha hw
  obtain ⟨j, hj⟩ := Option.isSome_iff_exists.1 hi
  have h := Lib.run_from_unsafe w ⟨b, 0, none⟩ hs hd hj (shape_of hm hw) (by rw [hk]; exact hl)
  simp [execOp, ha.eval hx, h]
theorem y_noEsc {f : FuncId} {fn : Func} {tys : Array TypeId} (hx : evO L x = some v) (hf : P.funcs[f]? = some fn) (hname : (fn.name == "runtime.NumGoroutine") = false) (hb : fn.body.isNone = true) (hn : Extern.findNext fn = none) (he : Extern.find fn = some Extern.AbiNoEscape.same) : V P n L w0 H ⟨d, .call { callee := .value (.func f), args := #[x], argTypes := tys }, ty, pos, af, g⟩ v := by
  unfold V
  intro a w ha hw
  rw [show execOp a.eval ⟨d, .call { callee := .value (.func f), args := #[x], argTypes := tys }, ty, pos, af, g⟩ = callFunc f (#[] ++ #[x].map a.eval ++ #[]) from rfl]
  rw [run_callFunc_extern hf hname hb hn he]
  simp [ha.eval hx, Lib.run_noEscape]
theorem y_nil {a0 : Addr} (hx : evO L x = some (.pointer (some a0))) : V P n L w0 H ⟨d, .nilCheck x, ty, pos, af, g⟩ (.pointer (some a0)) := by
  unfold V
  intro a w ha hw
  simp [execOp, ha.eval hx]
end
abbrev cU (c : UInt8) : List Value := [.int .u8 c.toNat]
theorem strCells_cU (l : List UInt8) : Lib.strCells ⟨l.toArray⟩ = l.flatMap cU := by
  unfold Lib.strCells
  show l.map _ = _
  induction l with
  | nil => rfl
  | cons c r ih => simp [ih]
section
variable {P : Program} {n : Nat} {L : FL} {w0 : World} {H : List Hl} {Q : Exit → Act → World → Prop} {ops : Array Oper} {rest : List Oper} {dd : Nat} {ty : TypeId} {pos : String} {af : Array Edge} {gd : Option (Nat × Bool)} {x y : Operand} {t u e : TypeId} {v : Value}
theorem run_appStr_at (w : World) (base : Nat) (t u ty e : TypeId) (i : TypeInfo) (ht : P.underlying t = some (.slice e)) (hu : P.underlying u = some .string) (hi : P.info? e = some i) (hz : i.zero = some (.int .u8 0)) (hsize : i.size = 1) (hby : i.bytes = 1)
    (v : Value) (n : Nat) (xs : List Value) (hown : w.ownsRow base e 1 v n xs) (s : ByteArray) (hbytes : n + s.size ≤ 140737488355328) (hbase : base ≤ w.heap.size) :
    ∃ v' w', (Builtin.append_ #[t, u] ty #[v, .string s]).run P w = .ok v' w' ∧ w'.ownsRow base e 1 v' (n + s.size) (xs ++ Lib.strCells s) ∧ w.grownBy w' v.ownBlock ∧ ∀ b, v'.ownBlock = some b → v.ownBlock = some b ∨ w.heap.size ≤ b := by
  have hxl : xs.length = n := by simpa using hown.1
  obtain ⟨v', w', hr, h2, h3, h4⟩ := Lib.run_append_own_string (P := P) w base t u ty e i ht hu hi hz hsize hby v n xs hown s (by simp only [maxLen]; omega) hbytes hbase
  refine ⟨v', w', hr, h2, h3, fun b hb => ?_⟩
  rcases hown.2 with ⟨rfl, rfl⟩ | ⟨g, cap, cur, rfl, hbg, hg, hnc, hcm, hcs, htake⟩
  · by_cases hm : s.size = 0
    · rw [h4.2 ⟨rfl, hm⟩] at hb; simp [Value.ownBlock] at hb
    · have hr2 := run_append_nil_string (P := P) w t u ty e i (.int .u8 0) ht hu hi hz s (by omega) (by omega) (by rw [hby]; omega)
      rw [hr2] at hr
      simp only [Result.ok.injEq] at hr
      rw [← hr.1] at hb
      simp only [Value.ownBlock, Option.some.injEq] at hb
      exact .inr (by omega)
  · by_cases hroom : n + s.size ≤ cap
    · have hcs' : cur.size = cap := by simpa using hcs
      have hr2 := Lib.run_append_room_string (P := P) w t u ty e i ht hu hi hsize g n cap cur hg s hroom (by omega)
      rw [hr2] at hr
      simp only [Result.ok.injEq] at hr
      rw [← hr.1] at hb
      exact .inl hb
    · have holds : ∀ j u, xs[j]? = some u → w.cell? ((⟨g, 0, none⟩ : Addr).add j) = some u := hown.cells (g := g) rfl
      have hr2 := Lib.run_append_grow_string (P := P) w t u ty e i (.int .u8 0) ht hu hi hz ⟨g, 0, none⟩ n cap xs (by rw [hsize]; simpa using hxl) holds s (by omega) (by omega) (by rw [hby]; exact growslice_fits (by omega) (by omega))
      rw [hr2] at hr
      simp only [Result.ok.injEq] at hr
      rw [← hr.1] at hb
      simp only [Value.ownBlock, Option.some.injEq] at hb
      exact .inr (by omega)
theorem x_appStr {l l' : List UInt8} {H' : Sl → List Hl} (hx : evO L x = some v) (hy : evO L y = some (strV l')) (hu : ∀ v' : Sl, Upd (Hl.rw v e cU 1 l) (Hl.rw v'.v e cU 1 (l ++ l')) H (H' v')) (hb : l.length + l'.length ≤ 140737488355328) (ht : rowTyB P t e 1 1 = true) (hz0 : zeroByteB P e = true) (hs : P.underlying u = some .string) (hd : Nat.blt dd n = true) :
    EX P n L w0 H ⟨some dd, .call { callee := .builtin .append, args := #[x, y], argTypes := #[t, u] }, ty, pos, af, gd⟩ (fun _ : Sl => True) (fun v' => (dd, v'.v) :: L) H' :=
  EX.of_run (fun a w ha hw => by
    obtain ⟨i, z, hu1, hi, hz, hs1, hby, hzs, h0⟩ := rowTyB_spec ht
    have hz2 : i.zero = some (.int .u8 0) := by
      have := zeroByteB_spec hz0
      simp [zeroOf, hi] at this
      exact this
    have hsz : (⟨l'.toArray⟩ : ByteArray).size = l'.length := size_str l'
    obtain ⟨v', w', hr1, h2, h3, h4⟩ := run_appStr_at (P := P) w w0.heap.size t u ty e i hu1 hs hi hz2 hs1 hby v l.length _ (hw.all _ (hu ⟨none, 0, 0⟩).mem) ⟨l'.toArray⟩ (by rw [hsz]; exact hb) hw.ext.size
    rw [hsz, strCells_cU] at h2
    obtain ⟨x', rfl⟩ := owns_sl h2
    refine ⟨_, w', x', by simp [execOp, resolve, invoke, builtin, ha.eval hx, ha.eval hy, hr1], trivial, rfl, hw.turn (hu x') rfl h3 ?_ h4⟩
    show w'.ownsRow _ _ _ _ _ _
    rw [List.length_append, List.flatMap_append]
    exact h2) hd
theorem RS.appStr {l l' : List UInt8} {H' : Sl → List Hl} (h : ∀ v' : Sl, RS P ops Q n ((dd, v'.v) :: L) w0 (H' v') rest) (hx : evO L x = some v) (hy : evO L y = some (strV l')) (hu : ∀ v' : Sl, Upd (Hl.rw v e cU 1 l) (Hl.rw v'.v e cU 1 (l ++ l')) H (H' v')) (hb : l.length + l'.length ≤ 140737488355328) (ht : rowTyB P t e 1 1 = true) (hz0 : zeroByteB P e = true) (hs : P.underlying u = some .string) (hd : Nat.blt dd n = true) :
    RS P ops Q n L w0 H (⟨some dd, .call { callee := .builtin .append, args := #[x, y], argTypes := #[t, u] }, ty, pos, af, none⟩ :: rest) := RS.actX rfl (x_appStr hx hy hu hb ht hz0 hs hd) fun v' _ => h v'
end
abbrev pB (b : Nat) : Value := .pointer (some ⟨b, 0, none⟩)
theorem copyCheck1_c (b : Nat) (sl : Value) : ContU Tryz.prog (Hl.blk b 247 [pB b, sl]) 258 [pB b] (fun _ : Unit => True) (fun _ => .tuple #[]) (fun _ => [Hl.blk b 247 [pB b, sl]]) := fun w0 HR w hw => by
  refine enterU Tryz.func258 rfl rfl rfl hw ?_
  repeat' (first
    | (show YK _ _ _ _ _ ⟨_, .nilCheck _, _, _, _, _⟩ _; refine YK.ofV (y_nil (by rfl)) ?_)
    | (show YK _ _ _ _ _ ⟨_, .binOp .eql _ _ _ _, _, _, _, _⟩ _; refine YK.ofV (y_eqNil1 (by rfl) (by rfl) Tryz.underlying244) ?_)
    | (show YK _ _ _ _ _ ⟨_, .binOp .neq _ _ _ _, _, _, _, _⟩ _; refine YK.ofV (y_neSame (by rfl) (by rfl) Tryz.underlying244 (by decide +kernel)) ?_)
    | (refine nxV ?_)
    | (refine nxRS ?_) | (refine nxRS1 fun _ => ?_)
    | (refine nxRM ?_) | (refine nxRM1 fun _ => ?_)
    | (refine nxG ?_)
    | (refine nxX ?_)
    | (refine G.condN rfl (fun hc => ?_) (fun hc => ?_) <;> (try first | exact False.elim hc | (exfalso; omega))))
  exact X.endN rfl (fun w hw => ⟨(), trivial, rfl, hw⟩)
theorem copyCheck0_c (b : Nat) (sl : Value) : ContU Tryz.prog (Hl.blk b 247 [.pointer none, sl]) 258 [pB b] (fun _ : Unit => True) (fun _ => .tuple #[]) (fun _ => [Hl.blk b 247 [pB b, sl]]) := fun w0 HR w hw => by
  refine enterU Tryz.func258 rfl rfl rfl hw ?_
  repeat' (first
    | (show YK _ _ _ _ _ ⟨_, .nilCheck _, _, _, _, _⟩ _; refine YK.ofV (y_nil (by rfl)) ?_)
    | (show YK _ _ _ _ _ ⟨_, .binOp .eql _ _ _ _, _, _, _, _⟩ _; refine YK.ofV (y_eqNil0 (by rfl) (by rfl) Tryz.underlying244) ?_)
    | (show YK _ _ _ _ _ ⟨_, .binOp .neq _ _ _ _, _, _, _, _⟩ _; refine YK.ofV (y_neSame (by rfl) (by rfl) Tryz.underlying244 (by decide +kernel)) ?_)
    | (show YK _ _ _ _ _ ⟨_, .call _, _, _, _, _⟩ _; refine YK.ofV (y_noEsc (by rfl) Tryz.func301 (by kernel_rfl) (by kernel_rfl) (by kernel_rfl) (by kernel_rfl)) ?_)
    | (show YK _ _ _ _ _ ⟨_, .convert 244 _ _, _, _, _, _⟩ _; refine YK.ofV (y_toUnsafe (by rfl) (List.Mem.head _) (Nat.zero_lt_succ _) Tryz.underlying244 Tryz.underlying322 (by kernel_rfl)) ?_)
    | (show YK _ _ _ _ _ ⟨_, .convert 322 _ _, _, _, _, _⟩ _; refine YK.ofV (y_fromUnsafe (k := 2) (by rfl) (List.Mem.head _) Tryz.underlying322 Tryz.underlying244 (by decide +kernel) rfl (by kernel_rfl)) ?_)
    | (refine nxV ?_)
    | (refine nxRS ?_) | (refine nxRS1 fun _ => ?_)
    | (refine nxRM ?_) | (refine nxRM1 fun _ => ?_)
    | (refine nxG ?_)
    | (refine nxX ?_)
    | (refine G.condN rfl (fun hc => ?_) (fun hc => ?_) <;> (try first | exact False.elim hc | (exfalso; omega))))
  exact X.endN rfl (fun w hw => ⟨(), trivial, rfl, hw⟩)
def ContW (P : Program) (X1 X2 : Hl) (f : FuncId) (args : List Value) {ι : Type} (post : ι → Prop) (v : ι → Value) (Y : ι → List Hl) : Prop :=
  ∀ w0 HR w, St w0 (X1 :: X2 :: HR) w → Calls P f args.toArray w fun e w' => ∃ z, post z ∧ e = .returned (v z) ∧ St w0 (Y z ++ HR) w'
section
variable {P : Program} {n : Nat} {L : FL} {w0 : World} {H : List Hl} {Q : Exit → Act → World → Prop} {ops : Array Oper} {rest : List Oper} {dd : Nat} {ty : TypeId} {pos : String} {af : Array Edge} {gd : Option (Nat × Bool)} {ι : Type}
theorem x_callW {X1 X2 : Hl} {A B A' B' : List Hl} {f : FuncId} {xs : List Operand} {vs : List Value} {tys : Array TypeId} {post : ι → Prop} {v : ι → Value} {Y : ι → List Hl} (hc : ContW P X1 X2 f vs post v Y) (ha : AE L xs vs) (hA : At X2 A B H) (hA2 : At X1 A' B' (A ++ B)) (hg : isGo P f = true) (hd : Nat.blt dd n = true) :
    EX P n L w0 H ⟨some dd, .call { callee := .value (.func f), args := xs.toArray, argTypes := tys }, ty, pos, af, gd⟩ post (fun z => (dd, v z) :: L) (fun z => Y z ++ (A' ++ B')) := fun a w hfr hw K Q hK => by
  unfold Oper.wp
  rw [run_call hfr ha hg]
  have h1 := St.front hA hw
  have h2 := St.front (At.there (h := X2) hA2) h1
  refine (hc w0 (A' ++ B') w h2).mono ?_
  rintro e w' ⟨z, hz, rfl, hs⟩
  exact hK _ _ ⟨z, hz, hfr.put (by simpa [Nat.blt_eq] using hd), hs⟩
theorem RS.callW {X1 X2 : Hl} {A B A' B' : List Hl} {f : FuncId} {xs : List Operand} {vs : List Value} {tys : Array TypeId} {post : ι → Prop} {v : ι → Value} {Y : ι → List Hl} (hc : ContW P X1 X2 f vs post v Y) (ha : AE L xs vs) (h : ∀ z, post z → RS P ops Q n ((dd, v z) :: L) w0 (Y z ++ (A' ++ B')) rest)
    (hA : At X2 A B H := by first | exact .here | exact .there .here | exact .there (.there .here) | exact .there (.there (.there .here)) | exact .there (.there (.there (.there .here))))
    (hA2 : At X1 A' B' (A ++ B) := by first | exact .here | exact .there .here | exact .there (.there .here) | exact .there (.there (.there .here)) | exact .there (.there (.there (.there .here))))
    (hg : isGo P f = true := by decide +kernel) (hd : Nat.blt dd n = true := by rfl) :
    RS P ops Q n L w0 H (⟨some dd, .call { callee := .value (.func f), args := xs.toArray, argTypes := tys }, ty, pos, af, none⟩ :: rest) := RS.actX rfl (x_callW hc ha hA hA2 hg hd) h
end
abbrev bldB (b : Nat) (p : Value) (x : Sl) : Hl := Hl.blk b 247 [p, x.v]
abbrev bldR (x : Sl) (l : List UInt8) : Hl := Hl.rw x.v 5 cU 1 l
theorem writeS_c (b : Nat) (p : Value) (hp : p = .pointer none ∨ p = pB b) (x : Sl) (l l' : List UInt8) (hb : l.length + l'.length ≤ 140737488355328) : ContW Tryz.prog (bldR x l) (bldB b p x) 213 [pB b, strV l'] (fun _ : Sl => True) (fun _ => .tuple [.int .i64 l'.length, .nilIface].toArray) (fun z => [bldB b (pB b) z, bldR z (l ++ l')]) := fun w0 HR w hw => by
  have qc : ContU Tryz.prog (bldB b p x) 258 [pB b] (fun _ : Unit => True) (fun _ => .tuple #[]) (fun _ => [bldB b (pB b) x]) := by
    rcases hp with rfl | rfl
    · exact copyCheck0_c b x.v
    · exact copyCheck1_c b x.v
  refine enterU Tryz.func213 rfl rfl rfl hw ?_
  repeat' (first
    | (show YK _ _ _ _ _ ⟨_, .call { callee := .builtin .len, args := _, argTypes := #[9] }, _, _, _, _⟩ _; refine YK.ofV (y_lenS (by rfl) StrTy.is) ?_)
    | (show VK _ _ _ _ _ ⟨_, .call { callee := .builtin .len, args := _, argTypes := #[9] }, _, _, _, _⟩ _; refine VK.mk (y_lenS (by rfl) StrTy.is) ?_)
    | (show YG _ _ _ _ _ _ ⟨_, .call { callee := .builtin .len, args := _, argTypes := #[9] }, _, _, _, _⟩ _; refine YG.mk (fun hb => by (try (have hc := And.left hb; have hb := And.right hb; rw [hc])); (try rw [hb]); exact V.y (y_lenS (by rfl) StrTy.is)) ?_)
    | (show VG _ _ _ _ _ _ ⟨_, .call { callee := .builtin .len, args := _, argTypes := #[9] }, _, _, _, _⟩ _; refine VG.mk (fun hb => by (try (have hc := And.left hb; have hb := And.right hb; rw [hc])); (try rw [hb]); exact y_lenS (by rfl) StrTy.is) ?_)
    | (refine RS.callU qc ⟨rfl, rfl⟩ ?_; rintro z0 _; dsimp only [List.cons_append, List.nil_append])
    | (show YK _ _ _ _ _ ⟨_, .nilCheck _, _, _, _, _⟩ _; refine YK.ofV (y_nil (by rfl)) ?_)
    | (refine RS.appStr ?_ (by rfl) (by rfl) (fun v' => .there _ (.here _)) hb (by decide +kernel) (by decide +kernel) Tryz.underlying9 (by rfl); intro z1)
    | (refine nxV ?_)
    | (refine nxRS ?_) | (refine nxRS1 fun _ => ?_)
    | (refine nxRM ?_) | (refine nxRM1 fun _ => ?_)
    | (refine nxG ?_)
    | (refine nxVS ?_)
    | (refine nxGS ?_)
    | (refine nxX ?_)
    | (refine G.condN rfl (fun hc => ?_) (fun hc => ?_) <;> (try first | exact False.elim hc | (exfalso; omega))))
  exact X.ret (vs := [_, _]) rfl ⟨rfl, rfl, rfl⟩ rfl (fun w hw => ⟨z1, trivial, rfl, hw⟩)
theorem RS.litU {P : Program} {ops : Array Oper} {Q : Exit → Act → World → Prop} {n : Nat} {L : FL} {w0 : World} {H : List Hl} {dd : Tmp} {ty : TypeId} {pos : String} {af : Array Edge} {t e : TypeId} {x : Operand} {c : UInt8} {rest : List Oper} (h : ∀ v' : Sl, RS P ops Q n ((dd, v'.v) :: L) w0 (Hl.rw v'.v e cU 1 [c] :: H) rest) (hx : evO L x = some (.int .u8 c.toNat)) (ht : rowTyB P t e 1 1 = true) (hd : Nat.blt dd n = true) :
    RS P ops Q n L w0 H (⟨some dd, .buildSlice t 1 #[(0, x)], ty, pos, af, none⟩ :: rest) := RS.actX rfl (x_lit (parts := [(0, x)]) (vs := [.int .u8 c.toNat]) (f := cU) (l := [c]) ⟨hx, rfl⟩ rfl rfl rfl rfl rfl rfl ht hd) fun v' _ => h v'
theorem writeB_c (b : Nat) (p : Value) (hp : p = .pointer none ∨ p = pB b) (x : Sl) (l : List UInt8) (c : UInt8) (hb : l.length ≤ 1000000) : ContW Tryz.prog (bldR x l) (bldB b p x) 264 [pB b, .int .u8 c.toNat] (fun _ : Sl => True) (fun _ => .nilIface) (fun z => [bldB b (pB b) z, bldR z (l ++ [c])]) := fun w0 HR w hw => by
  have qc : ContU Tryz.prog (bldB b p x) 258 [pB b] (fun _ : Unit => True) (fun _ => .tuple #[]) (fun _ => [bldB b (pB b) x]) := by
    rcases hp with rfl | rfl
    · exact copyCheck0_c b x.v
    · exact copyCheck1_c b x.v
  refine enterU Tryz.func264 rfl rfl rfl hw ?_
  repeat' (first
    | (show YK _ _ _ _ _ ⟨_, .call { callee := .builtin .len, args := _, argTypes := #[9] }, _, _, _, _⟩ _; refine YK.ofV (y_lenS (by rfl) StrTy.is) ?_)
    | (show VK _ _ _ _ _ ⟨_, .call { callee := .builtin .len, args := _, argTypes := #[9] }, _, _, _, _⟩ _; refine VK.mk (y_lenS (by rfl) StrTy.is) ?_)
    | (show YG _ _ _ _ _ _ ⟨_, .call { callee := .builtin .len, args := _, argTypes := #[9] }, _, _, _, _⟩ _; refine YG.mk (fun hb => by (try (have hc := And.left hb; have hb := And.right hb; rw [hc])); (try rw [hb]); exact V.y (y_lenS (by rfl) StrTy.is)) ?_)
    | (show VG _ _ _ _ _ _ ⟨_, .call { callee := .builtin .len, args := _, argTypes := #[9] }, _, _, _, _⟩ _; refine VG.mk (fun hb => by (try (have hc := And.left hb; have hb := And.right hb; rw [hc])); (try rw [hb]); exact y_lenS (by rfl) StrTy.is) ?_)
    | (refine RS.callU qc ⟨rfl, rfl⟩ ?_; rintro z0 _; dsimp only [List.cons_append, List.nil_append])
    | (show YK _ _ _ _ _ ⟨_, .nilCheck _, _, _, _, _⟩ _; refine YK.ofV (y_nil (by rfl)) ?_)
    | (show RS _ _ _ _ _ _ _ (⟨_, .buildSlice _ _ _, _, _, _, _⟩ :: _); refine RS.litU (e := 5) (c := c) ?_ (by rfl) (by decide +kernel) (by rfl); intro z2)
    | (show RS _ _ _ _ _ _ _ (⟨_, .call { callee := .builtin .append, args := _, argTypes := _ }, _, _, _, _⟩ :: _); refine RS.appendA (f := cU) (l := l) (l' := [c]) ?_; intro z1)
    | (refine nxV ?_)
    | (refine nxRS ?_) | (refine nxRS1 fun _ => ?_)
    | (refine nxRM ?_) | (refine nxRM1 fun _ => ?_)
    | (refine nxG ?_)
    | (refine nxVS ?_)
    | (refine nxGS ?_)
    | (refine nxX ?_)
    | (refine G.condN rfl (fun hc => ?_) (fun hc => ?_) <;> (try first | exact False.elim hc | (exfalso; omega))))
  exact X.ret (vs := [_]) rfl ⟨rfl, rfl⟩ rfl (fun w hw => ⟨z1, trivial, rfl, hw.sub (List.sublist_cons_self _ _)⟩)
theorem bytes_cU (l : List UInt8) : Lib.byteCells l = l.flatMap cU := by
  unfold Lib.byteCells
  induction l with
  | nil => rfl
  | cons c r ih => simp [ih]
section
variable {n : Nat} {L : FL} {w0 : World} {H : List Hl} {Q : Exit → Act → World → Prop} {ops : Array Oper} {rest : List Oper} {dd : Nat} {ty : TypeId} {pos : String} {af : Array Edge} {gd : Option (Nat × Bool)} {x : Operand} {tys : Array TypeId}
theorem isBld {b : Nat} {p : Value} (hp : p = .pointer none ∨ p = pB b) {z : Sl} {l : List UInt8} {w : World} (h1 : bldB b p z ∈ H) (h2 : bldR z l ∈ H) (hw : St w0 H w) : Lib.IsBuilder 247 5 w0.heap.size b (Lib.byteCells l) w := by
  have a1 : _ ∧ w.heap[b]? = some (.cells [p, z.v].toArray 247 (0, 0)) := hw.all _ h1
  have a2 : w.ownsRow w0.heap.size 5 1 z.v l.length (l.flatMap cU) := hw.all _ h2
  have e : (Lib.byteCells l).length = l.length := by unfold Lib.byteCells; simp
  have a3 : Lib.BuilderAt 247 5 w0.heap.size b p (Lib.byteCells l) w := ⟨a1.1, z.v, a1.2, by rw [e, bytes_cU]; exact a2, Lib.ownBlock_ne a2 a1.2 (by decide)⟩
  rcases hp with rfl | rfl
  · exact .inl a3
  · exact .inr a3
theorem RS.string {b : Nat} {p : Value} {z : Sl} {l : List UInt8} (h : RS Tryz.prog ops Q n ((dd, strV l) :: L) w0 [] rest) (hp : p = .pointer none ∨ p = pB b) (h1 : bldB b p z ∈ H) (h2 : bldR z l ∈ H) (ha : AE L [x] [pB b]) (hd : Nat.blt dd n = true := by rfl) :
    RS Tryz.prog ops Q n L w0 H (⟨some dd, .call { callee := .value (.func 214), args := [x].toArray, argTypes := tys }, ty, pos, af, none⟩ :: rest) :=
  RS.actX rfl (post := fun _ : Unit => True) (fun a w hfr hw K Q hK => by
    unfold Oper.wp
    rw [run_call hfr ha (by decide +kernel)]
    refine (Tryz.Builder_String_any w0.heap.size b l w (isBld hp h1 h2 hw) hw.ext.size).mono ?_
    rintro e w' ⟨rfl, hs⟩
    exact hK _ _ ⟨(), trivial, hfr.put (by simpa [Nat.blt_eq] using hd), hw.ext.trans hs, (fun y hy => by cases hy), trivial⟩) fun _ _ => h
end
end Go.Proofs.YtjmdeplmenbmmaaGreatDoor
set_option maxHeartbeats 8000000
namespace Go.Proofs.YtjmdeplmenbmmaaGreatDoor
open Go.RowKit
def signI (n : Int) : Int := if TT.turnI n ≥ 10800000 then TT.turnI n - 21600000 else TT.turnI n
theorem wrap_c {n : Int} (h : -4611686018427387904 ≤ n ∧ n ≤ 4611686018427387904) : Cont Tryz.prog 87 [.int .i64 n] (.int .i64 (TT.turnI n)) := fun w => by
  have ht := tmod_turn n
  have hb : -21600000 < n.tmod 21600000 ∧ n.tmod 21600000 < 21600000 := by omega
  refine enter0 Tryz.func87 rfl rfl rfl ?_
  repeat' (first
    | (refine nxV ?_)
    | (refine nxRS ?_) | (refine nxRS1 fun _ => ?_)
    | (refine nxRM ?_) | (refine nxRM1 fun _ => ?_)
    | (refine nxG ?_)
    | (refine nxX ?_)
    | (refine G.condN rfl (fun hc => ?_) (fun hc => ?_) <;> (try first | exact False.elim hc | (exfalso; omega))))
  all_goals refine X.ret (vs := [_]) rfl ⟨rfl, rfl⟩ rfl (fun w hw => ⟨congrArg Ending.returned (congrArg (Value.int .i64) ?_), hw.ext⟩)
  all_goals (unfold TT.turnI; omega)
theorem signed_c {n : Int} (h : -4611686018427387904 ≤ n ∧ n ≤ 4611686018427387904) : Cont Tryz.prog 31 [.int .i64 n] (.int .i64 (signI n)) := fun w => by
  have q1 := wrap_c h
  have hb := TT.turnI_bd n
  unfold signI
  generalize TT.turnI n = m at *
  by_cases hc : m ≥ 10800000
  · rw [if_pos hc]
    refine enter0 Tryz.func31 rfl rfl rfl ?_
    repeat' (first
    | (show YK _ _ _ _ _ _ _; first | refine YK.mk (y_callA (q1) ⟨rfl, rfl⟩) ?_)
    | (refine nxV ?_)
    | (refine nxRS ?_) | (refine nxRS1 fun _ => ?_)
    | (refine nxRM ?_) | (refine nxRM1 fun _ => ?_)
    | (show YG _ _ _ _ _ _ _ _; refine YG.mk (fun hb => by (try (have hc := And.left hb; have hb := And.right hb; rw [hc])); (try rw [hb]); first | exact (y_callA (q1) ⟨rfl, rfl⟩) | exact V.y vAuto) ?_)
    | (refine nxG ?_)
    | (refine nxX ?_)
    | (refine G.condN rfl (fun hc => ?_) (fun hc => ?_) <;> (try first | exact False.elim hc | (exfalso; omega))))
    exact X.ret (vs := [_]) rfl ⟨rfl, rfl⟩ rfl (fun w hw => ⟨rfl, hw.ext⟩)
  · rw [if_neg hc]
    refine enter0 Tryz.func31 rfl rfl rfl ?_
    repeat' (first
    | (show YK _ _ _ _ _ _ _; first | refine YK.mk (y_callA (q1) ⟨rfl, rfl⟩) ?_)
    | (refine nxV ?_)
    | (refine nxRS ?_) | (refine nxRS1 fun _ => ?_)
    | (refine nxRM ?_) | (refine nxRM1 fun _ => ?_)
    | (show YG _ _ _ _ _ _ _ _; refine YG.mk (fun hb => by (try (have hc := And.left hb; have hb := And.right hb; rw [hc])); (try rw [hb]); first | exact (y_callA (q1) ⟨rfl, rfl⟩) | exact V.y vAuto) ?_)
    | (refine nxG ?_)
    | (refine nxX ?_)
    | (refine G.condN rfl (fun hc => ?_) (fun hc => ?_) <;> (try first | exact False.elim hc | (exfalso; omega))))
    exact X.ret (vs := [_]) rfl ⟨rfl, rfl⟩ rfl (fun w hw => ⟨rfl, hw.ext⟩)
theorem signI_bd (n : Int) : -10800000 ≤ signI n ∧ signI n < 10800000 := by
  have := TT.turnI_bd n
  unfold signI
  split <;> omega
def pointB (la lo : Int) : Bool := decide (-5400000 ≤ la) && decide (la ≤ 5400000) && decide (-10800000 ≤ lo) && decide (lo < 10800000)
abbrev ptV (la lo : Int) : Value := .agg [.int .i64 la, .int .i64 lo].toArray
theorem vpoint_c (la lo : Int) : Cont Tryz.prog 37 [ptV la lo] (.bool (pointB la lo)) := fun w => by
  refine enter0 Tryz.func37 rfl rfl rfl ?_
  repeat' (first
    | (refine nxV ?_)
    | (refine nxRS ?_) | (refine nxRS1 fun _ => ?_)
    | (refine nxRM ?_) | (refine nxRM1 fun _ => ?_)
    | (refine nxG ?_)
    | (refine nxX ?_)
    | (refine G.condN rfl (fun hc => ?_) (fun hc => ?_) <;> (try first | exact False.elim hc | (exfalso; omega))))
  exact X.ret (vs := [_]) rfl ⟨rfl, rfl⟩ rfl (fun w hw => ⟨rfl, hw.ext⟩)
end Go.Proofs.YtjmdeplmenbmmaaGreatDoor
set_option maxHeartbeats 8000000
namespace Go.Proofs.YtjmdeplmenbmmaaGreatDoor
open Go.RowKit
def cPt (p : Int × Int) : List Value := [.int .i64 p.1, .int .i64 p.2]
section
variable {P : Program} {n : Nat} {L : FL} {w0 : World} {H : List Hl} {Q : Exit → Act → World → Prop} {ops : Array Oper} {rest : List Oper} {dd : Nat} {ty : TypeId} {pos : String} {af : Array Edge} {t e : TypeId} {bytes : Nat}
theorem RS.lit2Pt {x0 x1 : Operand} {a b : Int × Int} (h : ∀ v' : Sl, RS P ops Q n ((dd, v'.v) :: L) w0 (Hl.rw v'.v e cPt 2 [a, b] :: H) rest) (hx0 : evO L x0 = some (ptV a.1 a.2)) (hx1 : evO L x1 = some (ptV b.1 b.2)) [ht : RowTy P t e 2 bytes] (hd : Nat.blt dd n = true := by rfl) :
    RS P ops Q n L w0 H (⟨some dd, .buildSlice t 2 #[(0, x0), (1, x1)], ty, pos, af, none⟩ :: rest) := RS.actX rfl (x_litS (parts := [(0, x0), (1, x1)]) (vs := [ptV a.1 a.2, ptV b.1 b.2]) (cs := cPt a ++ cPt b) (f := cPt) (l := [a, b]) ⟨hx0, hx1, rfl⟩ rfl rfl rfl rfl (fun zs hz => by
      match zs, hz with
      | [_, _, _, _], _ => rfl) rfl rfl rfl (rowTy_B ht.is) hd) fun v' _ => h v'
theorem RS.lit4Pt {x0 x1 x2 x3 : Operand} {a b c d : Int × Int} (h : ∀ v' : Sl, RS P ops Q n ((dd, v'.v) :: L) w0 (Hl.rw v'.v e cPt 2 [a, b, c, d] :: H) rest) (hx0 : evO L x0 = some (ptV a.1 a.2)) (hx1 : evO L x1 = some (ptV b.1 b.2)) (hx2 : evO L x2 = some (ptV c.1 c.2)) (hx3 : evO L x3 = some (ptV d.1 d.2)) [ht : RowTy P t e 2 bytes] (hd : Nat.blt dd n = true := by rfl) :
    RS P ops Q n L w0 H (⟨some dd, .buildSlice t 4 #[(0, x0), (1, x1), (2, x2), (3, x3)], ty, pos, af, none⟩ :: rest) := RS.actX rfl (x_litS (parts := [(0, x0), (1, x1), (2, x2), (3, x3)]) (vs := [ptV a.1 a.2, ptV b.1 b.2, ptV c.1 c.2, ptV d.1 d.2]) (cs := cPt a ++ (cPt b ++ (cPt c ++ cPt d))) (f := cPt) (l := [a, b, c, d]) ⟨hx0, hx1, hx2, hx3, rfl⟩ rfl rfl rfl rfl (fun zs hz => by
      match zs, hz with
      | [_, _, _, _, _, _, _, _], _ => rfl) rfl rfl rfl (rowTy_B ht.is) hd) fun v' _ => h v'
theorem RS.lit1Pt {x0 : Operand} {a : Int × Int} (h : ∀ v' : Sl, RS P ops Q n ((dd, v'.v) :: L) w0 (Hl.rw v'.v e cPt 2 [a] :: H) rest) (hx0 : evO L x0 = some (ptV a.1 a.2)) [ht : RowTy P t e 2 bytes] (hd : Nat.blt dd n = true := by rfl) :
    RS P ops Q n L w0 H (⟨some dd, .buildSlice t 1 #[(0, x0)], ty, pos, af, none⟩ :: rest) := RS.actX rfl (x_litS (parts := [(0, x0)]) (vs := [ptV a.1 a.2]) (cs := cPt a) (f := cPt) (l := [a]) ⟨hx0, rfl⟩ rfl rfl rfl rfl (fun zs hz => by
      match zs, hz with
      | [_, _], _ => rfl) rfl rfl rfl (rowTy_B ht.is) hd) fun v' _ => h v'
theorem RS.lit2I {x0 x1 : Operand} {a b : Int} (h : ∀ v' : Sl, RS P ops Q n ((dd, v'.v) :: L) w0 (Hl.rw v'.v e cI 1 [a, b] :: H) rest) (hx0 : evO L x0 = some (.int .i64 a)) (hx1 : evO L x1 = some (.int .i64 b)) [ht : RowTy P t e 1 bytes] (hd : Nat.blt dd n = true := by rfl) :
    RS P ops Q n L w0 H (⟨some dd, .buildSlice t 2 #[(0, x0), (1, x1)], ty, pos, af, none⟩ :: rest) := RS.actX rfl (x_litS (parts := [(0, x0), (1, x1)]) (vs := [.int .i64 a, .int .i64 b]) (cs := cI a ++ cI b) (f := cI) (l := [a, b]) ⟨hx0, hx1, rfl⟩ rfl rfl rfl rfl (fun zs hz => by
      match zs, hz with
      | [_, _], _ => rfl) rfl rfl rfl (rowTy_B ht.is) hd) fun v' _ => h v'
end
def divQ (x y : Int) : Int := x * 1073741824 / y
def divC (x y : Int) : Int := -(-(x * 1073741824) / y)
def divE (A B : Int × Int) : Int × Int := (min (min (min (min (divQ A.1 B.1) (divQ A.1 B.1)) (divQ A.1 B.2)) (divQ A.2 B.1)) (divQ A.2 B.2), max (max (max (max (divC A.1 B.1) (divC A.1 B.1)) (divC A.1 B.2)) (divC A.2 B.1)) (divC A.2 B.2))
theorem fdiv_c {A B : Int × Int} (hA : two31 A) (hB : two31 B) (h0 : 0 < B.1) (h : -2147483648 ≤ (divE A B).1 ∧ (divE A B).1 ≤ (divE A B).2 ∧ (divE A B).2 ≤ 2147483648) : Cont Tryz.prog 85 [arcV A.1 A.2, arcV B.1 B.2] (.tuple [arcV (divE A B).1 (divE A B).2, .int .i64 0].toArray) := fun w => by
  obtain ⟨A1, A2⟩ := A
  obtain ⟨B1, B2⟩ := B
  unfold divE at *
  dsimp only at *
  have q1 := fboth_c (a := A1) (b := A2) (c := B1) (d := B2) hA hB
  have q2 := fzero_f (a := B1) (b := B2) h0
  have q3 := ffit_c h
  have f11 := ffloorD_c (n := A1 * 1073741824) (d := B1) (by omega) (by omega)
  have f12 := ffloorD_c (n := A1 * 1073741824) (d := B2) (by omega) (by omega)
  have f21 := ffloorD_c (n := A2 * 1073741824) (d := B1) (by omega) (by omega)
  have f22 := ffloorD_c (n := A2 * 1073741824) (d := B2) (by omega) (by omega)
  have c11 := fceilD_c (n := A1 * 1073741824) (d := B1) (by omega) (by omega)
  have c12 := fceilD_c (n := A1 * 1073741824) (d := B2) (by omega) (by omega)
  have c21 := fceilD_c (n := A2 * 1073741824) (d := B1) (by omega) (by omega)
  have c22 := fceilD_c (n := A2 * 1073741824) (d := B2) (by omega) (by omega)
  unfold divQ divC at *
  generalize A1 * 1073741824 / B1 = d11 at *
  generalize A1 * 1073741824 / B2 = d12 at *
  generalize A2 * 1073741824 / B1 = d21 at *
  generalize A2 * 1073741824 / B2 = d22 at *
  generalize -(-(A1 * 1073741824) / B1) = e11 at *
  generalize -(-(A1 * 1073741824) / B2) = e12 at *
  generalize -(-(A2 * 1073741824) / B1) = e21 at *
  generalize -(-(A2 * 1073741824) / B2) = e22 at *
  have n1 : nth [A1, A2] 0 = A1 := rfl
  have n2 : nth [A1, A2] (0 + 1) = A2 := rfl
  have l1 : (([A1, A2].length : Nat) : Int) = 2 := rfl
  have l2 : (([B1, B2].length : Nat) : Int) = 2 := rfl
  refine enter0 Tryz.func85 rfl rfl rfl ?_
  repeat' (first
    | (show G _ _ _ _ _ _ (.loop _); refine G.loopN 3 (GR.step ?_))
    | (show X (Exit.then (Code.rounds _ _ _ _) _) _ _ _ _ .normal; refine X.round (GR.step ?_))
    | (show RS _ _ _ _ _ _ _ (⟨some _, .buildSlice _ 2 _, _, _, _, _⟩ :: _); refine RS.lit2I (fun v' => ?_) rfl rfl)
    | (show YK _ _ _ _ _ _ _; first | refine YK.mk (y_callA (q1) ⟨rfl, rfl, rfl⟩) ?_ | refine YK.mk (y_callA (q2) ⟨rfl, rfl⟩) ?_ | refine YK.mk (y_callA (f11) ⟨rfl, rfl, rfl⟩) ?_ | refine YK.mk (y_callA (f12) ⟨rfl, rfl, rfl⟩) ?_ | refine YK.mk (y_callA (f21) ⟨rfl, rfl, rfl⟩) ?_ | refine YK.mk (y_callA (f22) ⟨rfl, rfl, rfl⟩) ?_ | refine YK.mk (y_callA (c11) ⟨rfl, rfl, rfl⟩) ?_ | refine YK.mk (y_callA (c12) ⟨rfl, rfl, rfl⟩) ?_ | refine YK.mk (y_callA (c21) ⟨rfl, rfl, rfl⟩) ?_ | refine YK.mk (y_callA (c22) ⟨rfl, rfl, rfl⟩) ?_ | refine YK.mk (y_callA (q3) ⟨rfl, rfl, rfl⟩) ?_)
    | (refine nxV ?_)
    | (refine nxRS ?_) | (refine nxRS1 fun _ => ?_)
    | (refine nxRM ?_) | (refine nxRM1 fun _ => ?_)
    | (show YG _ _ _ _ _ _ _ _; refine YG.mk (fun hb => by (try (have hc := And.left hb; have hb := And.right hb; rw [hc])); (try rw [hb]); first | exact (y_callA (q1) ⟨rfl, rfl, rfl⟩) | exact (y_callA (q2) ⟨rfl, rfl⟩) | exact (y_callA (f11) ⟨rfl, rfl, rfl⟩) | exact (y_callA (f12) ⟨rfl, rfl, rfl⟩) | exact (y_callA (f21) ⟨rfl, rfl, rfl⟩) | exact (y_callA (f22) ⟨rfl, rfl, rfl⟩) | exact (y_callA (c11) ⟨rfl, rfl, rfl⟩) | exact (y_callA (c12) ⟨rfl, rfl, rfl⟩) | exact (y_callA (c21) ⟨rfl, rfl, rfl⟩) | exact (y_callA (c22) ⟨rfl, rfl, rfl⟩) | exact (y_callA (q3) ⟨rfl, rfl, rfl⟩) | exact V.y vAuto) ?_)
    | (refine nxG ?_)
    | (refine G.mixedA 5 [.go 0, .go 1, .go 2, .go 3, .go 4, .go 6, .go 7, .go 8, .go 9, .go 10, .go 5, .go 11, .go 12, .go 13] ?_)
    | (refine nxX ?_)
    | (refine G.condN rfl (fun hc => ?_) (fun hc => ?_) <;> (try first | exact False.elim hc | (exfalso; omega))))
  exact X.ret (vs := [_, _]) rfl ⟨⟨_, _, _, _, rfl, (by exact memA), (by (repeat (first | exact .nil | apply LenIs.cons))), by decide +kernel, rfl⟩, rfl, rfl⟩ rfl (fun w hw => ⟨rfl, hw.ext⟩)
theorem ediv_mono {p c d : Int} (hp : 0 ≤ p) (hc : 0 < c) (h : c ≤ d) : p / d ≤ p / c ∧ -(-p / d) ≤ -(-p / c) := by
  have a1 := Int.emod_add_mul_ediv p d
  have a2 := Int.emod_nonneg p (by omega : d ≠ 0)
  have b1 := Int.emod_add_mul_ediv (-p) c
  have b2 := Int.emod_nonneg (-p) (by omega : c ≠ 0)
  have q0 : 0 ≤ p / d := Int.ediv_nonneg hp (by omega)
  have m1 := Int.mul_le_mul_of_nonneg_right h q0
  constructor
  · refine (Int.le_ediv_iff_mul_le hc).2 ?_
    rw [Int.mul_comm]
    omega
  · have k0 : -p / c ≤ 0 := by
      have := Int.ediv_nonneg hp (show 0 ≤ c by omega)
      refine Int.not_lt.1 fun hlt => ?_
      have m2 := Int.mul_le_mul_of_nonneg_left (show 1 ≤ -p / c by omega) (show 0 ≤ c by omega)
      have h3 := Int.emod_lt_of_pos (-p) hc
      omega
    have : -p / c ≤ -p / d := by
      refine (Int.le_ediv_iff_mul_le (by omega)).2 ?_
      have m2 := Int.mul_le_mul_of_nonneg_right h (show 0 ≤ -(-p / c) by omega)
      rw [Int.mul_neg, Int.mul_neg] at m2
      rw [Int.mul_comm]
      omega
    omega
theorem pair_built (a b : Int) : Tryz.prog.built 156 [(0, Value.int .i64 a), (1, Value.int .i64 b)] = some [Value.int .i64 a, Value.int .i64 b].toArray := by kernel_rfl
theorem fquot_c {c1 c2 : Int} {n : Nat} (hcc : 1 ≤ c1 ∧ c1 ≤ c2 ∧ c2 ≤ 1073741824) (hn : n ≤ 100000000) : Cont Tryz.prog 43 [arcV 1073741824 1073741824, arcV c1 c2, .int .i64 (n : Int)]
    (if -(-((1073741824 * n : Nat) : Int) / c1) ≤ 1099511627776 then .tuple [.int .i64 (((1073741824 * n : Nat) : Int) / c2), .int .i64 (-(-((1073741824 * n : Nat) : Int) / c1)), .int .i64 0].toArray else .tuple [.int .i64 0, .int .i64 0, .int .i64 5].toArray) := fun w => by
  have q1 := fboth_c (a := 1073741824) (b := 1073741824) (c := c1) (d := c2) (by omega) (by omega)
  have q2 := factor_t (n := (n : Int)) (by omega)
  have q3 := fzero_f (a := c1) (b := c2) (by omega)
  have q4 := enclose_c (x := 1073741824) (n := n) (d := c1) (by omega) (by omega) (by omega) (by omega)
  have q5 := enclose_c (x := 1073741824) (n := n) (d := c2) (by omega) (by omega) (by omega) (by omega)
  change Cont _ _ [.int .i64 1073741824, _, _] _ at q4
  change Cont _ _ [.int .i64 1073741824, _, _] _ at q5
  have hp : 0 ≤ ((1073741824 * n : Nat) : Int) := by omega
  have hp2 : ((1073741824 * n : Nat) : Int) ≤ 107374182400000000 := by omega
  generalize ((1073741824 * n : Nat) : Int) = p at *
  obtain ⟨km1, km2⟩ := ediv_mono hp (show 0 < c1 by omega) hcc.2.1
  have km3 : 0 ≤ p / c2 := Int.ediv_nonneg hp (by omega)
  have km4 : p / c1 ≤ -(-p / c1) := by rw [rnd_up (by omega)]; split <;> omega
  have km5 : p / c2 ≤ -(-p / c2) := by rw [rnd_up (by omega)]; split <;> omega
  have q6 := factor_c (n := p / c2)
  have q7 := factor_c (n := -(-p / c1))
  generalize p / c1 = x1 at *
  generalize p / c2 = x2 at *
  generalize -(-p / c1) = y1 at *
  generalize -(-p / c2) = y2 at *
  have e1 : min (min (min (min x1 x1) x2) x1) x2 = x2 := by omega
  have e2 : max (max (max (max y1 y1) y2) y1) y2 = y1 := by omega
  rw [← e1] at q6
  rw [← e2] at q7
  obtain ⟨o, ho⟩ : ∃ o : Int, o = 1073741824 := ⟨_, rfl⟩
  rw [← ho] at q1 q4 q5 ⊢
  have n0 : nth [(o, c1), (o, c2), (o, c1), (o, c2)] 0 = (o, c1) := rfl
  have l1 : (([(o, c1), (o, c2), (o, c1), (o, c2)].length : Nat) : Int) = 4 := rfl
  refine enter0 Tryz.func43 rfl rfl rfl ?_
  repeat' (first
    | (show G _ _ _ _ _ _ (.loop _); refine G.loopN 6 (GR.step ?_))
    | (show X (Exit.then (Code.rounds _ _ _ _) _) _ _ _ _ .normal; refine X.round (GR.step ?_))
    | (show YK _ _ _ _ _ ⟨_, .indexAddr 156 _ _, _, _, _, _⟩ _; refine YK.ofV (y_indexArr (len := 2) rfl rfl (by first | exact (rfl : _ = ((0 : Nat) : Int)) | exact (rfl : _ = ((1 : Nat) : Int))) (by decide +kernel) rfl) ?_)
    | (show VK _ _ _ _ _ ⟨_, .indexAddr 156 _ _, _, _, _, _⟩ _; refine VK.mk (y_indexArr (len := 2) rfl rfl (by first | exact (rfl : _ = ((0 : Nat) : Int)) | exact (rfl : _ = ((1 : Nat) : Int))) (by decide +kernel) rfl) ?_)
    | (show YK _ _ _ _ _ ⟨_, .build 156 _, _, _, _, _⟩ _; refine YK.ofV (y_build (parts := [(0, _), (1, _)]) (vs := [_, _]) ⟨rfl, rfl, rfl⟩ (pair_built _ _)) ?_)
    | (show RS _ _ _ _ _ _ _ (⟨some _, .buildSlice _ 4 _, _, _, _, _⟩ :: _); refine RS.lit4Pt (a := (o, c1)) (b := (o, c2)) (c := (o, c1)) (d := (o, c2)) (fun v' => ?_) rfl rfl rfl rfl)
    | (show YK _ _ _ _ _ _ _; first | refine YK.mk (y_callA (q1) ⟨rfl, rfl, rfl⟩) ?_ | refine YK.mk (y_callA (q2) ⟨rfl, rfl⟩) ?_ | refine YK.mk (y_callA (q3) ⟨rfl, rfl⟩) ?_ | refine YK.mk (y_callA (q4) ⟨rfl, rfl, rfl, rfl⟩) ?_ | refine YK.mk (y_callA (q5) ⟨rfl, rfl, rfl, rfl⟩) ?_ | refine YK.mk (y_callA (q6) ⟨rfl, rfl⟩) ?_ | refine YK.mk (y_callA (q7) ⟨rfl, rfl⟩) ?_)
    | (refine nxV ?_)
    | (refine nxRS ?_) | (refine nxRS1 fun _ => ?_)
    | (refine nxRM ?_) | (refine nxRM1 fun _ => ?_)
    | (show YG _ _ _ _ _ _ _ _; refine YG.mk (fun hb => by (try (have hc := And.left hb; have hb := And.right hb; rw [hc])); (try rw [hb]); first | exact (y_callA (q1) ⟨rfl, rfl, rfl⟩) | exact (y_callA (q2) ⟨rfl, rfl⟩) | exact (y_callA (q3) ⟨rfl, rfl⟩) | exact (y_callA (q4) ⟨rfl, rfl, rfl, rfl⟩) | exact (y_callA (q5) ⟨rfl, rfl, rfl, rfl⟩) | exact (y_callA (q6) ⟨rfl, rfl⟩) | exact (y_callA (q7) ⟨rfl, rfl⟩) | exact V.y vAuto) ?_)
    | (refine nxG ?_)
    | (refine nxX ?_)
    | (refine G.condN rfl (fun hc => ?_) (fun hc => ?_) <;> (try first | exact False.elim hc | (exfalso; omega))))
  all_goals first
    | (rw [if_neg (by omega)]; exact X.ret (vs := [_, _, _]) rfl ⟨rfl, rfl, rfl, rfl⟩ rfl (fun w hw => ⟨rfl, hw.ext⟩))
    | (rw [if_pos (by omega), ← e1, ← e2]; exact X.ret (vs := [_, _, _]) rfl ⟨rfl, rfl, rfl, rfl⟩ rfl (fun w hw => ⟨rfl, hw.ext⟩))
    | (have h9 : y1 ≤ 1099511627776 := by rw [← e2]; omega
       rw [if_pos h9]
       refine X.ret (vs := [_, _, _]) rfl ⟨rfl, rfl, rfl, rfl⟩ rfl (fun w hw => ⟨?_, hw.ext⟩)
       rw [e1, e2])
end Go.Proofs.YtjmdeplmenbmmaaGreatDoor
