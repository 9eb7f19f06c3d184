/- Joined texts: Fxb, Fxd, Fxp, Wr1, Wr2, LaidC. -/
import Derived.Test.YtjmdeplmenbmmaaGreatDoorW23
import Derived.Scope
import Derived.Test.YtjmdeplmenbmmaaGreatDoorW11
import Derived.Test.YtjmdeplmenbmmaaGreatDoorW06
import Derived.Test.YtjmdeplmenbmmaaGreatDoorW10
set_option linter.unusedVariables false
set_option maxHeartbeats 8000000
namespace Go.Proofs.YtjmdeplmenbmmaaGreatDoor
open Go.RowKit
theorem Upd.split {x z : Hl} (y : Hl) {H H' : List Hl} (h : Upd x z H H') : ∃ H1, Upd x y H H1 ∧ Upd y z H1 H' := by
  induction h with
  | here r => exact ⟨y :: r, .here r, .here r⟩
  | there u _ ih =>
    obtain ⟨H1, h1, h2⟩ := ih
    exact ⟨u :: H1, .there u h1, .there u h2⟩
theorem St.setCells {w0 : World} {b : Nat} {t : TypeId} : ∀ (us : List Value) (o : Nat) (cs : List Value) (H H' : List Hl) (w : World), St w0 H w → Upd (.blk b t cs) (.blk b t (setAt cs o us)) H H' → St w0 H' (w.setCells b o us)
  | [], o, cs, H, H', w, h, hu => by
    have e : H' = H := by
      induction hu with
      | here r => rfl
      | there z h ih => rw [ih (h := St.sub ‹_› (List.sublist_cons_self _ _))]
    rw [e]; exact h
  | u :: r, o, cs, H, H', w, h, hu => by
    obtain ⟨H1, h1, h2⟩ := hu.split (.blk b t (cs.set o u))
    exact St.setCells r (o + 1) (cs.set o u) H1 H' _ (h.setCell u h1) h2
section
variable {P : Program} {n : Nat} {L : FL} {w0 : World} {H : List Hl} {Q : Exit → Act → World → Prop} {ops : Array Oper} {rest : List Oper} {ty : TypeId} {pos : String} {af : Array Edge} {gd : Option (Nat × Bool)} {x y : Operand} {t t' : TypeId}
theorem x_storePart {b o k : Nat} {cs us : List Value} {H' : List Hl} (hx : evO L x = some (.pointer (some ⟨b, o, none⟩))) (hy : evO L y = some (.agg us.toArray)) (hu : us.all (·.oneCell') = true)
    (hm : Upd (.blk b t' cs) (.blk b t' (setAt cs o us)) H H') (hk : us.length = k) (ho : Nat.ble (o + k) cs.length = true) (hs : rowB P t k = true) : EX P n L w0 H ⟨none, .store t x y, ty, pos, af, gd⟩ (fun _ : Unit => True) (fun _ => L) (fun _ => H') :=
  EX.of_skip fun a w ha hw => by
    have ho' : o + k ≤ cs.length := Nat.le_of_ble_eq_true ho
    have hadd : ∀ j, (⟨b, o, none⟩ : Addr).add j = ⟨b, o + j, none⟩ := fun j => by unfold Addr.add; split <;> simp_all
    have hrun := run_storeCells_cells (P := P) b o us 0 w (fun j hj => by
      rw [hw.cell hm.mem, List.getElem?_eq_getElem (by omega)]; rfl) (fun j _ => hw.free hm.mem _) (fun u hu' => List.all_eq_true.1 hu u hu')
    refine ⟨w.setCells b o us, (), by simp [execOp, ha.eval hx, ha.eval hy, Instr.storeAt, Instr.sureAddr, storeVar, Value.cells, run_sizeOf_of (info_of_rowB hs), hk, hrun], trivial, rfl, St.setCells us o cs H H' w hw hm⟩
theorem RS.storePart {b o k : Nat} {cs us : List Value} {H' : List Hl} (h : RS P ops Q n L w0 H' rest) (hx : evO L x = some (.pointer (some ⟨b, o, none⟩))) (hy : evO L y = some (.agg us.toArray)) (hu : us.all (·.oneCell') = true)
    (hm : Upd (.blk b t' cs) (.blk b t' (setAt cs o us)) H H') (hk : us.length = k) (ho : Nat.ble (o + k) cs.length = true) (hs : rowB P t k = true) : RS P ops Q n L w0 H (⟨none, .store t x y, ty, pos, af, none⟩ :: rest) := RS.actX rfl (x_storePart hx hy hu hm hk ho hs) fun _ _ => h
end
theorem upd_self {y : Hl} : ∀ {H : List Hl}, y ∈ H → Upd y y H H
  | h :: r, hm => by
    rcases List.mem_cons.1 hm with rfl | hm
    · exact .here _
    · exact .there _ (upd_self hm)
theorem RM.storeKeep {P : Program} {n i : Nat} {L : FL} {w0 : World} {H HS : List Hl} {Q : Exit → Act → World → Prop} {ops : Array Oper} {ord : List Mv} {ty : TypeId} {pos : String} {af : Array Edge} {x y : Operand} {t t' : TypeId} {b k : Nat} {cs : List Value} {u : Value} (h : RM P ops Q HS n [] L w0 H ord) (ho : ops[i]? = some ⟨none, .store t x y, ty, pos, af, none⟩) (hx : evO L x = some (.pointer (some ⟨b, k, none⟩))) (hy : evO L y = some u) (hu : u.oneCell' = true)
    (hm : Hl.blk b t' cs ∈ H) (hk : cs[k]? = some u) (hs : scalarB P t = true) (hla : ∀ w, St w0 H w → St w0 HS w) : RM P ops Q HS n [] L w0 H (.go i :: ord) := by
  obtain ⟨hlt, e⟩ := List.getElem?_eq_some_iff.1 hk
  have e2 : cs.set k u = cs := by rw [← e, List.set_getElem_self]
  have hu2 : Upd (.blk b t' cs) (.blk b t' (cs.set k u)) H H := by rw [e2]; exact upd_self hm
  exact RM.actX ho rfl rfl (x_store hx hy hu hu2 (by simpa [Nat.blt_eq] using hlt) hs) (.inl fun _ w h => hla w h) fun _ _ => h
theorem RS.formed {P : Program} {n : Nat} {L : FL} {w0 : World} {H : List Hl} {Q : Exit → Act → World → Prop} {ops : Array Oper} {rest : List Oper} {α : Type} {f : α → List Value} {s k : Nat} {l : List α} {e : TypeId} {v' : Sl} (hm : Hl.rw v'.v e f s l ∈ H) (hl : l.length = k + 1) (h : ∀ g cap, v' = ⟨some ⟨g, 0, none⟩, k + 1, cap⟩ → RS P ops Q n L w0 H rest) : RS P ops Q n L w0 H rest := by
  unfold RS
  intro a w ha hw
  have ho : w.ownsRow w0.heap.size e s v'.v (k + 1) (l.flatMap f) := by rw [← hl]; exact hw.all _ hm
  obtain ⟨g, cap, e1⟩ := ownsRow_succ ho
  have e2 : v' = ⟨some ⟨g, 0, none⟩, k + 1, cap⟩ := by
    obtain ⟨A, N, C⟩ := v'
    have e3 : Value.slice A N C = .slice (some ⟨g, 0, none⟩) (k + 1) cap := e1
    simp only [Value.slice.injEq] at e3
    rw [e3.1, e3.2.1, e3.2.2]
  have := h g cap e2
  unfold RS at this
  exact this a w ha hw
theorem bounds1_c {v : Value} {p : LegT} (h1 : -5400000 ≤ p.1.1 ∧ p.1.1 ≤ p.1.2 ∧ p.1.2 ≤ 5400000) (h2 : -10800000 ≤ p.2.1 ∧ p.2.1 < 10800000 ∧ p.2.1 ≤ p.2.2 ∧ p.2.2 - p.2.1 < 21600000) : ContR Tryz.prog [Hl.rd v cLg 4 [p]] 151 [v] (v4 p.1.1 p.1.2 p.2.1 p.2.2) := fun w hw0 => by
  have l1 : (([p].length : Nat) : Int) = 1 := rfl
  have q1 := fun b cap => around_c (b := b) (cap := cap) h2
  refine enter Tryz.func151 rfl rfl rfl hw0 ?_
  repeat' (first
    | (refine nxN ?_)
    | (show VK _ _ _ _ _ ⟨some 10, .load 34 _, _, _, _, _⟩ _; refine VK.mk (y_loadElPart (inst := inferInstance) (v := v) (s := 4) (m := 0) (i := 0) (k := 2) (f := cLg) (l := [p]) (u := arcV p.1.1 p.1.2) (by rfl) (by exact rdA) (fun _ => rfl) (by omega) (by rfl) (by rfl) (by rfl) (by decide +kernel)) ?_)
    | (show YK _ _ _ _ _ ⟨some 10, .load 34 _, _, _, _, _⟩ _; refine YK.ofV (y_loadElPart (inst := inferInstance) (v := v) (s := 4) (m := 0) (i := 0) (k := 2) (f := cLg) (l := [p]) (u := arcV p.1.1 p.1.2) (by rfl) (by exact rdA) (fun _ => rfl) (by omega) (by rfl) (by rfl) (by rfl) (by decide +kernel)) ?_)
    | (show VK _ _ _ _ _ ⟨_, .build 36 #[(0, _)], _, _, _, _⟩ _; refine VK.mk (y_build (parts := [(0, _)]) (vs := [_]) ⟨rfl, rfl⟩ (clat_built _ _)) ?_)
    | (show YK _ _ _ _ _ ⟨_, .build 36 #[(0, _)], _, _, _, _⟩ _; refine YK.ofV (y_build (parts := [(0, _)]) (vs := [_]) ⟨rfl, rfl⟩ (clat_built _ _)) ?_)
    | (show VK _ _ _ _ _ ⟨_, .load 34 _, _, _, _, _⟩ _; refine VK.mk (y_loadPart (k := 2) (by rfl) (by exact memA) (by decide +kernel) (by rfl)) ?_)
    | (show YK _ _ _ _ _ ⟨_, .load 34 _, _, _, _, _⟩ _; refine YK.ofV (y_loadPart (k := 2) (by rfl) (by exact memA) (by decide +kernel) (by rfl)) ?_)
    | (show VG _ _ _ _ _ _ ⟨_, .load 34 _, _, _, _, _⟩ _; refine VG.mk (fun hb => by (try rw [hb]); exact y_loadPart (k := 2) (by rfl) (by exact memA) (by decide +kernel) (by rfl)) ?_)
    | (show YG _ _ _ _ _ _ ⟨_, .load 34 _, _, _, _, _⟩ _; refine YG.mk (fun hb => by (try rw [hb]); exact V.y (y_loadPart (k := 2) (by rfl) (by exact memA) (by decide +kernel) (by rfl))) ?_)
    | (show G _ _ _ _ _ _ (.loop _); refine G.loopN 2 (GR.step ?_))
    | (show X (Exit.then (Code.rounds _ _ _ _) _) _ _ _ _ .normal; refine X.round (GR.step ?_))
    | (show RS _ _ _ _ _ _ _ (⟨some _, .buildSlice 241 1 _, _, _, _, _⟩ :: _); refine RS.lit1Pt (a := p.2) (fun v' => ?_) rfl)
    | (show RM _ _ _ _ _ _ _ _ _ (.go 16 :: _); refine RM.storeKeep ?_ rfl (by rfl) (by rfl) (by rfl) (by exact memA) (congrArg (fun n => some (Value.int .i64 n)) (Int.min_self p.1.1).symm) (by decide +kernel) (fun _ h => h))
    | (show RM _ _ _ _ _ _ _ _ _ (.go 19 :: _); refine RM.storeKeep ?_ rfl (by rfl) (by rfl) (by rfl) (by exact memA) (congrArg (fun n => some (Value.int .i64 n)) (Int.max_self p.1.2).symm) (by decide +kernel) (fun _ h => h))
    | (show RS _ _ _ _ _ _ _ (⟨some 42, _, _, _, _, _⟩ :: _); refine RS.formed (k := 0) (by exact memA) rfl ?_; rintro g cap rfl; refine nxRS ?_)
    | (show RS _ _ _ _ _ _ _ (⟨none, .store 34 _ _, _, _, _, _⟩ :: _); refine RS.storePart (k := 2) ?_ (by rfl) (by rfl) (by rfl) (by exact updA) (by rfl) (by rfl) (by decide +kernel))
    | (show YK _ _ _ _ _ _ _; first | refine YK.mk (y_callRA (q1 _ _) ⟨rfl, rfl⟩) ?_)
    | (refine nxV ?_)
    | (refine nxRS ?_) | (refine nxRS1 fun _ => ?_)
    | (refine nxRM ?_) | (refine nxRM1 fun _ => ?_)
    | (show YG _ _ _ _ _ _ _ _; refine YG.mk (fun hb => by (try (have hc := And.left hb; have hb := And.right hb; rw [hc])); (try rw [hb]); first | exact (y_callRA (q1 _ _) ⟨rfl, rfl⟩) | exact V.y vAuto) ?_)
    | (refine nxG ?_)
    | (refine G.mixedA 6 [.go 0, .go 1, .go 2, .go 3, .go 4, .go 5, .go 6, .go 7, .go 8, .go 9, .go 10, .go 11, .go 12, .go 13, .go 14, .go 15, .go 16, .go 17, .go 18, .go 19] ?_)
    | (refine nxX ?_)
    | (refine G.condN rfl (fun hc => ?_) (fun hc => ?_) <;> (try first | exact False.elim hc | (exfalso; omega))))
  all_goals exact X.ret (vs := [_]) rfl ⟨⟨_, _, _, _, rfl, (by exact memA), (by (repeat (first | exact .nil | apply LenIs.cons))), by decide +kernel, rfl⟩, rfl⟩ rfl (fun w hw => ⟨rfl, hw.ext⟩)
end Go.Proofs.YtjmdeplmenbmmaaGreatDoor
set_option maxHeartbeats 8000000
namespace Go.Proofs.YtjmdeplmenbmmaaGreatDoor
open Go.RowKit
theorem fxBounds_c {v : Value} {x : RR.CellT} (ok : RR.okC x) : ContR Tryz.prog [Hl.rd v cT 3 [x]] 71 [v] (.tuple [v4 (bxA x) (bxB x) (bxC x) (bxD x), .int .i64 0].toArray) := fun w hw0 => by
  have hb := box_ok ok
  have q1 := boxes1_c (v := v) ok
  have q2 := fun v => bounds1_c (v := v) (p := bxL x) hb.lat hb.lon
  have l1 : (([bxL x].length : Nat) : Int) = 1 := rfl
  refine enter Tryz.func71 rfl rfl rfl hw0 ?_
  repeat' (first
    | (refine nxN ?_)
    | (show RS _ _ _ _ _ _ _ (⟨some 8, _, _, _, _, _⟩ :: _); refine RS.callX (q1) ⟨rfl, rfl⟩ ?_; rintro bz -; dsimp only [List.cons_append, List.nil_append])
    | (show YK _ _ _ _ _ _ _; first | refine YK.mk (y_callRA (q2 _) ⟨rfl, rfl⟩) ?_)
    | (refine nxV ?_)
    | (refine nxRS ?_) | (refine nxRS1 fun _ => ?_)
    | (refine nxRM ?_) | (refine nxRM1 fun _ => ?_)
    | (show YG _ _ _ _ _ _ _ _; refine YG.mk (fun hb => by (try (have hc := And.left hb; have hb := And.right hb; rw [hc])); (try rw [hb]); first | exact (y_callRA (q2 _) ⟨rfl, rfl⟩) | exact V.y vAuto) ?_)
    | (refine nxG ?_)
    | (refine nxX ?_)
    | (refine G.condN rfl (fun hc => ?_) (fun hc => ?_) <;> (try first | exact False.elim hc | (exfalso; omega))))
  all_goals first
    | (exfalso; simp at hc; omega)
    | exact X.ret (vs := [_, _]) rfl ⟨⟨_, _, _, _, rfl, (by exact memA), (by (repeat (first | exact .nil | apply LenIs.cons))), by decide +kernel, rfl⟩, rfl, rfl⟩ rfl (fun w hw => ⟨rfl, hw.ext⟩)
theorem fxCenter_c {v : Value} {x : RR.CellT} (ok : RR.okC x) : ContR Tryz.prog [Hl.rd v cT 3 [x]] 73 [v] (.tuple [ptV ((bxA x + bxB x) / 2) (signI ((bxC x + bxD x) / 2)), .int .i64 0].toArray) := fun w hw0 => by
  have hb := box_ok ok
  have q1 := fxBounds_c (v := v) ok
  obtain ⟨hA, hO⟩ := hb
  generalize bxA x = a at *
  generalize bxB x = b at *
  generalize bxC x = c at *
  generalize bxD x = d at *
  have q2 := signed_c (n := (c + d) / 2) (by omega)
  generalize signI ((c + d) / 2) = sg at *
  refine enter Tryz.func73 rfl rfl rfl hw0 ?_
  repeat' (first
    | (refine nxN ?_)
    | (show VK _ _ _ _ _ ⟨_, .binOp .shr _ _ _ _, _, _, _, _⟩ _; refine VK.mk (y_shrQ (q := 2) (m := a + b) (by rfl) (by rfl) (by omega) (by rfl) (by rfl)) ?_)
    | (show YK _ _ _ _ _ ⟨_, .binOp .shr _ _ _ _, _, _, _, _⟩ _; refine YK.ofV (y_shrQ (q := 2) (m := a + b) (by rfl) (by rfl) (by omega) (by rfl) (by rfl)) ?_)
    | (show VG _ _ _ _ _ _ ⟨_, .binOp .shr _ _ _ _, _, _, _, _⟩ _; refine VG.mk (fun hb => by (try (have hc := And.left hb; have hb := And.right hb; rw [hc])); (try rw [hb]); exact y_shrQ (q := 2) (m := a + b) (by rfl) (by rfl) (by omega) (by rfl) (by rfl)) ?_)
    | (show YG _ _ _ _ _ _ ⟨_, .binOp .shr _ _ _ _, _, _, _, _⟩ _; refine YG.mk (fun hb => by (try (have hc := And.left hb; have hb := And.right hb; rw [hc])); (try rw [hb]); exact V.y (y_shrQ (q := 2) (m := a + b) (by rfl) (by rfl) (by omega) (by rfl) (by rfl))) ?_)
    | (show VK _ _ _ _ _ ⟨_, .binOp .shr _ _ _ _, _, _, _, _⟩ _; refine VK.mk (y_shrQ (q := 2) (m := c + d) (by rfl) (by rfl) (by omega) (by rfl) (by rfl)) ?_)
    | (show YK _ _ _ _ _ ⟨_, .binOp .shr _ _ _ _, _, _, _, _⟩ _; refine YK.ofV (y_shrQ (q := 2) (m := c + d) (by rfl) (by rfl) (by omega) (by rfl) (by rfl)) ?_)
    | (show VG _ _ _ _ _ _ ⟨_, .binOp .shr _ _ _ _, _, _, _, _⟩ _; refine VG.mk (fun hb => by (try (have hc := And.left hb; have hb := And.right hb; rw [hc])); (try rw [hb]); exact y_shrQ (q := 2) (m := c + d) (by rfl) (by rfl) (by omega) (by rfl) (by rfl)) ?_)
    | (show YG _ _ _ _ _ _ ⟨_, .binOp .shr _ _ _ _, _, _, _, _⟩ _; refine YG.mk (fun hb => by (try (have hc := And.left hb; have hb := And.right hb; rw [hc])); (try rw [hb]); exact V.y (y_shrQ (q := 2) (m := c + d) (by rfl) (by rfl) (by omega) (by rfl) (by rfl))) ?_)
    | (refine G.mixedM 4 [.go 0, .go 1, .go 2, .go 3, .go 4, .go 5, .go 6, .go 7, .go 8, .go 9, .go 10, .go 11, .go 12, .go 13, .go 14, .go 15, .go 16, .go 17, .go 18, .go 19] [true, false, true] ?_; dsimp only [maskH])
    | (show YK _ _ _ _ _ _ _; first | refine YK.mk (y_callRA (q1) ⟨rfl, rfl⟩) ?_ | refine YK.mk (y_callA (q2) ⟨rfl, rfl⟩) ?_)
    | (refine nxV ?_)
    | (refine nxRS ?_) | (refine nxRS1 fun _ => ?_)
    | (refine nxRM ?_) | (refine nxRM1 fun _ => ?_)
    | (show YG _ _ _ _ _ _ _ _; refine YG.mk (fun hb => by (try (have hc := And.left hb; have hb := And.right hb; rw [hc])); (try rw [hb]); first | exact (y_callRA (q1) ⟨rfl, rfl⟩) | exact (y_callA (q2) ⟨rfl, rfl⟩) | exact V.y vAuto) ?_)
    | (refine nxG ?_)
    | (refine nxX ?_)
    | (refine G.condN rfl (fun hc => ?_) (fun hc => ?_) <;> (try first | exact False.elim hc | (exfalso; omega))))
  all_goals exact X.ret (vs := [_, _]) rfl ⟨⟨_, _, _, _, rfl, (by exact memA), (by (repeat (first | exact .nil | apply LenIs.cons))), by decide +kernel, rfl⟩, rfl, rfl⟩ rfl (fun w hw => ⟨rfl, hw.ext⟩)
theorem fxRad_p {v : Value} {x : RR.CellT} {p : LegT} (q1 : ContX Tryz.prog [Hl.rd v cT 3 [x]] 150 [v] (fun _ : Sl => True) (fun z => .tuple [z.v, .int .i64 0].toArray) (fun z => [Hl.nw z.v cLg 4 [p]])) (hA : -5400000 ≤ p.1.1 ∧ p.1.1 ≤ p.1.2 ∧ p.1.2 ≤ 5400000) (hO : -10800000 ≤ p.2.1 ∧ p.2.1 < 10800000 ∧ p.2.1 ≤ p.2.2 ∧ p.2.2 - p.2.1 < 21600000) {la lo : Int} (hp : lat8I la ∧ lon8I lo) (hm0 : (TT.meetO (sideS (p.1.1, p.1.2) (la, la) (p.2.1 - lo, p.2.2 - lo))).1 ≤ (TT.meetO (sideS (p.1.1, p.1.2) (la, la) (p.2.1 - lo, p.2.2 - lo))).2) : ∃ r1 r2 : Int, (0 ≤ r1 ∧ r1 ≤ r2 ∧ r2 ≤ 10800000) ∧ ContR Tryz.prog [Hl.rd v cT 3 [x]] 74 [v, ptV la lo] (.tuple [arcV r1 r2, .int .i64 0].toArray) := by
  obtain ⟨n, hn⟩ := TT.asin_ex (v := (TT.meetO (sideS (p.1.1, p.1.2) (la, la) (p.2.1 - lo, p.2.2 - lo))).1) (by unfold TT.meetO; dsimp only; omega)
  obtain ⟨m, hm⟩ := TT.asin_ex (v := -(TT.meetO (sideS (p.1.1, p.1.2) (la, la) (p.2.1 - lo, p.2.2 - lo))).2) (by unfold TT.meetO; dsimp only; omega)
  have hord := TT.asin_ord hn hm hm0
  have b1 := hn.1
  have b2 := hm.1
  refine ⟨5400000 - -m, 5400000 - n, by omega, fun w hw0 => ?_⟩
  have q2 := pointT hp
  have q3 := oAlt_c (l1 := p.1.1) (l2 := p.1.2) (t1 := la) (t2 := la) (k1 := p.2.1 - lo) (k2 := p.2.2 - lo) hA (by omega) (by omega) hm0 hn hm
  clear hn hm hm0
  have l1 : (([p].length : Nat) : Int) = 1 := rfl
  have nn1 : (nth [p] 0).snd.fst = p.snd.fst := rfl
  have nn2 : (nth [p] 0).snd.snd = p.snd.snd := rfl
  have nn3 : (nth [p] 0).fst.fst = p.fst.fst := rfl
  have nn4 : (nth [p] 0).fst.snd = p.fst.snd := rfl
  refine enter Tryz.func74 rfl rfl rfl hw0 ?_
  repeat' (first
    | (refine nxN ?_)
    | (show RS _ _ _ _ _ _ _ (⟨some 17, _, _, _, _, _⟩ :: _); refine RS.callX (q1) ⟨rfl, rfl⟩ ?_; rintro bz -; dsimp only [List.cons_append, List.nil_append])
    | (show G _ _ _ _ _ _ (.loop _); refine G.loopN 2 (GR.step ?_))
    | (show X (Exit.then (Code.rounds _ _ _ _) _) _ _ _ _ .normal; refine X.round (GR.step ?_))
    | (show VK _ _ _ _ _ ⟨_, .load 34 _, _, _, _, _⟩ _; refine VK.mk (y_loadPart (k := 2) (by rfl) (by exact memA) (by decide +kernel) (by rfl)) ?_)
    | (show YK _ _ _ _ _ ⟨_, .load 34 _, _, _, _, _⟩ _; refine YK.ofV (y_loadPart (k := 2) (by rfl) (by exact memA) (by decide +kernel) (by rfl)) ?_)
    | (show VG _ _ _ _ _ _ ⟨_, .load 34 _, _, _, _, _⟩ _; refine VG.mk (fun hb => by (try rw [hb]); exact y_loadPart (k := 2) (by rfl) (by exact memA) (by decide +kernel) (by rfl)) ?_)
    | (show YG _ _ _ _ _ _ ⟨_, .load 34 _, _, _, _, _⟩ _; refine YG.mk (fun hb => by (try rw [hb]); exact V.y (y_loadPart (k := 2) (by rfl) (by exact memA) (by decide +kernel) (by rfl))) ?_)
    | (show VK _ _ _ _ _ ⟨_, .build 124 #[(0, _), (1, _), (2, _)], _, _, _, _⟩ _; refine VK.mk (y_build (parts := [(0, _), (1, _), (2, _)]) (vs := [_, _, _]) ⟨rfl, rfl, rfl, rfl⟩ (tri_built _ _ _ _ _ _)) ?_)
    | (show YK _ _ _ _ _ ⟨_, .build 124 #[(0, _), (1, _), (2, _)], _, _, _, _⟩ _; refine YK.ofV (y_build (parts := [(0, _), (1, _), (2, _)]) (vs := [_, _, _]) ⟨rfl, rfl, rfl, rfl⟩ (tri_built _ _ _ _ _ _)) ?_)
    | (show YK _ _ _ _ _ _ _; first | refine YK.mk (y_callA (q2) ⟨rfl, rfl⟩) ?_ | refine YK.mk (y_callA (q3) ⟨rfl, rfl⟩) ?_)
    | (refine nxV ?_)
    | (refine nxRS ?_) | (refine nxRS1 fun _ => ?_)
    | (refine nxRM ?_) | (refine nxRM1 fun _ => ?_)
    | (show YG _ _ _ _ _ _ _ _; refine YG.mk (fun hb => by (try (have hc := And.left hb; have hb := And.right hb; rw [hc])); (try rw [hb]); first | exact (y_callA (q2) ⟨rfl, rfl⟩) | exact (y_callA (q3) ⟨rfl, rfl⟩) | exact V.y vAuto) ?_)
    | (refine nxG ?_)
    | (refine nxX ?_)
    | (refine G.condN rfl (fun hc => ?_) (fun hc => ?_) <;> (try first | exact False.elim hc | (exfalso; omega))))
  all_goals first
    | (exfalso; omega)
    | (refine X.ret (vs := [_, _]) rfl ⟨⟨_, _, _, _, rfl, (by exact memA), (by (repeat (first | exact .nil | apply LenIs.cons))), by decide +kernel, rfl⟩, rfl, rfl⟩ rfl (fun w hw => ⟨?_, hw.ext⟩); exact congrArg (fun a => Ending.returned (Value.tuple #[a, .int .i64 0])) (arcV_eq (by omega) (by omega)))
theorem fxRadius_c {v : Value} {x : RR.CellT} (ok : RR.okC x) {la lo : Int} (hp : lat8I la ∧ lon8I lo) (hm0 : (TT.meetO (sideS (bxA x, bxB x) (la, la) (bxC x - lo, bxD x - lo))).1 ≤ (TT.meetO (sideS (bxA x, bxB x) (la, la) (bxC x - lo, bxD x - lo))).2) : ∃ r1 r2 : Int, (0 ≤ r1 ∧ r1 ≤ r2 ∧ r2 ≤ 10800000) ∧ ContR Tryz.prog [Hl.rd v cT 3 [x]] 74 [v, ptV la lo] (.tuple [arcV r1 r2, .int .i64 0].toArray) :=
  fxRad_p (p := bxL x) (boxes1_c ok) (box_ok ok).lat (box_ok ok).lon hp hm0
end Go.Proofs.YtjmdeplmenbmmaaGreatDoor
set_option maxHeartbeats 8000000
namespace Go.Proofs.YtjmdeplmenbmmaaGreatDoor
open Go.RowKit
abbrev cSl (x : Sl) : List Value := [x.v]
structure PaW (b : Nat) (s : Sl) (w : World) : Prop where
  bx : ∀ k u, [s.v][k]? = some u → w.cell? ⟨b, k, none⟩ = some u
  ro : RO w s.v 1 1 [.int .i64 0]
theorem find_c {b : Nat} {s : Sl} : ContIn Tryz.prog (PaW b s) 152 ([.int .i64 0] ++ (#[bxP b] : Array Value).toList) (.int .i64 0) := fun w hs => by
  have hb := hs.bx
  have l1 : ((([0] : List Int).length : Nat) : Int) = 1 := rfl
  have n0 : nth ([0] : List Int) 0 = 0 := rfl
  refine enter Tryz.func152 rfl rfl rfl (Hp := [Hl.rd s.v cI 1 [0]]) (fun h hm => by
    rcases List.mem_singleton.1 hm with rfl
    exact ⟨⟨hs.ro, fun h => by cases h⟩, rfl⟩) ?_
  repeat' (first
    | (show VK _ _ _ _ _ ⟨_, .load 65 _, _, _, _, _⟩ _; refine VK.mk (y_loadX (by rfl) (hb _ _ (by rfl)) (by decide +kernel)) ?_)
    | (show YK _ _ _ _ _ ⟨_, .load 65 _, _, _, _, _⟩ _; refine YK.ofV (y_loadX (by rfl) (hb _ _ (by rfl)) (by decide +kernel)) ?_)
    | (show VG _ _ _ _ _ _ ⟨_, .load 65 _, _, _, _, _⟩ _; refine VG.mk (fun hb => by (try (have hc := And.left hb; have hb := And.right hb; rw [hc])); (try rw [hb]); exact y_loadX (by rfl) (hb _ _ (by rfl)) (by decide +kernel)) ?_)
    | (show YG _ _ _ _ _ _ ⟨_, .load 65 _, _, _, _, _⟩ _; refine YG.mk (fun hb => by (try (have hc := And.left hb; have hb := And.right hb; rw [hc])); (try rw [hb]); exact V.y (y_loadX (by rfl) (hb _ _ (by rfl)) (by decide +kernel))) ?_)
    | (show G _ _ _ _ _ _ (.loop _); refine G.loopN 1 (GR.step ?_))
    | (show X (Exit.then (Code.rounds _ _ _ _) _) _ _ _ _ .normal; refine X.round (GR.step ?_))
    | (refine nxV ?_)
    | (refine nxRS ?_) | (refine nxRS1 fun _ => ?_)
    | (refine nxRM ?_) | (refine nxRM1 fun _ => ?_)
    | (refine nxG ?_)
    | (refine G.mixedA 2 [.go 0, .go 1, .go 2, .go 3, .go 4, .go 5, .go 6, .go 7, .go 8, .go 9, .go 10] ?_)
    | (refine nxX ?_)
    | (refine G.condN rfl (fun hc => ?_) (fun hc => ?_) <;> (try first | exact False.elim hc | (exfalso; omega))))
  all_goals first
    | (exfalso; omega)
    | exact X.ret (vs := [_]) rfl ⟨rfl, rfl⟩ rfl (fun w hw => ⟨rfl, hw.ext⟩)
theorem RS.litG {P : Program} {n : Nat} {L : FL} {w0 : World} {H : List Hl} {Q : Exit → Act → World → Prop} {ops : Array Oper} {rest : List Oper} {ty : TypeId} {pos : String} {af : Array Edge} {t e : TypeId} {x : Operand} {dd bytes : Nat} {α : Type} {f : α → List Value} {a : α} {u : Value} (h : ∀ v' : Sl, RS P ops Q n ((dd, v'.v) :: L) w0 (Hl.rw v'.v e f 1 [a] :: H) rest) (hx : evO L x = some u) (hf : [u] = [a].flatMap f) (hone : u.oneCell' = true) [ht : RowTy P t e 1 bytes] (hd : Nat.blt dd n = true) :
    RS P ops Q n L w0 H (⟨some dd, .buildSlice t 1 #[(0, x)], ty, pos, af, none⟩ :: rest) :=
  RS.actX rfl (x_lit (parts := [(0, x)]) (vs := [u]) (f := f) (l := [a]) ⟨hx, rfl⟩ (by show (u.oneCell' && true) = true; rw [hone]; rfl) rfl rfl rfl hf rfl (rowTy_B ht.is) hd) fun v' _ => h v'
section
variable {P : Program} {n : Nat} {L : FL} {w0 : World} {H : List Hl} {Q : Exit → Act → World → Prop}
theorem G.scope {c : Code} (h : G P (Exit.noGoto Q) n L w0 H c) : G P Q n L w0 H (.scope c) := by
  unfold G at *
  exact fun a w ha hw => wp_scope_straight (h a w ha hw)
theorem G.label {l : Nat} (h : X Q n L w0 H .normal) : G P Q n L w0 H (.label l) := by
  unfold G
  unfold X at h
  exact fun a w ha hw => wp_label (h a w ha hw)
theorem X.ng_ret (h : X Q n L w0 H .ret) : X (Exit.noGoto Q) n L w0 H .ret := by
  unfold X at *
  exact fun a w ha hw => h a w ha hw
theorem X.ng_nrm (h : X Q n L w0 H .normal) : X (Exit.noGoto Q) n L w0 H .normal := by
  unfold X at *
  exact fun a w ha hw => h a w ha hw
theorem X.ng_exit {i : Nat} (h : X Q n L w0 H (.exit i)) : X (Exit.noGoto Q) n L w0 H (.exit i) := by
  unfold X at *
  exact fun a w ha hw => h a w ha hw
end
theorem fxParts_c {v : Value} {x : RR.CellT} (ok : RR.okC x) : ContX Tryz.prog [Hl.rd v cT 3 [x]] 72 [v] (fun z : Sl × Sl => True) (fun z => .tuple [z.1.v, .int .i64 0].toArray) (fun z => [Hl.nw z.1.v cSl 1 [z.2]]) := fun w hw0 => by
  have q1 := boxes1_c (v := v) ok
  have l1 : (([bxL x].length : Nat) : Int) = 1 := rfl
  have l2 : (([x].length : Nat) : Int) = 1 := rfl
  have l3 : (((List.replicate ([x].length : Int).toNat (0 : Int)).length : Nat) : Int) = 1 := rfl
  have hPa : ∀ (w0 : World) (H : List Hl) (b : Nat) (s : Sl) w', St w0 H w' → Hl.blk b 65 [s.v] ∈ H → RdT H s.v cI 1 [0] → PaW b s w' := fun w0 H b s w' hw' hm hr => ⟨fun k u hk => (hw'.cell hm k).trans hk, hr _ _ hw'⟩
  refine enter Tryz.func72 rfl rfl rfl hw0 ?_
  repeat' (first
    | (refine nxN ?_)
    | (refine G.scope ?_)
    | (refine G.label ?_)
    | (show YK _ _ _ _ _ ⟨some 88, _, _, _, _, _⟩ _; refine YK.ofV (y_lenV (by rfl) (by decide +kernel)) ?_)
    | (show VK _ _ _ _ _ ⟨some 88, _, _, _, _, _⟩ _; refine VK.mk (y_lenV (by rfl) (by decide +kernel)) ?_)
    | (refine X.ng_ret ?_)
    | (refine X.ng_nrm ?_)
    | (refine X.ng_exit ?_)
    | (show RS _ _ _ _ _ _ _ (⟨some 21, _, _, _, _, _⟩ :: _); refine RS.callX q1 ⟨rfl, rfl⟩ ?_; rintro bz -; dsimp only [List.cons_append, List.nil_append])
    | (show G _ _ _ _ _ _ (.loop _); refine G.loopN 2 (GR.step ?_))
    | (show X (Exit.then (Code.rounds _ _ _ _) _) _ _ _ _ .normal; refine X.round (GR.step ?_))
    | (show YK _ _ _ _ _ ⟨_, .call { callee := .value _, args := _, argTypes := _ }, _, _, _, _⟩ _; refine YK.mk (y_callV (f := 152) (by rfl) find_c (fun w' hw' => hPa _ _ _ _ _ hw' (by exact memA) (by exact rdA)) ⟨rfl, rfl⟩ (by decide +kernel)) ?_)
    | (show RS _ _ _ _ _ _ _ (⟨some _, .buildSlice 62 1 _, _, _, _, _⟩ :: _); refine RS.lit1T (a := x) (fun v' => ?_) rfl)
    | (show RS _ _ _ _ _ _ _ (⟨some _, .buildSlice 132 1 _, _, _, _, _⟩ :: _); refine RS.litG (f := cSl) (a := v') (fun v'' => ?_) rfl rfl rfl rfl)
    | (refine nxV ?_)
    | (refine nxRS ?_) | (refine nxRS1 fun _ => ?_)
    | (refine nxRM ?_) | (refine nxRM1 fun _ => ?_)
    | (refine nxG ?_)
    | (refine G.mixedA 18 [.go 0, .go 1, .go 2, .go 3, .go 4, .go 5, .go 6, .go 7, .go 8, .go 9, .go 10, .go 11, .go 12, .go 13] ?_)
    | (refine G.mixedA 31 [.go 0, .go 1, .go 2, .go 3, .go 4, .go 5, .go 6, .go 7, .go 8, .go 9, .go 10] ?_)
    | (refine nxX ?_)
    | (refine G.condN rfl (fun hc => ?_) (fun hc => ?_) <;> (try first | exact False.elim hc | (exfalso; omega))))
  all_goals first
    | (exfalso; omega)
    | skip
  rename_i z
  exact X.retN (vs := [_, _]) (z, v') rfl ⟨rfl, rfl, rfl⟩ rfl trivial rfl (NewIn.rw (by exact memA) NewIn.nil)
end Go.Proofs.YtjmdeplmenbmmaaGreatDoor
set_option maxHeartbeats 8000000
namespace Go.Proofs.YtjmdeplmenbmmaaGreatDoor
open Go.RowKit
theorem setCell_sameK {w : World} {b k : Nat} {v : Value} {cs : Array Value} {t : TypeId} (h : w.heap[b]? = some (.cells cs t (0, 0))) (hk : cs[k]? = some v) : w.setCell ⟨b, k, none⟩ v = w := by
  obtain ⟨hb, e⟩ := Array.getElem?_eq_some_iff.1 h
  unfold World.setCell
  have hm : w.heap.modify b (fun
      | .cells c elem frozen => .cells (if (none : Option Nat).isSome then c else c.setIfInBounds k v) elem frozen
      | o => o) = w.heap := by
    refine Array.ext (by simp) fun i h1 h2 => ?_
    rw [Array.getElem_modify]
    split
    · rename_i hi
      subst hi
      rw [e]
      obtain ⟨hk1, hk2⟩ := Array.getElem?_eq_some_iff.1 hk
      have : cs.setIfInBounds k v = cs := by
        refine Array.ext (by simp) fun j h3 h4 => ?_
        rw [Array.getElem_setIfInBounds]
        split
        · rename_i hj
          subst hj
          exact hk2.symm
        · rfl
      simp [this]
    · rfl
  exact congrArg (fun hp => { w with heap := hp }) hm
theorem itoa1_c (i : Nat) (hi : i < 100) : Cont Tryz.prog 76 [.int .i64 (i : Int)] (.string ⟨(Lib.decDigits i).toArray⟩) := fun w => by
  have q1 : Cont Tryz.prog 156 [.int .i64 (i : Int)] (.string ⟨(Lib.decDigits i).toArray⟩) := fun w => (Tryz.internal_strconv_Itoa_small i hi w).mono fun e w' ⟨h1, h2⟩ => ⟨h1, by rw [h2]; exact Below.refl _ _⟩
  refine enter0 Tryz.func76 rfl rfl rfl ?_
  repeat' (first
    | (show YK _ _ _ _ _ _ _; first | refine YK.mk (y_callA (q1) ⟨rfl, rfl⟩) ?_)
    | (refine nxV ?_)
    | (refine nxRS ?_) | (refine nxRS1 fun _ => ?_)
    | (refine nxRM ?_) | (refine nxRM1 fun _ => ?_)
    | (show YG _ _ _ _ _ _ _ _; refine YG.mk (fun hb => by (try (have hc := And.left hb; have hb := And.right hb; rw [hc])); (try rw [hb]); first | exact (y_callA (q1) ⟨rfl, rfl⟩) | exact V.y vAuto) ?_)
    | (refine nxG ?_)
    | (refine nxX ?_)
    | (refine G.condN rfl (fun hc => ?_) (fun hc => ?_) <;> (try first | exact False.elim hc | (exfalso; omega))))
  exact X.ret (vs := [_]) rfl ⟨rfl, rfl⟩ rfl (fun w hw => ⟨rfl, hw.ext⟩)
end Go.Proofs.YtjmdeplmenbmmaaGreatDoor
set_option maxHeartbeats 8000000
namespace Go.Proofs.YtjmdeplmenbmmaaGreatDoor
open Go.RowKit
section
variable {P : Program} {n : Nat} {L : FL} {w0 : World} {H : List Hl} {Q : Exit → Act → World → Prop} {ops : Array Oper} {rest : List Oper} {ty : TypeId} {pos : String} {af : Array Edge} {x y : Operand} {t t0 : TypeId} {u : Value} {b k : Nat} {cs : Array Value}
theorem RS.storeSameK (h : RS P ops Q n L w0 H rest) (hx : evO L x = some (.pointer (some ⟨b, k, none⟩))) (hy : evO L y = some u) (hw : ∀ w, St w0 H w → w.heap[b]? = some (.cells cs t0 (0, 0))) (hk : cs[k]? = some u) (hu : u.oneCell' = true) (hs : scalarB P t = true) :
    RS P ops Q n L w0 H (⟨none, .store t x y, ty, pos, af, none⟩ :: rest) :=
  RS.actX (post := fun _ : Unit => True) (L' := fun _ => L) (H' := fun _ => H) rfl (EX.of_skip fun a w ha hw' => by
    have hb := hw w hw'
    have hc : w.cell? ⟨b, k, none⟩ = some u := by
      have := cell_of_row w b k cs t0 (0, 0) hb
      rw [this]; exact hk
    have hf : w.frozen? ⟨b, k, none⟩ = false := by simp [World.frozen?, hb]
    have hadd : (⟨b, k, none⟩ : Addr).add 0 = ⟨b, k, none⟩ := rfl
    have hsame := setCell_sameK hb hk
    exact ⟨w, (), by simp [execOp, ha.eval hx, ha.eval hy, Instr.storeAt, Instr.sureAddr, storeVar, oneCell_cells hu, run_sizeOf_of (info_of_scalarB hs), storeCells, hadd, run_store P w _ u _ hu, hc, hf, hsame], trivial, rfl, hw'⟩) fun _ _ => h
end
structure WrW (b : Nat) (s : Value) (w : World) : Prop where
  blk : w.heap[b]? = some (.cells #[s, .int .i64 0] 140 (0, 0))
theorem WrW.keep {b : Nat} {s : Value} {w w' : World} (h : WrW b s w) (hw : Below w.heap.size w w') : WrW b s w' :=
  ⟨(hw.block b (Array.getElem?_eq_some_iff.1 h.blk).1).trans h.blk⟩
theorem WrW.cell {b : Nat} {s : Value} {w : World} (h : WrW b s w) : ∀ k v, [s, Value.int .i64 0][k]? = some v → w.cell? ⟨b, k, none⟩ = some v := fun k v hk => by
  have := cell_of_row w b k #[s, .int .i64 0] _ (0, 0) h.blk
  rw [this]
  simpa using hk
theorem wkeep_c {b : Nat} {s : Value} : ContIn Tryz.prog (WrW b s) 79 [ptK b, .int .i64 0] (.tuple #[]) := fun w hs => by
  have hcl := hs.cell
  refine enter0 Tryz.func79 rfl rfl rfl ?_
  repeat' (first
    | (refine nxN ?_)
    | (show VK _ _ _ _ _ ⟨_, .load 27 _, _, _, _, _⟩ _; refine VK.mk (y_loadX (by rfl) (hcl _ _ (by rfl)) (by decide +kernel)) ?_)
    | (show YK _ _ _ _ _ ⟨_, .load 27 _, _, _, _, _⟩ _; refine YK.ofV (y_loadX (by rfl) (hcl _ _ (by rfl)) (by decide +kernel)) ?_)
    | (show VG _ _ _ _ _ _ ⟨_, .load 27 _, _, _, _, _⟩ _; refine VG.mk (fun hb => by (try (have hc := And.left hb; have hb := And.right hb; rw [hc])); (try rw [hb]); exact y_loadX (by rfl) (hcl _ _ (by rfl)) (by decide +kernel)) ?_)
    | (show YG _ _ _ _ _ _ ⟨_, .load 27 _, _, _, _, _⟩ _; refine YG.mk (fun hb => by (try (have hc := And.left hb; have hb := And.right hb; rw [hc])); (try rw [hb]); exact V.y (y_loadX (by rfl) (hcl _ _ (by rfl)) (by decide +kernel))) ?_)
    | (show RS _ _ _ _ _ _ _ (⟨none, .store 27 _ _, _, _, _, _⟩ :: _); refine RS.storeSameK (b := b) (k := 1) ?_ (by rfl) (by rfl) (fun w' hw' => (hs.keep hw'.ext).blk) (by rfl) (by rfl) (by decide +kernel))
    | (refine nxV ?_)
    | (refine nxRS ?_) | (refine nxRS1 fun _ => ?_)
    | (refine nxRM ?_) | (refine nxRM1 fun _ => ?_)
    | (refine nxG ?_)
    | (refine nxX ?_)
    | (refine G.condN rfl (fun hc => ?_) (fun hc => ?_) <;> (try first | exact False.elim hc | (exfalso; omega))))
  all_goals first
    | exact X.endN rfl (fun w hw => ⟨rfl, hw.ext⟩)
    | exact X.retZ rfl (fun w hw => ⟨rfl, hw.ext⟩)
end Go.Proofs.YtjmdeplmenbmmaaGreatDoor
set_option maxHeartbeats 4000000
namespace Go.Proofs.YtjmdeplmenbmmaaGreatDoor
open Go.RowKit
structure LaidC (w : World) : Prop where
  tab : Lib.TabIs Tryz.prog w "internal/strconv.uint64pow10" .u64 Lib.pow10Tab
  max : ∃ m, w.cell? ⟨3, 0, none⟩ = some (.int .i64 m)
theorem LaidC.keep {w w' : World} (h : LaidC w) (hb : Below w.heap.size w w') : LaidC w' where
  tab := var_keep h.tab hb
  max := by obtain ⟨m, e⟩ := h.max; exact ⟨m, (hb.cell (World.block_lt_of_cell? w _ e)).trans e⟩
theorem laidC_of {w : World} {l : List (String × DataW Unit)} (h : laidMetH Tryz.prog l w) (hp : (l.all fun x => x.2.handleName?.isNone) = true) (hs : w.ShapedOpen Tryz.prog)
    (m1 : ("internal/strconv.uint64pow10", Lib.tabData .u64 Lib.pow10Tab) ∈ l) : LaidC w := by
  rw [MakeChecks.laidMetH_plain _ _ _ hp] at h
  obtain ⟨ps, h, _⟩ := h
  refine ⟨?_, cell_of_shapedOpen_int (t := 3) (zero := #[.int .i64 0]) hs (of_decide_eq_true (by kernel_rfl)) (by kernel_rfl) (by kernel_rfl) (by kernel_rfl) (by kernel_rfl) (by kernel_rfl)⟩
  obtain ⟨g', t', cs, fuel, p, h1, h2, h3, h4⟩ := laid_get h m1
  obtain rfl := Option.some.inj (gPow.symm.trans h1)
  unfold Lib.TabIs
  rw [h3, ← Lib.cells_of_tab (P := Tryz.prog) (t := t') (e := 257) (n := 20) (by obtain rfl := Option.some.inj ((show (Tryz.prog.globals[0]?).map (·.type) = some 326 by kernel_rfl).symm.trans h2); kernel_rfl) (by kernel_rfl) (by kernel_rfl) (by obtain rfl := Option.some.inj ((show (Tryz.prog.globals[0]?).map (·.type) = some 326 by kernel_rfl).symm.trans h2); kernel_rfl) h4]
theorem itoaC_c {n : Int} (h : -9223372036854775808 ≤ n ∧ n ≤ 9223372036854775807) : ContIn Tryz.prog LaidC 76 [.int .i64 n] (strV (Lib.itoa n)) := fun w hI =>
  (Tryz.strconv_Itoa n h.1 h.2 w hI.tab).mono fun e w' ⟨he, k, os, hw⟩ => ⟨he, by subst hw; exact below_grown w k os⟩
end Go.Proofs.YtjmdeplmenbmmaaGreatDoor
