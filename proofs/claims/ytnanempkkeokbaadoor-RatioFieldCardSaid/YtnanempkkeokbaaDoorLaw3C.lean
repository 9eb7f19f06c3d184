/- RatioField gives true. -/
import Derived.Test.YtnanempkkeokbaaDoorFieldP
import Derived.Test.YtnanempkkeokbaaDoorAwk3
set_option linter.unusedVariables false
set_option maxHeartbeats 4000000
namespace Go.Proofs.YtnanempkkeokbaaDoor
open Go.RowKit

abbrev cFn (f : FuncId) : List Value := [.func (.func f) #[] #[]]
theorem RS.lit2Fn {P : Program} {ops : Array Oper} {Q : Exit → Act → World → Prop} {n : Nat} {L : FL} {w0 : World} {H : List Hl} {dd : Tmp} {ty : TypeId} {pos : String} {af : Array Edge} {t e : TypeId} {bytes : Nat} {x y : Operand} {a b : FuncId} {rest : List Oper} (h : ∀ v' : Sl, RS P ops Q n ((dd, v'.v) :: L) w0 (Hl.rw v'.v e cFn 1 [a, b] :: H) rest) (hx : evO L x = some (.func (.func a) #[] #[]) := by rfl) (hy : evO L y = some (.func (.func b) #[] #[]) := by rfl) [ht : RowTy P t e 1 bytes] (hd : Nat.blt dd n = true := by rfl) :
    RS P ops Q n L w0 H (⟨some dd, .buildSlice t 2 #[(0, x), (1, y)], ty, pos, af, none⟩ :: rest) := RS.actX rfl (x_lit (parts := [(0, x), (1, y)]) (vs := [.func (.func a) #[] #[], .func (.func b) #[] #[]]) (f := cFn) (l := [a, b]) ⟨hx, hy, rfl⟩ rfl rfl rfl rfl rfl rfl (rowTy_B ht.is) hd) fun v' _ => h v'
abbrev V2 (f : FuncId) (a b c d : Int) (u : (Int × Int) × Int) : Prop := Cont Tryd.prog f [fracV a b, fracV c d] (mkV u)
abbrev VI (f : FuncId) (a b c d : Int) (u : (Int × Int) × Int) : Prop := ContIn Tryd.prog (fun _ => True) f ([fracV a b, fracV c d] ++ (#[] : Array Value).toList) (mkV u)
theorem rf_i0 {a b c d e f : Int} {v2 v3 : Bool} (q1 : Cont Tryd.prog 16 [fracV a b] (.bool false)) (q2 : Cont Tryd.prog 16 [fracV c d] (.bool v2)) (q3 : Cont Tryd.prog 16 [fracV e f] (.bool v3)) : ContIn Tryd.prog LaidT 6 [fracV a b, fracV c d, fracV e f] (.bool true) := fun w0 hI => by
  refine enter0 Tryd.func6 rfl rfl rfl ?_
  repeat' (first
    | (show YK _ _ _ _ _ _ _; first | refine YK.mk (y_callIn (awake3_c) (fun _ hw => hI.keep hw.ext) rfl (by decide +kernel)) ?_ | refine YK.mk (y_callA (q1) ⟨rfl, rfl⟩) ?_ | refine YK.mk (y_callA (q2) ⟨rfl, rfl⟩) ?_ | refine YK.mk (y_callA (q3) ⟨rfl, rfl⟩) ?_)
    | (show YK _ _ _ _ _ _ _; refine YK.ofV vAuto ?_)
    | (show VK _ _ _ _ _ _ _; refine VK.mk vAuto ?_)
    | (show RS _ _ _ _ _ _ _ _; first | (refine nxRS ?_) | (refine nxRS1 fun _ => ?_))
    | (show RM _ _ _ _ _ _ _ _ _ _; first | (refine nxRM ?_) | (refine nxRM1 fun _ => ?_))
    | (show YG _ _ _ _ _ _ _ _; refine YG.mk (fun hb => by (try (have hc := And.left hb; have hb := And.right hb; rw [hc])); (try rw [hb]); first | exact (y_callIn (awake3_c) (fun _ hw => hI.keep hw.ext) rfl (by decide +kernel)) | exact (y_callA (q1) ⟨rfl, rfl⟩) | exact (y_callA (q2) ⟨rfl, rfl⟩) | exact (y_callA (q3) ⟨rfl, rfl⟩) | exact V.y vAuto) ?_)
    | (show VG _ _ _ _ _ _ _ _; refine VG.mk (fun hb => by (try (have hc := And.left hb; have hb := And.right hb; rw [hc])); (try rw [hb]); exact vAuto) ?_)
    | (refine nxX ?_)
    | (refine G.condN rfl (fun hc => ?_) (fun hc => ?_) <;> (try first | exact False.elim hc | (exfalso; omega))))
  exact X.ret (vs := [_]) rfl ⟨rfl, rfl⟩ rfl (fun w hw => ⟨rfl, hw.ext⟩)
theorem rf_i1 {a b c d e f : Int} {v3 : Bool} (q1 : Cont Tryd.prog 16 [fracV a b] (.bool true)) (q2 : Cont Tryd.prog 16 [fracV c d] (.bool false)) (q3 : Cont Tryd.prog 16 [fracV e f] (.bool v3)) : ContIn Tryd.prog LaidT 6 [fracV a b, fracV c d, fracV e f] (.bool true) := fun w0 hI => by
  refine enter0 Tryd.func6 rfl rfl rfl ?_
  repeat' (first
    | (show YK _ _ _ _ _ _ _; first | refine YK.mk (y_callIn (awake3_c) (fun _ hw => hI.keep hw.ext) rfl (by decide +kernel)) ?_ | refine YK.mk (y_callA (q1) ⟨rfl, rfl⟩) ?_ | refine YK.mk (y_callA (q2) ⟨rfl, rfl⟩) ?_ | refine YK.mk (y_callA (q3) ⟨rfl, rfl⟩) ?_)
    | (show YK _ _ _ _ _ _ _; refine YK.ofV vAuto ?_)
    | (show VK _ _ _ _ _ _ _; refine VK.mk vAuto ?_)
    | (show RS _ _ _ _ _ _ _ _; first | (refine nxRS ?_) | (refine nxRS1 fun _ => ?_))
    | (show RM _ _ _ _ _ _ _ _ _ _; first | (refine nxRM ?_) | (refine nxRM1 fun _ => ?_))
    | (show YG _ _ _ _ _ _ _ _; refine YG.mk (fun hb => by (try (have hc := And.left hb; have hb := And.right hb; rw [hc])); (try rw [hb]); first | exact (y_callIn (awake3_c) (fun _ hw => hI.keep hw.ext) rfl (by decide +kernel)) | exact (y_callA (q1) ⟨rfl, rfl⟩) | exact (y_callA (q2) ⟨rfl, rfl⟩) | exact (y_callA (q3) ⟨rfl, rfl⟩) | exact V.y vAuto) ?_)
    | (show VG _ _ _ _ _ _ _ _; refine VG.mk (fun hb => by (try (have hc := And.left hb; have hb := And.right hb; rw [hc])); (try rw [hb]); exact vAuto) ?_)
    | (refine nxX ?_)
    | (refine G.condN rfl (fun hc => ?_) (fun hc => ?_) <;> (try first | exact False.elim hc | (exfalso; omega))))
  exact X.ret (vs := [_]) rfl ⟨rfl, rfl⟩ rfl (fun w hw => ⟨rfl, hw.ext⟩)
theorem rf_i2 {a b c d e f : Int}  (q1 : Cont Tryd.prog 16 [fracV a b] (.bool true)) (q2 : Cont Tryd.prog 16 [fracV c d] (.bool true)) (q3 : Cont Tryd.prog 16 [fracV e f] (.bool false)) : ContIn Tryd.prog LaidT 6 [fracV a b, fracV c d, fracV e f] (.bool true) := fun w0 hI => by
  refine enter0 Tryd.func6 rfl rfl rfl ?_
  repeat' (first
    | (show YK _ _ _ _ _ _ _; first | refine YK.mk (y_callIn (awake3_c) (fun _ hw => hI.keep hw.ext) rfl (by decide +kernel)) ?_ | refine YK.mk (y_callA (q1) ⟨rfl, rfl⟩) ?_ | refine YK.mk (y_callA (q2) ⟨rfl, rfl⟩) ?_ | refine YK.mk (y_callA (q3) ⟨rfl, rfl⟩) ?_)
    | (show YK _ _ _ _ _ _ _; refine YK.ofV vAuto ?_)
    | (show VK _ _ _ _ _ _ _; refine VK.mk vAuto ?_)
    | (show RS _ _ _ _ _ _ _ _; first | (refine nxRS ?_) | (refine nxRS1 fun _ => ?_))
    | (show RM _ _ _ _ _ _ _ _ _ _; first | (refine nxRM ?_) | (refine nxRM1 fun _ => ?_))
    | (show YG _ _ _ _ _ _ _ _; refine YG.mk (fun hb => by (try (have hc := And.left hb; have hb := And.right hb; rw [hc])); (try rw [hb]); first | exact (y_callIn (awake3_c) (fun _ hw => hI.keep hw.ext) rfl (by decide +kernel)) | exact (y_callA (q1) ⟨rfl, rfl⟩) | exact (y_callA (q2) ⟨rfl, rfl⟩) | exact (y_callA (q3) ⟨rfl, rfl⟩) | exact V.y vAuto) ?_)
    | (show VG _ _ _ _ _ _ _ _; refine VG.mk (fun hb => by (try (have hc := And.left hb; have hb := And.right hb; rw [hc])); (try rw [hb]); exact vAuto) ?_)
    | (refine nxX ?_)
    | (refine G.condN rfl (fun hc => ?_) (fun hc => ?_) <;> (try first | exact False.elim hc | (exfalso; omega))))
  exact X.ret (vs := [_]) rfl ⟨rfl, rfl⟩ rfl (fun w hw => ⟨rfl, hw.ext⟩)
structure LoopP (i : Nat) (a b c d e f : Int) (x l m r : (Int × Int) × Int) : Prop where
  p1 : VI (opN i) a b c d x
  p2 : VI (opN i) c d a b x
  p3 : VI (opN i) x.1.1 x.1.2 e f l
  p4 : VI (opN i) c d e f m
  p5 : VI (opN i) a b m.1.1 m.1.2 r
  no : x.2 = 0 → l.2 = 0 → m.2 = 0 → r.2 = 0 → l.1.1 = r.1.1 ∧ l.1.2 = r.1.2
theorem loopP_of {i : Nat} (hi : i < 2) {a b c d e f : Int} (ha : validF a b = true) (hc : validF c d = true) (he : validF e f = true) : ∃ x l m r, LoopP i a b c d e f x l m r := by
  have g1 := validF_bd ha
  have g2 := validF_bd hc
  have g3 := validF_bd he
  have j1 := opX_J i a b c d
  have j2 := opX_J i c d e f
  refine ⟨opX i a b c d, opX i (opX i a b c d).1.1 (opX i a b c d).1.2 e f, opX i c d e f, opX i a b (opX i c d e f).1.1 (opX i c d e f).1.2, fun w _ => opN_c hi (by omega) w, fun w _ => ?_, fun w _ => opN_c hi (by omega) w, fun w _ => opN_c hi (by omega) w, fun w _ => opN_c hi (by omega) w, fun h0 h1 h2 h3 => opX_assoc ha hc he rfl rfl rfl rfl h0 h1 h2 h3⟩
  rw [opX_comm i a b c d]
  exact opN_c hi (by omega) w
theorem rf_main {a b c d e f : Int} (q1 : Cont Tryd.prog 16 [fracV a b] (.bool true)) (q2 : Cont Tryd.prog 16 [fracV c d] (.bool true)) (q3 : Cont Tryd.prog 16 [fracV e f] (.bool true))
    (hlp : ∀ i : Nat, i < 2 → ∃ x l m r, LoopP i a b c d e f x l m r) {us ul ux uy ur ud ub uq uz : (Int × Int) × Int}
    (p1 : V2 19 c d e f us) (p2 : V2 21 a b us.1.1 us.1.2 ul) (p3 : V2 21 a b c d ux) (p4 : V2 21 a b e f uy) (p5 : V2 19 ux.1.1 ux.1.2 uy.1.1 uy.1.2 ur)
    (k1 : us.2 = 0 → ul.2 = 0 → ux.2 = 0 → uy.2 = 0 → ur.2 = 0 → ul.1.1 = ur.1.1 ∧ ul.1.2 = ur.1.2)
    (p6 : V2 20 a b c d ud) (p7 : V2 19 ud.1.1 ud.1.2 c d ub) (k2 : ud.2 = 0 → ub.2 = 0 ∧ ub.1.1 = a ∧ ub.1.2 = b)
    (p8 : V2 22 a b c d uq) (p9 : V2 21 uq.1.1 uq.1.2 c d uz) (k3 : c = 0 → uq.2 = 16) (k4 : c ≠ 0 → uq.2 = 0 → uz.2 = 0 ∧ uz.1.1 = a ∧ uz.1.2 = b) : ContIn Tryd.prog LaidT 6 [fracV a b, fracV c d, fracV e f] (.bool true) := fun w0 hI => by
  refine enter0 Tryd.func6 rfl rfl rfl ?_
  repeat' (first
    | (refine RS.lit2Fn (fun v' => ?_))
    | (show YK _ _ _ _ _ _ _; first | refine YK.mk (y_callIn (awake3_c) (fun _ hw => hI.keep hw.ext) rfl (by decide +kernel)) ?_ | refine YK.mk (y_callA (q1) ⟨rfl, rfl⟩) ?_ | refine YK.mk (y_callA (q2) ⟨rfl, rfl⟩) ?_ | refine YK.mk (y_callA (q3) ⟨rfl, rfl⟩) ?_)
    | (show YK _ _ _ _ _ _ _; refine YK.ofV vAuto ?_)
    | (show VK _ _ _ _ _ _ _; refine VK.mk vAuto ?_)
    | (show RS _ _ _ _ _ _ _ _; first | (refine nxRS ?_) | (refine nxRS1 fun _ => ?_))
    | (show RM _ _ _ _ _ _ _ _ _ _; first | (refine nxRM ?_) | (refine nxRM1 fun _ => ?_))
    | (show YG _ _ _ _ _ _ _ _; refine YG.mk (fun hb => by (try (have hc := And.left hb; have hb := And.right hb; rw [hc])); (try rw [hb]); first | exact (y_callIn (awake3_c) (fun _ hw => hI.keep hw.ext) rfl (by decide +kernel)) | exact (y_callA (q1) ⟨rfl, rfl⟩) | exact (y_callA (q2) ⟨rfl, rfl⟩) | exact (y_callA (q3) ⟨rfl, rfl⟩) | exact V.y vAuto) ?_)
    | (show VG _ _ _ _ _ _ _ _; refine VG.mk (fun hb => by (try (have hc := And.left hb; have hb := And.right hb; rw [hc])); (try rw [hb]); exact vAuto) ?_)
    | (refine nxX ?_)
    | (refine G.condN rfl (fun hc => ?_) (fun hc => ?_) <;> (try first | exact False.elim hc | (exfalso; omega))))
  rename_i b3 b4 b5 v'
  refine G.loop (ι := Nat) (fun i => [(3, .pointer (some ⟨b3, 0, none⟩)), (4, .pointer (some ⟨b4, 0, none⟩)), (5, .pointer (some ⟨b5, 0, none⟩)), (51, v'.v), (52, .int .i64 2), (53, .int .i64 (i : Int))]) (fun _ => [Hl.rw v'.v 34 cFn 1 [19, 21], Hl.blk b5 24 [.int .i64 e, .int .i64 f], Hl.blk b4 24 [.int .i64 c, .int .i64 d], Hl.blk b3 24 [.int .i64 a, .int .i64 b]]) (fun i => i ≤ 2) (fun i => 2 - i) 0 (by omega) ⟨rfl, rfl, rfl, rfl, rfl, rfl, trivial⟩ (by exact fun w h => h.sub (by repeat (first | exact List.Sublist.refl _ | apply List.Sublist.cons_cons | apply List.Sublist.cons))) ?_
  rintro i mx g1 hmx
  rcases Nat.lt_or_ge i 2 with hi | hi
  · obtain ⟨x, l, m, r, z1, z2, z3, z4, z5, no⟩ := hlp i hi
    have hgo := opN_go hi
    repeat' (first
    | (refine YK.mk (y_callV (f := opN i) (C := fun _ => True) (by rfl) z1 (fun _ _ => trivial) ⟨rfl, rfl, rfl⟩ hgo) ?_)
    | (refine YK.mk (y_callV (f := opN i) (C := fun _ => True) (by rfl) z2 (fun _ _ => trivial) ⟨rfl, rfl, rfl⟩ hgo) ?_)
    | (refine YK.mk (y_callV (f := opN i) (C := fun _ => True) (by rfl) z3 (fun _ _ => trivial) ⟨rfl, rfl, rfl⟩ hgo) ?_)
    | (refine YK.mk (y_callV (f := opN i) (C := fun _ => True) (by rfl) z4 (fun _ _ => trivial) ⟨rfl, rfl, rfl⟩ hgo) ?_)
    | (refine YK.mk (y_callV (f := opN i) (C := fun _ => True) (by rfl) z5 (fun _ _ => trivial) ⟨rfl, rfl, rfl⟩ hgo) ?_)
    | (refine nxV ?_)
    | (show RS _ _ _ _ _ _ _ _; first | (refine nxRS ?_) | (refine nxRS1 fun _ => ?_))
    | (show RM _ _ _ _ _ _ _ _ _ _; first | (refine nxRM ?_) | (refine nxRM1 fun _ => ?_))
    | (refine nxG ?_)
    | (refine nxX ?_)
    | (refine G.condN rfl (fun hc => ?_) (fun hc => ?_) <;> (try first | exact False.elim hc | (exfalso; omega))))
    exact X.again (i + 1) (by omega) (by omega) ⟨rfl, rfl, rfl, rfl, rfl, rfl, trivial⟩ (by exact fun w h => h.sub (by repeat (first | exact List.Sublist.refl _ | apply List.Sublist.cons_cons | apply List.Sublist.cons)))
  · repeat' (first
    | (show YK _ _ _ _ _ _ _; first | refine YK.mk (y_callA (p1) ⟨rfl, rfl, rfl⟩) ?_ | refine YK.mk (y_callA (p2) ⟨rfl, rfl, rfl⟩) ?_ | refine YK.mk (y_callA (p3) ⟨rfl, rfl, rfl⟩) ?_ | refine YK.mk (y_callA (p4) ⟨rfl, rfl, rfl⟩) ?_ | refine YK.mk (y_callA (p5) ⟨rfl, rfl, rfl⟩) ?_ | refine YK.mk (y_callA (p6) ⟨rfl, rfl, rfl⟩) ?_ | refine YK.mk (y_callA (p7) ⟨rfl, rfl, rfl⟩) ?_ | refine YK.mk (y_callA (p8) ⟨rfl, rfl, rfl⟩) ?_ | refine YK.mk (y_callA (p9) ⟨rfl, rfl, rfl⟩) ?_)
    | (show YK _ _ _ _ _ _ _; refine YK.ofV vAuto ?_)
    | (show VK _ _ _ _ _ _ _; refine VK.mk vAuto ?_)
    | (show RS _ _ _ _ _ _ _ _; first | (refine nxRS ?_) | (refine nxRS1 fun _ => ?_))
    | (show RM _ _ _ _ _ _ _ _ _ _; first | (refine nxRM ?_) | (refine nxRM1 fun _ => ?_))
    | (show YG _ _ _ _ _ _ _ _; refine YG.mk (fun hb => by (try (have hc := And.left hb; have hb := And.right hb; rw [hc])); (try rw [hb]); first | exact (y_callA (p1) ⟨rfl, rfl, rfl⟩) | exact (y_callA (p2) ⟨rfl, rfl, rfl⟩) | exact (y_callA (p3) ⟨rfl, rfl, rfl⟩) | exact (y_callA (p4) ⟨rfl, rfl, rfl⟩) | exact (y_callA (p5) ⟨rfl, rfl, rfl⟩) | exact (y_callA (p6) ⟨rfl, rfl, rfl⟩) | exact (y_callA (p7) ⟨rfl, rfl, rfl⟩) | exact (y_callA (p8) ⟨rfl, rfl, rfl⟩) | exact (y_callA (p9) ⟨rfl, rfl, rfl⟩) | exact V.y vAuto) ?_)
    | (show VG _ _ _ _ _ _ _ _; refine VG.mk (fun hb => by (try (have hc := And.left hb; have hb := And.right hb; rw [hc])); (try rw [hb]); exact vAuto) ?_)
    | (refine nxX ?_)
    | (refine G.condN rfl (fun hc => ?_) (fun hc => ?_) <;> (try first | exact False.elim hc | (exfalso; omega))))
    · refine X.ret (vs := [_]) rfl ⟨rfl, rfl⟩ rfl (fun w hw => ⟨ret_bool ?_, hw.ext⟩)
      simp [k3 hc]
    · refine X.ret (vs := [_]) rfl ⟨rfl, rfl⟩ rfl (fun w hw => ⟨ret_bool ?_, hw.ext⟩)
      by_cases h0 : uq.2 = 0
      · obtain ⟨z1, z2, z3⟩ := k4 hc h0
        simp [h0, z1, z2, z3, eqCells, vEq]
      · simp [h0]
theorem ratioField_c {a b c d e f : Int} (h : (J64 a ∧ J64 b) ∧ (J64 c ∧ J64 d) ∧ J64 e ∧ J64 f) : ContIn Tryd.prog LaidT 6 [fracV a b, fracV c d, fracV e f] (.bool true) := by
  have q1 := valid3_c h.1
  have q2 := valid3_c h.2.1
  have q3 := valid3_c h.2.2
  rcases vcases a b with v1 | v1
  · rw [v1] at q1; exact rf_i0 q1 q2 q3
  rw [v1] at q1
  rcases vcases c d with v2 | v2
  · rw [v2] at q2; exact rf_i1 q1 q2 q3
  rw [v2] at q2
  rcases vcases e f with v3 | v3
  · rw [v3] at q3; exact rf_i2 q1 q2 q3
  rw [v3] at q3
  have pr : ∀ u : (Int × Int) × Int, u.2 = 0 → u = ((u.1.1, u.1.2), 0) := fun u hu => Prod.ext rfl hu
  have j1 := addF_J c d e f
  have j2 := mulF_J a b c d
  have j3 := mulF_J a b e f
  have j4 := subF_J a b c d
  have j5 := divF_J a b c d
  refine rf_main q1 q2 q3 (fun i hi => loopP_of hi v1 v2 v3) (Add_c (by omega)) (Mul_c (by omega)) (Mul_c (by omega)) (Mul_c (by omega)) (Add_c (by omega)) (fun h1 h2 h3 h4 h5 => ?_) (Sub_c (by omega)) (Add_c (by omega)) (fun h1 => ?_) (Div_c (by omega)) (Mul_c (by omega)) (fun h1 => ?_) (fun h1 h2 => ?_)
  · exact distF v1 v2 v3 (pr _ h1) (pr _ h2) (pr _ h3) (pr _ h4) (pr _ h5)
  · rw [sub_back v1 v2 (pr _ h1)]; exact ⟨rfl, rfl, rfl⟩
  · subst h1
    rw [div_zero v1 v2]
  · rw [div_back v1 v2 (pr _ h2)]; exact ⟨rfl, rfl, rfl⟩
end Go.Proofs.YtnanempkkeokbaaDoor
