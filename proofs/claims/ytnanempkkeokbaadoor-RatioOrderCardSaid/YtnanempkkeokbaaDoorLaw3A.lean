/- RatioMakes, RatioOps, RatioCompares, RatioRounds give true. -/
import Derived.Test.YtnanempkkeokbaaDoorRatP
import Derived.Test.YtnanempkkeokbaaDoorAwk3
set_option linter.unusedVariables false
set_option maxHeartbeats 4000000
namespace Go.Proofs.YtnanempkkeokbaaDoor
open Go.RowKit

abbrev mk2 (p q e : Int) : Value := .tuple [fracV p q, .int .i64 e].toArray
theorem rm_err {n d e : Int} {v v0 : Bool} (p1 : Cont Tryd.prog 13 [.int .i64 n, .int .i64 d] (mk2 0 0 e)) (p2 : Cont Tryd.prog 14 [.int .i64 n, .int .i64 d] (mk2 0 0 e)) (he : e ≠ 0)
    (p3 : Cont Tryd.prog 15 [fracV n d] (.bool v)) (p4 : Cont Tryd.prog 16 [fracV n d] (.bool v)) (p5 : Cont Tryd.prog 15 [fracV 0 0] (.bool v0)) : ContIn Tryd.prog LaidT 3 [.int .i64 n, .int .i64 d] (.bool true) := fun w hI => by
  refine enter0 Tryd.func3 rfl rfl rfl ?_
  repeat' (first
    | (show YK _ _ _ _ _ _ _; first | refine YK.mk (y_callIn (awake3_c) (fun _ hw => hI.keep hw.ext) rfl (by decide +kernel)) ?_ | refine YK.mk (y_callA (p1) ⟨rfl, rfl, rfl⟩) ?_ | refine YK.mk (y_callA (p2) ⟨rfl, rfl, rfl⟩) ?_ | refine YK.mk (y_callA (p3) ⟨rfl, rfl⟩) ?_ | refine YK.mk (y_callA (p4) ⟨rfl, rfl⟩) ?_ | refine YK.mk (y_callA (p5) ⟨rfl, rfl⟩) ?_)
    | (show YK _ _ _ _ _ _ _; refine YK.ofV vAuto ?_)
    | (show VK _ _ _ _ _ _ _; refine VK.mk vAuto ?_)
    | (show RS _ _ _ _ _ _ _ _; first | (refine nxRS ?_) | (refine nxRS1 fun _ => ?_))
    | (show RM _ _ _ _ _ _ _ _ _ _; first | (refine nxRM ?_) | (refine nxRM1 fun _ => ?_))
    | (show YG _ _ _ _ _ _ _ _; refine YG.mk (fun hb => by (try (have hc := And.left hb; have hb := And.right hb; rw [hc])); (try rw [hb]); first | exact (y_callIn (awake3_c) (fun _ hw => hI.keep hw.ext) rfl (by decide +kernel)) | exact (y_callA (p1) ⟨rfl, rfl, rfl⟩) | exact (y_callA (p2) ⟨rfl, rfl, rfl⟩) | exact (y_callA (p3) ⟨rfl, rfl⟩) | exact (y_callA (p4) ⟨rfl, rfl⟩) | exact (y_callA (p5) ⟨rfl, rfl⟩) | exact V.y vAuto) ?_)
    | (show VG _ _ _ _ _ _ _ _; refine VG.mk (fun hb => by (try (have hc := And.left hb; have hb := And.right hb; rw [hc])); (try rw [hb]); exact vAuto) ?_)
    | (refine G.mixedA 6 [.go 0, .go 1, .go 2, .go 3, .go 4, .go 5, .go 6, .go 7, .go 8, .go 9, .go 11, .go 10, .go 12, .go 13, .go 14, .go 15, .go 16, .go 17, .go 18, .go 19, .go 20, .go 21, .go 22, .go 23] ?_)
    | (refine nxX ?_)
    | (refine G.condN rfl (fun hc => ?_) (fun hc => ?_) <;> (try first | exact False.elim hc | (exfalso; omega))))
  refine X.ret (vs := [_]) rfl ⟨rfl, rfl⟩ rfl (fun w hw => ⟨ret_bool ?_, hw.ext⟩)
  simp [eqCells, vEq, he]
theorem rm_ok {n d p q : Int} {v : Bool} (p1 : Cont Tryd.prog 13 [.int .i64 n, .int .i64 d] (mk2 p q 0)) (p2 : Cont Tryd.prog 14 [.int .i64 n, .int .i64 d] (mk2 p q 0))
    (p3 : Cont Tryd.prog 15 [fracV n d] (.bool v)) (p4 : Cont Tryd.prog 16 [fracV n d] (.bool v)) (p5 : Cont Tryd.prog 15 [fracV p q] (.bool true)) : ContIn Tryd.prog LaidT 3 [.int .i64 n, .int .i64 d] (.bool true) := fun w hI => by
  refine enter0 Tryd.func3 rfl rfl rfl ?_
  repeat' (first
    | (show YK _ _ _ _ _ _ _; first | refine YK.mk (y_callIn (awake3_c) (fun _ hw => hI.keep hw.ext) rfl (by decide +kernel)) ?_ | refine YK.mk (y_callA (p1) ⟨rfl, rfl, rfl⟩) ?_ | refine YK.mk (y_callA (p2) ⟨rfl, rfl, rfl⟩) ?_ | refine YK.mk (y_callA (p3) ⟨rfl, rfl⟩) ?_ | refine YK.mk (y_callA (p4) ⟨rfl, rfl⟩) ?_ | refine YK.mk (y_callA (p5) ⟨rfl, rfl⟩) ?_)
    | (show YK _ _ _ _ _ _ _; refine YK.ofV vAuto ?_)
    | (show VK _ _ _ _ _ _ _; refine VK.mk vAuto ?_)
    | (show RS _ _ _ _ _ _ _ _; first | (refine nxRS ?_) | (refine nxRS1 fun _ => ?_))
    | (show RM _ _ _ _ _ _ _ _ _ _; first | (refine nxRM ?_) | (refine nxRM1 fun _ => ?_))
    | (show YG _ _ _ _ _ _ _ _; refine YG.mk (fun hb => by (try (have hc := And.left hb; have hb := And.right hb; rw [hc])); (try rw [hb]); first | exact (y_callIn (awake3_c) (fun _ hw => hI.keep hw.ext) rfl (by decide +kernel)) | exact (y_callA (p1) ⟨rfl, rfl, rfl⟩) | exact (y_callA (p2) ⟨rfl, rfl, rfl⟩) | exact (y_callA (p3) ⟨rfl, rfl⟩) | exact (y_callA (p4) ⟨rfl, rfl⟩) | exact (y_callA (p5) ⟨rfl, rfl⟩) | exact V.y vAuto) ?_)
    | (show VG _ _ _ _ _ _ _ _; refine VG.mk (fun hb => by (try (have hc := And.left hb; have hb := And.right hb; rw [hc])); (try rw [hb]); exact vAuto) ?_)
    | (refine G.mixedA 6 [.go 0, .go 1, .go 2, .go 3, .go 4, .go 5, .go 6, .go 7, .go 8, .go 9, .go 11, .go 10, .go 12, .go 13, .go 14, .go 15, .go 16, .go 17, .go 18, .go 19, .go 20, .go 21, .go 22, .go 23] ?_)
    | (refine nxX ?_)
    | (refine G.condN rfl (fun hc => ?_) (fun hc => ?_) <;> (try first | exact False.elim hc | (exfalso; omega))))
  refine X.ret (vs := [_]) rfl ⟨rfl, rfl⟩ rfl (fun w hw => ⟨ret_bool ?_, hw.ext⟩)
  simp [eqCells, vEq]
theorem ratioMakes_c {n d : Int} (h : J64 n ∧ J64 d) : ContIn Tryd.prog LaidT 3 [.int .i64 n, .int .i64 d] (.bool true) := by
  have h1 := rmake_c h
  have h2 := make3_c h
  have h3 := rvalid_c h
  have h4 := valid3_c h
  rcases makeF_cases n d with ⟨e, _⟩ | ⟨e, _⟩ | ⟨e, _⟩
  · rw [e] at h1 h2
    exact rm_err h1 h2 (by decide) h3 h4 (rvalid_c (n := 0) (d := 0) (by decide))
  · rw [e] at h1 h2
    exact rm_err h1 h2 (by decide) h3 h4 (rvalid_c (n := 0) (d := 0) (by decide))
  · have hm : makeF n d = (((makeF n d).1.1, (makeF n d).1.2), 0) := Prod.ext rfl e
    obtain ⟨_, v2, _⟩ := makeF_ok hm
    have b := makeF_J n d
    rw [hm] at h1 h2
    have h5 := rvalid_c (n := (makeF n d).1.1) (d := (makeF n d).1.2) (by omega)
    rw [v2] at h5
    exact rm_ok h1 h2 h3 h4 h5
theorem ratioOps_c {a b c d : Int} (h : F64 a b c d) : ContIn Tryd.prog LaidT 5 [fracV a b, fracV c d] (.bool true) := fun w hI => by
  have h1 := Add_c h
  have h2 := Sub_c h
  have h3 := Mul_c h
  have h4 := Div_c h
  have k1 := add3_c h
  have k2 := sub3_c h
  have k3 := mul3_c h
  have k4 := div3_c h
  generalize addF a b c d = u1 at h1 k1
  generalize subF a b c d = u2 at h2 k2
  generalize mulF a b c d = u3 at h3 k3
  generalize divF a b c d = u4 at h4 k4
  refine enter0 Tryd.func5 rfl rfl rfl ?_
  repeat' (first
    | (show YK _ _ _ _ _ _ _; first | refine YK.mk (y_callIn (awake3_c) (fun _ hw => hI.keep hw.ext) rfl (by decide +kernel)) ?_ | refine YK.mk (y_callA (h1) ⟨rfl, rfl, rfl⟩) ?_ | refine YK.mk (y_callA (h2) ⟨rfl, rfl, rfl⟩) ?_ | refine YK.mk (y_callA (h3) ⟨rfl, rfl, rfl⟩) ?_ | refine YK.mk (y_callA (h4) ⟨rfl, rfl, rfl⟩) ?_ | refine YK.mk (y_callA (k1) ⟨rfl, rfl, rfl⟩) ?_ | refine YK.mk (y_callA (k2) ⟨rfl, rfl, rfl⟩) ?_ | refine YK.mk (y_callA (k3) ⟨rfl, rfl, rfl⟩) ?_ | refine YK.mk (y_callA (k4) ⟨rfl, rfl, rfl⟩) ?_)
    | (show YK _ _ _ _ _ _ _; refine YK.ofV vAuto ?_)
    | (show VK _ _ _ _ _ _ _; refine VK.mk vAuto ?_)
    | (show RS _ _ _ _ _ _ _ _; first | (refine nxRS ?_) | (refine nxRS1 fun _ => ?_))
    | (show RM _ _ _ _ _ _ _ _ _ _; first | (refine nxRM ?_) | (refine nxRM1 fun _ => ?_))
    | (show YG _ _ _ _ _ _ _ _; refine YG.mk (fun hb => by (try (have hc := And.left hb; have hb := And.right hb; rw [hc])); (try rw [hb]); first | exact (y_callIn (awake3_c) (fun _ hw => hI.keep hw.ext) rfl (by decide +kernel)) | exact (y_callA (h1) ⟨rfl, rfl, rfl⟩) | exact (y_callA (h2) ⟨rfl, rfl, rfl⟩) | exact (y_callA (h3) ⟨rfl, rfl, rfl⟩) | exact (y_callA (h4) ⟨rfl, rfl, rfl⟩) | exact (y_callA (k1) ⟨rfl, rfl, rfl⟩) | exact (y_callA (k2) ⟨rfl, rfl, rfl⟩) | exact (y_callA (k3) ⟨rfl, rfl, rfl⟩) | exact (y_callA (k4) ⟨rfl, rfl, rfl⟩) | exact V.y vAuto) ?_)
    | (show VG _ _ _ _ _ _ _ _; refine VG.mk (fun hb => by (try (have hc := And.left hb; have hb := And.right hb; rw [hc])); (try rw [hb]); exact vAuto) ?_)
    | (refine nxX ?_)
    | (refine G.condN rfl (fun hc => ?_) (fun hc => ?_) <;> (try first | exact False.elim hc | (exfalso; omega))))
  refine X.ret (vs := [_]) rfl ⟨rfl, rfl⟩ rfl (fun w hw => ⟨ret_bool ?_, hw.ext⟩)
  simp [eqCells, vEq]
abbrev C3 (f : FuncId) (a b c d n e : Int) : Prop := Cont Tryd.prog f [fracV a b, fracV c d] (.tuple [.int .i64 n, .int .i64 e].toArray)
abbrev C2 (f : FuncId) (a b n e : Int) : Prop := Cont Tryd.prog f [fracV a b] (.tuple [.int .i64 n, .int .i64 e].toArray)
theorem rc_0 {a b c d : Int} (p1 : C3 27 a b c d 0 1) (p2 : C2 17 a b 0 1) (p3 : C2 18 a b 0 1) (p4 : Cont Tryd.prog 16 [fracV a b] (.bool false)) : ContIn Tryd.prog LaidT 7 [fracV a b, fracV c d] (.bool true) := fun w hI => by
  refine enter0 Tryd.func7 rfl rfl rfl ?_
  repeat' (first
    | (show YK _ _ _ _ _ _ _; first | refine YK.mk (y_callIn (awake3_c) (fun _ hw => hI.keep hw.ext) rfl (by decide +kernel)) ?_ | refine YK.mk (y_callA (p1) ⟨rfl, rfl, rfl⟩) ?_ | refine YK.mk (y_callA (p2) ⟨rfl, rfl⟩) ?_ | refine YK.mk (y_callA (p3) ⟨rfl, rfl⟩) ?_ | refine YK.mk (y_callA (p4) ⟨rfl, rfl⟩) ?_)
    | (show YK _ _ _ _ _ _ _; refine YK.ofV vAuto ?_)
    | (show VK _ _ _ _ _ _ _; refine VK.mk vAuto ?_)
    | (show RS _ _ _ _ _ _ _ _; first | (refine nxRS ?_) | (refine nxRS1 fun _ => ?_))
    | (show RM _ _ _ _ _ _ _ _ _ _; first | (refine nxRM ?_) | (refine nxRM1 fun _ => ?_))
    | (show YG _ _ _ _ _ _ _ _; refine YG.mk (fun hb => by (try (have hc := And.left hb; have hb := And.right hb; rw [hc])); (try rw [hb]); first | exact (y_callIn (awake3_c) (fun _ hw => hI.keep hw.ext) rfl (by decide +kernel)) | exact (y_callA (p1) ⟨rfl, rfl, rfl⟩) | exact (y_callA (p2) ⟨rfl, rfl⟩) | exact (y_callA (p3) ⟨rfl, rfl⟩) | exact (y_callA (p4) ⟨rfl, rfl⟩) | exact V.y vAuto) ?_)
    | (show VG _ _ _ _ _ _ _ _; refine VG.mk (fun hb => by (try (have hc := And.left hb; have hb := And.right hb; rw [hc])); (try rw [hb]); exact vAuto) ?_)
    | (refine nxX ?_)
    | (refine G.condN rfl (fun hc => ?_) (fun hc => ?_) <;> (try first | exact False.elim hc | (exfalso; omega))))
  refine X.ret (vs := [_]) rfl ⟨rfl, rfl⟩ rfl (fun w hw => ⟨ret_bool ?_, hw.ext⟩)
  simp
theorem rc_1 {a b c d x y : Int} (p1 : C3 27 a b c d 0 1) (p2 : C2 17 a b x 0) (p3 : C2 18 a b y 0) (p4 : Cont Tryd.prog 16 [fracV a b] (.bool true)) (p5 : Cont Tryd.prog 16 [fracV c d] (.bool false))
    (p6 : Cont Tryd.prog 28 [fracV a b] (.int .i64 x)) (p7 : Cont Tryd.prog 29 [fracV a b] (.int .i64 y)) : ContIn Tryd.prog LaidT 7 [fracV a b, fracV c d] (.bool true) := fun w hI => by
  refine enter0 Tryd.func7 rfl rfl rfl ?_
  repeat' (first
    | (show YK _ _ _ _ _ _ _; first | refine YK.mk (y_callIn (awake3_c) (fun _ hw => hI.keep hw.ext) rfl (by decide +kernel)) ?_ | refine YK.mk (y_callA (p1) ⟨rfl, rfl, rfl⟩) ?_ | refine YK.mk (y_callA (p2) ⟨rfl, rfl⟩) ?_ | refine YK.mk (y_callA (p3) ⟨rfl, rfl⟩) ?_ | refine YK.mk (y_callA (p4) ⟨rfl, rfl⟩) ?_ | refine YK.mk (y_callA (p5) ⟨rfl, rfl⟩) ?_ | refine YK.mk (y_callA (p6) ⟨rfl, rfl⟩) ?_ | refine YK.mk (y_callA (p7) ⟨rfl, rfl⟩) ?_)
    | (show YK _ _ _ _ _ _ _; refine YK.ofV vAuto ?_)
    | (show VK _ _ _ _ _ _ _; refine VK.mk vAuto ?_)
    | (show RS _ _ _ _ _ _ _ _; first | (refine nxRS ?_) | (refine nxRS1 fun _ => ?_))
    | (show RM _ _ _ _ _ _ _ _ _ _; first | (refine nxRM ?_) | (refine nxRM1 fun _ => ?_))
    | (show YG _ _ _ _ _ _ _ _; refine YG.mk (fun hb => by (try (have hc := And.left hb; have hb := And.right hb; rw [hc])); (try rw [hb]); first | exact (y_callIn (awake3_c) (fun _ hw => hI.keep hw.ext) rfl (by decide +kernel)) | exact (y_callA (p1) ⟨rfl, rfl, rfl⟩) | exact (y_callA (p2) ⟨rfl, rfl⟩) | exact (y_callA (p3) ⟨rfl, rfl⟩) | exact (y_callA (p4) ⟨rfl, rfl⟩) | exact (y_callA (p5) ⟨rfl, rfl⟩) | exact (y_callA (p6) ⟨rfl, rfl⟩) | exact (y_callA (p7) ⟨rfl, rfl⟩) | exact V.y vAuto) ?_)
    | (show VG _ _ _ _ _ _ _ _; refine VG.mk (fun hb => by (try (have hc := And.left hb; have hb := And.right hb; rw [hc])); (try rw [hb]); exact vAuto) ?_)
    | (refine nxX ?_)
    | (refine G.condN rfl (fun hc => ?_) (fun hc => ?_) <;> (try first | exact False.elim hc | (exfalso; omega))))
  refine X.ret (vs := [_]) rfl ⟨rfl, rfl⟩ rfl (fun w hw => ⟨ret_bool ?_, hw.ext⟩)
  simp
theorem rc_2 {a b c d n x y : Int} (p1 : C3 27 a b c d n 0) (p2 : C2 17 a b x 0) (p3 : C2 18 a b y 0) (p4 : Cont Tryd.prog 16 [fracV a b] (.bool true)) (p5 : Cont Tryd.prog 16 [fracV c d] (.bool true))
    (p6 : Cont Tryd.prog 28 [fracV a b] (.int .i64 x)) (p7 : Cont Tryd.prog 29 [fracV a b] (.int .i64 y)) (p8 : Cont Tryd.prog 30 [fracV a b, fracV c d] (.int .i64 n)) : ContIn Tryd.prog LaidT 7 [fracV a b, fracV c d] (.bool true) := fun w hI => by
  refine enter0 Tryd.func7 rfl rfl rfl ?_
  repeat' (first
    | (show YK _ _ _ _ _ _ _; first | refine YK.mk (y_callIn (awake3_c) (fun _ hw => hI.keep hw.ext) rfl (by decide +kernel)) ?_ | refine YK.mk (y_callA (p1) ⟨rfl, rfl, rfl⟩) ?_ | refine YK.mk (y_callA (p2) ⟨rfl, rfl⟩) ?_ | refine YK.mk (y_callA (p3) ⟨rfl, rfl⟩) ?_ | refine YK.mk (y_callA (p4) ⟨rfl, rfl⟩) ?_ | refine YK.mk (y_callA (p5) ⟨rfl, rfl⟩) ?_ | refine YK.mk (y_callA (p6) ⟨rfl, rfl⟩) ?_ | refine YK.mk (y_callA (p7) ⟨rfl, rfl⟩) ?_ | refine YK.mk (y_callA (p8) ⟨rfl, rfl, rfl⟩) ?_)
    | (show YK _ _ _ _ _ _ _; refine YK.ofV vAuto ?_)
    | (show VK _ _ _ _ _ _ _; refine VK.mk vAuto ?_)
    | (show RS _ _ _ _ _ _ _ _; first | (refine nxRS ?_) | (refine nxRS1 fun _ => ?_))
    | (show RM _ _ _ _ _ _ _ _ _ _; first | (refine nxRM ?_) | (refine nxRM1 fun _ => ?_))
    | (show YG _ _ _ _ _ _ _ _; refine YG.mk (fun hb => by (try (have hc := And.left hb; have hb := And.right hb; rw [hc])); (try rw [hb]); first | exact (y_callIn (awake3_c) (fun _ hw => hI.keep hw.ext) rfl (by decide +kernel)) | exact (y_callA (p1) ⟨rfl, rfl, rfl⟩) | exact (y_callA (p2) ⟨rfl, rfl⟩) | exact (y_callA (p3) ⟨rfl, rfl⟩) | exact (y_callA (p4) ⟨rfl, rfl⟩) | exact (y_callA (p5) ⟨rfl, rfl⟩) | exact (y_callA (p6) ⟨rfl, rfl⟩) | exact (y_callA (p7) ⟨rfl, rfl⟩) | exact (y_callA (p8) ⟨rfl, rfl, rfl⟩) | exact V.y vAuto) ?_)
    | (show VG _ _ _ _ _ _ _ _; refine VG.mk (fun hb => by (try (have hc := And.left hb; have hb := And.right hb; rw [hc])); (try rw [hb]); exact vAuto) ?_)
    | (refine nxX ?_)
    | (refine G.condN rfl (fun hc => ?_) (fun hc => ?_) <;> (try first | exact False.elim hc | (exfalso; omega))))
  refine X.ret (vs := [_]) rfl ⟨rfl, rfl⟩ rfl (fun w hw => ⟨ret_bool ?_, hw.ext⟩)
  simp
theorem ratioCompares_c {a b c d : Int} (h : F64 a b c d) : ContIn Tryd.prog LaidT 7 [fracV a b, fracV c d] (.bool true) := by
  have h1 := Cmp_c h
  have h2 := Floor_c h.1
  have h3 := Round_c h.1
  have h4 := valid3_c h.1
  have h5 := valid3_c h.2
  rcases vcases a b with v1 | v1
  · rw [v1] at h4
    rw [show CmpF a b c d = (0, 1) by unfold CmpF; rw [if_pos (.inl v1)]] at h1
    rw [show FloorF a b = (0, 1) by unfold FloorF; rw [if_pos v1]] at h2
    rw [show RoundF a b = (0, 1) by unfold RoundF; rw [if_pos v1]] at h3
    exact rc_0 h1 h2 h3 h4
  have g1 := validF_bd v1
  rw [v1] at h4
  rw [show FloorF a b = (a / b, 0) by unfold FloorF; rw [if_neg (by rw [v1]; decide)]] at h2
  rw [show RoundF a b = ((2 * a + b) / (2 * b), 0) by unfold RoundF; rw [if_neg (by rw [v1]; decide)]] at h3
  have h6 := floor3_c (n := a) (d := b) (by omega)
  have h7 := round3_c v1
  rcases vcases c d with v2 | v2
  · rw [v2] at h5
    rw [show CmpF a b c d = (0, 1) by unfold CmpF; rw [if_pos (.inr v2)]] at h1
    exact rc_1 h1 h2 h3 h4 h5 h6 h7
  · rw [v2] at h5
    rw [show CmpF a b c d = (cmpF a b c d, 0) by unfold CmpF; rw [if_neg (by rw [v1, v2]; decide)]] at h1
    obtain ⟨b1, b2, _⟩ := prods v1 v2
    have h8 := cmp3_c (a := a) (b := b) (c := c) (d := d) (by omega)
    exact rc_2 h1 h2 h3 h4 h5 h6 h7 h8
theorem round_eq {a b : Int} (hb : 0 < b) : (2 * a + b) / (2 * b) = if b ≤ 2 * (a % b) then a / b + 1 else a / b := by
  have e1 := Int.mul_ediv_add_emod a b
  have e2 := Int.emod_nonneg a (show b ≠ 0 by omega)
  have e3 := Int.emod_lt_of_pos a hb
  have e4 : 2 * a + b = (2 * (a % b) + b) + 2 * b * (a / b) := by grind
  rw [e4, Int.add_mul_ediv_left _ _ (show 2 * b ≠ 0 by omega)]
  split
  · have : (2 * (a % b) + b) / (2 * b) = 1 := by
      rw [show 2 * (a % b) + b = (2 * (a % b) - b) + 2 * b * 1 by omega, Int.add_mul_ediv_left _ _ (show 2 * b ≠ 0 by omega), Int.ediv_eq_zero_of_lt (by omega) (by omega)]; rfl
    omega
  · have : (2 * (a % b) + b) / (2 * b) = 0 := Int.ediv_eq_zero_of_lt (by omega) (by omega)
    omega
theorem rr_f {a b : Int} (p4 : Cont Tryd.prog 16 [fracV a b] (.bool false)) : ContIn Tryd.prog LaidT 4 [fracV a b] (.bool true) := fun w hI => by
  refine enter0 Tryd.func4 rfl rfl rfl ?_
  repeat' (first
    | (show YK _ _ _ _ _ _ _; first | refine YK.mk (y_callIn (awake3_c) (fun _ hw => hI.keep hw.ext) rfl (by decide +kernel)) ?_ | refine YK.mk (y_callA (p4) ⟨rfl, rfl⟩) ?_)
    | (show YK _ _ _ _ _ _ _; refine YK.ofV vAuto ?_)
    | (show VK _ _ _ _ _ _ _; refine VK.mk vAuto ?_)
    | (show RS _ _ _ _ _ _ _ _; first | (refine nxRS ?_) | (refine nxRS1 fun _ => ?_))
    | (show RM _ _ _ _ _ _ _ _ _ _; first | (refine nxRM ?_) | (refine nxRM1 fun _ => ?_))
    | (show YG _ _ _ _ _ _ _ _; refine YG.mk (fun hb => by (try (have hc := And.left hb; have hb := And.right hb; rw [hc])); (try rw [hb]); first | exact (y_callIn (awake3_c) (fun _ hw => hI.keep hw.ext) rfl (by decide +kernel)) | exact (y_callA (p4) ⟨rfl, rfl⟩) | exact V.y vAuto) ?_)
    | (show VG _ _ _ _ _ _ _ _; refine VG.mk (fun hb => by (try (have hc := And.left hb; have hb := And.right hb; rw [hc])); (try rw [hb]); exact vAuto) ?_)
    | (refine nxX ?_)
    | (refine G.condN rfl (fun hc => ?_) (fun hc => ?_) <;> (try first | exact False.elim hc | (exfalso; omega))))
  exact X.ret (vs := [_]) rfl ⟨rfl, rfl⟩ rfl (fun w hw => ⟨rfl, hw.ext⟩)
theorem rr_t {a b n m r : Int} (hb : 1 ≤ b ∧ b ≤ 1073741824) (ha : Q30 a) (hn : Q30 n) (hr : a - n * b = r) (hr2 : 0 ≤ r ∧ r < b) (hm : m = if b ≤ 2 * r then n + 1 else n) (p2 : C2 17 a b n 0) (p3 : C2 18 a b m 0) (p4 : Cont Tryd.prog 16 [fracV a b] (.bool true)) : ContIn Tryd.prog LaidT 4 [fracV a b] (.bool true) := fun w hI => by
  have hp : -1152921504606846976 ≤ n * b ∧ n * b ≤ 1152921504606846976 := mul_bd hn (by omega)
  refine enter0 Tryd.func4 rfl rfl rfl ?_
  repeat' (first
    | (show YK _ _ _ _ _ _ _; first | refine YK.mk (y_callIn (awake3_c) (fun _ hw => hI.keep hw.ext) rfl (by decide +kernel)) ?_ | refine YK.mk (y_callA (p2) ⟨rfl, rfl⟩) ?_ | refine YK.mk (y_callA (p3) ⟨rfl, rfl⟩) ?_ | refine YK.mk (y_callA (p4) ⟨rfl, rfl⟩) ?_)
    | (show YK _ _ _ _ _ _ _; refine YK.ofV vAuto ?_)
    | (show VK _ _ _ _ _ _ _; refine VK.mk vAuto ?_)
    | (show RS _ _ _ _ _ _ _ _; first | (refine nxRS ?_) | (refine nxRS1 fun _ => ?_))
    | (show RM _ _ _ _ _ _ _ _ _ _; first | (refine nxRM ?_) | (refine nxRM1 fun _ => ?_))
    | (show YG _ _ _ _ _ _ _ _; refine YG.mk (fun hb => by (try (have hc := And.left hb; have hb := And.right hb; rw [hc])); (try rw [hb]); first | exact (y_callIn (awake3_c) (fun _ hw => hI.keep hw.ext) rfl (by decide +kernel)) | exact (y_callA (p2) ⟨rfl, rfl⟩) | exact (y_callA (p3) ⟨rfl, rfl⟩) | exact (y_callA (p4) ⟨rfl, rfl⟩) | exact V.y vAuto) ?_)
    | (show VG _ _ _ _ _ _ _ _; refine VG.mk (fun hb => by (try (have hc := And.left hb; have hb := And.right hb; rw [hc])); (try rw [hb]); exact vAuto) ?_)
    | (refine nxX ?_)
    | (refine G.condN rfl (fun hc => ?_) (fun hc => ?_) <;> (try first | exact False.elim hc | (exfalso; omega))))
  all_goals refine X.ret (vs := [_]) rfl ⟨rfl, rfl⟩ rfl (fun w hw => ⟨ret_bool ?_, hw.ext⟩)
  · rw [hm, if_pos (by omega)]; simp
  · rw [hm, if_neg (by omega)]; simp
theorem ratioRounds_c {a b : Int} (h : J64 a ∧ J64 b) : ContIn Tryd.prog LaidT 4 [fracV a b] (.bool true) := by
  have h2 := Floor_c h
  have h3 := Round_c h
  have h4 := valid3_c h
  rcases vcases a b with v1 | v1
  · rw [v1] at h4
    exact rr_f h4
  have g1 := validF_bd v1
  rw [v1] at h4
  rw [show FloorF a b = (a / b, 0) by unfold FloorF; rw [if_neg (by rw [v1]; decide)]] at h2
  rw [show RoundF a b = ((2 * a + b) / (2 * b), 0) by unfold RoundF; rw [if_neg (by rw [v1]; decide)]] at h3
  have e1 := Int.mul_ediv_add_emod a b
  have e2 := Int.emod_nonneg a (show b ≠ 0 by omega)
  have e3 := Int.emod_lt_of_pos a (show 0 < b by omega)
  exact rr_t (r := a % b) g1.2 g1.1 (by
    have := ediv_in (a := a) (b := b) (k := 1073741824) (by omega) (by omega) (by omega)
    exact this) (by rw [Int.mul_comm]; omega) ⟨e2, e3⟩ (round_eq (by omega)) h2 h3 h4
end Go.Proofs.YtnanempkkeokbaaDoor
