/- RatioOrder gives true. -/
import Derived.Test.YtnanempkkeokbaaDoorOrdP
import Derived.Test.YtnanempkkeokbaaDoorLaw3A
set_option linter.unusedVariables false
set_option maxHeartbeats 4000000
namespace Go.Proofs.YtnanempkkeokbaaDoor
open Go.RowKit

theorem ro_i0 {a b c d e f : Int} {v2 v3 : Bool} (q1 : Cont Tryd.prog 16 [fracV a b] (.bool false)) (q2 : Cont Tryd.prog 16 [fracV c d] (.bool v2)) (q3 : Cont Tryd.prog 16 [fracV e f] (.bool v3)) : ContIn Tryd.prog LaidT 8 [fracV a b, fracV c d, fracV e f] (.bool true) := fun w0 hI => by
  refine enter0 Tryd.func8 rfl rfl rfl ?_
  repeat' (first
    | (show YK _ _ _ _ _ _ _; first | refine YK.mk (y_callIn (awake3_c) (fun _ hw => hI.keep hw.ext) rfl (by decide +kernel)) ?_ | refine YK.mk (y_callA (q1) ⟨rfl, rfl⟩) ?_ | refine YK.mk (y_callA (q2) ⟨rfl, rfl⟩) ?_ | refine YK.mk (y_callA (q3) ⟨rfl, rfl⟩) ?_)
    | (show YK _ _ _ _ _ _ _; refine YK.ofV vAuto ?_)
    | (show VK _ _ _ _ _ _ _; refine VK.mk vAuto ?_)
    | (show RS _ _ _ _ _ _ _ _; first | (refine nxRS ?_) | (refine nxRS1 fun _ => ?_))
    | (show RM _ _ _ _ _ _ _ _ _ _; first | (refine nxRM ?_) | (refine nxRM1 fun _ => ?_))
    | (show YG _ _ _ _ _ _ _ _; refine YG.mk (fun hb => by (try (have hc := And.left hb; have hb := And.right hb; rw [hc])); (try rw [hb]); first | exact (y_callIn (awake3_c) (fun _ hw => hI.keep hw.ext) rfl (by decide +kernel)) | exact (y_callA (q1) ⟨rfl, rfl⟩) | exact (y_callA (q2) ⟨rfl, rfl⟩) | exact (y_callA (q3) ⟨rfl, rfl⟩) | exact V.y vAuto) ?_)
    | (show VG _ _ _ _ _ _ _ _; refine VG.mk (fun hb => by (try (have hc := And.left hb; have hb := And.right hb; rw [hc])); (try rw [hb]); exact vAuto) ?_)
    | (refine nxX ?_)
    | (refine G.condN rfl (fun hc => ?_) (fun hc => ?_) <;> (try first | exact False.elim hc | (exfalso; omega))))
  exact X.ret (vs := [_]) rfl ⟨rfl, rfl⟩ rfl (fun w hw => ⟨rfl, hw.ext⟩)
theorem ro_i1 {a b c d e f : Int} {v3 : Bool} (q1 : Cont Tryd.prog 16 [fracV a b] (.bool true)) (q2 : Cont Tryd.prog 16 [fracV c d] (.bool false)) (q3 : Cont Tryd.prog 16 [fracV e f] (.bool v3)) : ContIn Tryd.prog LaidT 8 [fracV a b, fracV c d, fracV e f] (.bool true) := fun w0 hI => by
  refine enter0 Tryd.func8 rfl rfl rfl ?_
  repeat' (first
    | (show YK _ _ _ _ _ _ _; first | refine YK.mk (y_callIn (awake3_c) (fun _ hw => hI.keep hw.ext) rfl (by decide +kernel)) ?_ | refine YK.mk (y_callA (q1) ⟨rfl, rfl⟩) ?_ | refine YK.mk (y_callA (q2) ⟨rfl, rfl⟩) ?_ | refine YK.mk (y_callA (q3) ⟨rfl, rfl⟩) ?_)
    | (show YK _ _ _ _ _ _ _; refine YK.ofV vAuto ?_)
    | (show VK _ _ _ _ _ _ _; refine VK.mk vAuto ?_)
    | (show RS _ _ _ _ _ _ _ _; first | (refine nxRS ?_) | (refine nxRS1 fun _ => ?_))
    | (show RM _ _ _ _ _ _ _ _ _ _; first | (refine nxRM ?_) | (refine nxRM1 fun _ => ?_))
    | (show YG _ _ _ _ _ _ _ _; refine YG.mk (fun hb => by (try (have hc := And.left hb; have hb := And.right hb; rw [hc])); (try rw [hb]); first | exact (y_callIn (awake3_c) (fun _ hw => hI.keep hw.ext) rfl (by decide +kernel)) | exact (y_callA (q1) ⟨rfl, rfl⟩) | exact (y_callA (q2) ⟨rfl, rfl⟩) | exact (y_callA (q3) ⟨rfl, rfl⟩) | exact V.y vAuto) ?_)
    | (show VG _ _ _ _ _ _ _ _; refine VG.mk (fun hb => by (try (have hc := And.left hb; have hb := And.right hb; rw [hc])); (try rw [hb]); exact vAuto) ?_)
    | (refine nxX ?_)
    | (refine G.condN rfl (fun hc => ?_) (fun hc => ?_) <;> (try first | exact False.elim hc | (exfalso; omega))))
  exact X.ret (vs := [_]) rfl ⟨rfl, rfl⟩ rfl (fun w hw => ⟨rfl, hw.ext⟩)
theorem ro_i2 {a b c d e f : Int}  (q1 : Cont Tryd.prog 16 [fracV a b] (.bool true)) (q2 : Cont Tryd.prog 16 [fracV c d] (.bool true)) (q3 : Cont Tryd.prog 16 [fracV e f] (.bool false)) : ContIn Tryd.prog LaidT 8 [fracV a b, fracV c d, fracV e f] (.bool true) := fun w0 hI => by
  refine enter0 Tryd.func8 rfl rfl rfl ?_
  repeat' (first
    | (show YK _ _ _ _ _ _ _; first | refine YK.mk (y_callIn (awake3_c) (fun _ hw => hI.keep hw.ext) rfl (by decide +kernel)) ?_ | refine YK.mk (y_callA (q1) ⟨rfl, rfl⟩) ?_ | refine YK.mk (y_callA (q2) ⟨rfl, rfl⟩) ?_ | refine YK.mk (y_callA (q3) ⟨rfl, rfl⟩) ?_)
    | (show YK _ _ _ _ _ _ _; refine YK.ofV vAuto ?_)
    | (show VK _ _ _ _ _ _ _; refine VK.mk vAuto ?_)
    | (show RS _ _ _ _ _ _ _ _; first | (refine nxRS ?_) | (refine nxRS1 fun _ => ?_))
    | (show RM _ _ _ _ _ _ _ _ _ _; first | (refine nxRM ?_) | (refine nxRM1 fun _ => ?_))
    | (show YG _ _ _ _ _ _ _ _; refine YG.mk (fun hb => by (try (have hc := And.left hb; have hb := And.right hb; rw [hc])); (try rw [hb]); first | exact (y_callIn (awake3_c) (fun _ hw => hI.keep hw.ext) rfl (by decide +kernel)) | exact (y_callA (q1) ⟨rfl, rfl⟩) | exact (y_callA (q2) ⟨rfl, rfl⟩) | exact (y_callA (q3) ⟨rfl, rfl⟩) | exact V.y vAuto) ?_)
    | (show VG _ _ _ _ _ _ _ _; refine VG.mk (fun hb => by (try (have hc := And.left hb; have hb := And.right hb; rw [hc])); (try rw [hb]); exact vAuto) ?_)
    | (refine nxX ?_)
    | (refine G.condN rfl (fun hc => ?_) (fun hc => ?_) <;> (try first | exact False.elim hc | (exfalso; omega))))
  exact X.ret (vs := [_]) rfl ⟨rfl, rfl⟩ rfl (fun w hw => ⟨rfl, hw.ext⟩)
theorem ro_ne {a b c d e f ab ba bc ac x y i z w j : Int} (q1 : Cont Tryd.prog 16 [fracV a b] (.bool true)) (q2 : Cont Tryd.prog 16 [fracV c d] (.bool true)) (q3 : Cont Tryd.prog 16 [fracV e f] (.bool true)) (p1 : C3 27 a b c d ab 0) (p2 : C3 27 c d a b ba 0) (p3 : C3 27 c d e f bc 0) (p4 : C3 27 a b e f ac 0) (hneg : ab = -ba) (hbd : -1 ≤ ab ∧ ab ≤ 1) (hne : ab ≠ 0) (hq : ¬ (a = c ∧ b = d)) (hno : ¬ (ab ≤ 0 ∧ bc ≤ 0 ∧ (0 < ac ∨ ac = 0 ∧ (ab < 0 ∨ bc < 0)))) (p5 : Cont Tryd.prog 19 [fracV a b, fracV e f] (mk2 x y i)) (p6 : Cont Tryd.prog 19 [fracV c d, fracV e f] (mk2 z w j)) (hij : i ≠ 0 ∨ j ≠ 0) : ContIn Tryd.prog LaidT 8 [fracV a b, fracV c d, fracV e f] (.bool true) := fun w0 hI => by
  have hQ : (decide (ab = 0) == (decide (a = c) && decide (b = d))) = true := by
    rw [decide_eq_false hne]
    by_cases g : a = c
    · rw [decide_eq_true g, decide_eq_false (fun g2 => hq ⟨g, g2⟩)]; rfl
    · rw [decide_eq_false g]; rfl
  refine enter0 Tryd.func8 rfl rfl rfl ?_
  repeat' (first
    | (show YK _ _ _ _ _ _ _; first | refine YK.mk (y_callIn (awake3_c) (fun _ hw => hI.keep hw.ext) rfl (by decide +kernel)) ?_ | refine YK.mk (y_callA (q1) ⟨rfl, rfl⟩) ?_ | refine YK.mk (y_callA (q2) ⟨rfl, rfl⟩) ?_ | refine YK.mk (y_callA (q3) ⟨rfl, rfl⟩) ?_ | refine YK.mk (y_callA (p1) ⟨rfl, rfl, rfl⟩) ?_ | refine YK.mk (y_callA (p2) ⟨rfl, rfl, rfl⟩) ?_ | refine YK.mk (y_callA (p3) ⟨rfl, rfl, rfl⟩) ?_ | refine YK.mk (y_callA (p4) ⟨rfl, rfl, rfl⟩) ?_ | refine YK.mk (y_callA (p5) ⟨rfl, rfl, rfl⟩) ?_ | refine YK.mk (y_callA (p6) ⟨rfl, rfl, rfl⟩) ?_)
    | (show YK _ _ _ _ _ _ _; refine YK.ofV vAuto ?_)
    | (show VK _ _ _ _ _ _ _; refine VK.mk vAuto ?_)
    | (show RS _ _ _ _ _ _ _ _; first | (refine nxRS ?_) | (refine nxRS1 fun _ => ?_))
    | (show RM _ _ _ _ _ _ _ _ _ _; first | (refine nxRM ?_) | (refine nxRM1 fun _ => ?_))
    | (show YG _ _ _ _ _ _ _ _; refine YG.mk (fun hb => by (try (have hc := And.left hb; have hb := And.right hb; rw [hc])); (try rw [hb]); first | exact (y_callIn (awake3_c) (fun _ hw => hI.keep hw.ext) rfl (by decide +kernel)) | exact (y_callA (q1) ⟨rfl, rfl⟩) | exact (y_callA (q2) ⟨rfl, rfl⟩) | exact (y_callA (q3) ⟨rfl, rfl⟩) | exact (y_callA (p1) ⟨rfl, rfl, rfl⟩) | exact (y_callA (p2) ⟨rfl, rfl, rfl⟩) | exact (y_callA (p3) ⟨rfl, rfl, rfl⟩) | exact (y_callA (p4) ⟨rfl, rfl, rfl⟩) | exact (y_callA (p5) ⟨rfl, rfl, rfl⟩) | exact (y_callA (p6) ⟨rfl, rfl, rfl⟩) | exact V.y vAuto) ?_)
    | (show VG _ _ _ _ _ _ _ _; refine VG.mk (fun hb => by (try (have hc := And.left hb; have hb := And.right hb; rw [hc])); (try rw [hb]); exact vAuto) ?_)
    | (refine nxX ?_)
    | (refine G.condN rfl (fun hc => ?_) (fun hc => ?_) <;> (try first | exact False.elim hc | (exfalso; omega))))
  · exfalso
    rcases hc with h | h
    · omega
    · rw [hQ] at h; cases h
  · exact X.ret (vs := [_]) rfl ⟨rfl, rfl⟩ rfl (fun w hw => ⟨rfl, hw.ext⟩)
theorem ro_nt {a b c d e f ab ba bc ac x y z w : Int} (q1 : Cont Tryd.prog 16 [fracV a b] (.bool true)) (q2 : Cont Tryd.prog 16 [fracV c d] (.bool true)) (q3 : Cont Tryd.prog 16 [fracV e f] (.bool true)) (p1 : C3 27 a b c d ab 0) (p2 : C3 27 c d a b ba 0) (p3 : C3 27 c d e f bc 0) (p4 : C3 27 a b e f ac 0) (hneg : ab = -ba) (hbd : -1 ≤ ab ∧ ab ≤ 1) (hne : ab ≠ 0) (hq : ¬ (a = c ∧ b = d)) (hno : ¬ (ab ≤ 0 ∧ bc ≤ 0 ∧ (0 < ac ∨ ac = 0 ∧ (ab < 0 ∨ bc < 0)))) (p5 : Cont Tryd.prog 19 [fracV a b, fracV e f] (mk2 x y 0)) (p6 : Cont Tryd.prog 19 [fracV c d, fracV e f] (mk2 z w 0)) (p7 : C3 27 x y z w ab 0) : ContIn Tryd.prog LaidT 8 [fracV a b, fracV c d, fracV e f] (.bool true) := fun w0 hI => by
  have hQ : (decide (ab = 0) == (decide (a = c) && decide (b = d))) = true := by
    rw [decide_eq_false hne]
    by_cases g : a = c
    · rw [decide_eq_true g, decide_eq_false (fun g2 => hq ⟨g, g2⟩)]; rfl
    · rw [decide_eq_false g]; rfl
  refine enter0 Tryd.func8 rfl rfl rfl ?_
  repeat' (first
    | (show YK _ _ _ _ _ _ _; first | refine YK.mk (y_callIn (awake3_c) (fun _ hw => hI.keep hw.ext) rfl (by decide +kernel)) ?_ | refine YK.mk (y_callA (q1) ⟨rfl, rfl⟩) ?_ | refine YK.mk (y_callA (q2) ⟨rfl, rfl⟩) ?_ | refine YK.mk (y_callA (q3) ⟨rfl, rfl⟩) ?_ | refine YK.mk (y_callA (p1) ⟨rfl, rfl, rfl⟩) ?_ | refine YK.mk (y_callA (p2) ⟨rfl, rfl, rfl⟩) ?_ | refine YK.mk (y_callA (p3) ⟨rfl, rfl, rfl⟩) ?_ | refine YK.mk (y_callA (p4) ⟨rfl, rfl, rfl⟩) ?_ | refine YK.mk (y_callA (p5) ⟨rfl, rfl, rfl⟩) ?_ | refine YK.mk (y_callA (p6) ⟨rfl, rfl, rfl⟩) ?_ | refine YK.mk (y_callA (p7) ⟨rfl, rfl, rfl⟩) ?_)
    | (show YK _ _ _ _ _ _ _; refine YK.ofV vAuto ?_)
    | (show VK _ _ _ _ _ _ _; refine VK.mk vAuto ?_)
    | (show RS _ _ _ _ _ _ _ _; first | (refine nxRS ?_) | (refine nxRS1 fun _ => ?_))
    | (show RM _ _ _ _ _ _ _ _ _ _; first | (refine nxRM ?_) | (refine nxRM1 fun _ => ?_))
    | (show YG _ _ _ _ _ _ _ _; refine YG.mk (fun hb => by (try (have hc := And.left hb; have hb := And.right hb; rw [hc])); (try rw [hb]); first | exact (y_callIn (awake3_c) (fun _ hw => hI.keep hw.ext) rfl (by decide +kernel)) | exact (y_callA (q1) ⟨rfl, rfl⟩) | exact (y_callA (q2) ⟨rfl, rfl⟩) | exact (y_callA (q3) ⟨rfl, rfl⟩) | exact (y_callA (p1) ⟨rfl, rfl, rfl⟩) | exact (y_callA (p2) ⟨rfl, rfl, rfl⟩) | exact (y_callA (p3) ⟨rfl, rfl, rfl⟩) | exact (y_callA (p4) ⟨rfl, rfl, rfl⟩) | exact (y_callA (p5) ⟨rfl, rfl, rfl⟩) | exact (y_callA (p6) ⟨rfl, rfl, rfl⟩) | exact (y_callA (p7) ⟨rfl, rfl, rfl⟩) | exact V.y vAuto) ?_)
    | (show VG _ _ _ _ _ _ _ _; refine VG.mk (fun hb => by (try (have hc := And.left hb; have hb := And.right hb; rw [hc])); (try rw [hb]); exact vAuto) ?_)
    | (refine nxX ?_)
    | (refine G.condN rfl (fun hc => ?_) (fun hc => ?_) <;> (try first | exact False.elim hc | (exfalso; omega))))
  · exfalso
    rcases hc with h | h
    · omega
    · rw [hQ] at h; cases h
  · refine X.ret (vs := [_]) rfl ⟨rfl, rfl⟩ rfl (fun w hw => ⟨ret_bool ?_, hw.ext⟩)
    simp
theorem ro_ee {a b e f ac x y i : Int} (q1 : Cont Tryd.prog 16 [fracV a b] (.bool true)) (q3 : Cont Tryd.prog 16 [fracV e f] (.bool true)) (p1 : C3 27 a b a b 0 0) (p4 : C3 27 a b e f ac 0) (p5 : Cont Tryd.prog 19 [fracV a b, fracV e f] (mk2 x y i)) (hi : i ≠ 0) : ContIn Tryd.prog LaidT 8 [fracV a b, fracV a b, fracV e f] (.bool true) := fun w0 hI => by
  refine enter0 Tryd.func8 rfl rfl rfl ?_
  repeat' (first
    | (show YK _ _ _ _ _ _ _; first | refine YK.mk (y_callIn (awake3_c) (fun _ hw => hI.keep hw.ext) rfl (by decide +kernel)) ?_ | refine YK.mk (y_callA (q1) ⟨rfl, rfl⟩) ?_ | refine YK.mk (y_callA (q3) ⟨rfl, rfl⟩) ?_ | refine YK.mk (y_callA (p1) ⟨rfl, rfl, rfl⟩) ?_ | refine YK.mk (y_callA (p4) ⟨rfl, rfl, rfl⟩) ?_ | refine YK.mk (y_callA (p5) ⟨rfl, rfl, rfl⟩) ?_)
    | (show YK _ _ _ _ _ _ _; refine YK.ofV vAuto ?_)
    | (show VK _ _ _ _ _ _ _; refine VK.mk vAuto ?_)
    | (show RS _ _ _ _ _ _ _ _; first | (refine nxRS ?_) | (refine nxRS1 fun _ => ?_))
    | (show RM _ _ _ _ _ _ _ _ _ _; first | (refine nxRM ?_) | (refine nxRM1 fun _ => ?_))
    | (show YG _ _ _ _ _ _ _ _; refine YG.mk (fun hb => by (try (have hc := And.left hb; have hb := And.right hb; rw [hc])); (try rw [hb]); first | exact (y_callIn (awake3_c) (fun _ hw => hI.keep hw.ext) rfl (by decide +kernel)) | exact (y_callA (q1) ⟨rfl, rfl⟩) | exact (y_callA (q3) ⟨rfl, rfl⟩) | exact (y_callA (p1) ⟨rfl, rfl, rfl⟩) | exact (y_callA (p4) ⟨rfl, rfl, rfl⟩) | exact (y_callA (p5) ⟨rfl, rfl, rfl⟩) | exact V.y vAuto) ?_)
    | (show VG _ _ _ _ _ _ _ _; refine VG.mk (fun hb => by (try (have hc := And.left hb; have hb := And.right hb; rw [hc])); (try rw [hb]); exact vAuto) ?_)
    | (refine nxX ?_)
    | (refine G.condN rfl (fun hc => ?_) (fun hc => ?_) <;> (try first | exact False.elim hc | (exfalso; omega))))
  exact X.ret (vs := [_]) rfl ⟨rfl, rfl⟩ rfl (fun w hw => ⟨rfl, hw.ext⟩)
theorem ro_et {a b e f ac x y : Int} (q1 : Cont Tryd.prog 16 [fracV a b] (.bool true)) (q3 : Cont Tryd.prog 16 [fracV e f] (.bool true)) (p1 : C3 27 a b a b 0 0) (p4 : C3 27 a b e f ac 0) (p5 : Cont Tryd.prog 19 [fracV a b, fracV e f] (mk2 x y 0)) (p7 : C3 27 x y x y 0 0) : ContIn Tryd.prog LaidT 8 [fracV a b, fracV a b, fracV e f] (.bool true) := fun w0 hI => by
  refine enter0 Tryd.func8 rfl rfl rfl ?_
  repeat' (first
    | (show YK _ _ _ _ _ _ _; first | refine YK.mk (y_callIn (awake3_c) (fun _ hw => hI.keep hw.ext) rfl (by decide +kernel)) ?_ | refine YK.mk (y_callA (q1) ⟨rfl, rfl⟩) ?_ | refine YK.mk (y_callA (q3) ⟨rfl, rfl⟩) ?_ | refine YK.mk (y_callA (p1) ⟨rfl, rfl, rfl⟩) ?_ | refine YK.mk (y_callA (p4) ⟨rfl, rfl, rfl⟩) ?_ | refine YK.mk (y_callA (p5) ⟨rfl, rfl, rfl⟩) ?_ | refine YK.mk (y_callA (p7) ⟨rfl, rfl, rfl⟩) ?_)
    | (show YK _ _ _ _ _ _ _; refine YK.ofV vAuto ?_)
    | (show VK _ _ _ _ _ _ _; refine VK.mk vAuto ?_)
    | (show RS _ _ _ _ _ _ _ _; first | (refine nxRS ?_) | (refine nxRS1 fun _ => ?_))
    | (show RM _ _ _ _ _ _ _ _ _ _; first | (refine nxRM ?_) | (refine nxRM1 fun _ => ?_))
    | (show YG _ _ _ _ _ _ _ _; refine YG.mk (fun hb => by (try (have hc := And.left hb; have hb := And.right hb; rw [hc])); (try rw [hb]); first | exact (y_callIn (awake3_c) (fun _ hw => hI.keep hw.ext) rfl (by decide +kernel)) | exact (y_callA (q1) ⟨rfl, rfl⟩) | exact (y_callA (q3) ⟨rfl, rfl⟩) | exact (y_callA (p1) ⟨rfl, rfl, rfl⟩) | exact (y_callA (p4) ⟨rfl, rfl, rfl⟩) | exact (y_callA (p5) ⟨rfl, rfl, rfl⟩) | exact (y_callA (p7) ⟨rfl, rfl, rfl⟩) | exact V.y vAuto) ?_)
    | (show VG _ _ _ _ _ _ _ _; refine VG.mk (fun hb => by (try (have hc := And.left hb; have hb := And.right hb; rw [hc])); (try rw [hb]); exact vAuto) ?_)
    | (refine nxX ?_)
    | (refine G.condN rfl (fun hc => ?_) (fun hc => ?_) <;> (try first | exact False.elim hc | (exfalso; omega))))
  refine X.ret (vs := [_]) rfl ⟨rfl, rfl⟩ rfl (fun w hw => ⟨ret_bool ?_, hw.ext⟩)
  simp
theorem Cmp_v {a b c d : Int} (h1 : validF a b = true) (h2 : validF c d = true) : C3 27 a b c d (cmpF a b c d) 0 := by
  have g1 := validF_bd h1
  have g2 := validF_bd h2
  have h := Cmp_c (a := a) (b := b) (c := c) (d := d) (by omega)
  rw [show CmpF a b c d = (cmpF a b c d, 0) by unfold CmpF; rw [if_neg (by rw [h1, h2]; decide)]] at h
  exact h
theorem ratioOrder_c {a b c d e f : Int} (h : (J64 a ∧ J64 b) ∧ (J64 c ∧ J64 d) ∧ J64 e ∧ J64 f) : ContIn Tryd.prog LaidT 8 [fracV a b, fracV c d, fracV e f] (.bool true) := by
  have q1 := valid3_c h.1
  have q2 := valid3_c h.2.1
  have q3 := valid3_c h.2.2
  rcases vcases a b with v1 | v1
  · rw [v1] at q1; exact ro_i0 q1 q2 q3
  rw [v1] at q1
  rcases vcases c d with v2 | v2
  · rw [v2] at q2; exact ro_i1 q1 q2 q3
  rw [v2] at q2
  rcases vcases e f with v3 | v3
  · rw [v3] at q3; exact ro_i2 q1 q2 q3
  rw [v3] at q3
  have p5 := Add_c (a := a) (b := b) (c := e) (d := f) ⟨h.1, h.2.2⟩
  have p6 := Add_c (a := c) (b := d) (c := e) (d := f) ⟨h.2.1, h.2.2⟩
  have p4 := Cmp_v v1 v3
  by_cases he : a = c ∧ b = d
  · obtain ⟨rfl, rfl⟩ := he
    have p1 := Cmp_v v1 v1
    rw [(cmpF_zero v1 v1).2 ⟨rfl, rfl⟩] at p1
    by_cases ho : (addF a b e f).2 = 0
    · have hm : addF a b e f = (((addF a b e f).1.1, (addF a b e f).1.2), 0) := Prod.ext rfl ho
      obtain ⟨v4, _⟩ := addF_ok v1 v3 hm
      rw [hm] at p5
      have p7 := Cmp_v v4 v4
      rw [(cmpF_zero v4 v4).2 ⟨rfl, rfl⟩] at p7
      exact ro_et q1 q3 p1 p4 p5 p7
    · exact ro_ee q1 q3 p1 p4 p5 ho
  have p1 := Cmp_v v1 v2
  have p2 := Cmp_v v2 v1
  have p3 := Cmp_v v2 v3
  have hne : cmpF a b c d ≠ 0 := fun g => he ((cmpF_zero v1 v2).1 g)
  by_cases ho : (addF a b e f).2 = 0 ∧ (addF c d e f).2 = 0
  · have hm : addF a b e f = (((addF a b e f).1.1, (addF a b e f).1.2), 0) := Prod.ext rfl ho.1
    have hm2 : addF c d e f = (((addF c d e f).1.1, (addF c d e f).1.2), 0) := Prod.ext rfl ho.2
    obtain ⟨v4, k4⟩ := addF_ok v1 v3 hm
    obtain ⟨v5, k5⟩ := addF_ok v2 v3 hm2
    have p7 := Cmp_v v4 v5
    rw [cmpF_add v1 v2 v3 v4 v5 k4 k5] at p7
    rw [hm] at p5
    rw [hm2] at p6
    exact ro_nt q1 q2 q3 p1 p2 p3 p4 (cmpF_neg ..) (cmpF_bd ..) hne he (order_no v1 v2 v3) p5 p6 p7
  · exact ro_ne q1 q2 q3 p1 p2 p3 p4 (cmpF_neg ..) (cmpF_bd ..) hne he (order_no v1 v2 v3) p5 p6 (by omega)
end Go.Proofs.YtnanempkkeokbaaDoor
