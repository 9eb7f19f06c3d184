/- The clock's reference functions on numbers: what each returns. -/
import Derived.Test.YtpnfmbfehbnljaaDoorClock2
set_option linter.unusedVariables false
set_option maxHeartbeats 4000000
namespace Go.Proofs.YtpnfmbfehbnljaaDoor
open Go.RowKit

theorem rinstant_c (n : Int) : Cont Tryd.prog 45 [.int .i64 n] (.bool (instB n)) := fun w => by
  refine enter0 Tryd.func45 rfl rfl rfl ?_
  repeat' (first
    | (refine nxV ?_)
    | (show RS _ _ _ _ _ _ _ _; first | (refine nxRS ?_) | (refine nxRS1 fun _ => ?_))
    | (show RM _ _ _ _ _ _ _ _ _ _; first | (refine nxRM ?_) | (refine nxRM1 fun _ => ?_))
    | (refine nxG ?_)
    | (refine nxX ?_)
    | (refine G.condN rfl (fun hc => ?_) (fun hc => ?_) <;> (try first | exact False.elim hc | (exfalso; omega))))
  exact X.ret (vs := [_]) rfl ⟨rfl, rfl⟩ rfl (fun w hw => ⟨rfl, hw.ext⟩)
theorem rvalidT_c (lo hi : Int) : Cont Tryd.prog 57 [timeV lo hi] (.bool (validT lo hi)) := fun w => by
  refine enter0 Tryd.func57 rfl rfl rfl ?_
  repeat' (first
    | (show YK _ _ _ _ _ _ _; first | refine YK.mk (y_callA (rinstant_c _) ⟨rfl, rfl⟩) ?_)
    | (show YK _ _ _ _ _ _ _; refine YK.ofV vAuto ?_)
    | (show VK _ _ _ _ _ _ _; refine VK.mk vAuto ?_)
    | (show RS _ _ _ _ _ _ _ _; first | (refine nxRS ?_) | (refine nxRS1 fun _ => ?_))
    | (show RM _ _ _ _ _ _ _ _ _ _; first | (refine nxRM ?_) | (refine nxRM1 fun _ => ?_))
    | (show YG _ _ _ _ _ _ _ _; refine YG.mk (fun hb => by (try (have hc := And.left hb; have hb := And.right hb; rw [hc])); (try rw [hb]); first | exact (y_callA (rinstant_c _) ⟨rfl, rfl⟩) | exact V.y vAuto) ?_)
    | (show VG _ _ _ _ _ _ _ _; refine VG.mk (fun hb => by (try (have hc := And.left hb; have hb := And.right hb; rw [hc])); (try rw [hb]); exact vAuto) ?_)
    | (refine nxX ?_)
    | (refine G.condN rfl (fun hc => ?_) (fun hc => ?_) <;> (try first | exact False.elim hc | (exfalso; omega))))
  exact X.ret (vs := [_]) rfl ⟨rfl, rfl⟩ rfl (fun w hw => ⟨rfl, hw.ext⟩)
theorem ceil_eq {n d : Int} (h : 0 < d) : (0 < n.tmod d → n.tdiv d + 1 = -(-n / d)) ∧ (n.tmod d ≤ 0 → n.tdiv d = -(-n / d)) := by
  have g := floor_eq (n := -n) h
  rw [Int.neg_tmod, Int.neg_tdiv] at g
  refine ⟨fun hp => ?_, fun hp => ?_⟩
  · have := (g.1 (by omega)).1; omega
  · have := (g.2 (by omega)).1; omega
theorem rfloor_c {n d : Int} (h : I64 n ∧ 0 < d ∧ d ≤ 1000000000000) : Cont Tryd.prog 46 [.int .i64 n, .int .i64 d] (.int .i64 (n / d)) := fun w => by
  have e3 := Int.emod_nonneg n (show d ≠ 0 by omega)
  have e4 := Int.emod_lt_of_pos n h.2.1
  have e5 := ediv_in (k := 9223372036854775808) h.2.1 (by omega) (by omega) (a := n)
  have e6 : n / d ≤ 9223372036854775807 := by
    have := ediv_in (k := 9223372036854775807) h.2.1 (show -9223372036854775807 ≤ max n (-9223372036854775807) by omega) (by omega)
    exact Int.le_trans (Int.ediv_le_ediv h.2.1 (show n ≤ max n (-9223372036854775807) by omega)) this.2
  refine enter0 Tryd.func46 rfl rfl rfl ?_
  repeat' (first
    | (refine nxV ?_)
    | (show RS _ _ _ _ _ _ _ _; first | (refine nxRS ?_) | (refine nxRS1 fun _ => ?_))
    | (show RM _ _ _ _ _ _ _ _ _ _; first | (refine nxRM ?_) | (refine nxRM1 fun _ => ?_))
    | (refine nxG ?_)
    | (refine nxX ?_)
    | (refine G.condN rfl (fun hc => ?_) (fun hc => ?_) <;> (try first | exact False.elim hc | (exfalso; omega))))
  · obtain ⟨g1, g2, g3⟩ := (floor_eq h.2.1).1 hc
    have g4 := Int.ediv_neg_of_neg_of_pos g3 h.2.1
    exact X.ret (vs := [_]) rfl ⟨rfl, rfl⟩ rfl (fun w hw => ⟨by rw [IntWalk.i64_in (n.tdiv d) (by omega), IntWalk.i64_in (n.tdiv d - 1) (by omega), g1], hw.ext⟩)
  · obtain ⟨g1, g2⟩ := (floor_eq h.2.1).2 hc
    exact X.ret (vs := [_]) rfl ⟨rfl, rfl⟩ rfl (fun w hw => ⟨by rw [IntWalk.i64_in (n.tdiv d) (by omega), g1], hw.ext⟩)
theorem rceil_c {n d : Int} (h : (-9223372036854775807 ≤ n ∧ n ≤ 9223372036854775807) ∧ 0 < d ∧ d ≤ 1000000000000) : Cont Tryd.prog 47 [.int .i64 n, .int .i64 d] (.int .i64 (-(-n / d))) := fun w => by
  have e5 := ediv_in (k := 9223372036854775807) h.2.1 (by omega) (by omega) (a := -n)
  have e7 := ceil_eq (n := n) h.2.1
  refine enter0 Tryd.func47 rfl rfl rfl ?_
  repeat' (first
    | (refine nxV ?_)
    | (show RS _ _ _ _ _ _ _ _; first | (refine nxRS ?_) | (refine nxRS1 fun _ => ?_))
    | (show RM _ _ _ _ _ _ _ _ _ _; first | (refine nxRM ?_) | (refine nxRM1 fun _ => ?_))
    | (refine nxG ?_)
    | (refine nxX ?_)
    | (refine G.condN rfl (fun hc => ?_) (fun hc => ?_) <;> (try first | exact False.elim hc | (exfalso; omega))))
  · have g1 := e7.1 hc
    exact X.ret (vs := [_]) rfl ⟨rfl, rfl⟩ rfl (fun w hw => ⟨by rw [IntWalk.i64_in (n.tdiv d) (by omega), IntWalk.i64_in (n.tdiv d + 1) (by omega), g1], hw.ext⟩)
  · have g1 := e7.2 (by omega)
    exact X.ret (vs := [_]) rfl ⟨rfl, rfl⟩ rfl (fun w hw => ⟨by rw [IntWalk.i64_in (n.tdiv d) (by omega), g1], hw.ext⟩)
theorem rarcValid_c (lo hi : Int) : Cont Tryd.prog 48 [timeV lo hi] (.bool (decide (lo ≤ hi) && (decide (-1099511627776 ≤ lo) && decide (hi ≤ 1099511627776)))) := fun w => by
  refine enter0 Tryd.func48 rfl rfl rfl ?_
  repeat' (first
    | (refine nxV ?_)
    | (show RS _ _ _ _ _ _ _ _; first | (refine nxRS ?_) | (refine nxRS1 fun _ => ?_))
    | (show RM _ _ _ _ _ _ _ _ _ _; first | (refine nxRM ?_) | (refine nxRM1 fun _ => ?_))
    | (refine nxG ?_)
    | (refine nxX ?_)
    | (refine G.condN rfl (fun hc => ?_) (fun hc => ?_) <;> (try first | exact False.elim hc | (exfalso; omega))))
  exact X.ret (vs := [_]) rfl ⟨rfl, rfl⟩ rfl (fun w hw => ⟨ret_bool (by first | rfl | exact Bool.and_assoc ..), hw.ext⟩)
theorem inside_c (a b c d : Int) : Cont Tryd.prog 28 [timeV a b, timeV c d] (.bool (decide (c ≤ a) && decide (b ≤ d))) := fun w => by
  refine enter0 Tryd.func28 rfl rfl rfl ?_
  repeat' (first
    | (refine nxV ?_)
    | (show RS _ _ _ _ _ _ _ _; first | (refine nxRS ?_) | (refine nxRS1 fun _ => ?_))
    | (show RM _ _ _ _ _ _ _ _ _ _; first | (refine nxRM ?_) | (refine nxRM1 fun _ => ?_))
    | (refine nxG ?_)
    | (refine nxX ?_)
    | (refine G.condN rfl (fun hc => ?_) (fun hc => ?_) <;> (try first | exact False.elim hc | (exfalso; omega))))
  exact X.ret (vs := [_]) rfl ⟨rfl, rfl⟩ rfl (fun w hw => ⟨ret_bool (by first | rfl | exact Bool.and_assoc ..), hw.ext⟩)
theorem rtoArc_c {ms : Int} (h : I64 ms) : Cont Tryd.prog 17 [.int .i64 ms] (timeE (arcS ms)) := fun w => by
  have hl := rinstant_c ms
  cases hb : instB ms with
  | false =>
    rw [hb] at hl
    refine enter0 Tryd.func17 rfl rfl rfl ?_
    repeat' (first
    | (show YK _ _ _ _ _ _ _; first | refine YK.mk (y_callA (hl) ⟨rfl, rfl⟩) ?_)
    | (show YK _ _ _ _ _ _ _; refine YK.ofV vAuto ?_)
    | (show VK _ _ _ _ _ _ _; refine VK.mk vAuto ?_)
    | (show RS _ _ _ _ _ _ _ _; first | (refine nxRS ?_) | (refine nxRS1 fun _ => ?_))
    | (show RM _ _ _ _ _ _ _ _ _ _; first | (refine nxRM ?_) | (refine nxRM1 fun _ => ?_))
    | (show YG _ _ _ _ _ _ _ _; refine YG.mk (fun hb => by (try (have hc := And.left hb; have hb := And.right hb; rw [hc])); (try rw [hb]); first | exact (y_callA (hl) ⟨rfl, rfl⟩) | exact V.y vAuto) ?_)
    | (show VG _ _ _ _ _ _ _ _; refine VG.mk (fun hb => by (try (have hc := And.left hb; have hb := And.right hb; rw [hc])); (try rw [hb]); exact vAuto) ?_)
    | (refine nxX ?_)
    | (refine G.condN rfl (fun hc => ?_) (fun hc => ?_) <;> (try first | exact False.elim hc | (exfalso; omega))))
    exact X.ret (vs := [_, _]) rfl ⟨⟨_, _, _, _, rfl, (by exact memA), (by (repeat (first | exact .nil | apply LenIs.cons))), by decide +kernel, rfl⟩, rfl, rfl⟩ rfl (fun w hw => ⟨by unfold arcS; rw [if_pos hb], hw.ext⟩)
  | true =>
    rw [hb] at hl
    have hb2 := instB_iff.1 hb
    have h3 := rarcValid_c (ms / 4) (-(-ms / 4))
    refine enter0 Tryd.func17 rfl rfl rfl ?_
    repeat' (first
    | (show YK _ _ _ _ _ _ _; first | refine YK.mk (y_callA (hl) ⟨rfl, rfl⟩) ?_ | refine YK.mk (y_callP rfloor_c ⟨rfl, rfl, rfl⟩) ?_ | refine YK.mk (y_callP rceil_c ⟨rfl, rfl, rfl⟩) ?_ | refine YK.mk (y_callA (h3) ⟨rfl, rfl⟩) ?_)
    | (show YK _ _ _ _ _ _ _; refine YK.ofV vAuto ?_)
    | (show VK _ _ _ _ _ _ _; refine VK.mk vAuto ?_)
    | (show RS _ _ _ _ _ _ _ _; first | (refine nxRS ?_) | (refine nxRS1 fun _ => ?_))
    | (show RM _ _ _ _ _ _ _ _ _ _; first | (refine nxRM ?_) | (refine nxRM1 fun _ => ?_))
    | (show YG _ _ _ _ _ _ _ _; refine YG.mk (fun hb => by (try (have hc := And.left hb; have hb := And.right hb; rw [hc])); (try rw [hb]); first | exact (y_callA (hl) ⟨rfl, rfl⟩) | exact (y_callP rfloor_c ⟨rfl, rfl, rfl⟩) | exact (y_callP rceil_c ⟨rfl, rfl, rfl⟩) | exact (y_callA (h3) ⟨rfl, rfl⟩) | exact V.y vAuto) ?_)
    | (show VG _ _ _ _ _ _ _ _; refine VG.mk (fun hb => by (try (have hc := And.left hb; have hb := And.right hb; rw [hc])); (try rw [hb]); exact vAuto) ?_)
    | (refine nxX ?_)
    | (refine G.condN rfl (fun hc => ?_) (fun hc => ?_) <;> (try first | exact False.elim hc | (exfalso; omega))))
    · exact X.ret (vs := [_, _]) rfl ⟨⟨_, _, _, _, rfl, (by exact memA), (by (repeat (first | exact .nil | apply LenIs.cons))), by decide +kernel, rfl⟩, rfl, rfl⟩ rfl (fun w hw => ⟨by unfold arcS; rw [if_neg (by rw [hb]; decide), if_pos (by omega)], hw.ext⟩)
    · exact X.ret (vs := [_, _]) rfl ⟨⟨_, _, _, _, rfl, (by exact memA), (by (repeat (first | exact .nil | apply LenIs.cons))), by decide +kernel, rfl⟩, rfl, rfl⟩ rfl (fun w hw => ⟨by unfold arcS; rw [if_neg (by rw [hb]; decide), if_neg (by omega)], hw.ext⟩)
theorem rfar_c (n : Int) : Cont Tryd.prog 58 [.int .i64 n] (.bool (decide (n < -281474976710656) || decide (281474976710656 < n))) := fun w => by
  refine enter0 Tryd.func58 rfl rfl rfl ?_
  repeat' (first
    | (refine nxV ?_)
    | (show RS _ _ _ _ _ _ _ _; first | (refine nxRS ?_) | (refine nxRS1 fun _ => ?_))
    | (show RM _ _ _ _ _ _ _ _ _ _; first | (refine nxRM ?_) | (refine nxRM1 fun _ => ?_))
    | (refine nxG ?_)
    | (refine nxX ?_)
    | (refine G.condN rfl (fun hc => ?_) (fun hc => ?_) <;> (try first | exact False.elim hc | (exfalso; omega))))
  exact X.ret (vs := [_]) rfl ⟨rfl, rfl⟩ rfl (fun w hw => ⟨ret_bool (by first | rfl | exact Bool.and_assoc ..), hw.ext⟩)
theorem radd_c {t1 t2 lo hi : Int} (h : (I64 t1 ∧ I64 t2) ∧ I64 lo ∧ I64 hi) : Cont Tryd.prog 26 [timeV t1 t2, .int .i64 lo, .int .i64 hi] (timeE (addS t1 t2 lo hi)) := fun w => by
  have h1 := rvalidT_c t1 t2
  cases hb : validT t1 t2 with
  | false =>
    rw [hb] at h1
    refine enter0 Tryd.func26 rfl rfl rfl ?_
    repeat' (first
    | (show YK _ _ _ _ _ _ _; first | refine YK.mk (y_callA (h1) ⟨rfl, rfl⟩) ?_)
    | (show YK _ _ _ _ _ _ _; refine YK.ofV vAuto ?_)
    | (show VK _ _ _ _ _ _ _; refine VK.mk vAuto ?_)
    | (show RS _ _ _ _ _ _ _ _; first | (refine nxRS ?_) | (refine nxRS1 fun _ => ?_))
    | (show RM _ _ _ _ _ _ _ _ _ _; first | (refine nxRM ?_) | (refine nxRM1 fun _ => ?_))
    | (show YG _ _ _ _ _ _ _ _; refine YG.mk (fun hb => by (try (have hc := And.left hb; have hb := And.right hb; rw [hc])); (try rw [hb]); first | exact (y_callA (h1) ⟨rfl, rfl⟩) | exact V.y vAuto) ?_)
    | (show VG _ _ _ _ _ _ _ _; refine VG.mk (fun hb => by (try (have hc := And.left hb; have hb := And.right hb; rw [hc])); (try rw [hb]); exact vAuto) ?_)
    | (refine nxX ?_)
    | (refine G.condN rfl (fun hc => ?_) (fun hc => ?_) <;> (try first | exact False.elim hc | (exfalso; omega))))
    exact X.ret (vs := [_, _]) rfl ⟨⟨_, _, _, _, rfl, (by exact memA), (by (repeat (first | exact .nil | apply LenIs.cons))), by decide +kernel, rfl⟩, rfl, rfl⟩ rfl (fun w hw => ⟨by unfold addS; rw [if_pos hb], hw.ext⟩)
  | true =>
    rw [hb] at h1
    have hb2 := validT_iff.1 hb
    have h2 := rvalidT_c (t1 + lo) (t2 + hi)
    have h3 := rfar_c lo
    have h4 := rfar_c hi
    by_cases hord : hi < lo
    · refine enter0 Tryd.func26 rfl rfl rfl ?_
      repeat' (first
    | (show YK _ _ _ _ _ _ _; first | refine YK.mk (y_callA (h1) ⟨rfl, rfl⟩) ?_)
    | (show YK _ _ _ _ _ _ _; refine YK.ofV vAuto ?_)
    | (show VK _ _ _ _ _ _ _; refine VK.mk vAuto ?_)
    | (show RS _ _ _ _ _ _ _ _; first | (refine nxRS ?_) | (refine nxRS1 fun _ => ?_))
    | (show RM _ _ _ _ _ _ _ _ _ _; first | (refine nxRM ?_) | (refine nxRM1 fun _ => ?_))
    | (show YG _ _ _ _ _ _ _ _; refine YG.mk (fun hb => by (try (have hc := And.left hb; have hb := And.right hb; rw [hc])); (try rw [hb]); first | exact (y_callA (h1) ⟨rfl, rfl⟩) | exact V.y vAuto) ?_)
    | (show VG _ _ _ _ _ _ _ _; refine VG.mk (fun hb => by (try (have hc := And.left hb; have hb := And.right hb; rw [hc])); (try rw [hb]); exact vAuto) ?_)
    | (refine nxX ?_)
    | (refine G.condN rfl (fun hc => ?_) (fun hc => ?_) <;> (try first | exact False.elim hc | (exfalso; omega))))
      exact X.ret (vs := [_, _]) rfl ⟨⟨_, _, _, _, rfl, (by exact memA), (by (repeat (first | exact .nil | apply LenIs.cons))), by decide +kernel, rfl⟩, rfl, rfl⟩ rfl (fun w hw => ⟨by unfold addS; rw [if_neg (by rw [hb]; decide), if_pos hord], hw.ext⟩)
    have hu : addS t1 t2 lo hi = if lo < -140737488355328 ∨ 140737488355328 < hi then ((0, 0), 5) else if validT (t1 + lo) (t2 + hi) then ((t1 + lo, t2 + hi), 0) else ((0, 0), 5) := by
      unfold addS; rw [if_neg (by rw [hb]; decide), if_neg hord]
    by_cases hf : lo < -281474976710656 ∨ 281474976710656 < lo
    · rw [show (decide (lo < -281474976710656) || decide (281474976710656 < lo)) = true by simp [hf]] at h3
      refine enter0 Tryd.func26 rfl rfl rfl ?_
      repeat' (first
    | (show YK _ _ _ _ _ _ _; first | refine YK.mk (y_callA (h1) ⟨rfl, rfl⟩) ?_ | refine YK.mk (y_callA (h3) ⟨rfl, rfl⟩) ?_ | refine YK.mk (y_callA (h4) ⟨rfl, rfl⟩) ?_)
    | (show YK _ _ _ _ _ _ _; refine YK.ofV vAuto ?_)
    | (show VK _ _ _ _ _ _ _; refine VK.mk vAuto ?_)
    | (show RS _ _ _ _ _ _ _ _; first | (refine nxRS ?_) | (refine nxRS1 fun _ => ?_))
    | (show RM _ _ _ _ _ _ _ _ _ _; first | (refine nxRM ?_) | (refine nxRM1 fun _ => ?_))
    | (show YG _ _ _ _ _ _ _ _; refine YG.mk (fun hb => by (try (have hc := And.left hb; have hb := And.right hb; rw [hc])); (try rw [hb]); first | exact (y_callA (h1) ⟨rfl, rfl⟩) | exact (y_callA (h3) ⟨rfl, rfl⟩) | exact (y_callA (h4) ⟨rfl, rfl⟩) | exact V.y vAuto) ?_)
    | (show VG _ _ _ _ _ _ _ _; refine VG.mk (fun hb => by (try (have hc := And.left hb; have hb := And.right hb; rw [hc])); (try rw [hb]); exact vAuto) ?_)
    | (refine nxX ?_)
    | (refine G.condN rfl (fun hc => ?_) (fun hc => ?_) <;> (try first | exact False.elim hc | (exfalso; omega))))
      exact X.ret (vs := [_, _]) rfl ⟨⟨_, _, _, _, rfl, (by exact memA), (by (repeat (first | exact .nil | apply LenIs.cons))), by decide +kernel, rfl⟩, rfl, rfl⟩ rfl (fun w hw => ⟨by rw [hu, if_pos (by omega)], hw.ext⟩)
    rw [show (decide (lo < -281474976710656) || decide (281474976710656 < lo)) = false by simp; omega] at h3
    by_cases hf2 : hi < -281474976710656 ∨ 281474976710656 < hi
    · rw [show (decide (hi < -281474976710656) || decide (281474976710656 < hi)) = true by simp [hf2]] at h4
      refine enter0 Tryd.func26 rfl rfl rfl ?_
      repeat' (first
    | (show YK _ _ _ _ _ _ _; first | refine YK.mk (y_callA (h1) ⟨rfl, rfl⟩) ?_ | refine YK.mk (y_callA (h3) ⟨rfl, rfl⟩) ?_ | refine YK.mk (y_callA (h4) ⟨rfl, rfl⟩) ?_)
    | (show YK _ _ _ _ _ _ _; refine YK.ofV vAuto ?_)
    | (show VK _ _ _ _ _ _ _; refine VK.mk vAuto ?_)
    | (show RS _ _ _ _ _ _ _ _; first | (refine nxRS ?_) | (refine nxRS1 fun _ => ?_))
    | (show RM _ _ _ _ _ _ _ _ _ _; first | (refine nxRM ?_) | (refine nxRM1 fun _ => ?_))
    | (show YG _ _ _ _ _ _ _ _; refine YG.mk (fun hb => by (try (have hc := And.left hb; have hb := And.right hb; rw [hc])); (try rw [hb]); first | exact (y_callA (h1) ⟨rfl, rfl⟩) | exact (y_callA (h3) ⟨rfl, rfl⟩) | exact (y_callA (h4) ⟨rfl, rfl⟩) | exact V.y vAuto) ?_)
    | (show VG _ _ _ _ _ _ _ _; refine VG.mk (fun hb => by (try (have hc := And.left hb; have hb := And.right hb; rw [hc])); (try rw [hb]); exact vAuto) ?_)
    | (refine nxX ?_)
    | (refine G.condN rfl (fun hc => ?_) (fun hc => ?_) <;> (try first | exact False.elim hc | (exfalso; omega))))
      exact X.ret (vs := [_, _]) rfl ⟨⟨_, _, _, _, rfl, (by exact memA), (by (repeat (first | exact .nil | apply LenIs.cons))), by decide +kernel, rfl⟩, rfl, rfl⟩ rfl (fun w hw => ⟨by rw [hu, if_pos (by omega)], hw.ext⟩)
    rw [show (decide (hi < -281474976710656) || decide (281474976710656 < hi)) = false by simp; omega] at h4
    refine enter0 Tryd.func26 rfl rfl rfl ?_
    repeat' (first
    | (show YK _ _ _ _ _ _ _; first | refine YK.mk (y_callA (h1) ⟨rfl, rfl⟩) ?_ | refine YK.mk (y_callA (h3) ⟨rfl, rfl⟩) ?_ | refine YK.mk (y_callA (h4) ⟨rfl, rfl⟩) ?_ | refine YK.mk (y_callA (h2) ⟨rfl, rfl⟩) ?_)
    | (show YK _ _ _ _ _ _ _; refine YK.ofV vAuto ?_)
    | (show VK _ _ _ _ _ _ _; refine VK.mk vAuto ?_)
    | (show RS _ _ _ _ _ _ _ _; first | (refine nxRS ?_) | (refine nxRS1 fun _ => ?_))
    | (show RM _ _ _ _ _ _ _ _ _ _; first | (refine nxRM ?_) | (refine nxRM1 fun _ => ?_))
    | (show YG _ _ _ _ _ _ _ _; refine YG.mk (fun hb => by (try (have hc := And.left hb; have hb := And.right hb; rw [hc])); (try rw [hb]); first | exact (y_callA (h1) ⟨rfl, rfl⟩) | exact (y_callA (h3) ⟨rfl, rfl⟩) | exact (y_callA (h4) ⟨rfl, rfl⟩) | exact (y_callA (h2) ⟨rfl, rfl⟩) | exact V.y vAuto) ?_)
    | (show VG _ _ _ _ _ _ _ _; refine VG.mk (fun hb => by (try (have hc := And.left hb; have hb := And.right hb; rw [hc])); (try rw [hb]); exact vAuto) ?_)
    | (refine nxX ?_)
    | (refine G.condN rfl (fun hc => ?_) (fun hc => ?_) <;> (try first | exact False.elim hc | (exfalso; omega))))
    · exact X.ret (vs := [_, _]) rfl ⟨⟨_, _, _, _, rfl, (by exact memA), (by (repeat (first | exact .nil | apply LenIs.cons))), by decide +kernel, rfl⟩, rfl, rfl⟩ rfl (fun w hw => ⟨by rw [hu, hc]; split <;> simp_all, hw.ext⟩)
    · exact X.ret (vs := [_, _]) rfl ⟨⟨_, _, _, _, rfl, (by exact memA), (by (repeat (first | exact .nil | apply LenIs.cons))), by decide +kernel, rfl⟩, rfl, rfl⟩ rfl (fun w hw => ⟨by have := validT_iff.1 hc; rw [hu, if_neg (by omega), if_pos hc], hw.ext⟩)
end Go.Proofs.YtpnfmbfehbnljaaDoor
