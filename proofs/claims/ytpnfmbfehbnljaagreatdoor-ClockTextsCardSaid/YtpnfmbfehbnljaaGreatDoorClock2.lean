/- The clock's functions on numbers: zone times, arcs, sums. -/
import Derived.Test.YtpnfmbfehbnljaaGreatDoorClock
set_option linter.unusedVariables false
set_option maxHeartbeats 4000000
namespace Go.Proofs.YtpnfmbfehbnljaaGreatDoor
open Go.RowKit

def zoneTimeS (t lon : Int) : Int × Int := if lonB lon then movedS t lon ((lon + 450000) / 900000 * 3600000) else (0, 2)
theorem zoneTime_c {t lon : Int} (h : I64 t ∧ I64 lon) : Cont Tryz.prog 18 [.int .i64 t, .int .i64 lon] (numE (zoneTimeS t lon).1 (zoneTimeS t lon).2) := fun w => by
  have hz := zone_c h.2
  cases hb : lonB lon with
  | false =>
    have e : zoneS lon = (0, 2) := by unfold zoneS; rw [hb]; rfl
    rw [e] at hz
    refine enter0 Tryz.func18 rfl rfl rfl ?_
    repeat' (first
    | (show YK _ _ _ _ _ _ _; first | refine YK.mk (y_callA (hz) ⟨rfl, rfl⟩) ?_)
    | (show YK _ _ _ _ _ _ _; refine YK.ofV vAuto ?_)
    | (show VK _ _ _ _ _ _ _; refine VK.mk vAuto ?_)
    | (show RS _ _ _ _ _ _ _ _; first | (refine nxRS ?_) | (refine nxRS1 fun _ => ?_))
    | (show RM _ _ _ _ _ _ _ _ _ _; first | (refine nxRM ?_) | (refine nxRM1 fun _ => ?_))
    | (show YG _ _ _ _ _ _ _ _; refine YG.mk (fun hb => by (try (have hc := And.left hb; have hb := And.right hb; rw [hc])); (try rw [hb]); first | exact (y_callA (hz) ⟨rfl, rfl⟩) | exact V.y vAuto) ?_)
    | (show VG _ _ _ _ _ _ _ _; refine VG.mk (fun hb => by (try (have hc := And.left hb; have hb := And.right hb; rw [hc])); (try rw [hb]); exact vAuto) ?_)
    | (refine nxX ?_)
    | (refine G.condN rfl (fun hc => ?_) (fun hc => ?_) <;> (try first | exact False.elim hc | (exfalso; omega))))
    exact X.ret (vs := [_, _]) rfl ⟨rfl, rfl, rfl⟩ rfl (fun w hw => ⟨by unfold zoneTimeS; rw [hb]; rfl, hw.ext⟩)
  | true =>
    have hb2 := lonB_iff.1 hb
    have e : zoneS lon = ((lon + 450000) / 900000, 0) := by unfold zoneS; rw [hb]; rfl
    rw [e] at hz
    have hm := moved_c (t := t) (lon := lon) (b := (lon + 450000) / 900000 * 3600000) ⟨h, by omega⟩
    refine enter0 Tryz.func18 rfl rfl rfl ?_
    repeat' (first
    | (show YK _ _ _ _ _ _ _; first | refine YK.mk (y_callA (hz) ⟨rfl, rfl⟩) ?_ | refine YK.mk (y_callA (hm) ⟨rfl, rfl, rfl, rfl⟩) ?_)
    | (show YK _ _ _ _ _ _ _; refine YK.ofV vAuto ?_)
    | (show VK _ _ _ _ _ _ _; refine VK.mk vAuto ?_)
    | (show RS _ _ _ _ _ _ _ _; first | (refine nxRS ?_) | (refine nxRS1 fun _ => ?_))
    | (show RM _ _ _ _ _ _ _ _ _ _; first | (refine nxRM ?_) | (refine nxRM1 fun _ => ?_))
    | (show YG _ _ _ _ _ _ _ _; refine YG.mk (fun hb => by (try (have hc := And.left hb; have hb := And.right hb; rw [hc])); (try rw [hb]); first | exact (y_callA (hz) ⟨rfl, rfl⟩) | exact (y_callA (hm) ⟨rfl, rfl, rfl, rfl⟩) | exact V.y vAuto) ?_)
    | (show VG _ _ _ _ _ _ _ _; refine VG.mk (fun hb => by (try (have hc := And.left hb; have hb := And.right hb; rw [hc])); (try rw [hb]); exact vAuto) ?_)
    | (refine nxX ?_)
    | (refine G.condN rfl (fun hc => ?_) (fun hc => ?_) <;> (try first | exact False.elim hc | (exfalso; omega))))
    exact X.ret (vs := [_, _]) rfl ⟨rfl, rfl, rfl⟩ rfl (fun w hw => ⟨by unfold zoneTimeS; rw [hb]; rfl, hw.ext⟩)
abbrev timeE (r : (Int × Int) × Int) : Value := .tuple [timeV r.1.1 r.1.2, .int .i64 r.2].toArray
def localS (t lon : Int) : (Int × Int) × Int := if lonB lon then (if (movedS t lon (4 * lon)).2 = 0 then (((movedS t lon (4 * lon)).1, (movedS t lon (4 * lon)).1), 0) else ((0, 0), (movedS t lon (4 * lon)).2)) else ((0, 0), 2)
theorem localMean_c {t lon : Int} (h : I64 t ∧ I64 lon) : Cont Tryz.prog 19 [.int .i64 t, .int .i64 lon] (timeE (localS t lon)) := fun w => by
  have hl := longitude_c lon
  cases hb : lonB lon with
  | false =>
    rw [hb] at hl
    refine enter0 Tryz.func19 rfl rfl rfl ?_
    repeat' (first
    | (show YK _ _ _ _ _ _ _; first | refine YK.mk (y_callA (hl) ⟨rfl, rfl⟩) ?_)
    | (show YK _ _ _ _ _ _ _; refine YK.ofV vAuto ?_)
    | (show VK _ _ _ _ _ _ _; refine VK.mk vAuto ?_)
    | (show RS _ _ _ _ _ _ _ _; first | (refine nxRS ?_) | (refine nxRS1 fun _ => ?_))
    | (show RM _ _ _ _ _ _ _ _ _ _; first | (refine nxRM ?_) | (refine nxRM1 fun _ => ?_))
    | (show YG _ _ _ _ _ _ _ _; refine YG.mk (fun hb => by (try (have hc := And.left hb; have hb := And.right hb; rw [hc])); (try rw [hb]); first | exact (y_callA (hl) ⟨rfl, rfl⟩) | exact V.y vAuto) ?_)
    | (show VG _ _ _ _ _ _ _ _; refine VG.mk (fun hb => by (try (have hc := And.left hb; have hb := And.right hb; rw [hc])); (try rw [hb]); exact vAuto) ?_)
    | (refine nxX ?_)
    | (refine G.condN rfl (fun hc => ?_) (fun hc => ?_) <;> (try first | exact False.elim hc | (exfalso; omega))))
    exact X.ret (vs := [_, _]) rfl ⟨⟨_, _, _, _, rfl, (by exact memA), (by (repeat (first | exact .nil | apply LenIs.cons))), by decide +kernel, rfl⟩, rfl, rfl⟩ rfl (fun w hw => ⟨by unfold localS; rw [hb]; rfl, hw.ext⟩)
  | true =>
    rw [hb] at hl
    have hb2 := lonB_iff.1 hb
    have hm := moved_c (t := t) (lon := lon) (b := 4 * lon) ⟨h, by omega⟩
    refine enter0 Tryz.func19 rfl rfl rfl ?_
    repeat' (first
    | (show YK _ _ _ _ _ _ _; first | refine YK.mk (y_callA (hl) ⟨rfl, rfl⟩) ?_ | refine YK.mk (y_callA (hm) ⟨rfl, rfl, rfl, rfl⟩) ?_)
    | (show YK _ _ _ _ _ _ _; refine YK.ofV vAuto ?_)
    | (show VK _ _ _ _ _ _ _; refine VK.mk vAuto ?_)
    | (show RS _ _ _ _ _ _ _ _; first | (refine nxRS ?_) | (refine nxRS1 fun _ => ?_))
    | (show RM _ _ _ _ _ _ _ _ _ _; first | (refine nxRM ?_) | (refine nxRM1 fun _ => ?_))
    | (show YG _ _ _ _ _ _ _ _; refine YG.mk (fun hb => by (try (have hc := And.left hb; have hb := And.right hb; rw [hc])); (try rw [hb]); first | exact (y_callA (hl) ⟨rfl, rfl⟩) | exact (y_callA (hm) ⟨rfl, rfl, rfl, rfl⟩) | exact V.y vAuto) ?_)
    | (show VG _ _ _ _ _ _ _ _; refine VG.mk (fun hb => by (try (have hc := And.left hb; have hb := And.right hb; rw [hc])); (try rw [hb]); exact vAuto) ?_)
    | (refine nxX ?_)
    | (refine G.condN rfl (fun hc => ?_) (fun hc => ?_) <;> (try first | exact False.elim hc | (exfalso; omega))))
    · exact X.ret (vs := [_, _]) rfl ⟨⟨_, _, _, _, rfl, (by exact memA), (by (repeat (first | exact .nil | apply LenIs.cons))), by decide +kernel, rfl⟩, rfl, rfl⟩ rfl (fun w hw => ⟨by unfold localS; rw [hb, if_pos rfl, if_neg hc], hw.ext⟩)
    · exact X.ret (vs := [_, _]) rfl ⟨⟨_, _, _, _, rfl, (by exact memA), (by (repeat (first | exact .nil | apply LenIs.cons))), by decide +kernel, rfl⟩, rfl, rfl⟩ rfl (fun w hw => ⟨by unfold localS; rw [hb, if_pos rfl, if_pos hc], hw.ext⟩)
def arcS (ms : Int) : (Int × Int) × Int := if instB ms = false then ((0, 0), 2) else
  if ms / 4 < -1099511627776 ∨ 1099511627776 < -(-ms / 4) then ((0, 0), 5) else ((ms / 4, -(-ms / 4)), 0)
theorem toArc_c {ms : Int} (h : I64 ms) : Cont Tryz.prog 23 [.int .i64 ms] (timeE (arcS ms)) := fun w => by
  have hl := instant_c ms
  cases hb : instB ms with
  | false =>
    rw [hb] at hl
    refine enter0 Tryz.func23 rfl rfl rfl ?_
    repeat' (first
    | (show YK _ _ _ _ _ _ _; first | refine YK.mk (y_callA (hl) ⟨rfl, rfl⟩) ?_)
    | (show YK _ _ _ _ _ _ _; refine YK.ofV vAuto ?_)
    | (show VK _ _ _ _ _ _ _; refine VK.mk vAuto ?_)
    | (show RS _ _ _ _ _ _ _ _; first | (refine nxRS ?_) | (refine nxRS1 fun _ => ?_))
    | (show RM _ _ _ _ _ _ _ _ _ _; first | (refine nxRM ?_) | (refine nxRM1 fun _ => ?_))
    | (show YG _ _ _ _ _ _ _ _; refine YG.mk (fun hb => by (try (have hc := And.left hb; have hb := And.right hb; rw [hc])); (try rw [hb]); first | exact (y_callA (hl) ⟨rfl, rfl⟩) | exact V.y vAuto) ?_)
    | (show VG _ _ _ _ _ _ _ _; refine VG.mk (fun hb => by (try (have hc := And.left hb; have hb := And.right hb; rw [hc])); (try rw [hb]); exact vAuto) ?_)
    | (refine nxX ?_)
    | (refine G.condN rfl (fun hc => ?_) (fun hc => ?_) <;> (try first | exact False.elim hc | (exfalso; omega))))
    exact X.ret (vs := [_, _]) rfl ⟨⟨_, _, _, _, rfl, (by exact memA), (by (repeat (first | exact .nil | apply LenIs.cons))), by decide +kernel, rfl⟩, rfl, rfl⟩ rfl (fun w hw => ⟨by unfold arcS; rw [if_pos hb], hw.ext⟩)
  | true =>
    rw [hb] at hl
    have hb2 := instB_iff.1 hb
    refine enter0 Tryz.func23 rfl rfl rfl ?_
    repeat' (first
    | (show YK _ _ _ _ _ _ _; first | refine YK.mk (y_callA (hl) ⟨rfl, rfl⟩) ?_ | refine YK.mk (y_callP floor_c ⟨rfl, rfl, rfl⟩) ?_)
    | (show YK _ _ _ _ _ _ _; refine YK.ofV vAuto ?_)
    | (show VK _ _ _ _ _ _ _; refine VK.mk vAuto ?_)
    | (show RS _ _ _ _ _ _ _ _; first | (refine nxRS ?_) | (refine nxRS1 fun _ => ?_))
    | (show RM _ _ _ _ _ _ _ _ _ _; first | (refine nxRM ?_) | (refine nxRM1 fun _ => ?_))
    | (show YG _ _ _ _ _ _ _ _; refine YG.mk (fun hb => by (try (have hc := And.left hb; have hb := And.right hb; rw [hc])); (try rw [hb]); first | exact (y_callA (hl) ⟨rfl, rfl⟩) | exact (y_callP floor_c ⟨rfl, rfl, rfl⟩) | exact V.y vAuto) ?_)
    | (show VG _ _ _ _ _ _ _ _; refine VG.mk (fun hb => by (try (have hc := And.left hb; have hb := And.right hb; rw [hc])); (try rw [hb]); exact vAuto) ?_)
    | (refine nxX ?_)
    | (refine G.condN rfl (fun hc => ?_) (fun hc => ?_) <;> (try first | exact False.elim hc | (exfalso; omega))))
    · exact X.ret (vs := [_, _]) rfl ⟨⟨_, _, _, _, rfl, (by exact memA), (by (repeat (first | exact .nil | apply LenIs.cons))), by decide +kernel, rfl⟩, rfl, rfl⟩ rfl (fun w hw => ⟨by unfold arcS; rw [if_neg (by rw [hb]; decide), if_pos (by omega)], hw.ext⟩)
    · exact X.ret (vs := [_, _]) rfl ⟨⟨_, _, _, _, rfl, (by exact memA), (by (repeat (first | exact .nil | apply LenIs.cons))), by decide +kernel, rfl⟩, rfl, rfl⟩ rfl (fun w hw => ⟨by unfold arcS; rw [if_neg (by rw [hb]; decide), if_neg (by omega), show -(-ms / 4) = ms / 4 + 1 by omega]; rfl, hw.ext⟩)
    · exact X.ret (vs := [_, _]) rfl ⟨⟨_, _, _, _, rfl, (by exact memA), (by (repeat (first | exact .nil | apply LenIs.cons))), by decide +kernel, rfl⟩, rfl, rfl⟩ rfl (fun w hw => ⟨by unfold arcS; rw [if_neg (by rw [hb]; decide), if_pos (by omega)], hw.ext⟩)
    · exact X.ret (vs := [_, _]) rfl ⟨⟨_, _, _, _, rfl, (by exact memA), (by (repeat (first | exact .nil | apply LenIs.cons))), by decide +kernel, rfl⟩, rfl, rfl⟩ rfl (fun w hw => ⟨by unfold arcS; rw [if_neg (by rw [hb]; decide), if_neg (by omega), show -(-ms / 4) = ms / 4 by omega], hw.ext⟩)
def toTimeS (a : Int) : (Int × Int) × Int := if a < -1099511627776 ∨ 1099511627776 < a then ((0, 0), 2) else ((4 * a, 4 * a), 0)
theorem toTime_c {a : Int} (h : I64 a) : Cont Tryz.prog 24 [.int .i64 a] (timeE (toTimeS a)) := fun w => by
  refine enter0 Tryz.func24 rfl rfl rfl ?_
  repeat' (first
    | (refine nxV ?_)
    | (show RS _ _ _ _ _ _ _ _; first | (refine nxRS ?_) | (refine nxRS1 fun _ => ?_))
    | (show RM _ _ _ _ _ _ _ _ _ _; first | (refine nxRM ?_) | (refine nxRM1 fun _ => ?_))
    | (refine nxG ?_)
    | (refine nxX ?_)
    | (refine G.condN rfl (fun hc => ?_) (fun hc => ?_) <;> (try first | exact False.elim hc | (exfalso; omega))))
  · exact X.ret (vs := [_, _]) rfl ⟨⟨_, _, _, _, rfl, (by exact memA), (by (repeat (first | exact .nil | apply LenIs.cons))), by decide +kernel, rfl⟩, rfl, rfl⟩ rfl (fun w hw => ⟨by unfold toTimeS; rw [if_pos hc], hw.ext⟩)
  · exact X.ret (vs := [_, _]) rfl ⟨⟨_, _, _, _, rfl, (by exact memA), (by (repeat (first | exact .nil | apply LenIs.cons))), by decide +kernel, rfl⟩, rfl, rfl⟩ rfl (fun w hw => ⟨by unfold toTimeS; rw [if_neg (by omega)], hw.ext⟩)
def addS (t1 t2 lo hi : Int) : (Int × Int) × Int := if validT t1 t2 = false then ((0, 0), 1) else if hi < lo then ((0, 0), 17) else
  if lo < -140737488355328 ∨ 140737488355328 < hi then ((0, 0), 5) else if validT (t1 + lo) (t2 + hi) then ((t1 + lo, t2 + hi), 0) else ((0, 0), 5)
theorem validT_iff {a b : Int} : validT a b = true ↔ (a ≤ b ∧ -70368744177664 ≤ a ∧ a ≤ 70368744177664) ∧ -70368744177664 ≤ b ∧ b ≤ 70368744177664 := by simp [validT, instB, and_assoc]
end Go.Proofs.YtpnfmbfehbnljaaGreatDoor
