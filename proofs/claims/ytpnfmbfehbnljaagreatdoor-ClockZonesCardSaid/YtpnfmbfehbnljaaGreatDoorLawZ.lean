/- ClockZones gives true. -/
import Derived.Test.YtpnfmbfehbnljaaGreatDoorAwk10
import Derived.Test.YtpnfmbfehbnljaaGreatDoorRefZ
set_option linter.unusedVariables false
set_option maxHeartbeats 4000000
namespace Go.Proofs.YtpnfmbfehbnljaaGreatDoor
open Go.RowKit

theorem moved_zero {t lon b : Int} : (movedS t lon b).2 = 0 ∨ (movedS t lon b).1 = 0 := by
  unfold movedS
  split
  · exact .inr rfl
  · split
    · exact .inl rfl
    · exact .inr rfl
theorem clockZones_f {t lon : Int} (h : I64 t ∧ I64 lon) (hb : lonB lon = false) : ContIn Tryz.prog Laid 5 [.int .i64 t, .int .i64 lon] (.bool true) := fun w hI => by
  have h0 := rlongitude_c lon
  rw [hb] at h0
  have h1 := zone_c h.2
  have h2 := zoneTime_c h
  have h3 := localMean_c h
  have e1 : zoneS lon = (0, 2) := by unfold zoneS; rw [hb]; rfl
  have e2 : zoneTimeS t lon = (0, 2) := by unfold zoneTimeS; rw [hb]; rfl
  have e3 : localS t lon = ((0, 0), 2) := by unfold localS; rw [hb]; rfl
  rw [e1] at h1
  rw [e2] at h2
  rw [e3] at h3
  refine enter0 Tryz.func5 rfl rfl rfl ?_
  repeat' (first
    | (show YK _ _ _ _ _ _ _; first | refine YK.mk (y_callIn (awake10_c) (fun _ hw => hI.keep hw.ext) rfl (by decide +kernel)) ?_ | refine YK.mk (y_callA (h0) ⟨rfl, rfl⟩) ?_ | refine YK.mk (y_callA (h1) ⟨rfl, rfl⟩) ?_ | refine YK.mk (y_callA (h2) ⟨rfl, rfl, rfl⟩) ?_ | refine YK.mk (y_callA (h3) ⟨rfl, rfl, rfl⟩) ?_)
    | (show YK _ _ _ _ _ _ _; refine YK.ofV vAuto ?_)
    | (show VK _ _ _ _ _ _ _; refine VK.mk vAuto ?_)
    | (show RS _ _ _ _ _ _ _ _; first | (refine nxRS ?_) | (refine nxRS1 fun _ => ?_))
    | (show RM _ _ _ _ _ _ _ _ _ _; first | (refine nxRM ?_) | (refine nxRM1 fun _ => ?_))
    | (show YG _ _ _ _ _ _ _ _; refine YG.mk (fun hb => by (try (have hc := And.left hb; have hb := And.right hb; rw [hc])); (try rw [hb]); first | exact (y_callIn (awake10_c) (fun _ hw => hI.keep hw.ext) rfl (by decide +kernel)) | exact (y_callA (h0) ⟨rfl, rfl⟩) | exact (y_callA (h1) ⟨rfl, rfl⟩) | exact (y_callA (h2) ⟨rfl, rfl, rfl⟩) | exact (y_callA (h3) ⟨rfl, rfl, rfl⟩) | exact V.y vAuto) ?_)
    | (show VG _ _ _ _ _ _ _ _; refine VG.mk (fun hb => by (try (have hc := And.left hb; have hb := And.right hb; rw [hc])); (try rw [hb]); exact vAuto) ?_)
    | (refine nxX ?_)
    | (refine G.condN rfl (fun hc => ?_) (fun hc => ?_) <;> (try first | exact False.elim hc | (exfalso; omega))))
  refine X.ret (vs := [_]) rfl ⟨rfl, rfl⟩ rfl (fun w hw => ⟨ret_bool ?_, hw.ext⟩)
  simp [eqCells, vEq]
theorem clockZones_t {t lon : Int} (h : I64 t ∧ I64 lon) (hb : lonB lon = true) : ContIn Tryz.prog Laid 5 [.int .i64 t, .int .i64 lon] (.bool true) := fun w hI => by
  have hl := lonB_iff.1 hb
  have h0 := rlongitude_c lon
  rw [hb] at h0
  have h1 := zone_c h.2
  have h2 := zoneTime_c h
  have h3 := localMean_c h
  have h4 := rzone_c hl
  have h5 := rshifted_c (t := t) (lon := lon) (b := (lon + 450000) / 900000 * 3600000) (by omega)
  have h6 := rshifted_c (t := t) (lon := lon) (b := 4 * lon) (by omega)
  have e1 : zoneS lon = ((lon + 450000) / 900000, 0) := by unfold zoneS; rw [hb]; rfl
  have e2 : zoneTimeS t lon = movedS t lon ((lon + 450000) / 900000 * 3600000) := by unfold zoneTimeS; rw [hb]; rfl
  have e3 : localS t lon = (((movedS t lon (4 * lon)).1, (movedS t lon (4 * lon)).1), (movedS t lon (4 * lon)).2) := by
    unfold localS
    rw [hb, if_pos rfl]
    split
    next g => rw [g]
    next g => rcases moved_zero (t := t) (lon := lon) (b := 4 * lon) with g2 | g2
              · exact absurd g2 g
              · rw [g2]
  rw [e1] at h1
  rw [e2] at h2
  rw [e3] at h3
  have h1' : Cont Tryz.prog 17 [.int .i64 lon] (.tuple [.int .i64 ((lon + 450000) / 900000), .int .i64 0].toArray) := h1
  generalize movedS t lon ((lon + 450000) / 900000 * 3600000) = u at h2 h5
  generalize movedS t lon (4 * lon) = v at h3 h6
  have hz : -20 ≤ (lon + 450000) / 900000 ∧ (lon + 450000) / 900000 ≤ 20 := by omega
  refine enter0 Tryz.func5 rfl rfl rfl ?_
  repeat' (first
    | (show YK _ _ _ _ _ _ _; first | refine YK.mk (y_callIn (awake10_c) (fun _ hw => hI.keep hw.ext) rfl (by decide +kernel)) ?_ | refine YK.mk (y_callA (h0) ⟨rfl, rfl⟩) ?_ | refine YK.mk (y_callA (h1') ⟨rfl, rfl⟩) ?_ | refine YK.mk (y_callA (h2) ⟨rfl, rfl, rfl⟩) ?_ | refine YK.mk (y_callA (h3) ⟨rfl, rfl, rfl⟩) ?_ | refine YK.mk (y_callA (h4) ⟨rfl, rfl⟩) ?_ | refine YK.mk (y_callA (h5) ⟨rfl, rfl, rfl, rfl⟩) ?_ | refine YK.mk (y_callA (h6) ⟨rfl, rfl, rfl, rfl⟩) ?_)
    | (show YK _ _ _ _ _ _ _; refine YK.ofV vAuto ?_)
    | (show VK _ _ _ _ _ _ _; refine VK.mk vAuto ?_)
    | (show RS _ _ _ _ _ _ _ _; first | (refine nxRS ?_) | (refine nxRS1 fun _ => ?_))
    | (show RM _ _ _ _ _ _ _ _ _ _; first | (refine nxRM ?_) | (refine nxRM1 fun _ => ?_))
    | (show YG _ _ _ _ _ _ _ _; refine YG.mk (fun hb => by (try (have hc := And.left hb; have hb := And.right hb; rw [hc])); (try rw [hb]); first | exact (y_callIn (awake10_c) (fun _ hw => hI.keep hw.ext) rfl (by decide +kernel)) | exact (y_callA (h0) ⟨rfl, rfl⟩) | exact (y_callA (h1') ⟨rfl, rfl⟩) | exact (y_callA (h2) ⟨rfl, rfl, rfl⟩) | exact (y_callA (h3) ⟨rfl, rfl, rfl⟩) | exact (y_callA (h4) ⟨rfl, rfl⟩) | exact (y_callA (h5) ⟨rfl, rfl, rfl, rfl⟩) | exact (y_callA (h6) ⟨rfl, rfl, rfl, rfl⟩) | exact V.y vAuto) ?_)
    | (show VG _ _ _ _ _ _ _ _; refine VG.mk (fun hb => by (try (have hc := And.left hb; have hb := And.right hb; rw [hc])); (try rw [hb]); exact vAuto) ?_)
    | (refine nxX ?_)
    | (refine G.condN rfl (fun hc => ?_) (fun hc => ?_) <;> (try first | exact False.elim hc | (exfalso; omega))))
  refine X.ret (vs := [_]) rfl ⟨rfl, rfl⟩ rfl (fun w hw => ⟨ret_bool ?_, hw.ext⟩)
  simp [eqCells, vEq]
theorem clockZones_c {t lon : Int} (h : I64 t ∧ I64 lon) : ContIn Tryz.prog Laid 5 [.int .i64 t, .int .i64 lon] (.bool true) := by
  cases hb : lonB lon with
  | false => exact clockZones_f h hb
  | true => exact clockZones_t h hb
end Go.Proofs.YtpnfmbfehbnljaaGreatDoor
