/- The clock's awake gives true. -/
import Derived.Test.YtpnfmbfehbnljaaGreatDoorParseT
set_option linter.unusedVariables false
set_option maxHeartbeats 4000000
namespace Go.Proofs.YtpnfmbfehbnljaaGreatDoor
open Go.RowKit

abbrev s0 : List UInt8 := [50, 48, 50, 52, 45, 48, 50, 45, 50, 57, 32, 49, 52, 58, 48, 53, 58, 48, 57, 46, 50, 53, 48]
theorem s0_cut : Lib.cut s0 [32] = ([50, 48, 50, 52, 45, 48, 50, 45, 50, 57], [49, 52, 58, 48, 53, 58, 48, 57, 46, 50, 53, 48], true) := by decide +kernel
theorem s0_dateL : dateL 2024 2 29 = [50, 48, 50, 52, 45, 48, 50, 45, 50, 57] := (date_bytes (y := 2024) (m := 2) (d := 29) (by decide) (by decide) (by decide)).trans (by decide +kernel)
theorem s0_date : dateP [50, 48, 50, 52, 45, 48, 50, 45, 50, 57] = some (2024, 2, 29) := dateP_iff.2 ⟨by decide +kernel, s0_dateL⟩
theorem s0_time : timeS [49, 52, 58, 48, 53, 58, 48, 57, 46, 50, 53, 48] = (50709250, true) := by decide +kernel
theorem s0_at : atS 2024 2 29 50709250 = (762530709250, 0) := by decide +kernel
theorem s0_parse : parseT s0 = (762530709250, 0) := by
  unfold parseT
  rw [s0_cut]; dsimp only
  rw [s0_date, s0_time]; dsimp only
  rw [if_pos ⟨rfl, rfl⟩, s0_at]
theorem s0_text : textS 2024 2 29 50709250 = s0 := by
  unfold textS
  rw [s0_dateL]
  decide +kernel
theorem awake10_c : ContIn Tryz.prog Laid 6 [] (.bool true) := fun w hI => by
  have h1 := parseT_c s0 (by decide)
  rw [s0_parse] at h1
  have h2 := textT_t (t := 762530709250) (y := 2024) (m := 2) (d := 29) (by decide) (by decide +kernel) (by decide +kernel)
  rw [show (762530709250 : Int) % 86400000 = 50709250 by decide, s0_text] at h2
  have h3 := zone_c (lon := -450001) (by omega)
  rw [show zoneS (-450001) = (-1, 0) by decide] at h3
  have h4 := toArc_c (ms := 3) (by omega)
  rw [show arcS 3 = ((0, 1), 0) by decide] at h4
  have h5 := toTime_c (a := 900000) (by omega)
  rw [show toTimeS 900000 = ((3600000, 3600000), 0) by decide] at h5
  refine enter0 Tryz.func6 rfl rfl rfl ?_
  repeat' (first
    | (show YK _ _ _ _ _ _ _; first | refine YK.mk (y_callIn (h1) (fun _ hw => hI.keep hw.ext) ⟨rfl, rfl⟩ (by decide +kernel)) ?_ | refine YK.mk (y_callIn (h2) (fun _ hw => hI.keep hw.ext) ⟨rfl, rfl⟩ (by decide +kernel)) ?_ | refine YK.mk (y_callA (h3) ⟨rfl, rfl⟩) ?_ | refine YK.mk (y_callA (h4) ⟨rfl, rfl⟩) ?_ | refine YK.mk (y_callA (h5) ⟨rfl, rfl⟩) ?_)
    | (show YK _ _ _ _ _ _ _; refine YK.ofV vAuto ?_)
    | (show VK _ _ _ _ _ _ _; refine VK.mk vAuto ?_)
    | (show RS _ _ _ _ _ _ _ _; first | (refine nxRS ?_) | (refine nxRS1 fun _ => ?_))
    | (show RM _ _ _ _ _ _ _ _ _ _; first | (refine nxRM ?_) | (refine nxRM1 fun _ => ?_))
    | (show YG _ _ _ _ _ _ _ _; refine YG.mk (fun hb => by (try (have hc := And.left hb; have hb := And.right hb; rw [hc])); (try rw [hb]); first | exact (y_callIn (h1) (fun _ hw => hI.keep hw.ext) ⟨rfl, rfl⟩ (by decide +kernel)) | exact (y_callIn (h2) (fun _ hw => hI.keep hw.ext) ⟨rfl, rfl⟩ (by decide +kernel)) | exact (y_callA (h3) ⟨rfl, rfl⟩) | exact (y_callA (h4) ⟨rfl, rfl⟩) | exact (y_callA (h5) ⟨rfl, rfl⟩) | exact V.y vAuto) ?_)
    | (show VG _ _ _ _ _ _ _ _; refine VG.mk (fun hb => by (try (have hc := And.left hb; have hb := And.right hb; rw [hc])); (try rw [hb]); exact vAuto) ?_)
    | (refine nxVS ?_)
    | (refine nxGS ?_)
    | (refine nxX ?_)
    | (refine G.condN rfl (fun hc => ?_) (fun hc => ?_) <;> (try first | exact False.elim hc | (exfalso; omega))))
  refine X.ret (vs := [_]) rfl ⟨rfl, rfl⟩ rfl (fun w hw => ⟨ret_bool ?_, hw.ext⟩)
  simp [eqCells, vEq]
end Go.Proofs.YtpnfmbfehbnljaaGreatDoor
