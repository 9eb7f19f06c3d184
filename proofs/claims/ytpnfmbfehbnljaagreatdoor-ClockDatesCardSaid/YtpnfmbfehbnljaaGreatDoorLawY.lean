/- ClockDates gives true. -/
import Derived.Test.YtpnfmbfehbnljaaGreatDoorAwk10
import Derived.Test.YtpnfmbfehbnljaaGreatDoorRefZ
set_option linter.unusedVariables false
set_option maxHeartbeats 4000000
namespace Go.Proofs.YtpnfmbfehbnljaaGreatDoor
open Go.RowKit

theorem clockDates_s {t1 t2 y m d ms n y' m' d' k e : Int} (h : I64 ms) (p1 : Cont Tryz.prog 12 [.int .i64 n] (splitV y' m' d' k e)) (p2 : Cont Tryz.prog 14 [.int .i64 n] (splitV y' m' d' k e)) : ContIn Tryz.prog Laid 4 [timeV t1 t2, dateV y m d, .int .i64 ms, .int .i64 n] (.bool true) := fun w hI => by
  have h1 := at_c (y := y) (m := m) (d := d) h
  have h2 := rat_c (y := y) (m := m) (d := d) h
  have h3 := cvalid_c t1 t2
  have h4 := rvalidT_c t1 t2
  refine enter0 Tryz.func4 rfl rfl rfl ?_
  repeat' (first
    | (show YK _ _ _ _ _ _ _; first | refine YK.mk (y_callIn (awake10_c) (fun _ hw => hI.keep hw.ext) rfl (by decide +kernel)) ?_ | refine YK.mk (y_callA (h1) ⟨rfl, rfl, rfl⟩) ?_ | refine YK.mk (y_callA (h2) ⟨rfl, rfl, rfl⟩) ?_ | refine YK.mk (y_callA (h3) ⟨rfl, rfl⟩) ?_ | refine YK.mk (y_callA (h4) ⟨rfl, rfl⟩) ?_ | refine YK.mk (y_callA (p1) ⟨rfl, rfl⟩) ?_ | refine YK.mk (y_callA (p2) ⟨rfl, rfl⟩) ?_)
    | (show YK _ _ _ _ _ _ _; refine YK.ofV vAuto ?_)
    | (show VK _ _ _ _ _ _ _; refine VK.mk vAuto ?_)
    | (show RS _ _ _ _ _ _ _ _; first | (refine nxRS ?_) | (refine nxRS1 fun _ => ?_))
    | (show RM _ _ _ _ _ _ _ _ _ _; first | (refine nxRM ?_) | (refine nxRM1 fun _ => ?_))
    | (show YG _ _ _ _ _ _ _ _; refine YG.mk (fun hb => by (try (have hc := And.left hb; have hb := And.right hb; rw [hc])); (try rw [hb]); first | exact (y_callIn (awake10_c) (fun _ hw => hI.keep hw.ext) rfl (by decide +kernel)) | exact (y_callA (h1) ⟨rfl, rfl, rfl⟩) | exact (y_callA (h2) ⟨rfl, rfl, rfl⟩) | exact (y_callA (h3) ⟨rfl, rfl⟩) | exact (y_callA (h4) ⟨rfl, rfl⟩) | exact (y_callA (p1) ⟨rfl, rfl⟩) | exact (y_callA (p2) ⟨rfl, rfl⟩) | exact V.y vAuto) ?_)
    | (show VG _ _ _ _ _ _ _ _; refine VG.mk (fun hb => by (try (have hc := And.left hb; have hb := And.right hb; rw [hc])); (try rw [hb]); exact vAuto) ?_)
    | (refine G.mixedA 7 [.go 0, .go 2, .go 1, .go 3, .go 4, .go 5, .go 6, .go 7, .go 8, .go 9, .go 10, .go 11, .go 12, .go 13, .go 14, .go 15, .go 16, .go 17, .go 18, .go 19, .go 20, .go 21, .go 22, .go 23, .go 24, .go 25, .go 26, .go 27, .go 28, .go 29, .go 30] ?_)
    | (refine nxX ?_)
    | (refine G.condN rfl (fun hc => ?_) (fun hc => ?_) <;> (try first | exact False.elim hc | (exfalso; omega))))
  refine X.ret (vs := [_]) rfl ⟨rfl, rfl⟩ rfl (fun w hw => ⟨ret_bool ?_, hw.ext⟩)
  simp [eqCells, vEq]
theorem clockDates_c {t1 t2 y m d ms n : Int} (_ht : I64 t1 ∧ I64 t2) (_hd : I64 y ∧ I64 m ∧ I64 d) (h : I64 ms) (hn : I64 n) : ContIn Tryz.prog Laid 4 [timeV t1 t2, dateV y m d, .int .i64 ms, .int .i64 n] (.bool true) := by
  cases hb : instB n with
  | false => exact clockDates_s h (split_r hn hb) (rsplit_r hn hb)
  | true =>
    by_cases hr : n / 86400000 < -730119 ∨ 2921939 < n / 86400000
    · exact clockDates_s h (split_f hb hr) (rsplit_f hb hr)
    · obtain ⟨y', m', d', hv, hn'⟩ := date_ex (n / 86400000) (by omega) (by omega)
      exact clockDates_s h (split_t hb hv hn') (rsplit_t hb hv hn')
end Go.Proofs.YtpnfmbfehbnljaaGreatDoor
