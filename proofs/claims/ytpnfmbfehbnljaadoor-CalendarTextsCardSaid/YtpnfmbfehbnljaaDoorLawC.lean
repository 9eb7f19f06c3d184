/- CalendarTexts gives true. -/
import Derived.Test.YtpnfmbfehbnljaaDoorRefP
set_option linter.unusedVariables false
set_option maxHeartbeats 4000000
namespace Go.Proofs.YtpnfmbfehbnljaaDoor
open Go.RowKit

theorem awake9_c : Cont Tryd.prog 9 [] (.bool true) := fun w => by
  have a1 := Number_t (y := 2024) (m := 2) (d := 29) (by decide)
  have a2 := Julian_t (y := 2024) (m := 2) (d := 29) (by decide)
  have a3 := Weekday_t (y := 2024) (m := 2) (d := 29) (by decide)
  have a4 := DayOfYear_t (y := 2024) (m := 2) (d := 29) (by decide)
  have a5 := add_t (y := 1999) (m := 12) (d := 31) (k := 1) (y' := 2000) (m' := 1) (d' := 1) (by decide) (by decide) (by decide)
  refine enter0 Tryd.func9 rfl rfl rfl ?_
  repeat' (first
    | (show YK _ _ _ _ _ _ _; first | refine YK.mk (y_callA (a1) ⟨rfl, rfl⟩) ?_ | refine YK.mk (y_callA (a2) ⟨rfl, rfl⟩) ?_ | refine YK.mk (y_callA (a3) ⟨rfl, rfl⟩) ?_ | refine YK.mk (y_callA (a4) ⟨rfl, rfl⟩) ?_ | refine YK.mk (y_callA (a5) ⟨rfl, rfl, rfl⟩) ?_ | refine YK.mk (y_callA (leap_c _) ⟨rfl, rfl⟩) ?_)
    | (show YK _ _ _ _ _ _ _; refine YK.ofV vAuto ?_)
    | (show VK _ _ _ _ _ _ _; refine VK.mk vAuto ?_)
    | (show RS _ _ _ _ _ _ _ _; first | (refine nxRS ?_) | (refine nxRS1 fun _ => ?_))
    | (show RM _ _ _ _ _ _ _ _ _ _; first | (refine nxRM ?_) | (refine nxRM1 fun _ => ?_))
    | (show YG _ _ _ _ _ _ _ _; refine YG.mk (fun hb => by (try (have hc := And.left hb; have hb := And.right hb; rw [hc])); (try rw [hb]); first | exact (y_callA (a1) ⟨rfl, rfl⟩) | exact (y_callA (a2) ⟨rfl, rfl⟩) | exact (y_callA (a3) ⟨rfl, rfl⟩) | exact (y_callA (a4) ⟨rfl, rfl⟩) | exact (y_callA (a5) ⟨rfl, rfl, rfl⟩) | exact (y_callA (leap_c _) ⟨rfl, rfl⟩) | exact V.y vAuto) ?_)
    | (show VG _ _ _ _ _ _ _ _; refine VG.mk (fun hb => by (try (have hc := And.left hb; have hb := And.right hb; rw [hc])); (try rw [hb]); exact vAuto) ?_)
    | (refine nxX ?_)
    | (refine G.condN rfl (fun hc => ?_) (fun hc => ?_) <;> (try first | exact False.elim hc | (exfalso; omega))))
  exact X.ret (vs := [_]) rfl ⟨rfl, rfl⟩ rfl (fun w hw => ⟨ret_bool (by decide +kernel), hw.ext⟩)
theorem ct_fl (l : List UInt8) {y m d : Int} (hv : validB y m d = false) (hl : 100 < l.length) : ContIn Tryd.prog Laid 3 [dateV y m d, strV l] (.bool true) := fun w hI => by
  have p0 := rvalid_f hv
  have q1 := Text_f hv
  clear hv
  refine enter0 Tryd.func3 rfl rfl rfl ?_
  repeat' (first
    | (show YK _ _ _ _ _ _ _; first | refine YK.mk (y_callA (awake9_c) rfl) ?_ | refine YK.mk (y_callA (p0) ⟨rfl, rfl⟩) ?_ | refine YK.mk (y_callA (q1) ⟨rfl, rfl⟩) ?_)
    | (show YK _ _ _ _ _ _ _; refine YK.ofV vAuto ?_)
    | (show VK _ _ _ _ _ _ _; refine VK.mk vAuto ?_)
    | (show RS _ _ _ _ _ _ _ _; first | (refine nxRS ?_) | (refine nxRS1 fun _ => ?_))
    | (show RM _ _ _ _ _ _ _ _ _ _; first | (refine nxRM ?_) | (refine nxRM1 fun _ => ?_))
    | (show YG _ _ _ _ _ _ _ _; refine YG.mk (fun hb => by (try (have hc := And.left hb; have hb := And.right hb; rw [hc])); (try rw [hb]); first | exact (y_callA (awake9_c) rfl) | exact (y_callA (p0) ⟨rfl, rfl⟩) | exact (y_callA (q1) ⟨rfl, rfl⟩) | exact V.y vAuto) ?_)
    | (show VG _ _ _ _ _ _ _ _; refine VG.mk (fun hb => by (try (have hc := And.left hb; have hb := And.right hb; rw [hc])); (try rw [hb]); exact vAuto) ?_)
    | (refine nxVS ?_)
    | (refine nxGS ?_)
    | (refine nxX ?_)
    | (refine G.condN rfl (fun hc => ?_) (fun hc => ?_) <;> (try first | exact False.elim hc | (exfalso; omega))))
  exact X.ret (vs := [_]) rfl ⟨rfl, rfl⟩ rfl (fun w hw => ⟨rfl, hw.ext⟩)
theorem ct_fn (l : List UInt8) {y m d : Int} (hv : validB y m d = false) (hl : l.length ≤ 100) (p1 : ContIn Tryd.prog Laid 12 [strV l] (.tuple [dateV 0 0 0, .int .i64 7].toArray)) (p2 : Cont Tryd.prog 14 [strV l] (.tuple [dateV 0 0 0, .bool false].toArray)) : ContIn Tryd.prog Laid 3 [dateV y m d, strV l] (.bool true) := fun w hI => by
  have p0 := rvalid_f hv
  have q1 := Text_f hv
  clear hv
  refine enter0 Tryd.func3 rfl rfl rfl ?_
  repeat' (first
    | (show YK _ _ _ _ _ _ _; first | refine YK.mk (y_callA (awake9_c) rfl) ?_ | refine YK.mk (y_callA (p0) ⟨rfl, rfl⟩) ?_ | refine YK.mk (y_callA (q1) ⟨rfl, rfl⟩) ?_ | refine YK.mk (y_callIn (p1) (fun _ hw => hI.keep hw.ext) ⟨rfl, rfl⟩ (by decide +kernel)) ?_ | refine YK.mk (y_callA (p2) ⟨rfl, rfl⟩) ?_)
    | (show YK _ _ _ _ _ _ _; refine YK.ofV vAuto ?_)
    | (show VK _ _ _ _ _ _ _; refine VK.mk vAuto ?_)
    | (show RS _ _ _ _ _ _ _ _; first | (refine nxRS ?_) | (refine nxRS1 fun _ => ?_))
    | (show RM _ _ _ _ _ _ _ _ _ _; first | (refine nxRM ?_) | (refine nxRM1 fun _ => ?_))
    | (show YG _ _ _ _ _ _ _ _; refine YG.mk (fun hb => by (try (have hc := And.left hb; have hb := And.right hb; rw [hc])); (try rw [hb]); first | exact (y_callA (awake9_c) rfl) | exact (y_callA (p0) ⟨rfl, rfl⟩) | exact (y_callA (q1) ⟨rfl, rfl⟩) | exact (y_callIn (p1) (fun _ hw => hI.keep hw.ext) ⟨rfl, rfl⟩ (by decide +kernel)) | exact (y_callA (p2) ⟨rfl, rfl⟩) | exact V.y vAuto) ?_)
    | (show VG _ _ _ _ _ _ _ _; refine VG.mk (fun hb => by (try (have hc := And.left hb; have hb := And.right hb; rw [hc])); (try rw [hb]); exact vAuto) ?_)
    | (refine nxVS ?_)
    | (refine nxGS ?_)
    | (refine nxX ?_)
    | (refine G.condN rfl (fun hc => ?_) (fun hc => ?_) <;> (try first | exact False.elim hc | (exfalso; omega))))
  refine X.ret (vs := [_]) rfl ⟨rfl, rfl⟩ rfl (fun w hw => ⟨ret_bool ?_, hw.ext⟩)
  simp [eqCells, vEq]
theorem ct_fs (l : List UInt8) {y m d : Int} (hv : validB y m d = false) {y' m' d' : Int} (hl : l.length ≤ 100) (p1 : ContIn Tryd.prog Laid 12 [strV l] (.tuple [dateV y' m' d', .int .i64 0].toArray)) (p2 : Cont Tryd.prog 14 [strV l] (.tuple [dateV y' m' d', .bool true].toArray)) : ContIn Tryd.prog Laid 3 [dateV y m d, strV l] (.bool true) := fun w hI => by
  have p0 := rvalid_f hv
  have q1 := Text_f hv
  clear hv
  refine enter0 Tryd.func3 rfl rfl rfl ?_
  repeat' (first
    | (show YK _ _ _ _ _ _ _; first | refine YK.mk (y_callA (awake9_c) rfl) ?_ | refine YK.mk (y_callA (p0) ⟨rfl, rfl⟩) ?_ | refine YK.mk (y_callA (q1) ⟨rfl, rfl⟩) ?_ | refine YK.mk (y_callIn (p1) (fun _ hw => hI.keep hw.ext) ⟨rfl, rfl⟩ (by decide +kernel)) ?_ | refine YK.mk (y_callA (p2) ⟨rfl, rfl⟩) ?_)
    | (show YK _ _ _ _ _ _ _; refine YK.ofV vAuto ?_)
    | (show VK _ _ _ _ _ _ _; refine VK.mk vAuto ?_)
    | (show RS _ _ _ _ _ _ _ _; first | (refine nxRS ?_) | (refine nxRS1 fun _ => ?_))
    | (show RM _ _ _ _ _ _ _ _ _ _; first | (refine nxRM ?_) | (refine nxRM1 fun _ => ?_))
    | (show YG _ _ _ _ _ _ _ _; refine YG.mk (fun hb => by (try (have hc := And.left hb; have hb := And.right hb; rw [hc])); (try rw [hb]); first | exact (y_callA (awake9_c) rfl) | exact (y_callA (p0) ⟨rfl, rfl⟩) | exact (y_callA (q1) ⟨rfl, rfl⟩) | exact (y_callIn (p1) (fun _ hw => hI.keep hw.ext) ⟨rfl, rfl⟩ (by decide +kernel)) | exact (y_callA (p2) ⟨rfl, rfl⟩) | exact V.y vAuto) ?_)
    | (show VG _ _ _ _ _ _ _ _; refine VG.mk (fun hb => by (try (have hc := And.left hb; have hb := And.right hb; rw [hc])); (try rw [hb]); exact vAuto) ?_)
    | (refine nxVS ?_)
    | (refine nxGS ?_)
    | (refine nxX ?_)
    | (refine G.condN rfl (fun hc => ?_) (fun hc => ?_) <;> (try first | exact False.elim hc | (exfalso; omega))))
  refine X.ret (vs := [_]) rfl ⟨rfl, rfl⟩ rfl (fun w hw => ⟨ret_bool ?_, hw.ext⟩)
  simp [eqCells, vEq]
theorem ct_tl (l : List UInt8) {y m d : Int} (hv : validB y m d = true) (hl : 100 < l.length) : ContIn Tryd.prog Laid 3 [dateV y m d, strV l] (.bool true) := fun w hI => by
  have p0 := rvalid_t hv
  have q1 := Text_t hv
  have q2 := rtext_c hv
  have q3 : ContIn Tryd.prog Laid 12 [strV (dateL y m d)] (.tuple [dateV y m d, .int .i64 0].toArray) := by
    have g := Parse_c (dateL y m d) (by have := dateL_len hv; omega)
    rw [dateP_of hv] at g
    exact g
  generalize dateL y m d = tx at q1 q2 q3
  clear hv
  refine enter0 Tryd.func3 rfl rfl rfl ?_
  repeat' (first
    | (show YK _ _ _ _ _ _ _; first | refine YK.mk (y_callA (awake9_c) rfl) ?_ | refine YK.mk (y_callA (p0) ⟨rfl, rfl⟩) ?_ | refine YK.mk (y_callIn (q1) (fun _ hw => hI.keep hw.ext) ⟨rfl, rfl⟩ (by decide +kernel)) ?_ | refine YK.mk (y_callA (q2) ⟨rfl, rfl⟩) ?_ | refine YK.mk (y_callIn (q3) (fun _ hw => hI.keep hw.ext) ⟨rfl, rfl⟩ (by decide +kernel)) ?_)
    | (show YK _ _ _ _ _ _ _; refine YK.ofV vAuto ?_)
    | (show VK _ _ _ _ _ _ _; refine VK.mk vAuto ?_)
    | (show RS _ _ _ _ _ _ _ _; first | (refine nxRS ?_) | (refine nxRS1 fun _ => ?_))
    | (show RM _ _ _ _ _ _ _ _ _ _; first | (refine nxRM ?_) | (refine nxRM1 fun _ => ?_))
    | (show YG _ _ _ _ _ _ _ _; refine YG.mk (fun hb => by (try (have hc := And.left hb; have hb := And.right hb; rw [hc])); (try rw [hb]); first | exact (y_callA (awake9_c) rfl) | exact (y_callA (p0) ⟨rfl, rfl⟩) | exact (y_callIn (q1) (fun _ hw => hI.keep hw.ext) ⟨rfl, rfl⟩ (by decide +kernel)) | exact (y_callA (q2) ⟨rfl, rfl⟩) | exact (y_callIn (q3) (fun _ hw => hI.keep hw.ext) ⟨rfl, rfl⟩ (by decide +kernel)) | exact V.y vAuto) ?_)
    | (show VG _ _ _ _ _ _ _ _; refine VG.mk (fun hb => by (try (have hc := And.left hb; have hb := And.right hb; rw [hc])); (try rw [hb]); exact vAuto) ?_)
    | (refine nxVS ?_)
    | (refine nxGS ?_)
    | (refine nxX ?_)
    | (refine G.condN rfl (fun hc => ?_) (fun hc => ?_) <;> (try first | exact False.elim hc | (exfalso; omega))))
  exact X.ret (vs := [_]) rfl ⟨rfl, rfl⟩ rfl (fun w hw => ⟨rfl, hw.ext⟩)
theorem ct_tn (l : List UInt8) {y m d : Int} (hv : validB y m d = true) (hl : l.length ≤ 100) (p1 : ContIn Tryd.prog Laid 12 [strV l] (.tuple [dateV 0 0 0, .int .i64 7].toArray)) (p2 : Cont Tryd.prog 14 [strV l] (.tuple [dateV 0 0 0, .bool false].toArray)) : ContIn Tryd.prog Laid 3 [dateV y m d, strV l] (.bool true) := fun w hI => by
  have p0 := rvalid_t hv
  have q1 := Text_t hv
  have q2 := rtext_c hv
  have q3 : ContIn Tryd.prog Laid 12 [strV (dateL y m d)] (.tuple [dateV y m d, .int .i64 0].toArray) := by
    have g := Parse_c (dateL y m d) (by have := dateL_len hv; omega)
    rw [dateP_of hv] at g
    exact g
  generalize dateL y m d = tx at q1 q2 q3
  clear hv
  refine enter0 Tryd.func3 rfl rfl rfl ?_
  repeat' (first
    | (show YK _ _ _ _ _ _ _; first | refine YK.mk (y_callA (awake9_c) rfl) ?_ | refine YK.mk (y_callA (p0) ⟨rfl, rfl⟩) ?_ | refine YK.mk (y_callIn (q1) (fun _ hw => hI.keep hw.ext) ⟨rfl, rfl⟩ (by decide +kernel)) ?_ | refine YK.mk (y_callA (q2) ⟨rfl, rfl⟩) ?_ | refine YK.mk (y_callIn (q3) (fun _ hw => hI.keep hw.ext) ⟨rfl, rfl⟩ (by decide +kernel)) ?_ | refine YK.mk (y_callIn (p1) (fun _ hw => hI.keep hw.ext) ⟨rfl, rfl⟩ (by decide +kernel)) ?_ | refine YK.mk (y_callA (p2) ⟨rfl, rfl⟩) ?_)
    | (show YK _ _ _ _ _ _ _; refine YK.ofV vAuto ?_)
    | (show VK _ _ _ _ _ _ _; refine VK.mk vAuto ?_)
    | (show RS _ _ _ _ _ _ _ _; first | (refine nxRS ?_) | (refine nxRS1 fun _ => ?_))
    | (show RM _ _ _ _ _ _ _ _ _ _; first | (refine nxRM ?_) | (refine nxRM1 fun _ => ?_))
    | (show YG _ _ _ _ _ _ _ _; refine YG.mk (fun hb => by (try (have hc := And.left hb; have hb := And.right hb; rw [hc])); (try rw [hb]); first | exact (y_callA (awake9_c) rfl) | exact (y_callA (p0) ⟨rfl, rfl⟩) | exact (y_callIn (q1) (fun _ hw => hI.keep hw.ext) ⟨rfl, rfl⟩ (by decide +kernel)) | exact (y_callA (q2) ⟨rfl, rfl⟩) | exact (y_callIn (q3) (fun _ hw => hI.keep hw.ext) ⟨rfl, rfl⟩ (by decide +kernel)) | exact (y_callIn (p1) (fun _ hw => hI.keep hw.ext) ⟨rfl, rfl⟩ (by decide +kernel)) | exact (y_callA (p2) ⟨rfl, rfl⟩) | exact V.y vAuto) ?_)
    | (show VG _ _ _ _ _ _ _ _; refine VG.mk (fun hb => by (try (have hc := And.left hb; have hb := And.right hb; rw [hc])); (try rw [hb]); exact vAuto) ?_)
    | (refine nxVS ?_)
    | (refine nxGS ?_)
    | (refine nxX ?_)
    | (refine G.condN rfl (fun hc => ?_) (fun hc => ?_) <;> (try first | exact False.elim hc | (exfalso; omega))))
  refine X.ret (vs := [_]) rfl ⟨rfl, rfl⟩ rfl (fun w hw => ⟨ret_bool ?_, hw.ext⟩)
  simp [eqCells, vEq]
theorem ct_ts (l : List UInt8) {y m d : Int} (hv : validB y m d = true) {y' m' d' : Int} (hl : l.length ≤ 100) (p1 : ContIn Tryd.prog Laid 12 [strV l] (.tuple [dateV y' m' d', .int .i64 0].toArray)) (p2 : Cont Tryd.prog 14 [strV l] (.tuple [dateV y' m' d', .bool true].toArray)) : ContIn Tryd.prog Laid 3 [dateV y m d, strV l] (.bool true) := fun w hI => by
  have p0 := rvalid_t hv
  have q1 := Text_t hv
  have q2 := rtext_c hv
  have q3 : ContIn Tryd.prog Laid 12 [strV (dateL y m d)] (.tuple [dateV y m d, .int .i64 0].toArray) := by
    have g := Parse_c (dateL y m d) (by have := dateL_len hv; omega)
    rw [dateP_of hv] at g
    exact g
  generalize dateL y m d = tx at q1 q2 q3
  clear hv
  refine enter0 Tryd.func3 rfl rfl rfl ?_
  repeat' (first
    | (show YK _ _ _ _ _ _ _; first | refine YK.mk (y_callA (awake9_c) rfl) ?_ | refine YK.mk (y_callA (p0) ⟨rfl, rfl⟩) ?_ | refine YK.mk (y_callIn (q1) (fun _ hw => hI.keep hw.ext) ⟨rfl, rfl⟩ (by decide +kernel)) ?_ | refine YK.mk (y_callA (q2) ⟨rfl, rfl⟩) ?_ | refine YK.mk (y_callIn (q3) (fun _ hw => hI.keep hw.ext) ⟨rfl, rfl⟩ (by decide +kernel)) ?_ | refine YK.mk (y_callIn (p1) (fun _ hw => hI.keep hw.ext) ⟨rfl, rfl⟩ (by decide +kernel)) ?_ | refine YK.mk (y_callA (p2) ⟨rfl, rfl⟩) ?_)
    | (show YK _ _ _ _ _ _ _; refine YK.ofV vAuto ?_)
    | (show VK _ _ _ _ _ _ _; refine VK.mk vAuto ?_)
    | (show RS _ _ _ _ _ _ _ _; first | (refine nxRS ?_) | (refine nxRS1 fun _ => ?_))
    | (show RM _ _ _ _ _ _ _ _ _ _; first | (refine nxRM ?_) | (refine nxRM1 fun _ => ?_))
    | (show YG _ _ _ _ _ _ _ _; refine YG.mk (fun hb => by (try (have hc := And.left hb; have hb := And.right hb; rw [hc])); (try rw [hb]); first | exact (y_callA (awake9_c) rfl) | exact (y_callA (p0) ⟨rfl, rfl⟩) | exact (y_callIn (q1) (fun _ hw => hI.keep hw.ext) ⟨rfl, rfl⟩ (by decide +kernel)) | exact (y_callA (q2) ⟨rfl, rfl⟩) | exact (y_callIn (q3) (fun _ hw => hI.keep hw.ext) ⟨rfl, rfl⟩ (by decide +kernel)) | exact (y_callIn (p1) (fun _ hw => hI.keep hw.ext) ⟨rfl, rfl⟩ (by decide +kernel)) | exact (y_callA (p2) ⟨rfl, rfl⟩) | exact V.y vAuto) ?_)
    | (show VG _ _ _ _ _ _ _ _; refine VG.mk (fun hb => by (try (have hc := And.left hb; have hb := And.right hb; rw [hc])); (try rw [hb]); exact vAuto) ?_)
    | (refine nxVS ?_)
    | (refine nxGS ?_)
    | (refine nxX ?_)
    | (refine G.condN rfl (fun hc => ?_) (fun hc => ?_) <;> (try first | exact False.elim hc | (exfalso; omega))))
  refine X.ret (vs := [_]) rfl ⟨rfl, rfl⟩ rfl (fun w hw => ⟨ret_bool ?_, hw.ext⟩)
  simp [eqCells, vEq]
theorem calendarTexts_c (l : List UInt8) {y m d : Int} (h : I64 y ∧ I64 m ∧ I64 d) : ContIn Tryd.prog Laid 3 [dateV y m d, strV l] (.bool true) := by
  have p2 := rparse_c l
  rw [rparse_eq] at p2
  by_cases hl : 100 < l.length
  · cases hv : validB y m d with
    | false => exact ct_fl l hv hl
    | true => exact ct_tl l hv hl
  have p1 := Parse_c l (by omega)
  cases hd : dateP l with
  | none =>
    rw [hd] at p1 p2
    cases hv : validB y m d with
    | false => exact ct_fn l hv (by omega) p1 p2
    | true => exact ct_tn l hv (by omega) p1 p2
  | some x =>
    obtain ⟨y', m', d'⟩ := x
    rw [hd] at p1 p2
    cases hv : validB y m d with
    | false => exact ct_fs l hv (by omega) p1 p2
    | true => exact ct_ts l hv (by omega) p1 p2
end Go.Proofs.YtpnfmbfehbnljaaDoor
