/- ClockBack gives true. -/
import Derived.Test.YtpnfmbfehbnljaaDoorAwk10
import Derived.Test.YtpnfmbfehbnljaaDoorBackP
set_option linter.unusedVariables false
set_option maxHeartbeats 4000000
namespace Go.Proofs.YtpnfmbfehbnljaaDoor
open Go.RowKit

theorem back_first (l : List UInt8) : ∃ n e, parseT l = (n, e) ∧ (e ≠ 0 ∨ e = 0 ∧ ContIn Tryd.prog Laid 20 [.int .i64 n] (.tuple [strV l, .int .i64 0].toArray)) := by
  rcases parseT_or l with ⟨y, m, d, ms, hv, hb, rfl⟩ | he
  · rw [parseT_txt hv hb]
    unfold atS
    rw [if_neg (by rw [hv]; decide), if_neg (by omega)]
    cases hi : instB (num y m d * 86400000 + ms) with
    | false => exact ⟨_, _, rfl, .inl (by decide)⟩
    | true =>
      refine ⟨_, _, rfl, .inr ⟨rfl, ?_⟩⟩
      have h1 := textT_t hi hv (by omega)
      rw [show (num y m d * 86400000 + ms) % 86400000 = ms by omega] at h1
      exact h1
  · exact ⟨_, _, he, .inl (by decide)⟩
/-- What the second part needs of a number that is an instant with a date. -/
theorem back_second {t y m d : Int} (hb : instB t = true) (hv : validB y m d = true) (hn : num y m d = t / 86400000) :
    atS y m d (t % 86400000) = (t, 0) ∧ parseT (textS y m d (t % 86400000)) = (t, 0) ∧ (textS y m d (t % 86400000)).length ≤ 1000 := by
  have e1 : atS y m d (t % 86400000) = (t, 0) := by
    unfold atS
    rw [if_neg (by rw [hv]; decide), if_neg (by omega), show num y m d * 86400000 + t % 86400000 = t by omega, if_pos hb]
  refine ⟨e1, by rw [parseT_txt hv (by omega), e1], ?_⟩
  obtain ⟨hh, mi, s, f, hp, he⟩ := parts (ms := t % 86400000) (by omega)
  obtain ⟨hy, hm, hd⟩ := valid_of hv
  have hdm := dim_bd y m
  have l1 := pad_len (n := y) (k := 4) (by omega) (by decide)
  have l2 := pad_len (n := m) (k := 2) (by omega) (by decide)
  have l3 := pad_len (n := d) (k := 2) (by omega) (by decide)
  rw [he, textS_lit hp]
  unfold lit dateL
  split <;> simp only [List.length_append, List.length_cons, List.length_nil] <;> omega
theorem cb_long (l : List UInt8) {t : Int} (hl : 100 < l.length) : ContIn Tryd.prog Laid 5 [.int .i64 t, strV l] (.bool true) := fun w hI => by
  refine enter0 Tryd.func5 rfl rfl rfl ?_
  repeat' (first
    | (show YK _ _ _ _ _ _ _; first | refine YK.mk (y_callIn (awake10_c) (fun _ hw => hI.keep hw.ext) rfl (by decide +kernel)) ?_)
    | (show YK _ _ _ _ _ _ _; refine YK.ofV vAuto ?_)
    | (show VK _ _ _ _ _ _ _; refine VK.mk vAuto ?_)
    | (show RS _ _ _ _ _ _ _ _; first | (refine nxRS ?_) | (refine nxRS1 fun _ => ?_))
    | (show RM _ _ _ _ _ _ _ _ _ _; first | (refine nxRM ?_) | (refine nxRM1 fun _ => ?_))
    | (show YG _ _ _ _ _ _ _ _; refine YG.mk (fun hb => by (try (have hc := And.left hb; have hb := And.right hb; rw [hc])); (try rw [hb]); first | exact (y_callIn (awake10_c) (fun _ hw => hI.keep hw.ext) rfl (by decide +kernel)) | exact V.y vAuto) ?_)
    | (show VG _ _ _ _ _ _ _ _; refine VG.mk (fun hb => by (try (have hc := And.left hb; have hb := And.right hb; rw [hc])); (try rw [hb]); exact vAuto) ?_)
    | (refine nxVS ?_)
    | (refine nxGS ?_)
    | (refine nxX ?_)
    | (refine G.condN rfl (fun hc => ?_) (fun hc => ?_) <;> (try first | exact False.elim hc | (exfalso; omega))))
  exact X.ret (vs := [_]) rfl ⟨rfl, rfl⟩ rfl (fun w hw => ⟨rfl, hw.ext⟩)
theorem cb_rx (l : List UInt8) {t n e : Int} (hl : l.length ≤ 100) (p1 : ContIn Tryd.prog Laid 19 [strV l] (.tuple [.int .i64 n, .int .i64 e].toArray)) (he : e ≠ 0) (h : I64 t) (hb : instB t = false) : ContIn Tryd.prog Laid 5 [.int .i64 t, strV l] (.bool true) := fun w hI => by
  have q1 := split_r h hb
  clear hb
  refine enter0 Tryd.func5 rfl rfl rfl ?_
  repeat' (first
    | (show YK _ _ _ _ _ _ _; first | refine YK.mk (y_callIn (awake10_c) (fun _ hw => hI.keep hw.ext) rfl (by decide +kernel)) ?_ | refine YK.mk (y_callIn (p1) (fun _ hw => hI.keep hw.ext) ⟨rfl, rfl⟩ (by decide +kernel)) ?_ | refine YK.mk (y_callA (q1) ⟨rfl, rfl⟩) ?_)
    | (show YK _ _ _ _ _ _ _; refine YK.ofV vAuto ?_)
    | (show VK _ _ _ _ _ _ _; refine VK.mk vAuto ?_)
    | (show RS _ _ _ _ _ _ _ _; first | (refine nxRS ?_) | (refine nxRS1 fun _ => ?_))
    | (show RM _ _ _ _ _ _ _ _ _ _; first | (refine nxRM ?_) | (refine nxRM1 fun _ => ?_))
    | (show YG _ _ _ _ _ _ _ _; refine YG.mk (fun hb => by (try (have hc := And.left hb; have hb := And.right hb; rw [hc])); (try rw [hb]); first | exact (y_callIn (awake10_c) (fun _ hw => hI.keep hw.ext) rfl (by decide +kernel)) | exact (y_callIn (p1) (fun _ hw => hI.keep hw.ext) ⟨rfl, rfl⟩ (by decide +kernel)) | exact (y_callA (q1) ⟨rfl, rfl⟩) | exact V.y vAuto) ?_)
    | (show VG _ _ _ _ _ _ _ _; refine VG.mk (fun hb => by (try (have hc := And.left hb; have hb := And.right hb; rw [hc])); (try rw [hb]); exact vAuto) ?_)
    | (refine nxVS ?_)
    | (refine nxGS ?_)
    | (refine nxX ?_)
    | (refine G.condN rfl (fun hc => ?_) (fun hc => ?_) <;> (try first | exact False.elim hc | (exfalso; omega))))
  refine X.ret (vs := [_]) rfl ⟨rfl, rfl⟩ rfl (fun w hw => ⟨ret_bool ?_, hw.ext⟩)
  simp [eqCells, vEq]
theorem cb_rt (l : List UInt8) {t n : Int} (hl : l.length ≤ 100) (p1 : ContIn Tryd.prog Laid 19 [strV l] (.tuple [.int .i64 n, .int .i64 0].toArray)) (ht : ContIn Tryd.prog Laid 20 [.int .i64 n] (.tuple [strV l, .int .i64 0].toArray)) (h : I64 t) (hb : instB t = false) : ContIn Tryd.prog Laid 5 [.int .i64 t, strV l] (.bool true) := fun w hI => by
  have q1 := split_r h hb
  clear hb
  refine enter0 Tryd.func5 rfl rfl rfl ?_
  repeat' (first
    | (show YK _ _ _ _ _ _ _; first | refine YK.mk (y_callIn (awake10_c) (fun _ hw => hI.keep hw.ext) rfl (by decide +kernel)) ?_ | refine YK.mk (y_callIn (p1) (fun _ hw => hI.keep hw.ext) ⟨rfl, rfl⟩ (by decide +kernel)) ?_ | refine YK.mk (y_callIn (ht) (fun _ hw => hI.keep hw.ext) ⟨rfl, rfl⟩ (by decide +kernel)) ?_ | refine YK.mk (y_callA (q1) ⟨rfl, rfl⟩) ?_)
    | (show YK _ _ _ _ _ _ _; refine YK.ofV vAuto ?_)
    | (show VK _ _ _ _ _ _ _; refine VK.mk vAuto ?_)
    | (show RS _ _ _ _ _ _ _ _; first | (refine nxRS ?_) | (refine nxRS1 fun _ => ?_))
    | (show RM _ _ _ _ _ _ _ _ _ _; first | (refine nxRM ?_) | (refine nxRM1 fun _ => ?_))
    | (show YG _ _ _ _ _ _ _ _; refine YG.mk (fun hb => by (try (have hc := And.left hb; have hb := And.right hb; rw [hc])); (try rw [hb]); first | exact (y_callIn (awake10_c) (fun _ hw => hI.keep hw.ext) rfl (by decide +kernel)) | exact (y_callIn (p1) (fun _ hw => hI.keep hw.ext) ⟨rfl, rfl⟩ (by decide +kernel)) | exact (y_callIn (ht) (fun _ hw => hI.keep hw.ext) ⟨rfl, rfl⟩ (by decide +kernel)) | exact (y_callA (q1) ⟨rfl, rfl⟩) | exact V.y vAuto) ?_)
    | (show VG _ _ _ _ _ _ _ _; refine VG.mk (fun hb => by (try (have hc := And.left hb; have hb := And.right hb; rw [hc])); (try rw [hb]); exact vAuto) ?_)
    | (refine nxVS ?_)
    | (refine nxGS ?_)
    | (refine nxX ?_)
    | (refine G.condN rfl (fun hc => ?_) (fun hc => ?_) <;> (try first | exact False.elim hc | (exfalso; omega))))
  refine X.ret (vs := [_]) rfl ⟨rfl, rfl⟩ rfl (fun w hw => ⟨ret_bool ?_, hw.ext⟩)
  simp [eqCells, vEq]
theorem cb_fx (l : List UInt8) {t n e : Int} (hl : l.length ≤ 100) (p1 : ContIn Tryd.prog Laid 19 [strV l] (.tuple [.int .i64 n, .int .i64 e].toArray)) (he : e ≠ 0) (hb : instB t = true) (hr : t / 86400000 < -730119 ∨ 2921939 < t / 86400000) : ContIn Tryd.prog Laid 5 [.int .i64 t, strV l] (.bool true) := fun w hI => by
  have q1 := split_f hb hr
  clear hb hr
  refine enter0 Tryd.func5 rfl rfl rfl ?_
  repeat' (first
    | (show YK _ _ _ _ _ _ _; first | refine YK.mk (y_callIn (awake10_c) (fun _ hw => hI.keep hw.ext) rfl (by decide +kernel)) ?_ | refine YK.mk (y_callIn (p1) (fun _ hw => hI.keep hw.ext) ⟨rfl, rfl⟩ (by decide +kernel)) ?_ | refine YK.mk (y_callA (q1) ⟨rfl, rfl⟩) ?_)
    | (show YK _ _ _ _ _ _ _; refine YK.ofV vAuto ?_)
    | (show VK _ _ _ _ _ _ _; refine VK.mk vAuto ?_)
    | (show RS _ _ _ _ _ _ _ _; first | (refine nxRS ?_) | (refine nxRS1 fun _ => ?_))
    | (show RM _ _ _ _ _ _ _ _ _ _; first | (refine nxRM ?_) | (refine nxRM1 fun _ => ?_))
    | (show YG _ _ _ _ _ _ _ _; refine YG.mk (fun hb => by (try (have hc := And.left hb; have hb := And.right hb; rw [hc])); (try rw [hb]); first | exact (y_callIn (awake10_c) (fun _ hw => hI.keep hw.ext) rfl (by decide +kernel)) | exact (y_callIn (p1) (fun _ hw => hI.keep hw.ext) ⟨rfl, rfl⟩ (by decide +kernel)) | exact (y_callA (q1) ⟨rfl, rfl⟩) | exact V.y vAuto) ?_)
    | (show VG _ _ _ _ _ _ _ _; refine VG.mk (fun hb => by (try (have hc := And.left hb; have hb := And.right hb; rw [hc])); (try rw [hb]); exact vAuto) ?_)
    | (refine nxVS ?_)
    | (refine nxGS ?_)
    | (refine nxX ?_)
    | (refine G.condN rfl (fun hc => ?_) (fun hc => ?_) <;> (try first | exact False.elim hc | (exfalso; omega))))
  refine X.ret (vs := [_]) rfl ⟨rfl, rfl⟩ rfl (fun w hw => ⟨ret_bool ?_, hw.ext⟩)
  simp [eqCells, vEq]
theorem cb_ft (l : List UInt8) {t n : Int} (hl : l.length ≤ 100) (p1 : ContIn Tryd.prog Laid 19 [strV l] (.tuple [.int .i64 n, .int .i64 0].toArray)) (ht : ContIn Tryd.prog Laid 20 [.int .i64 n] (.tuple [strV l, .int .i64 0].toArray)) (hb : instB t = true) (hr : t / 86400000 < -730119 ∨ 2921939 < t / 86400000) : ContIn Tryd.prog Laid 5 [.int .i64 t, strV l] (.bool true) := fun w hI => by
  have q1 := split_f hb hr
  clear hb hr
  refine enter0 Tryd.func5 rfl rfl rfl ?_
  repeat' (first
    | (show YK _ _ _ _ _ _ _; first | refine YK.mk (y_callIn (awake10_c) (fun _ hw => hI.keep hw.ext) rfl (by decide +kernel)) ?_ | refine YK.mk (y_callIn (p1) (fun _ hw => hI.keep hw.ext) ⟨rfl, rfl⟩ (by decide +kernel)) ?_ | refine YK.mk (y_callIn (ht) (fun _ hw => hI.keep hw.ext) ⟨rfl, rfl⟩ (by decide +kernel)) ?_ | refine YK.mk (y_callA (q1) ⟨rfl, rfl⟩) ?_)
    | (show YK _ _ _ _ _ _ _; refine YK.ofV vAuto ?_)
    | (show VK _ _ _ _ _ _ _; refine VK.mk vAuto ?_)
    | (show RS _ _ _ _ _ _ _ _; first | (refine nxRS ?_) | (refine nxRS1 fun _ => ?_))
    | (show RM _ _ _ _ _ _ _ _ _ _; first | (refine nxRM ?_) | (refine nxRM1 fun _ => ?_))
    | (show YG _ _ _ _ _ _ _ _; refine YG.mk (fun hb => by (try (have hc := And.left hb; have hb := And.right hb; rw [hc])); (try rw [hb]); first | exact (y_callIn (awake10_c) (fun _ hw => hI.keep hw.ext) rfl (by decide +kernel)) | exact (y_callIn (p1) (fun _ hw => hI.keep hw.ext) ⟨rfl, rfl⟩ (by decide +kernel)) | exact (y_callIn (ht) (fun _ hw => hI.keep hw.ext) ⟨rfl, rfl⟩ (by decide +kernel)) | exact (y_callA (q1) ⟨rfl, rfl⟩) | exact V.y vAuto) ?_)
    | (show VG _ _ _ _ _ _ _ _; refine VG.mk (fun hb => by (try (have hc := And.left hb; have hb := And.right hb; rw [hc])); (try rw [hb]); exact vAuto) ?_)
    | (refine nxVS ?_)
    | (refine nxGS ?_)
    | (refine nxX ?_)
    | (refine G.condN rfl (fun hc => ?_) (fun hc => ?_) <;> (try first | exact False.elim hc | (exfalso; omega))))
  refine X.ret (vs := [_]) rfl ⟨rfl, rfl⟩ rfl (fun w hw => ⟨ret_bool ?_, hw.ext⟩)
  simp [eqCells, vEq]
theorem cb_mx (l : List UInt8) {t n e : Int} (hl : l.length ≤ 100) (p1 : ContIn Tryd.prog Laid 19 [strV l] (.tuple [.int .i64 n, .int .i64 e].toArray)) (he : e ≠ 0) {y m d : Int} (hb : instB t = true) (hv : validB y m d = true) (hn : num y m d = t / 86400000) (hm : 70368744177664 - 86400000 < t) : ContIn Tryd.prog Laid 5 [.int .i64 t, strV l] (.bool true) := fun w hI => by
  have hb2 := instB_iff.1 hb
  have q1 := split_t hb hv hn
  obtain ⟨s1, s2, s3⟩ := back_second hb hv hn
  have q2 := at_c (y := y) (m := m) (d := d) (ms := t % 86400000) (by omega)
  rw [s1] at q2
  have q3 := textT_t hb hv hn
  have q4 := parseT_c (textS y m d (t % 86400000)) (by omega)
  rw [s2] at q4
  have q5 := valid_t hv
  have hmb : 0 ≤ t % 86400000 ∧ t % 86400000 < 86400000 := by omega
  generalize t % 86400000 = ms at q1 q2 q3 q4 hmb
  generalize textS y m d ms = tx at q3 q4
  clear s1 s2 s3 hn hb hb2 hv
  refine enter0 Tryd.func5 rfl rfl rfl ?_
  repeat' (first
    | (show YK _ _ _ _ _ _ _; first | refine YK.mk (y_callIn (awake10_c) (fun _ hw => hI.keep hw.ext) rfl (by decide +kernel)) ?_ | refine YK.mk (y_callIn (p1) (fun _ hw => hI.keep hw.ext) ⟨rfl, rfl⟩ (by decide +kernel)) ?_ | refine YK.mk (y_callA (q1) ⟨rfl, rfl⟩) ?_ | refine YK.mk (y_callA (q2) ⟨rfl, rfl, rfl⟩) ?_ | refine YK.mk (y_callIn (q3) (fun _ hw => hI.keep hw.ext) ⟨rfl, rfl⟩ (by decide +kernel)) ?_ | refine YK.mk (y_callIn (q4) (fun _ hw => hI.keep hw.ext) ⟨rfl, rfl⟩ (by decide +kernel)) ?_ | refine YK.mk (y_callA (q5) ⟨rfl, rfl⟩) ?_)
    | (show YK _ _ _ _ _ _ _; refine YK.ofV vAuto ?_)
    | (show VK _ _ _ _ _ _ _; refine VK.mk vAuto ?_)
    | (show RS _ _ _ _ _ _ _ _; first | (refine nxRS ?_) | (refine nxRS1 fun _ => ?_))
    | (show RM _ _ _ _ _ _ _ _ _ _; first | (refine nxRM ?_) | (refine nxRM1 fun _ => ?_))
    | (show YG _ _ _ _ _ _ _ _; refine YG.mk (fun hb => by (try (have hc := And.left hb; have hb := And.right hb; rw [hc])); (try rw [hb]); first | exact (y_callIn (awake10_c) (fun _ hw => hI.keep hw.ext) rfl (by decide +kernel)) | exact (y_callIn (p1) (fun _ hw => hI.keep hw.ext) ⟨rfl, rfl⟩ (by decide +kernel)) | exact (y_callA (q1) ⟨rfl, rfl⟩) | exact (y_callA (q2) ⟨rfl, rfl, rfl⟩) | exact (y_callIn (q3) (fun _ hw => hI.keep hw.ext) ⟨rfl, rfl⟩ (by decide +kernel)) | exact (y_callIn (q4) (fun _ hw => hI.keep hw.ext) ⟨rfl, rfl⟩ (by decide +kernel)) | exact (y_callA (q5) ⟨rfl, rfl⟩) | exact V.y vAuto) ?_)
    | (show VG _ _ _ _ _ _ _ _; refine VG.mk (fun hb => by (try (have hc := And.left hb; have hb := And.right hb; rw [hc])); (try rw [hb]); exact vAuto) ?_)
    | (refine nxVS ?_)
    | (refine nxGS ?_)
    | (refine nxX ?_)
    | (refine G.condN rfl (fun hc => ?_) (fun hc => ?_) <;> (try first | exact False.elim hc | (exfalso; omega))))
  exact X.ret (vs := [_]) rfl ⟨rfl, rfl⟩ rfl (fun w hw => ⟨rfl, hw.ext⟩)
theorem cb_mt (l : List UInt8) {t n : Int} (hl : l.length ≤ 100) (p1 : ContIn Tryd.prog Laid 19 [strV l] (.tuple [.int .i64 n, .int .i64 0].toArray)) (ht : ContIn Tryd.prog Laid 20 [.int .i64 n] (.tuple [strV l, .int .i64 0].toArray)) {y m d : Int} (hb : instB t = true) (hv : validB y m d = true) (hn : num y m d = t / 86400000) (hm : 70368744177664 - 86400000 < t) : ContIn Tryd.prog Laid 5 [.int .i64 t, strV l] (.bool true) := fun w hI => by
  have hb2 := instB_iff.1 hb
  have q1 := split_t hb hv hn
  obtain ⟨s1, s2, s3⟩ := back_second hb hv hn
  have q2 := at_c (y := y) (m := m) (d := d) (ms := t % 86400000) (by omega)
  rw [s1] at q2
  have q3 := textT_t hb hv hn
  have q4 := parseT_c (textS y m d (t % 86400000)) (by omega)
  rw [s2] at q4
  have q5 := valid_t hv
  have hmb : 0 ≤ t % 86400000 ∧ t % 86400000 < 86400000 := by omega
  generalize t % 86400000 = ms at q1 q2 q3 q4 hmb
  generalize textS y m d ms = tx at q3 q4
  clear s1 s2 s3 hn hb hb2 hv
  refine enter0 Tryd.func5 rfl rfl rfl ?_
  repeat' (first
    | (show YK _ _ _ _ _ _ _; first | refine YK.mk (y_callIn (awake10_c) (fun _ hw => hI.keep hw.ext) rfl (by decide +kernel)) ?_ | refine YK.mk (y_callIn (p1) (fun _ hw => hI.keep hw.ext) ⟨rfl, rfl⟩ (by decide +kernel)) ?_ | refine YK.mk (y_callIn (ht) (fun _ hw => hI.keep hw.ext) ⟨rfl, rfl⟩ (by decide +kernel)) ?_ | refine YK.mk (y_callA (q1) ⟨rfl, rfl⟩) ?_ | refine YK.mk (y_callA (q2) ⟨rfl, rfl, rfl⟩) ?_ | refine YK.mk (y_callIn (q3) (fun _ hw => hI.keep hw.ext) ⟨rfl, rfl⟩ (by decide +kernel)) ?_ | refine YK.mk (y_callIn (q4) (fun _ hw => hI.keep hw.ext) ⟨rfl, rfl⟩ (by decide +kernel)) ?_ | refine YK.mk (y_callA (q5) ⟨rfl, rfl⟩) ?_)
    | (show YK _ _ _ _ _ _ _; refine YK.ofV vAuto ?_)
    | (show VK _ _ _ _ _ _ _; refine VK.mk vAuto ?_)
    | (show RS _ _ _ _ _ _ _ _; first | (refine nxRS ?_) | (refine nxRS1 fun _ => ?_))
    | (show RM _ _ _ _ _ _ _ _ _ _; first | (refine nxRM ?_) | (refine nxRM1 fun _ => ?_))
    | (show YG _ _ _ _ _ _ _ _; refine YG.mk (fun hb => by (try (have hc := And.left hb; have hb := And.right hb; rw [hc])); (try rw [hb]); first | exact (y_callIn (awake10_c) (fun _ hw => hI.keep hw.ext) rfl (by decide +kernel)) | exact (y_callIn (p1) (fun _ hw => hI.keep hw.ext) ⟨rfl, rfl⟩ (by decide +kernel)) | exact (y_callIn (ht) (fun _ hw => hI.keep hw.ext) ⟨rfl, rfl⟩ (by decide +kernel)) | exact (y_callA (q1) ⟨rfl, rfl⟩) | exact (y_callA (q2) ⟨rfl, rfl, rfl⟩) | exact (y_callIn (q3) (fun _ hw => hI.keep hw.ext) ⟨rfl, rfl⟩ (by decide +kernel)) | exact (y_callIn (q4) (fun _ hw => hI.keep hw.ext) ⟨rfl, rfl⟩ (by decide +kernel)) | exact (y_callA (q5) ⟨rfl, rfl⟩) | exact V.y vAuto) ?_)
    | (show VG _ _ _ _ _ _ _ _; refine VG.mk (fun hb => by (try (have hc := And.left hb; have hb := And.right hb; rw [hc])); (try rw [hb]); exact vAuto) ?_)
    | (refine nxVS ?_)
    | (refine nxGS ?_)
    | (refine nxX ?_)
    | (refine G.condN rfl (fun hc => ?_) (fun hc => ?_) <;> (try first | exact False.elim hc | (exfalso; omega))))
  exact X.ret (vs := [_]) rfl ⟨rfl, rfl⟩ rfl (fun w hw => ⟨rfl, hw.ext⟩)
theorem cb_dx (l : List UInt8) {t n e : Int} (hl : l.length ≤ 100) (p1 : ContIn Tryd.prog Laid 19 [strV l] (.tuple [.int .i64 n, .int .i64 e].toArray)) (he : e ≠ 0) {y m d y' m' d' : Int} (hb : instB t = true) (hv : validB y m d = true) (hn : num y m d = t / 86400000) (hm : t ≤ 70368744177664 - 86400000) (hv' : validB y' m' d' = true) (hn' : num y' m' d' = t / 86400000 + 1) : ContIn Tryd.prog Laid 5 [.int .i64 t, strV l] (.bool true) := fun w hI => by
  have hb2 := instB_iff.1 hb
  have q1 := split_t hb hv hn
  obtain ⟨s1, s2, s3⟩ := back_second hb hv hn
  have q2 := at_c (y := y) (m := m) (d := d) (ms := t % 86400000) (by omega)
  rw [s1] at q2
  have q3 := textT_t hb hv hn
  have q4 := parseT_c (textS y m d (t % 86400000)) (by omega)
  rw [s2] at q4
  have q5 := valid_t hv
  have hmb : 0 ≤ t % 86400000 ∧ t % 86400000 < 86400000 := by omega
  have hb3 : instB (t + 86400000) = true := instB_iff.2 (by omega)
  have q6 := split_t (t := t + 86400000) hb3 hv' (by omega)
  have q7 := add_t (k := 1) hv hv' (by omega)
  rw [show (t + 86400000) % 86400000 = t % 86400000 by omega] at q6
  generalize t % 86400000 = ms at q1 q2 q3 q4 q6 hmb
  generalize textS y m d ms = tx at q3 q4
  have ht2 : -70368744177664 ≤ t := hb2.1
  clear s1 s2 s3 hn hn' hb hb2 hb3 hv hv'
  refine enter0 Tryd.func5 rfl rfl rfl ?_
  repeat' (first
    | (show YK _ _ _ _ _ _ _; first | refine YK.mk (y_callIn (awake10_c) (fun _ hw => hI.keep hw.ext) rfl (by decide +kernel)) ?_ | refine YK.mk (y_callIn (p1) (fun _ hw => hI.keep hw.ext) ⟨rfl, rfl⟩ (by decide +kernel)) ?_ | refine YK.mk (y_callA (q1) ⟨rfl, rfl⟩) ?_ | refine YK.mk (y_callA (q2) ⟨rfl, rfl, rfl⟩) ?_ | refine YK.mk (y_callIn (q3) (fun _ hw => hI.keep hw.ext) ⟨rfl, rfl⟩ (by decide +kernel)) ?_ | refine YK.mk (y_callIn (q4) (fun _ hw => hI.keep hw.ext) ⟨rfl, rfl⟩ (by decide +kernel)) ?_ | refine YK.mk (y_callA (q5) ⟨rfl, rfl⟩) ?_ | refine YK.mk (y_callA (q6) ⟨rfl, rfl⟩) ?_ | refine YK.mk (y_callA (q7) ⟨rfl, rfl, rfl⟩) ?_)
    | (show YK _ _ _ _ _ _ _; refine YK.ofV vAuto ?_)
    | (show VK _ _ _ _ _ _ _; refine VK.mk vAuto ?_)
    | (show RS _ _ _ _ _ _ _ _; first | (refine nxRS ?_) | (refine nxRS1 fun _ => ?_))
    | (show RM _ _ _ _ _ _ _ _ _ _; first | (refine nxRM ?_) | (refine nxRM1 fun _ => ?_))
    | (show YG _ _ _ _ _ _ _ _; refine YG.mk (fun hb => by (try (have hc := And.left hb; have hb := And.right hb; rw [hc])); (try rw [hb]); first | exact (y_callIn (awake10_c) (fun _ hw => hI.keep hw.ext) rfl (by decide +kernel)) | exact (y_callIn (p1) (fun _ hw => hI.keep hw.ext) ⟨rfl, rfl⟩ (by decide +kernel)) | exact (y_callA (q1) ⟨rfl, rfl⟩) | exact (y_callA (q2) ⟨rfl, rfl, rfl⟩) | exact (y_callIn (q3) (fun _ hw => hI.keep hw.ext) ⟨rfl, rfl⟩ (by decide +kernel)) | exact (y_callIn (q4) (fun _ hw => hI.keep hw.ext) ⟨rfl, rfl⟩ (by decide +kernel)) | exact (y_callA (q5) ⟨rfl, rfl⟩) | exact (y_callA (q6) ⟨rfl, rfl⟩) | exact (y_callA (q7) ⟨rfl, rfl, rfl⟩) | exact V.y vAuto) ?_)
    | (show VG _ _ _ _ _ _ _ _; refine VG.mk (fun hb => by (try (have hc := And.left hb; have hb := And.right hb; rw [hc])); (try rw [hb]); exact vAuto) ?_)
    | (refine nxVS ?_)
    | (refine nxGS ?_)
    | (refine nxX ?_)
    | (refine G.condN rfl (fun hc => ?_) (fun hc => ?_) <;> (try first | exact False.elim hc | (exfalso; omega))))
  refine X.ret (vs := [_]) rfl ⟨rfl, rfl⟩ rfl (fun w hw => ⟨ret_bool ?_, hw.ext⟩)
  simp [eqCells, vEq]
theorem cb_dt (l : List UInt8) {t n : Int} (hl : l.length ≤ 100) (p1 : ContIn Tryd.prog Laid 19 [strV l] (.tuple [.int .i64 n, .int .i64 0].toArray)) (ht : ContIn Tryd.prog Laid 20 [.int .i64 n] (.tuple [strV l, .int .i64 0].toArray)) {y m d y' m' d' : Int} (hb : instB t = true) (hv : validB y m d = true) (hn : num y m d = t / 86400000) (hm : t ≤ 70368744177664 - 86400000) (hv' : validB y' m' d' = true) (hn' : num y' m' d' = t / 86400000 + 1) : ContIn Tryd.prog Laid 5 [.int .i64 t, strV l] (.bool true) := fun w hI => by
  have hb2 := instB_iff.1 hb
  have q1 := split_t hb hv hn
  obtain ⟨s1, s2, s3⟩ := back_second hb hv hn
  have q2 := at_c (y := y) (m := m) (d := d) (ms := t % 86400000) (by omega)
  rw [s1] at q2
  have q3 := textT_t hb hv hn
  have q4 := parseT_c (textS y m d (t % 86400000)) (by omega)
  rw [s2] at q4
  have q5 := valid_t hv
  have hmb : 0 ≤ t % 86400000 ∧ t % 86400000 < 86400000 := by omega
  have hb3 : instB (t + 86400000) = true := instB_iff.2 (by omega)
  have q6 := split_t (t := t + 86400000) hb3 hv' (by omega)
  have q7 := add_t (k := 1) hv hv' (by omega)
  rw [show (t + 86400000) % 86400000 = t % 86400000 by omega] at q6
  generalize t % 86400000 = ms at q1 q2 q3 q4 q6 hmb
  generalize textS y m d ms = tx at q3 q4
  have ht2 : -70368744177664 ≤ t := hb2.1
  clear s1 s2 s3 hn hn' hb hb2 hb3 hv hv'
  refine enter0 Tryd.func5 rfl rfl rfl ?_
  repeat' (first
    | (show YK _ _ _ _ _ _ _; first | refine YK.mk (y_callIn (awake10_c) (fun _ hw => hI.keep hw.ext) rfl (by decide +kernel)) ?_ | refine YK.mk (y_callIn (p1) (fun _ hw => hI.keep hw.ext) ⟨rfl, rfl⟩ (by decide +kernel)) ?_ | refine YK.mk (y_callIn (ht) (fun _ hw => hI.keep hw.ext) ⟨rfl, rfl⟩ (by decide +kernel)) ?_ | refine YK.mk (y_callA (q1) ⟨rfl, rfl⟩) ?_ | refine YK.mk (y_callA (q2) ⟨rfl, rfl, rfl⟩) ?_ | refine YK.mk (y_callIn (q3) (fun _ hw => hI.keep hw.ext) ⟨rfl, rfl⟩ (by decide +kernel)) ?_ | refine YK.mk (y_callIn (q4) (fun _ hw => hI.keep hw.ext) ⟨rfl, rfl⟩ (by decide +kernel)) ?_ | refine YK.mk (y_callA (q5) ⟨rfl, rfl⟩) ?_ | refine YK.mk (y_callA (q6) ⟨rfl, rfl⟩) ?_ | refine YK.mk (y_callA (q7) ⟨rfl, rfl, rfl⟩) ?_)
    | (show YK _ _ _ _ _ _ _; refine YK.ofV vAuto ?_)
    | (show VK _ _ _ _ _ _ _; refine VK.mk vAuto ?_)
    | (show RS _ _ _ _ _ _ _ _; first | (refine nxRS ?_) | (refine nxRS1 fun _ => ?_))
    | (show RM _ _ _ _ _ _ _ _ _ _; first | (refine nxRM ?_) | (refine nxRM1 fun _ => ?_))
    | (show YG _ _ _ _ _ _ _ _; refine YG.mk (fun hb => by (try (have hc := And.left hb; have hb := And.right hb; rw [hc])); (try rw [hb]); first | exact (y_callIn (awake10_c) (fun _ hw => hI.keep hw.ext) rfl (by decide +kernel)) | exact (y_callIn (p1) (fun _ hw => hI.keep hw.ext) ⟨rfl, rfl⟩ (by decide +kernel)) | exact (y_callIn (ht) (fun _ hw => hI.keep hw.ext) ⟨rfl, rfl⟩ (by decide +kernel)) | exact (y_callA (q1) ⟨rfl, rfl⟩) | exact (y_callA (q2) ⟨rfl, rfl, rfl⟩) | exact (y_callIn (q3) (fun _ hw => hI.keep hw.ext) ⟨rfl, rfl⟩ (by decide +kernel)) | exact (y_callIn (q4) (fun _ hw => hI.keep hw.ext) ⟨rfl, rfl⟩ (by decide +kernel)) | exact (y_callA (q5) ⟨rfl, rfl⟩) | exact (y_callA (q6) ⟨rfl, rfl⟩) | exact (y_callA (q7) ⟨rfl, rfl, rfl⟩) | exact V.y vAuto) ?_)
    | (show VG _ _ _ _ _ _ _ _; refine VG.mk (fun hb => by (try (have hc := And.left hb; have hb := And.right hb; rw [hc])); (try rw [hb]); exact vAuto) ?_)
    | (refine nxVS ?_)
    | (refine nxGS ?_)
    | (refine nxX ?_)
    | (refine G.condN rfl (fun hc => ?_) (fun hc => ?_) <;> (try first | exact False.elim hc | (exfalso; omega))))
  refine X.ret (vs := [_]) rfl ⟨rfl, rfl⟩ rfl (fun w hw => ⟨ret_bool ?_, hw.ext⟩)
  simp [eqCells, vEq]
theorem clockBack_c (l : List UInt8) {t : Int} (h : I64 t) : ContIn Tryd.prog Laid 5 [.int .i64 t, strV l] (.bool true) := by
  by_cases hl : 100 < l.length
  · exact cb_long l hl
  have hl' : l.length ≤ 100 := by omega
  have p1 := parseT_c l (by omega)
  obtain ⟨n, e, hp, hor⟩ := back_first l
  rw [hp] at p1
  cases hb : instB t with
  | false =>
    rcases hor with he | ⟨rfl, ht⟩
    · exact cb_rx l hl' p1 he h hb
    · exact cb_rt l hl' p1 ht h hb
  | true =>
  have hb2 := instB_iff.1 hb
  by_cases hr : t / 86400000 < -730119 ∨ 2921939 < t / 86400000
  · rcases hor with he | ⟨rfl, ht⟩
    · exact cb_fx l hl' p1 he hb hr
    · exact cb_ft l hl' p1 ht hb hr
  obtain ⟨y, m, d, hv, hn⟩ := date_ex (t / 86400000) (by omega) (by omega)
  by_cases hm : 70368744177664 - 86400000 < t
  · rcases hor with he | ⟨rfl, ht⟩
    · exact cb_mx l hl' p1 he hb hv hn hm
    · exact cb_mt l hl' p1 ht hb hv hn hm
  obtain ⟨y', m', d', hv', hn'⟩ := date_ex (t / 86400000 + 1) (by omega) (by omega)
  rcases hor with he | ⟨rfl, ht⟩
  · exact cb_dx l hl' p1 he hb hv hn (by omega) hv' hn'
  · exact cb_dt l hl' p1 ht hb hv hn (by omega) hv' hn'
end Go.Proofs.YtpnfmbfehbnljaaDoor
