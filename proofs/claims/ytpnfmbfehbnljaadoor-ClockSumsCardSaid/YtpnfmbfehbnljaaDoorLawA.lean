/- ClockAdds, ClockArcs, ClockNear, ClockSums give true. -/
import Derived.Test.YtpnfmbfehbnljaaDoorAwk10
import Derived.Test.YtpnfmbfehbnljaaDoorRef10
set_option linter.unusedVariables false
set_option maxHeartbeats 4000000
namespace Go.Proofs.YtpnfmbfehbnljaaDoor
open Go.RowKit
theorem clockAdds_c {t1 t2 lo hi : Int} (h : (I64 t1 ∧ I64 t2) ∧ I64 lo ∧ I64 hi) : ContIn Tryd.prog Laid 6 [timeV t1 t2, .int .i64 lo, .int .i64 hi] (.bool true) := fun w hI => by
  have h1 := add_c h
  have h2 := radd_c h
  refine enter0 Tryd.func6 rfl rfl rfl ?_
  repeat' (first
    | (show YK _ _ _ _ _ _ _; first | refine YK.mk (y_callIn (awake10_c) (fun _ hw => hI.keep hw.ext) rfl (by decide +kernel)) ?_ | refine YK.mk (y_callA (h1) ⟨rfl, rfl, rfl, rfl⟩) ?_ | refine YK.mk (y_callA (h2) ⟨rfl, rfl, rfl, rfl⟩) ?_)
    | (show YK _ _ _ _ _ _ _; refine YK.ofV vAuto ?_)
    | (show VK _ _ _ _ _ _ _; refine VK.mk vAuto ?_)
    | (show RS _ _ _ _ _ _ _ _; first | (refine nxRS ?_) | (refine nxRS1 fun _ => ?_))
    | (show RM _ _ _ _ _ _ _ _ _ _; first | (refine nxRM ?_) | (refine nxRM1 fun _ => ?_))
    | (show YG _ _ _ _ _ _ _ _; refine YG.mk (fun hb => by (try (have hc := And.left hb; have hb := And.right hb; rw [hc])); (try rw [hb]); first | exact (y_callIn (awake10_c) (fun _ hw => hI.keep hw.ext) rfl (by decide +kernel)) | exact (y_callA (h1) ⟨rfl, rfl, rfl, rfl⟩) | exact (y_callA (h2) ⟨rfl, rfl, rfl, rfl⟩) | exact V.y vAuto) ?_)
    | (show VG _ _ _ _ _ _ _ _; refine VG.mk (fun hb => by (try (have hc := And.left hb; have hb := And.right hb; rw [hc])); (try rw [hb]); exact vAuto) ?_)
    | (refine nxX ?_)
    | (refine G.condN rfl (fun hc => ?_) (fun hc => ?_) <;> (try first | exact False.elim hc | (exfalso; omega))))
  refine X.ret (vs := [_]) rfl ⟨rfl, rfl⟩ rfl (fun w hw => ⟨ret_bool ?_, hw.ext⟩)
  simp [eqCells, vEq]
theorem clockArcs_c {ms a : Int} (h : I64 ms ∧ I64 a) : ContIn Tryd.prog Laid 4 [.int .i64 ms, .int .i64 a] (.bool true) := fun w hI => by
  have h1 := toArc_c h.1
  have h2 := rtoArc_c h.1
  have h3 := toTime_c h.2
  by_cases ha : a < -1099511627776 ∨ 1099511627776 < a
  · rw [show toTimeS a = ((0, 0), 2) by unfold toTimeS; rw [if_pos ha]] at h3
    refine enter0 Tryd.func4 rfl rfl rfl ?_
    repeat' (first
    | (show YK _ _ _ _ _ _ _; first | refine YK.mk (y_callIn (awake10_c) (fun _ hw => hI.keep hw.ext) rfl (by decide +kernel)) ?_ | refine YK.mk (y_callA (h1) ⟨rfl, rfl⟩) ?_ | refine YK.mk (y_callA (h2) ⟨rfl, rfl⟩) ?_ | refine YK.mk (y_callA (h3) ⟨rfl, rfl⟩) ?_)
    | (show YK _ _ _ _ _ _ _; refine YK.ofV vAuto ?_)
    | (show VK _ _ _ _ _ _ _; refine VK.mk vAuto ?_)
    | (show RS _ _ _ _ _ _ _ _; first | (refine nxRS ?_) | (refine nxRS1 fun _ => ?_))
    | (show RM _ _ _ _ _ _ _ _ _ _; first | (refine nxRM ?_) | (refine nxRM1 fun _ => ?_))
    | (show YG _ _ _ _ _ _ _ _; refine YG.mk (fun hb => by (try (have hc := And.left hb; have hb := And.right hb; rw [hc])); (try rw [hb]); first | exact (y_callIn (awake10_c) (fun _ hw => hI.keep hw.ext) rfl (by decide +kernel)) | exact (y_callA (h1) ⟨rfl, rfl⟩) | exact (y_callA (h2) ⟨rfl, rfl⟩) | exact (y_callA (h3) ⟨rfl, rfl⟩) | exact V.y vAuto) ?_)
    | (show VG _ _ _ _ _ _ _ _; refine VG.mk (fun hb => by (try (have hc := And.left hb; have hb := And.right hb; rw [hc])); (try rw [hb]); exact vAuto) ?_)
    | (refine nxX ?_)
    | (refine G.condN rfl (fun hc => ?_) (fun hc => ?_) <;> (try first | exact False.elim hc | (exfalso; omega))))
    refine X.ret (vs := [_]) rfl ⟨rfl, rfl⟩ rfl (fun w hw => ⟨ret_bool ?_, hw.ext⟩)
    simp [eqCells, vEq]
  · rw [show toTimeS a = ((4 * a, 4 * a), 0) by unfold toTimeS; rw [if_neg ha]] at h3
    refine enter0 Tryd.func4 rfl rfl rfl ?_
    repeat' (first
    | (show YK _ _ _ _ _ _ _; first | refine YK.mk (y_callIn (awake10_c) (fun _ hw => hI.keep hw.ext) rfl (by decide +kernel)) ?_ | refine YK.mk (y_callA (h1) ⟨rfl, rfl⟩) ?_ | refine YK.mk (y_callA (h2) ⟨rfl, rfl⟩) ?_ | refine YK.mk (y_callA (h3) ⟨rfl, rfl⟩) ?_)
    | (show YK _ _ _ _ _ _ _; refine YK.ofV vAuto ?_)
    | (show VK _ _ _ _ _ _ _; refine VK.mk vAuto ?_)
    | (show RS _ _ _ _ _ _ _ _; first | (refine nxRS ?_) | (refine nxRS1 fun _ => ?_))
    | (show RM _ _ _ _ _ _ _ _ _ _; first | (refine nxRM ?_) | (refine nxRM1 fun _ => ?_))
    | (show YG _ _ _ _ _ _ _ _; refine YG.mk (fun hb => by (try (have hc := And.left hb; have hb := And.right hb; rw [hc])); (try rw [hb]); first | exact (y_callIn (awake10_c) (fun _ hw => hI.keep hw.ext) rfl (by decide +kernel)) | exact (y_callA (h1) ⟨rfl, rfl⟩) | exact (y_callA (h2) ⟨rfl, rfl⟩) | exact (y_callA (h3) ⟨rfl, rfl⟩) | exact V.y vAuto) ?_)
    | (show VG _ _ _ _ _ _ _ _; refine VG.mk (fun hb => by (try (have hc := And.left hb; have hb := And.right hb; rw [hc])); (try rw [hb]); exact vAuto) ?_)
    | (refine nxX ?_)
    | (refine G.condN rfl (fun hc => ?_) (fun hc => ?_) <;> (try first | exact False.elim hc | (exfalso; omega))))
    refine X.ret (vs := [_]) rfl ⟨rfl, rfl⟩ rfl (fun w hw => ⟨ret_bool ?_, hw.ext⟩)
    simp [eqCells, vEq]
theorem moved_in {t lon b : Int} (h1 : instB t = true) (h2 : lonB lon = true) (h3 : instB (t + b) = true) : movedS t lon b = (t + b, 0) := by
  unfold movedS
  rw [if_neg (by rw [h1, h2]; decide), if_pos h3]
theorem local_in {t lon : Int} (ht : -35184372088832 ≤ t ∧ t ≤ 35184372088832) (hl : -10800000 ≤ lon ∧ lon ≤ 10800000) : localS t lon = ((t + 4 * lon, t + 4 * lon), 0) := by
  have e := moved_in (t := t) (lon := lon) (b := 4 * lon) (instB_iff.2 (by omega)) (lonB_iff.2 hl) (instB_iff.2 (by omega))
  unfold localS
  rw [if_pos (lonB_iff.2 hl), e]; rfl
theorem zone_in {t lon : Int} (ht : -35184372088832 ≤ t ∧ t ≤ 35184372088832) (hl : -10800000 ≤ lon ∧ lon ≤ 10800000) : zoneTimeS t lon = (t + (lon + 450000) / 900000 * 3600000, 0) := by
  unfold zoneTimeS
  rw [if_pos (lonB_iff.2 hl), moved_in (instB_iff.2 (by omega)) (lonB_iff.2 hl) (instB_iff.2 (by omega))]
theorem local_inC {t lon : Int} (ht : -35184372088832 ≤ t ∧ t ≤ 35184372088832) (hl : -10800000 ≤ lon ∧ lon ≤ 10800000) : Cont Tryd.prog 30 [.int .i64 t, .int .i64 lon] (.tuple [timeV (t + 4 * lon) (t + 4 * lon), .int .i64 0].toArray) := by
  have g := localMean_c (t := t) (lon := lon) (by omega)
  rw [local_in ht hl] at g
  exact g
theorem zone_inC {t lon : Int} (ht : -35184372088832 ≤ t ∧ t ≤ 35184372088832) (hl : -10800000 ≤ lon ∧ lon ≤ 10800000) : Cont Tryd.prog 29 [.int .i64 t, .int .i64 lon] (.tuple [.int .i64 (t + (lon + 450000) / 900000 * 3600000), .int .i64 0].toArray) := by
  have g := zoneTime_c (t := t) (lon := lon) (by omega)
  rw [zone_in ht hl] at g
  exact g
theorem arc_in {a : Int} (h : -2199023255552 ≤ a ∧ a ≤ 2199023255552) : Cont Tryd.prog 16 [.int .i64 a] (.tuple [timeV (a / 4) (-(-a / 4)), .int .i64 0].toArray) := by
  have g := toArc_c (ms := a) (by omega)
  rw [show arcS a = ((a / 4, -(-a / 4)), 0) by unfold arcS; rw [if_neg (by rw [instB_iff.2 (by omega)]; decide), if_neg (by omega)]] at g
  exact g
theorem add_in {t1 t2 lo hi : Int} (h : (-17592186044416 ≤ t1 ∧ t2 ≤ 17592186044416) ∧ t1 ≤ t2) (hl : (-17592186044416 ≤ lo ∧ hi ≤ 17592186044416) ∧ lo ≤ hi) : Cont Tryd.prog 25 [timeV t1 t2, .int .i64 lo, .int .i64 hi] (.tuple [timeV (t1 + lo) (t2 + hi), .int .i64 0].toArray) := by
  have g := add_c (t1 := t1) (t2 := t2) (lo := lo) (hi := hi) (by omega)
  rw [show addS t1 t2 lo hi = ((t1 + lo, t2 + hi), 0) by
    unfold addS
    rw [if_neg (by rw [validT_iff.2 (by omega)]; decide), if_neg (by omega), if_neg (by omega), if_pos (validT_iff.2 (by omega))]] at g
  exact g
theorem clockNear_c {t lon : Int} (h : I64 t ∧ I64 lon) : ContIn Tryd.prog Laid 8 [.int .i64 t, .int .i64 lon] (.bool true) := fun w hI => by
  by_cases hf : t < -35184372088832 ∨ 35184372088832 < t ∨ lon < -10800000 ∨ 10800000 < lon
  · refine enter0 Tryd.func8 rfl rfl rfl ?_
    repeat' (first
    | (show YK _ _ _ _ _ _ _; first | refine YK.mk (y_callIn (awake10_c) (fun _ hw => hI.keep hw.ext) rfl (by decide +kernel)) ?_)
    | (show YK _ _ _ _ _ _ _; refine YK.ofV vAuto ?_)
    | (show VK _ _ _ _ _ _ _; refine VK.mk vAuto ?_)
    | (show RS _ _ _ _ _ _ _ _; first | (refine nxRS ?_) | (refine nxRS1 fun _ => ?_))
    | (show RM _ _ _ _ _ _ _ _ _ _; first | (refine nxRM ?_) | (refine nxRM1 fun _ => ?_))
    | (show YG _ _ _ _ _ _ _ _; refine YG.mk (fun hb => by (try (have hc := And.left hb; have hb := And.right hb; rw [hc])); (try rw [hb]); first | exact (y_callIn (awake10_c) (fun _ hw => hI.keep hw.ext) rfl (by decide +kernel)) | exact V.y vAuto) ?_)
    | (show VG _ _ _ _ _ _ _ _; refine VG.mk (fun hb => by (try (have hc := And.left hb; have hb := And.right hb; rw [hc])); (try rw [hb]); exact vAuto) ?_)
    | (refine nxX ?_)
    | (refine G.condN rfl (fun hc => ?_) (fun hc => ?_) <;> (try first | exact False.elim hc | (exfalso; omega))))
    exact X.ret (vs := [_]) rfl ⟨rfl, rfl⟩ rfl (fun w hw => ⟨rfl, hw.ext⟩)
  have ht : -35184372088832 ≤ t ∧ t ≤ 35184372088832 := by omega
  have hl : -10800000 ≤ lon ∧ lon ≤ 10800000 := by omega
  have h1 := zone_inC ht hl
  have h2 := local_inC ht hl
  have h3 := local_inC (lon := -10800000) ht (by decide)
  have h4 := local_inC (lon := 10800000) ht (by decide)
  rw [show t + 4 * -10800000 = t - 43200000 by omega] at h3
  rw [show t + 4 * 10800000 = t + 43200000 by omega] at h4
  have h5 : Cont Tryd.prog 18 [.int .i64 lon] (.tuple [timeV (4 * lon) (4 * lon), .int .i64 0].toArray) := by
    have g := toTime_c h.2
    rw [show toTimeS lon = ((4 * lon, 4 * lon), 0) by unfold toTimeS; rw [if_neg (by omega)]] at g
    exact g
  have h6 := arc_in (a := 4 * lon) (by omega)
  rw [show 4 * lon / 4 = lon by omega, show -(-(4 * lon) / 4) = lon by omega] at h6
  refine enter0 Tryd.func8 rfl rfl rfl ?_
  repeat' (first
    | (show YK _ _ _ _ _ _ _; first | refine YK.mk (y_callIn (awake10_c) (fun _ hw => hI.keep hw.ext) rfl (by decide +kernel)) ?_ | refine YK.mk (y_callA (h1) ⟨rfl, rfl, rfl⟩) ?_ | refine YK.mk (y_callA (h2) ⟨rfl, rfl, rfl⟩) ?_ | refine YK.mk (y_callA (h3) ⟨rfl, rfl, rfl⟩) ?_ | refine YK.mk (y_callA (h4) ⟨rfl, rfl, rfl⟩) ?_ | refine YK.mk (y_callA (h5) ⟨rfl, rfl⟩) ?_ | refine YK.mk (y_callA (h6) ⟨rfl, rfl⟩) ?_)
    | (show YK _ _ _ _ _ _ _; refine YK.ofV vAuto ?_)
    | (show VK _ _ _ _ _ _ _; refine VK.mk vAuto ?_)
    | (show RS _ _ _ _ _ _ _ _; first | (refine nxRS ?_) | (refine nxRS1 fun _ => ?_))
    | (show RM _ _ _ _ _ _ _ _ _ _; first | (refine nxRM ?_) | (refine nxRM1 fun _ => ?_))
    | (show YG _ _ _ _ _ _ _ _; refine YG.mk (fun hb => by (try (have hc := And.left hb; have hb := And.right hb; rw [hc])); (try rw [hb]); first | exact (y_callIn (awake10_c) (fun _ hw => hI.keep hw.ext) rfl (by decide +kernel)) | exact (y_callA (h1) ⟨rfl, rfl, rfl⟩) | exact (y_callA (h2) ⟨rfl, rfl, rfl⟩) | exact (y_callA (h3) ⟨rfl, rfl, rfl⟩) | exact (y_callA (h4) ⟨rfl, rfl, rfl⟩) | exact (y_callA (h5) ⟨rfl, rfl⟩) | exact (y_callA (h6) ⟨rfl, rfl⟩) | exact V.y vAuto) ?_)
    | (show VG _ _ _ _ _ _ _ _; refine VG.mk (fun hb => by (try (have hc := And.left hb; have hb := And.right hb; rw [hc])); (try rw [hb]); exact vAuto) ?_)
    | (refine nxX ?_)
    | (refine G.condN rfl (fun hc => ?_) (fun hc => ?_) <;> (try first | exact False.elim hc | (exfalso; omega))))
  refine X.ret (vs := [_]) rfl ⟨rfl, rfl⟩ rfl (fun w hw => ⟨ret_bool ?_, hw.ext⟩)
  simp [eqCells, vEq]
theorem lawFar_c (n : Int) : ContIn Tryd.prog (fun _ => True) 27 ([.int .i64 n] ++ (#[] : Array Value).toList) (.bool (decide (n < -1099511627776) || decide (1099511627776 < n))) := fun w _ => by
  refine enter0 Tryd.func27 rfl rfl rfl ?_
  repeat' (first
    | (refine nxV ?_)
    | (show RS _ _ _ _ _ _ _ _; first | (refine nxRS ?_) | (refine nxRS1 fun _ => ?_))
    | (show RM _ _ _ _ _ _ _ _ _ _; first | (refine nxRM ?_) | (refine nxRM1 fun _ => ?_))
    | (refine nxG ?_)
    | (refine nxX ?_)
    | (refine G.condN rfl (fun hc => ?_) (fun hc => ?_) <;> (try first | exact False.elim hc | (exfalso; omega))))
  exact X.ret (vs := [_]) rfl ⟨rfl, rfl⟩ rfl (fun w hw => ⟨ret_bool (by simp), hw.ext⟩)
theorem lawFar_t {n : Int} (h : n < -1099511627776 ∨ 1099511627776 < n) : ContIn Tryd.prog (fun _ => True) 27 ([.int .i64 n] ++ (#[] : Array Value).toList) (.bool true) := by
  have := lawFar_c n
  rwa [show (decide (n < -1099511627776) || decide (1099511627776 < n)) = true by simpa using h] at this
theorem lawFar_f {n : Int} (h : -1099511627776 ≤ n ∧ n ≤ 1099511627776) : ContIn Tryd.prog (fun _ => True) 27 ([.int .i64 n] ++ (#[] : Array Value).toList) (.bool false) := by
  have := lawFar_c n
  rwa [show (decide (n < -1099511627776) || decide (1099511627776 < n)) = false by simp; omega] at this
theorem clockSums_c {a b t1 t2 : Int} (h : (I64 a ∧ I64 b) ∧ I64 t1 ∧ I64 t2) : ContIn Tryd.prog Laid 7 [.int .i64 a, .int .i64 b, timeV t1 t2] (.bool true) := fun w hI => by
  by_cases ga : a < -1099511627776 ∨ 1099511627776 < a
  · have k1 := lawFar_t ga
    refine enter0 Tryd.func7 rfl rfl rfl ?_
    repeat' (first
    | (show YK _ _ _ _ _ ⟨_, .call _, _, _, _, _⟩ _; refine YK.mk (y_callV (by rfl) k1 (fun _ _ => trivial) ⟨rfl, rfl⟩ (by decide +kernel)) ?_)
    | (show YK _ _ _ _ _ _ _; first | refine YK.mk (y_callIn (awake10_c) (fun _ hw => hI.keep hw.ext) rfl (by decide +kernel)) ?_)
    | (show YK _ _ _ _ _ _ _; refine YK.ofV vAuto ?_)
    | (show VK _ _ _ _ _ _ _; refine VK.mk vAuto ?_)
    | (show RS _ _ _ _ _ _ _ _; first | (refine nxRS ?_) | (refine nxRS1 fun _ => ?_))
    | (show RM _ _ _ _ _ _ _ _ _ _; first | (refine nxRM ?_) | (refine nxRM1 fun _ => ?_))
    | (show YG _ _ _ _ _ _ _ _; refine YG.mk (fun hb => by (try (have hc := And.left hb; have hb := And.right hb; rw [hc])); (try rw [hb]); first | exact (y_callIn (awake10_c) (fun _ hw => hI.keep hw.ext) rfl (by decide +kernel)) | exact V.y vAuto) ?_)
    | (show VG _ _ _ _ _ _ _ _; refine VG.mk (fun hb => by (try (have hc := And.left hb; have hb := And.right hb; rw [hc])); (try rw [hb]); exact vAuto) ?_)
    | (refine nxX ?_)
    | (refine G.condN rfl (fun hc => ?_) (fun hc => ?_) <;> (try first | exact False.elim hc | (exfalso; omega))))
    exact X.ret (vs := [_]) rfl ⟨rfl, rfl⟩ rfl (fun w hw => ⟨rfl, hw.ext⟩)
  have k1 := lawFar_f (n := a) (by omega)
  by_cases gb : b < -1099511627776 ∨ 1099511627776 < b
  · have k2 := lawFar_t gb
    refine enter0 Tryd.func7 rfl rfl rfl ?_
    repeat' (first
    | (show YK _ _ _ _ _ ⟨_, .call _, _, _, _, _⟩ _; first | refine YK.mk (y_callV (by rfl) k1 (fun _ _ => trivial) ⟨rfl, rfl⟩ (by decide +kernel)) ?_ | refine YK.mk (y_callV (by rfl) k2 (fun _ _ => trivial) ⟨rfl, rfl⟩ (by decide +kernel)) ?_)
    | (show YK _ _ _ _ _ _ _; first | refine YK.mk (y_callIn (awake10_c) (fun _ hw => hI.keep hw.ext) rfl (by decide +kernel)) ?_)
    | (show YK _ _ _ _ _ _ _; refine YK.ofV vAuto ?_)
    | (show VK _ _ _ _ _ _ _; refine VK.mk vAuto ?_)
    | (show RS _ _ _ _ _ _ _ _; first | (refine nxRS ?_) | (refine nxRS1 fun _ => ?_))
    | (show RM _ _ _ _ _ _ _ _ _ _; first | (refine nxRM ?_) | (refine nxRM1 fun _ => ?_))
    | (show YG _ _ _ _ _ _ _ _; refine YG.mk (fun hb => by (try (have hc := And.left hb; have hb := And.right hb; rw [hc])); (try rw [hb]); first | exact (y_callIn (awake10_c) (fun _ hw => hI.keep hw.ext) rfl (by decide +kernel)) | exact V.y vAuto) ?_)
    | (show VG _ _ _ _ _ _ _ _; refine VG.mk (fun hb => by (try (have hc := And.left hb; have hb := And.right hb; rw [hc])); (try rw [hb]); exact vAuto) ?_)
    | (refine nxX ?_)
    | (refine G.condN rfl (fun hc => ?_) (fun hc => ?_) <;> (try first | exact False.elim hc | (exfalso; omega))))
    exact X.ret (vs := [_]) rfl ⟨rfl, rfl⟩ rfl (fun w hw => ⟨rfl, hw.ext⟩)
  have k2 := lawFar_f (n := b) (by omega)
  by_cases gc : t1 < -1099511627776 ∨ 1099511627776 < t1
  · have k3 := lawFar_t gc
    refine enter0 Tryd.func7 rfl rfl rfl ?_
    repeat' (first
    | (show YK _ _ _ _ _ ⟨_, .call _, _, _, _, _⟩ _; first | refine YK.mk (y_callV (by rfl) k1 (fun _ _ => trivial) ⟨rfl, rfl⟩ (by decide +kernel)) ?_ | refine YK.mk (y_callV (by rfl) k2 (fun _ _ => trivial) ⟨rfl, rfl⟩ (by decide +kernel)) ?_ | refine YK.mk (y_callV (by rfl) k3 (fun _ _ => trivial) ⟨rfl, rfl⟩ (by decide +kernel)) ?_)
    | (show YK _ _ _ _ _ _ _; first | refine YK.mk (y_callIn (awake10_c) (fun _ hw => hI.keep hw.ext) rfl (by decide +kernel)) ?_)
    | (show YK _ _ _ _ _ _ _; refine YK.ofV vAuto ?_)
    | (show VK _ _ _ _ _ _ _; refine VK.mk vAuto ?_)
    | (show RS _ _ _ _ _ _ _ _; first | (refine nxRS ?_) | (refine nxRS1 fun _ => ?_))
    | (show RM _ _ _ _ _ _ _ _ _ _; first | (refine nxRM ?_) | (refine nxRM1 fun _ => ?_))
    | (show YG _ _ _ _ _ _ _ _; refine YG.mk (fun hb => by (try (have hc := And.left hb; have hb := And.right hb; rw [hc])); (try rw [hb]); first | exact (y_callIn (awake10_c) (fun _ hw => hI.keep hw.ext) rfl (by decide +kernel)) | exact V.y vAuto) ?_)
    | (show VG _ _ _ _ _ _ _ _; refine VG.mk (fun hb => by (try (have hc := And.left hb; have hb := And.right hb; rw [hc])); (try rw [hb]); exact vAuto) ?_)
    | (refine nxX ?_)
    | (refine G.condN rfl (fun hc => ?_) (fun hc => ?_) <;> (try first | exact False.elim hc | (exfalso; omega))))
    exact X.ret (vs := [_]) rfl ⟨rfl, rfl⟩ rfl (fun w hw => ⟨rfl, hw.ext⟩)
  have k3 := lawFar_f (n := t1) (by omega)
  by_cases gd : t2 < -1099511627776 ∨ 1099511627776 < t2
  · have k4 := lawFar_t gd
    refine enter0 Tryd.func7 rfl rfl rfl ?_
    repeat' (first
    | (show YK _ _ _ _ _ ⟨_, .call _, _, _, _, _⟩ _; first | refine YK.mk (y_callV (by rfl) k1 (fun _ _ => trivial) ⟨rfl, rfl⟩ (by decide +kernel)) ?_ | refine YK.mk (y_callV (by rfl) k2 (fun _ _ => trivial) ⟨rfl, rfl⟩ (by decide +kernel)) ?_ | refine YK.mk (y_callV (by rfl) k3 (fun _ _ => trivial) ⟨rfl, rfl⟩ (by decide +kernel)) ?_ | refine YK.mk (y_callV (by rfl) k4 (fun _ _ => trivial) ⟨rfl, rfl⟩ (by decide +kernel)) ?_)
    | (show YK _ _ _ _ _ _ _; first | refine YK.mk (y_callIn (awake10_c) (fun _ hw => hI.keep hw.ext) rfl (by decide +kernel)) ?_)
    | (show YK _ _ _ _ _ _ _; refine YK.ofV vAuto ?_)
    | (show VK _ _ _ _ _ _ _; refine VK.mk vAuto ?_)
    | (show RS _ _ _ _ _ _ _ _; first | (refine nxRS ?_) | (refine nxRS1 fun _ => ?_))
    | (show RM _ _ _ _ _ _ _ _ _ _; first | (refine nxRM ?_) | (refine nxRM1 fun _ => ?_))
    | (show YG _ _ _ _ _ _ _ _; refine YG.mk (fun hb => by (try (have hc := And.left hb; have hb := And.right hb; rw [hc])); (try rw [hb]); first | exact (y_callIn (awake10_c) (fun _ hw => hI.keep hw.ext) rfl (by decide +kernel)) | exact V.y vAuto) ?_)
    | (show VG _ _ _ _ _ _ _ _; refine VG.mk (fun hb => by (try (have hc := And.left hb; have hb := And.right hb; rw [hc])); (try rw [hb]); exact vAuto) ?_)
    | (refine nxX ?_)
    | (refine G.condN rfl (fun hc => ?_) (fun hc => ?_) <;> (try first | exact False.elim hc | (exfalso; omega))))
    exact X.ret (vs := [_]) rfl ⟨rfl, rfl⟩ rfl (fun w hw => ⟨rfl, hw.ext⟩)
  have k4 := lawFar_f (n := t2) (by omega)
  by_cases ge : t2 < t1
  · refine enter0 Tryd.func7 rfl rfl rfl ?_
    repeat' (first
    | (show YK _ _ _ _ _ ⟨_, .call _, _, _, _, _⟩ _; first | refine YK.mk (y_callV (by rfl) k1 (fun _ _ => trivial) ⟨rfl, rfl⟩ (by decide +kernel)) ?_ | refine YK.mk (y_callV (by rfl) k2 (fun _ _ => trivial) ⟨rfl, rfl⟩ (by decide +kernel)) ?_ | refine YK.mk (y_callV (by rfl) k3 (fun _ _ => trivial) ⟨rfl, rfl⟩ (by decide +kernel)) ?_ | refine YK.mk (y_callV (by rfl) k4 (fun _ _ => trivial) ⟨rfl, rfl⟩ (by decide +kernel)) ?_)
    | (show YK _ _ _ _ _ _ _; first | refine YK.mk (y_callIn (awake10_c) (fun _ hw => hI.keep hw.ext) rfl (by decide +kernel)) ?_)
    | (show YK _ _ _ _ _ _ _; refine YK.ofV vAuto ?_)
    | (show VK _ _ _ _ _ _ _; refine VK.mk vAuto ?_)
    | (show RS _ _ _ _ _ _ _ _; first | (refine nxRS ?_) | (refine nxRS1 fun _ => ?_))
    | (show RM _ _ _ _ _ _ _ _ _ _; first | (refine nxRM ?_) | (refine nxRM1 fun _ => ?_))
    | (show YG _ _ _ _ _ _ _ _; refine YG.mk (fun hb => by (try (have hc := And.left hb; have hb := And.right hb; rw [hc])); (try rw [hb]); first | exact (y_callIn (awake10_c) (fun _ hw => hI.keep hw.ext) rfl (by decide +kernel)) | exact V.y vAuto) ?_)
    | (show VG _ _ _ _ _ _ _ _; refine VG.mk (fun hb => by (try (have hc := And.left hb; have hb := And.right hb; rw [hc])); (try rw [hb]); exact vAuto) ?_)
    | (refine nxX ?_)
    | (refine G.condN rfl (fun hc => ?_) (fun hc => ?_) <;> (try first | exact False.elim hc | (exfalso; omega))))
    exact X.ret (vs := [_]) rfl ⟨rfl, rfl⟩ rfl (fun w hw => ⟨rfl, hw.ext⟩)
  have h1 := arc_in (a := a) (by omega)
  have h2 := arc_in (a := b) (by omega)
  have h3 := arc_in (a := a + b) (by omega)
  have h4 := inside_c ((a + b) / 4) (-(-(a + b) / 4)) (a / 4 + b / 4) (-(-a / 4) + -(-b / 4))
  rw [show (decide (a / 4 + b / 4 ≤ (a + b) / 4) && decide (-(-(a + b) / 4) ≤ -(-a / 4) + -(-b / 4))) = true by simp; omega] at h4
  have h5 := add_in (t1 := t1) (t2 := t2) (lo := a) (hi := a) (by omega) (by omega)
  have h6 := add_in (t1 := t1 + a) (t2 := t2 + a) (lo := -a) (hi := -a) (by omega) (by omega)
  rw [show t1 + a + -a = t1 by omega, show t2 + a + -a = t2 by omega] at h6
  have h7 := add_in (t1 := t1) (t2 := t2) (lo := min a b) (hi := max a b) (by omega) (by omega)
  refine enter0 Tryd.func7 rfl rfl rfl ?_
  repeat' (first
    | (show YK _ _ _ _ _ ⟨_, .call _, _, _, _, _⟩ _; first | refine YK.mk (y_callV (by rfl) k1 (fun _ _ => trivial) ⟨rfl, rfl⟩ (by decide +kernel)) ?_ | refine YK.mk (y_callV (by rfl) k2 (fun _ _ => trivial) ⟨rfl, rfl⟩ (by decide +kernel)) ?_ | refine YK.mk (y_callV (by rfl) k3 (fun _ _ => trivial) ⟨rfl, rfl⟩ (by decide +kernel)) ?_ | refine YK.mk (y_callV (by rfl) k4 (fun _ _ => trivial) ⟨rfl, rfl⟩ (by decide +kernel)) ?_)
    | (show YK _ _ _ _ _ _ _; first | refine YK.mk (y_callIn (awake10_c) (fun _ hw => hI.keep hw.ext) rfl (by decide +kernel)) ?_ | refine YK.mk (y_callA (h1) ⟨rfl, rfl⟩) ?_ | refine YK.mk (y_callA (h2) ⟨rfl, rfl⟩) ?_ | refine YK.mk (y_callA (h3) ⟨rfl, rfl⟩) ?_ | refine YK.mk (y_callA (h4) ⟨rfl, rfl, rfl⟩) ?_ | refine YK.mk (y_callA (h5) ⟨rfl, rfl, rfl, rfl⟩) ?_ | refine YK.mk (y_callA (h6) ⟨rfl, rfl, rfl, rfl⟩) ?_ | refine YK.mk (y_callA (h7) ⟨rfl, rfl, rfl, rfl⟩) ?_)
    | (show YK _ _ _ _ _ _ _; refine YK.ofV vAuto ?_)
    | (show VK _ _ _ _ _ _ _; refine VK.mk vAuto ?_)
    | (show RS _ _ _ _ _ _ _ _; first | (refine nxRS ?_) | (refine nxRS1 fun _ => ?_))
    | (show RM _ _ _ _ _ _ _ _ _ _; first | (refine nxRM ?_) | (refine nxRM1 fun _ => ?_))
    | (show YG _ _ _ _ _ _ _ _; refine YG.mk (fun hb => by (try (have hc := And.left hb; have hb := And.right hb; rw [hc])); (try rw [hb]); first | exact (y_callIn (awake10_c) (fun _ hw => hI.keep hw.ext) rfl (by decide +kernel)) | exact (y_callA (h1) ⟨rfl, rfl⟩) | exact (y_callA (h2) ⟨rfl, rfl⟩) | exact (y_callA (h3) ⟨rfl, rfl⟩) | exact (y_callA (h4) ⟨rfl, rfl, rfl⟩) | exact (y_callA (h5) ⟨rfl, rfl, rfl, rfl⟩) | exact (y_callA (h6) ⟨rfl, rfl, rfl, rfl⟩) | exact (y_callA (h7) ⟨rfl, rfl, rfl, rfl⟩) | exact V.y vAuto) ?_)
    | (show VG _ _ _ _ _ _ _ _; refine VG.mk (fun hb => by (try (have hc := And.left hb; have hb := And.right hb; rw [hc])); (try rw [hb]); exact vAuto) ?_)
    | (refine nxX ?_)
    | (refine G.condN rfl (fun hc => ?_) (fun hc => ?_) <;> (try first | exact False.elim hc | (exfalso; omega))))
  refine X.ret (vs := [_]) rfl ⟨rfl, rfl⟩ rfl (fun w hw => ⟨ret_bool ?_, hw.ext⟩)
  simp [eqCells, vEq]
end Go.Proofs.YtpnfmbfehbnljaaDoor
