/- The clock's functions on numbers: what each returns. -/
import Derived.Test.YtpnfmbfehbnljaaGreatDoorCal3
set_option linter.unusedVariables false
set_option maxHeartbeats 4000000
namespace Go.Proofs.YtpnfmbfehbnljaaGreatDoor
open Go.RowKit

abbrev I64 (n : Int) : Prop := -9223372036854775808 ≤ n ∧ n ≤ 9223372036854775807
def instB (n : Int) : Bool := decide (-70368744177664 ≤ n) && decide (n ≤ 70368744177664)
theorem instB_iff {n : Int} : instB n = true ↔ -70368744177664 ≤ n ∧ n ≤ 70368744177664 := by simp [instB]
abbrev timeV (lo hi : Int) : Value := .agg [.int .i64 lo, .int .i64 hi].toArray
theorem instant_c (n : Int) : Cont Tryz.prog 35 [.int .i64 n] (.bool (instB n)) := fun w => by
  refine enter0 Tryz.func35 rfl rfl rfl ?_
  repeat' (first
    | (refine nxV ?_)
    | (show RS _ _ _ _ _ _ _ _; first | (refine nxRS ?_) | (refine nxRS1 fun _ => ?_))
    | (show RM _ _ _ _ _ _ _ _ _ _; first | (refine nxRM ?_) | (refine nxRM1 fun _ => ?_))
    | (refine nxG ?_)
    | (refine nxX ?_)
    | (refine G.condN rfl (fun hc => ?_) (fun hc => ?_) <;> (try first | exact False.elim hc | (exfalso; omega))))
  exact X.ret (vs := [_]) rfl ⟨rfl, rfl⟩ rfl (fun w hw => ⟨rfl, hw.ext⟩)
def lonB (n : Int) : Bool := decide (-10800000 ≤ n) && decide (n ≤ 10800000)
theorem longitude_c (n : Int) : Cont Tryz.prog 45 [.int .i64 n] (.bool (lonB n)) := fun w => by
  refine enter0 Tryz.func45 rfl rfl rfl ?_
  repeat' (first
    | (refine nxV ?_)
    | (show RS _ _ _ _ _ _ _ _; first | (refine nxRS ?_) | (refine nxRS1 fun _ => ?_))
    | (show RM _ _ _ _ _ _ _ _ _ _; first | (refine nxRM ?_) | (refine nxRM1 fun _ => ?_))
    | (refine nxG ?_)
    | (refine nxX ?_)
    | (refine G.condN rfl (fun hc => ?_) (fun hc => ?_) <;> (try first | exact False.elim hc | (exfalso; omega))))
  exact X.ret (vs := [_]) rfl ⟨rfl, rfl⟩ rfl (fun w hw => ⟨rfl, hw.ext⟩)
def validT (lo hi : Int) : Bool := decide (lo ≤ hi) && instB lo && instB hi
theorem cvalid_c (lo hi : Int) : Cont Tryz.prog 15 [timeV lo hi] (.bool (validT lo hi)) := fun w => by
  refine enter0 Tryz.func15 rfl rfl rfl ?_
  repeat' (first
    | (show YK _ _ _ _ _ _ _; first | refine YK.mk (y_callA (instant_c _) ⟨rfl, rfl⟩) ?_)
    | (show YK _ _ _ _ _ _ _; refine YK.ofV vAuto ?_)
    | (show VK _ _ _ _ _ _ _; refine VK.mk vAuto ?_)
    | (show RS _ _ _ _ _ _ _ _; first | (refine nxRS ?_) | (refine nxRS1 fun _ => ?_))
    | (show RM _ _ _ _ _ _ _ _ _ _; first | (refine nxRM ?_) | (refine nxRM1 fun _ => ?_))
    | (show YG _ _ _ _ _ _ _ _; refine YG.mk (fun hb => by (try (have hc := And.left hb; have hb := And.right hb; rw [hc])); (try rw [hb]); first | exact (y_callA (instant_c _) ⟨rfl, rfl⟩) | exact V.y vAuto) ?_)
    | (show VG _ _ _ _ _ _ _ _; refine VG.mk (fun hb => by (try (have hc := And.left hb; have hb := And.right hb; rw [hc])); (try rw [hb]); exact vAuto) ?_)
    | (refine nxX ?_)
    | (refine G.condN rfl (fun hc => ?_) (fun hc => ?_) <;> (try first | exact False.elim hc | (exfalso; omega))))
  exact X.ret (vs := [_]) rfl ⟨rfl, rfl⟩ rfl (fun w hw => ⟨rfl, hw.ext⟩)
theorem floor_eq {n d : Int} (h : 0 < d) : (n.tmod d < 0 → n.tdiv d - 1 = n / d ∧ n.tmod d + d = n % d ∧ n < 0) ∧ (0 ≤ n.tmod d → n.tdiv d = n / d ∧ n.tmod d = n % d) := by
  have e1 := Int.tdiv_eq_ediv (a := n) (b := d)
  have e2 := Int.tmod_eq_emod (a := n) (b := d)
  have e3 := Int.emod_nonneg n (show d ≠ 0 by omega)
  have e4 := Int.emod_lt_of_pos n h
  have e5 := Int.sign_eq_one_of_pos h
  by_cases hc : 0 ≤ n ∨ d ∣ n
  · rw [if_pos hc] at e1 e2
    exact ⟨fun g => by omega, fun _ => by omega⟩
  · rw [if_neg hc] at e1 e2
    have hn : n < 0 := Int.not_le.1 fun g => hc (.inl g)
    exact ⟨fun _ => by omega, fun g => by omega⟩
theorem ediv_in {a b k : Int} (hb : 0 < b) (h1 : -k ≤ a) (h2 : a ≤ k) : -k ≤ a / b ∧ a / b ≤ k := by
  have hk : 0 ≤ k := by omega
  have hkb : k * 1 ≤ k * b := Int.mul_le_mul_of_nonneg_left (by omega) hk
  refine ⟨(Int.le_ediv_iff_mul_le hb).2 ?_, Int.ediv_le_of_le_mul hb (by omega)⟩
  rw [Int.neg_mul]; omega
theorem floor_c {n d : Int} (h : I64 n ∧ 0 < d ∧ d ≤ 1000000000000) : Cont Tryz.prog 36 [.int .i64 n, .int .i64 d] (.tuple [.int .i64 (n / d), .int .i64 (n % d)].toArray) := fun w => by
  have e3 := Int.emod_nonneg n (show d ≠ 0 by omega)
  have e4 := Int.emod_lt_of_pos n h.2.1
  have e5 := ediv_in (k := 9223372036854775808) h.2.1 (by omega) (by omega) (a := n)
  have e6 : n / d ≤ 9223372036854775807 := by
    have := ediv_in (k := 9223372036854775807) h.2.1 (show -9223372036854775807 ≤ max n (-9223372036854775807) by omega) (by omega)
    exact Int.le_trans (Int.ediv_le_ediv h.2.1 (show n ≤ max n (-9223372036854775807) by omega)) this.2
  refine enter0 Tryz.func36 rfl rfl rfl ?_
  repeat' (first
    | (refine nxV ?_)
    | (show RS _ _ _ _ _ _ _ _; first | (refine nxRS ?_) | (refine nxRS1 fun _ => ?_))
    | (show RM _ _ _ _ _ _ _ _ _ _; first | (refine nxRM ?_) | (refine nxRM1 fun _ => ?_))
    | (refine nxG ?_)
    | (refine G.mixedA 1 [.go 0, .go 1, .go 2, .go 3, .go 4, .go 5, .go 6, .go 7] ?_)
    | (refine nxX ?_)
    | (refine G.condN rfl (fun hc => ?_) (fun hc => ?_) <;> (try first | exact False.elim hc | (exfalso; omega))))
  · obtain ⟨g1, g2, g3⟩ := (floor_eq h.2.1).1 hc
    have g4 := Int.ediv_neg_of_neg_of_pos g3 h.2.1
    exact X.ret (vs := [_, _]) rfl ⟨rfl, rfl, rfl⟩ rfl (fun w hw => ⟨by rw [IntWalk.i64_in (n.tdiv d) (by omega), IntWalk.i64_in (n.tdiv d - 1) (by omega), IntWalk.i64_in (n.tmod d + d) (by omega), g1, g2], hw.ext⟩)
  · obtain ⟨g1, g2⟩ := (floor_eq h.2.1).2 hc
    exact X.ret (vs := [_, _]) rfl ⟨rfl, rfl, rfl⟩ rfl (fun w hw => ⟨by rw [IntWalk.i64_in (n.tdiv d) (by omega), g1, g2], hw.ext⟩)
/-- A fact on which hang the errors: instants, longitudes. -/
abbrev numE (n e : Int) : Value := .tuple [.int .i64 n, .int .i64 e].toArray
def zoneS (lon : Int) : Int × Int := if lonB lon then ((lon + 450000) / 900000, 0) else (0, 2)
theorem lonB_iff {n : Int} : lonB n = true ↔ -10800000 ≤ n ∧ n ≤ 10800000 := by simp [lonB]
theorem zone_c {lon : Int} (h : I64 lon) : Cont Tryz.prog 17 [.int .i64 lon] (numE (zoneS lon).1 (zoneS lon).2) := fun w => by
  have hl := longitude_c lon
  cases hb : lonB lon with
  | false =>
    rw [hb] at hl
    refine enter0 Tryz.func17 rfl rfl rfl ?_
    repeat' (first
    | (show YK _ _ _ _ _ _ _; first | refine YK.mk (y_callA (hl) ⟨rfl, rfl⟩) ?_)
    | (show YK _ _ _ _ _ _ _; refine YK.ofV vAuto ?_)
    | (show VK _ _ _ _ _ _ _; refine VK.mk vAuto ?_)
    | (show RS _ _ _ _ _ _ _ _; first | (refine nxRS ?_) | (refine nxRS1 fun _ => ?_))
    | (show RM _ _ _ _ _ _ _ _ _ _; first | (refine nxRM ?_) | (refine nxRM1 fun _ => ?_))
    | (show YG _ _ _ _ _ _ _ _; refine YG.mk (fun hb => by (try (have hc := And.left hb; have hb := And.right hb; rw [hc])); (try rw [hb]); first | exact (y_callA (hl) ⟨rfl, rfl⟩) | exact V.y vAuto) ?_)
    | (show VG _ _ _ _ _ _ _ _; refine VG.mk (fun hb => by (try (have hc := And.left hb; have hb := And.right hb; rw [hc])); (try rw [hb]); exact vAuto) ?_)
    | (refine nxX ?_)
    | (refine G.condN rfl (fun hc => ?_) (fun hc => ?_) <;> (try first | exact False.elim hc | (exfalso; omega))))
    exact X.ret (vs := [_, _]) rfl ⟨rfl, rfl, rfl⟩ rfl (fun w hw => ⟨by unfold zoneS; rw [hb]; rfl, hw.ext⟩)
  | true =>
    rw [hb] at hl
    have hb2 := lonB_iff.1 hb
    refine enter0 Tryz.func17 rfl rfl rfl ?_
    repeat' (first
    | (show YK _ _ _ _ _ _ _; first | refine YK.mk (y_callA (hl) ⟨rfl, rfl⟩) ?_ | refine YK.mk (y_callP floor_c ⟨rfl, rfl, rfl⟩) ?_)
    | (show YK _ _ _ _ _ _ _; refine YK.ofV vAuto ?_)
    | (show VK _ _ _ _ _ _ _; refine VK.mk vAuto ?_)
    | (show RS _ _ _ _ _ _ _ _; first | (refine nxRS ?_) | (refine nxRS1 fun _ => ?_))
    | (show RM _ _ _ _ _ _ _ _ _ _; first | (refine nxRM ?_) | (refine nxRM1 fun _ => ?_))
    | (show YG _ _ _ _ _ _ _ _; refine YG.mk (fun hb => by (try (have hc := And.left hb; have hb := And.right hb; rw [hc])); (try rw [hb]); first | exact (y_callA (hl) ⟨rfl, rfl⟩) | exact (y_callP floor_c ⟨rfl, rfl, rfl⟩) | exact V.y vAuto) ?_)
    | (show VG _ _ _ _ _ _ _ _; refine VG.mk (fun hb => by (try (have hc := And.left hb; have hb := And.right hb; rw [hc])); (try rw [hb]); exact vAuto) ?_)
    | (refine nxX ?_)
    | (refine G.condN rfl (fun hc => ?_) (fun hc => ?_) <;> (try first | exact False.elim hc | (exfalso; omega))))
    exact X.ret (vs := [_, _]) rfl ⟨rfl, rfl, rfl⟩ rfl (fun w hw => ⟨by unfold zoneS; rw [hb]; rfl, hw.ext⟩)
def movedS (t lon b : Int) : Int × Int := if instB t = false ∨ lonB lon = false then (0, 2) else if instB (t + b) then (t + b, 0) else (0, 5)
theorem moved_c {t lon b : Int} (h : (I64 t ∧ I64 lon) ∧ -1000000000000 ≤ b ∧ b ≤ 1000000000000) : Cont Tryz.prog 46 [.int .i64 t, .int .i64 lon, .int .i64 b] (numE (movedS t lon b).1 (movedS t lon b).2) := fun w => by
  have h1 := instant_c t
  have h2 := longitude_c lon
  cases hb1 : instB t with
  | false =>
    rw [hb1] at h1
    refine enter0 Tryz.func46 rfl rfl rfl ?_
    repeat' (first
    | (show YK _ _ _ _ _ _ _; first | refine YK.mk (y_callA (h1) ⟨rfl, rfl⟩) ?_)
    | (show YK _ _ _ _ _ _ _; refine YK.ofV vAuto ?_)
    | (show VK _ _ _ _ _ _ _; refine VK.mk vAuto ?_)
    | (show RS _ _ _ _ _ _ _ _; first | (refine nxRS ?_) | (refine nxRS1 fun _ => ?_))
    | (show RM _ _ _ _ _ _ _ _ _ _; first | (refine nxRM ?_) | (refine nxRM1 fun _ => ?_))
    | (show YG _ _ _ _ _ _ _ _; refine YG.mk (fun hb => by (try (have hc := And.left hb; have hb := And.right hb; rw [hc])); (try rw [hb]); first | exact (y_callA (h1) ⟨rfl, rfl⟩) | exact V.y vAuto) ?_)
    | (show VG _ _ _ _ _ _ _ _; refine VG.mk (fun hb => by (try (have hc := And.left hb; have hb := And.right hb; rw [hc])); (try rw [hb]); exact vAuto) ?_)
    | (refine nxX ?_)
    | (refine G.condN rfl (fun hc => ?_) (fun hc => ?_) <;> (try first | exact False.elim hc | (exfalso; omega))))
    exact X.ret (vs := [_, _]) rfl ⟨rfl, rfl, rfl⟩ rfl (fun w hw => ⟨by unfold movedS; rw [if_pos (.inl hb1)], hw.ext⟩)
  | true =>
  rw [hb1] at h1
  cases hb2 : lonB lon with
  | false =>
    rw [hb2] at h2
    refine enter0 Tryz.func46 rfl rfl rfl ?_
    repeat' (first
    | (show YK _ _ _ _ _ _ _; first | refine YK.mk (y_callA (h1) ⟨rfl, rfl⟩) ?_ | refine YK.mk (y_callA (h2) ⟨rfl, rfl⟩) ?_)
    | (show YK _ _ _ _ _ _ _; refine YK.ofV vAuto ?_)
    | (show VK _ _ _ _ _ _ _; refine VK.mk vAuto ?_)
    | (show RS _ _ _ _ _ _ _ _; first | (refine nxRS ?_) | (refine nxRS1 fun _ => ?_))
    | (show RM _ _ _ _ _ _ _ _ _ _; first | (refine nxRM ?_) | (refine nxRM1 fun _ => ?_))
    | (show YG _ _ _ _ _ _ _ _; refine YG.mk (fun hb => by (try (have hc := And.left hb; have hb := And.right hb; rw [hc])); (try rw [hb]); first | exact (y_callA (h1) ⟨rfl, rfl⟩) | exact (y_callA (h2) ⟨rfl, rfl⟩) | exact V.y vAuto) ?_)
    | (show VG _ _ _ _ _ _ _ _; refine VG.mk (fun hb => by (try (have hc := And.left hb; have hb := And.right hb; rw [hc])); (try rw [hb]); exact vAuto) ?_)
    | (refine nxX ?_)
    | (refine G.condN rfl (fun hc => ?_) (fun hc => ?_) <;> (try first | exact False.elim hc | (exfalso; omega))))
    exact X.ret (vs := [_, _]) rfl ⟨rfl, rfl, rfl⟩ rfl (fun w hw => ⟨by unfold movedS; rw [if_pos (.inr hb2)], hw.ext⟩)
  | true =>
  rw [hb2] at h2
  have hi := instB_iff.1 hb1
  have h3 := instant_c (t + b)
  have hu : movedS t lon b = if instB (t + b) then (t + b, 0) else (0, 5) := by unfold movedS; rw [if_neg (by rw [hb1, hb2]; decide)]
  refine enter0 Tryz.func46 rfl rfl rfl ?_
  repeat' (first
    | (show YK _ _ _ _ _ _ _; first | refine YK.mk (y_callA (h1) ⟨rfl, rfl⟩) ?_ | refine YK.mk (y_callA (h2) ⟨rfl, rfl⟩) ?_ | refine YK.mk (y_callA (h3) ⟨rfl, rfl⟩) ?_)
    | (show YK _ _ _ _ _ _ _; refine YK.ofV vAuto ?_)
    | (show VK _ _ _ _ _ _ _; refine VK.mk vAuto ?_)
    | (show RS _ _ _ _ _ _ _ _; first | (refine nxRS ?_) | (refine nxRS1 fun _ => ?_))
    | (show RM _ _ _ _ _ _ _ _ _ _; first | (refine nxRM ?_) | (refine nxRM1 fun _ => ?_))
    | (show YG _ _ _ _ _ _ _ _; refine YG.mk (fun hb => by (try (have hc := And.left hb; have hb := And.right hb; rw [hc])); (try rw [hb]); first | exact (y_callA (h1) ⟨rfl, rfl⟩) | exact (y_callA (h2) ⟨rfl, rfl⟩) | exact (y_callA (h3) ⟨rfl, rfl⟩) | exact V.y vAuto) ?_)
    | (show VG _ _ _ _ _ _ _ _; refine VG.mk (fun hb => by (try (have hc := And.left hb; have hb := And.right hb; rw [hc])); (try rw [hb]); exact vAuto) ?_)
    | (refine nxX ?_)
    | (refine G.condN rfl (fun hc => ?_) (fun hc => ?_) <;> (try first | exact False.elim hc | (exfalso; omega))))
  · exact X.ret (vs := [_, _]) rfl ⟨rfl, rfl, rfl⟩ rfl (fun w hw => ⟨by rw [hu, hc]; rfl, hw.ext⟩)
  · exact X.ret (vs := [_, _]) rfl ⟨rfl, rfl, rfl⟩ rfl (fun w hw => ⟨by rw [hu, hc]; rfl, hw.ext⟩)
end Go.Proofs.YtpnfmbfehbnljaaGreatDoor
