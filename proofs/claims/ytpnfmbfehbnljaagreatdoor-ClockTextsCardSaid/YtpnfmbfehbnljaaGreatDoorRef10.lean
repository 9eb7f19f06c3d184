/- The clock's reference functions on numbers: what each returns. -/
import Derived.Test.YtpnfmbfehbnljaaGreatDoorClock2
set_option linter.unusedVariables false
set_option maxHeartbeats 4000000
namespace Go.Proofs.YtpnfmbfehbnljaaGreatDoor
open Go.RowKit

theorem rinstant_c (n : Int) : Cont Tryz.prog 40 [.int .i64 n] (.bool (instB n)) := fun w => by
  refine enter0 Tryz.func40 rfl rfl rfl ?_
  repeat' (first
    | (refine nxV ?_)
    | (show RS _ _ _ _ _ _ _ _; first | (refine nxRS ?_) | (refine nxRS1 fun _ => ?_))
    | (show RM _ _ _ _ _ _ _ _ _ _; first | (refine nxRM ?_) | (refine nxRM1 fun _ => ?_))
    | (refine nxG ?_)
    | (refine nxX ?_)
    | (refine G.condN rfl (fun hc => ?_) (fun hc => ?_) <;> (try first | exact False.elim hc | (exfalso; omega))))
  exact X.ret (vs := [_]) rfl ⟨rfl, rfl⟩ rfl (fun w hw => ⟨rfl, hw.ext⟩)
theorem rlongitude_c (n : Int) : Cont Tryz.prog 20 [.int .i64 n] (.bool (lonB n)) := fun w => by
  refine enter0 Tryz.func20 rfl rfl rfl ?_
  repeat' (first
    | (refine nxV ?_)
    | (show RS _ _ _ _ _ _ _ _; first | (refine nxRS ?_) | (refine nxRS1 fun _ => ?_))
    | (show RM _ _ _ _ _ _ _ _ _ _; first | (refine nxRM ?_) | (refine nxRM1 fun _ => ?_))
    | (refine nxG ?_)
    | (refine nxX ?_)
    | (refine G.condN rfl (fun hc => ?_) (fun hc => ?_) <;> (try first | exact False.elim hc | (exfalso; omega))))
  exact X.ret (vs := [_]) rfl ⟨rfl, rfl⟩ rfl (fun w hw => ⟨rfl, hw.ext⟩)
theorem rvalidT_c (lo hi : Int) : Cont Tryz.prog 16 [timeV lo hi] (.bool (validT lo hi)) := fun w => by
  refine enter0 Tryz.func16 rfl rfl rfl ?_
  repeat' (first
    | (show YK _ _ _ _ _ _ _; first | refine YK.mk (y_callA (rinstant_c _) ⟨rfl, rfl⟩) ?_)
    | (show YK _ _ _ _ _ _ _; refine YK.ofV vAuto ?_)
    | (show VK _ _ _ _ _ _ _; refine VK.mk vAuto ?_)
    | (show RS _ _ _ _ _ _ _ _; first | (refine nxRS ?_) | (refine nxRS1 fun _ => ?_))
    | (show RM _ _ _ _ _ _ _ _ _ _; first | (refine nxRM ?_) | (refine nxRM1 fun _ => ?_))
    | (show YG _ _ _ _ _ _ _ _; refine YG.mk (fun hb => by (try (have hc := And.left hb; have hb := And.right hb; rw [hc])); (try rw [hb]); first | exact (y_callA (rinstant_c _) ⟨rfl, rfl⟩) | exact V.y vAuto) ?_)
    | (show VG _ _ _ _ _ _ _ _; refine VG.mk (fun hb => by (try (have hc := And.left hb; have hb := And.right hb; rw [hc])); (try rw [hb]); exact vAuto) ?_)
    | (refine nxX ?_)
    | (refine G.condN rfl (fun hc => ?_) (fun hc => ?_) <;> (try first | exact False.elim hc | (exfalso; omega))))
  exact X.ret (vs := [_]) rfl ⟨rfl, rfl⟩ rfl (fun w hw => ⟨rfl, hw.ext⟩)
theorem ceil_eq {n d : Int} (h : 0 < d) : (0 < n.tmod d → n.tdiv d + 1 = -(-n / d)) ∧ (n.tmod d ≤ 0 → n.tdiv d = -(-n / d)) := by
  have g := floor_eq (n := -n) h
  rw [Int.neg_tmod, Int.neg_tdiv] at g
  refine ⟨fun hp => ?_, fun hp => ?_⟩
  · have := (g.1 (by omega)).1; omega
  · have := (g.2 (by omega)).1; omega
theorem rfloor_c {n d : Int} (h : I64 n ∧ 0 < d ∧ d ≤ 1000000000000) : Cont Tryz.prog 41 [.int .i64 n, .int .i64 d] (.int .i64 (n / d)) := fun w => by
  have e3 := Int.emod_nonneg n (show d ≠ 0 by omega)
  have e4 := Int.emod_lt_of_pos n h.2.1
  have e5 := ediv_in (k := 9223372036854775808) h.2.1 (by omega) (by omega) (a := n)
  have e6 : n / d ≤ 9223372036854775807 := by
    have := ediv_in (k := 9223372036854775807) h.2.1 (show -9223372036854775807 ≤ max n (-9223372036854775807) by omega) (by omega)
    exact Int.le_trans (Int.ediv_le_ediv h.2.1 (show n ≤ max n (-9223372036854775807) by omega)) this.2
  refine enter0 Tryz.func41 rfl rfl rfl ?_
  repeat' (first
    | (refine nxV ?_)
    | (show RS _ _ _ _ _ _ _ _; first | (refine nxRS ?_) | (refine nxRS1 fun _ => ?_))
    | (show RM _ _ _ _ _ _ _ _ _ _; first | (refine nxRM ?_) | (refine nxRM1 fun _ => ?_))
    | (refine nxG ?_)
    | (refine nxX ?_)
    | (refine G.condN rfl (fun hc => ?_) (fun hc => ?_) <;> (try first | exact False.elim hc | (exfalso; omega))))
  · obtain ⟨g1, g2, g3⟩ := (floor_eq h.2.1).1 hc
    have g4 := Int.ediv_neg_of_neg_of_pos g3 h.2.1
    exact X.ret (vs := [_]) rfl ⟨rfl, rfl⟩ rfl (fun w hw => ⟨by rw [IntWalk.i64_in (n.tdiv d) (by omega), IntWalk.i64_in (n.tdiv d - 1) (by omega), g1], hw.ext⟩)
  · obtain ⟨g1, g2⟩ := (floor_eq h.2.1).2 hc
    exact X.ret (vs := [_]) rfl ⟨rfl, rfl⟩ rfl (fun w hw => ⟨by rw [IntWalk.i64_in (n.tdiv d) (by omega), g1], hw.ext⟩)
end Go.Proofs.YtpnfmbfehbnljaaGreatDoor
