/- The clock's reference Parse: the ways through. -/
import Derived.Test.YtpnfmbfehbnljaaGreatDoorRefT10
set_option linter.unusedVariables false
set_option maxHeartbeats 4000000
namespace Go.Proofs.YtpnfmbfehbnljaaGreatDoor
open Go.RowKit

theorem rp_len (l : List UInt8) (hl : l.length ≠ 19 ∧ l.length ≠ 23) : Cont Tryz.prog 10 [strV l] (numE 0 7) := fun w => by
  refine enter0 Tryz.func10 rfl rfl rfl ?_
  repeat' (first
    | (refine nxV ?_)
    | (show RS _ _ _ _ _ _ _ _; first | (refine nxRS ?_) | (refine nxRS1 fun _ => ?_))
    | (show RM _ _ _ _ _ _ _ _ _ _; first | (refine nxRM ?_) | (refine nxRM1 fun _ => ?_))
    | (refine nxG ?_)
    | (refine nxVS ?_)
    | (refine nxGS ?_)
    | (refine nxX ?_)
    | (refine G.condN rfl (fun hc => ?_) (fun hc => ?_) <;> (try first | exact False.elim hc | (exfalso; omega))))
  all_goals first | (exfalso; omega) | exact X.ret (vs := [_, _]) rfl ⟨rfl, rfl, rfl⟩ rfl (fun w hw => ⟨rfl, hw.ext⟩)
theorem rp_none (l : List UInt8) {y m d h mi s : Int} {a b c : Bool} (hl : l.length = 19 ∨ l.length = 23) (p0 : Cont Tryz.prog 32 [strV (l.take 10)] (.tuple [dateV y m d, .bool false].toArray)) (p1 : Cont Tryz.prog 33 [strV ((l.drop 11).take 2), .int .i64 2] (.tuple [.int .i64 h, .bool a].toArray)) (p2 : Cont Tryz.prog 33 [strV ((l.drop 14).take 2), .int .i64 2] (.tuple [.int .i64 mi, .bool b].toArray)) (p3 : Cont Tryz.prog 33 [strV ((l.drop 17).take 2), .int .i64 2] (.tuple [.int .i64 s, .bool c].toArray)) : Cont Tryz.prog 10 [strV l] (numE 0 7) := fun w => by
  refine enter0 Tryz.func10 rfl rfl rfl ?_
  repeat' (first
    | (show YK _ _ _ _ _ _ _; first | refine YK.mk (y_callA (p0) ⟨rfl, rfl⟩) ?_ | refine YK.mk (y_callA (p1) ⟨rfl, rfl, rfl⟩) ?_ | refine YK.mk (y_callA (p2) ⟨rfl, rfl, rfl⟩) ?_ | refine YK.mk (y_callA (p3) ⟨rfl, rfl, rfl⟩) ?_)
    | (show YK _ _ _ _ _ _ _; refine YK.ofV vAuto ?_)
    | (show VK _ _ _ _ _ _ _; refine VK.mk vAuto ?_)
    | (show RS _ _ _ _ _ _ _ _; first | (refine nxRS ?_) | (refine nxRS1 fun _ => ?_))
    | (show RM _ _ _ _ _ _ _ _ _ _; first | (refine nxRM ?_) | (refine nxRM1 fun _ => ?_))
    | (show YG _ _ _ _ _ _ _ _; refine YG.mk (fun hb => by (try (have hc := And.left hb; have hb := And.right hb; rw [hc])); (try rw [hb]); first | exact (y_callA (p0) ⟨rfl, rfl⟩) | exact (y_callA (p1) ⟨rfl, rfl, rfl⟩) | exact (y_callA (p2) ⟨rfl, rfl, rfl⟩) | exact (y_callA (p3) ⟨rfl, rfl, rfl⟩) | exact V.y vAuto) ?_)
    | (show VG _ _ _ _ _ _ _ _; refine VG.mk (fun hb => by (try (have hc := And.left hb; have hb := And.right hb; rw [hc])); (try rw [hb]); exact vAuto) ?_)
    | (refine nxVS ?_)
    | (refine nxGS ?_)
    | (refine nxX ?_)
    | (refine G.condN rfl (fun hc => ?_) (fun hc => ?_) <;> (try first | exact False.elim hc | (exfalso; omega))))
  all_goals first | (exfalso; omega) | exact X.ret (vs := [_, _]) rfl ⟨rfl, rfl, rfl⟩ rfl (fun w hw => ⟨rfl, hw.ext⟩)
theorem rp_bad_b0 (l : List UInt8) {y m d h mi s : Int} {b c : Bool} (hl : l.length = 19 ∨ l.length = 23) (p0 : Cont Tryz.prog 32 [strV (l.take 10)] (.tuple [dateV y m d, .bool true].toArray)) (p1 : Cont Tryz.prog 33 [strV ((l.drop 11).take 2), .int .i64 2] (.tuple [.int .i64 h, .bool false].toArray)) (p2 : Cont Tryz.prog 33 [strV ((l.drop 14).take 2), .int .i64 2] (.tuple [.int .i64 mi, .bool b].toArray)) (p3 : Cont Tryz.prog 33 [strV ((l.drop 17).take 2), .int .i64 2] (.tuple [.int .i64 s, .bool c].toArray)) : Cont Tryz.prog 10 [strV l] (numE 0 7) := fun w => by
  refine enter0 Tryz.func10 rfl rfl rfl ?_
  repeat' (first
    | (show YK _ _ _ _ _ _ _; first | refine YK.mk (y_callA (p0) ⟨rfl, rfl⟩) ?_ | refine YK.mk (y_callA (p1) ⟨rfl, rfl, rfl⟩) ?_ | refine YK.mk (y_callA (p2) ⟨rfl, rfl, rfl⟩) ?_ | refine YK.mk (y_callA (p3) ⟨rfl, rfl, rfl⟩) ?_)
    | (show YK _ _ _ _ _ _ _; refine YK.ofV vAuto ?_)
    | (show VK _ _ _ _ _ _ _; refine VK.mk vAuto ?_)
    | (show RS _ _ _ _ _ _ _ _; first | (refine nxRS ?_) | (refine nxRS1 fun _ => ?_))
    | (show RM _ _ _ _ _ _ _ _ _ _; first | (refine nxRM ?_) | (refine nxRM1 fun _ => ?_))
    | (show YG _ _ _ _ _ _ _ _; refine YG.mk (fun hb => by (try (have hc := And.left hb; have hb := And.right hb; rw [hc])); (try rw [hb]); first | exact (y_callA (p0) ⟨rfl, rfl⟩) | exact (y_callA (p1) ⟨rfl, rfl, rfl⟩) | exact (y_callA (p2) ⟨rfl, rfl, rfl⟩) | exact (y_callA (p3) ⟨rfl, rfl, rfl⟩) | exact V.y vAuto) ?_)
    | (show VG _ _ _ _ _ _ _ _; refine VG.mk (fun hb => by (try (have hc := And.left hb; have hb := And.right hb; rw [hc])); (try rw [hb]); exact vAuto) ?_)
    | (refine nxVS ?_)
    | (refine nxGS ?_)
    | (refine nxX ?_)
    | (refine G.condN rfl (fun hc => ?_) (fun hc => ?_) <;> (try first | exact False.elim hc | (exfalso; omega))))
  exact X.ret (vs := [_, _]) rfl ⟨rfl, rfl, rfl⟩ rfl (fun w hw => ⟨rfl, hw.ext⟩)
theorem rp_bad_b1 (l : List UInt8) {y m d h mi s : Int} {c : Bool} (hl : l.length = 19 ∨ l.length = 23) (p0 : Cont Tryz.prog 32 [strV (l.take 10)] (.tuple [dateV y m d, .bool true].toArray)) (p1 : Cont Tryz.prog 33 [strV ((l.drop 11).take 2), .int .i64 2] (.tuple [.int .i64 h, .bool true].toArray)) (p2 : Cont Tryz.prog 33 [strV ((l.drop 14).take 2), .int .i64 2] (.tuple [.int .i64 mi, .bool false].toArray)) (p3 : Cont Tryz.prog 33 [strV ((l.drop 17).take 2), .int .i64 2] (.tuple [.int .i64 s, .bool c].toArray)) : Cont Tryz.prog 10 [strV l] (numE 0 7) := fun w => by
  refine enter0 Tryz.func10 rfl rfl rfl ?_
  repeat' (first
    | (show YK _ _ _ _ _ _ _; first | refine YK.mk (y_callA (p0) ⟨rfl, rfl⟩) ?_ | refine YK.mk (y_callA (p1) ⟨rfl, rfl, rfl⟩) ?_ | refine YK.mk (y_callA (p2) ⟨rfl, rfl, rfl⟩) ?_ | refine YK.mk (y_callA (p3) ⟨rfl, rfl, rfl⟩) ?_)
    | (show YK _ _ _ _ _ _ _; refine YK.ofV vAuto ?_)
    | (show VK _ _ _ _ _ _ _; refine VK.mk vAuto ?_)
    | (show RS _ _ _ _ _ _ _ _; first | (refine nxRS ?_) | (refine nxRS1 fun _ => ?_))
    | (show RM _ _ _ _ _ _ _ _ _ _; first | (refine nxRM ?_) | (refine nxRM1 fun _ => ?_))
    | (show YG _ _ _ _ _ _ _ _; refine YG.mk (fun hb => by (try (have hc := And.left hb; have hb := And.right hb; rw [hc])); (try rw [hb]); first | exact (y_callA (p0) ⟨rfl, rfl⟩) | exact (y_callA (p1) ⟨rfl, rfl, rfl⟩) | exact (y_callA (p2) ⟨rfl, rfl, rfl⟩) | exact (y_callA (p3) ⟨rfl, rfl, rfl⟩) | exact V.y vAuto) ?_)
    | (show VG _ _ _ _ _ _ _ _; refine VG.mk (fun hb => by (try (have hc := And.left hb; have hb := And.right hb; rw [hc])); (try rw [hb]); exact vAuto) ?_)
    | (refine nxVS ?_)
    | (refine nxGS ?_)
    | (refine nxX ?_)
    | (refine G.condN rfl (fun hc => ?_) (fun hc => ?_) <;> (try first | exact False.elim hc | (exfalso; omega))))
  exact X.ret (vs := [_, _]) rfl ⟨rfl, rfl, rfl⟩ rfl (fun w hw => ⟨rfl, hw.ext⟩)
theorem rp_bad_b2 (l : List UInt8) {y m d h mi s : Int}  (hl : l.length = 19 ∨ l.length = 23) (p0 : Cont Tryz.prog 32 [strV (l.take 10)] (.tuple [dateV y m d, .bool true].toArray)) (p1 : Cont Tryz.prog 33 [strV ((l.drop 11).take 2), .int .i64 2] (.tuple [.int .i64 h, .bool true].toArray)) (p2 : Cont Tryz.prog 33 [strV ((l.drop 14).take 2), .int .i64 2] (.tuple [.int .i64 mi, .bool true].toArray)) (p3 : Cont Tryz.prog 33 [strV ((l.drop 17).take 2), .int .i64 2] (.tuple [.int .i64 s, .bool false].toArray)) : Cont Tryz.prog 10 [strV l] (numE 0 7) := fun w => by
  refine enter0 Tryz.func10 rfl rfl rfl ?_
  repeat' (first
    | (show YK _ _ _ _ _ _ _; first | refine YK.mk (y_callA (p0) ⟨rfl, rfl⟩) ?_ | refine YK.mk (y_callA (p1) ⟨rfl, rfl, rfl⟩) ?_ | refine YK.mk (y_callA (p2) ⟨rfl, rfl, rfl⟩) ?_ | refine YK.mk (y_callA (p3) ⟨rfl, rfl, rfl⟩) ?_)
    | (show YK _ _ _ _ _ _ _; refine YK.ofV vAuto ?_)
    | (show VK _ _ _ _ _ _ _; refine VK.mk vAuto ?_)
    | (show RS _ _ _ _ _ _ _ _; first | (refine nxRS ?_) | (refine nxRS1 fun _ => ?_))
    | (show RM _ _ _ _ _ _ _ _ _ _; first | (refine nxRM ?_) | (refine nxRM1 fun _ => ?_))
    | (show YG _ _ _ _ _ _ _ _; refine YG.mk (fun hb => by (try (have hc := And.left hb; have hb := And.right hb; rw [hc])); (try rw [hb]); first | exact (y_callA (p0) ⟨rfl, rfl⟩) | exact (y_callA (p1) ⟨rfl, rfl, rfl⟩) | exact (y_callA (p2) ⟨rfl, rfl, rfl⟩) | exact (y_callA (p3) ⟨rfl, rfl, rfl⟩) | exact V.y vAuto) ?_)
    | (show VG _ _ _ _ _ _ _ _; refine VG.mk (fun hb => by (try (have hc := And.left hb; have hb := And.right hb; rw [hc])); (try rw [hb]); exact vAuto) ?_)
    | (refine nxVS ?_)
    | (refine nxGS ?_)
    | (refine nxX ?_)
    | (refine G.condN rfl (fun hc => ?_) (fun hc => ?_) <;> (try first | exact False.elim hc | (exfalso; omega))))
  exact X.ret (vs := [_, _]) rfl ⟨rfl, rfl, rfl⟩ rfl (fun w hw => ⟨rfl, hw.ext⟩)
theorem rp_bad_g0 (l : List UInt8) {y m d h mi s : Int} (hl : l.length = 19 ∨ l.length = 23) (p0 : Cont Tryz.prog 32 [strV (l.take 10)] (.tuple [dateV y m d, .bool true].toArray)) (p1 : Cont Tryz.prog 33 [strV ((l.drop 11).take 2), .int .i64 2] (.tuple [.int .i64 h, .bool true].toArray)) (p2 : Cont Tryz.prog 33 [strV ((l.drop 14).take 2), .int .i64 2] (.tuple [.int .i64 mi, .bool true].toArray)) (p3 : Cont Tryz.prog 33 [strV ((l.drop 17).take 2), .int .i64 2] (.tuple [.int .i64 s, .bool true].toArray)) (g : ((nth l 10).toNat : Int) ≠ 32) : Cont Tryz.prog 10 [strV l] (numE 0 7) := fun w => by
  refine enter0 Tryz.func10 rfl rfl rfl ?_
  repeat' (first
    | (show YK _ _ _ _ _ _ _; first | refine YK.mk (y_callA (p0) ⟨rfl, rfl⟩) ?_ | refine YK.mk (y_callA (p1) ⟨rfl, rfl, rfl⟩) ?_ | refine YK.mk (y_callA (p2) ⟨rfl, rfl, rfl⟩) ?_ | refine YK.mk (y_callA (p3) ⟨rfl, rfl, rfl⟩) ?_)
    | (show YK _ _ _ _ _ _ _; refine YK.ofV vAuto ?_)
    | (show VK _ _ _ _ _ _ _; refine VK.mk vAuto ?_)
    | (show RS _ _ _ _ _ _ _ _; first | (refine nxRS ?_) | (refine nxRS1 fun _ => ?_))
    | (show RM _ _ _ _ _ _ _ _ _ _; first | (refine nxRM ?_) | (refine nxRM1 fun _ => ?_))
    | (show YG _ _ _ _ _ _ _ _; refine YG.mk (fun hb => by (try (have hc := And.left hb; have hb := And.right hb; rw [hc])); (try rw [hb]); first | exact (y_callA (p0) ⟨rfl, rfl⟩) | exact (y_callA (p1) ⟨rfl, rfl, rfl⟩) | exact (y_callA (p2) ⟨rfl, rfl, rfl⟩) | exact (y_callA (p3) ⟨rfl, rfl, rfl⟩) | exact V.y vAuto) ?_)
    | (show VG _ _ _ _ _ _ _ _; refine VG.mk (fun hb => by (try (have hc := And.left hb; have hb := And.right hb; rw [hc])); (try rw [hb]); exact vAuto) ?_)
    | (refine nxVS ?_)
    | (refine nxGS ?_)
    | (refine nxX ?_)
    | (refine G.condN rfl (fun hc => ?_) (fun hc => ?_) <;> (try first | exact False.elim hc | (exfalso; omega))))
  exact X.ret (vs := [_, _]) rfl ⟨rfl, rfl, rfl⟩ rfl (fun w hw => ⟨rfl, hw.ext⟩)
theorem rp_bad_g1 (l : List UInt8) {y m d h mi s : Int} (hl : l.length = 19 ∨ l.length = 23) (p0 : Cont Tryz.prog 32 [strV (l.take 10)] (.tuple [dateV y m d, .bool true].toArray)) (p1 : Cont Tryz.prog 33 [strV ((l.drop 11).take 2), .int .i64 2] (.tuple [.int .i64 h, .bool true].toArray)) (p2 : Cont Tryz.prog 33 [strV ((l.drop 14).take 2), .int .i64 2] (.tuple [.int .i64 mi, .bool true].toArray)) (p3 : Cont Tryz.prog 33 [strV ((l.drop 17).take 2), .int .i64 2] (.tuple [.int .i64 s, .bool true].toArray)) (g : ((nth l 13).toNat : Int) ≠ 58) : Cont Tryz.prog 10 [strV l] (numE 0 7) := fun w => by
  refine enter0 Tryz.func10 rfl rfl rfl ?_
  repeat' (first
    | (show YK _ _ _ _ _ _ _; first | refine YK.mk (y_callA (p0) ⟨rfl, rfl⟩) ?_ | refine YK.mk (y_callA (p1) ⟨rfl, rfl, rfl⟩) ?_ | refine YK.mk (y_callA (p2) ⟨rfl, rfl, rfl⟩) ?_ | refine YK.mk (y_callA (p3) ⟨rfl, rfl, rfl⟩) ?_)
    | (show YK _ _ _ _ _ _ _; refine YK.ofV vAuto ?_)
    | (show VK _ _ _ _ _ _ _; refine VK.mk vAuto ?_)
    | (show RS _ _ _ _ _ _ _ _; first | (refine nxRS ?_) | (refine nxRS1 fun _ => ?_))
    | (show RM _ _ _ _ _ _ _ _ _ _; first | (refine nxRM ?_) | (refine nxRM1 fun _ => ?_))
    | (show YG _ _ _ _ _ _ _ _; refine YG.mk (fun hb => by (try (have hc := And.left hb; have hb := And.right hb; rw [hc])); (try rw [hb]); first | exact (y_callA (p0) ⟨rfl, rfl⟩) | exact (y_callA (p1) ⟨rfl, rfl, rfl⟩) | exact (y_callA (p2) ⟨rfl, rfl, rfl⟩) | exact (y_callA (p3) ⟨rfl, rfl, rfl⟩) | exact V.y vAuto) ?_)
    | (show VG _ _ _ _ _ _ _ _; refine VG.mk (fun hb => by (try (have hc := And.left hb; have hb := And.right hb; rw [hc])); (try rw [hb]); exact vAuto) ?_)
    | (refine nxVS ?_)
    | (refine nxGS ?_)
    | (refine nxX ?_)
    | (refine G.condN rfl (fun hc => ?_) (fun hc => ?_) <;> (try first | exact False.elim hc | (exfalso; omega))))
  exact X.ret (vs := [_, _]) rfl ⟨rfl, rfl, rfl⟩ rfl (fun w hw => ⟨rfl, hw.ext⟩)
theorem rp_bad_g2 (l : List UInt8) {y m d h mi s : Int} (hl : l.length = 19 ∨ l.length = 23) (p0 : Cont Tryz.prog 32 [strV (l.take 10)] (.tuple [dateV y m d, .bool true].toArray)) (p1 : Cont Tryz.prog 33 [strV ((l.drop 11).take 2), .int .i64 2] (.tuple [.int .i64 h, .bool true].toArray)) (p2 : Cont Tryz.prog 33 [strV ((l.drop 14).take 2), .int .i64 2] (.tuple [.int .i64 mi, .bool true].toArray)) (p3 : Cont Tryz.prog 33 [strV ((l.drop 17).take 2), .int .i64 2] (.tuple [.int .i64 s, .bool true].toArray)) (g : ((nth l 16).toNat : Int) ≠ 58) : Cont Tryz.prog 10 [strV l] (numE 0 7) := fun w => by
  refine enter0 Tryz.func10 rfl rfl rfl ?_
  repeat' (first
    | (show YK _ _ _ _ _ _ _; first | refine YK.mk (y_callA (p0) ⟨rfl, rfl⟩) ?_ | refine YK.mk (y_callA (p1) ⟨rfl, rfl, rfl⟩) ?_ | refine YK.mk (y_callA (p2) ⟨rfl, rfl, rfl⟩) ?_ | refine YK.mk (y_callA (p3) ⟨rfl, rfl, rfl⟩) ?_)
    | (show YK _ _ _ _ _ _ _; refine YK.ofV vAuto ?_)
    | (show VK _ _ _ _ _ _ _; refine VK.mk vAuto ?_)
    | (show RS _ _ _ _ _ _ _ _; first | (refine nxRS ?_) | (refine nxRS1 fun _ => ?_))
    | (show RM _ _ _ _ _ _ _ _ _ _; first | (refine nxRM ?_) | (refine nxRM1 fun _ => ?_))
    | (show YG _ _ _ _ _ _ _ _; refine YG.mk (fun hb => by (try (have hc := And.left hb; have hb := And.right hb; rw [hc])); (try rw [hb]); first | exact (y_callA (p0) ⟨rfl, rfl⟩) | exact (y_callA (p1) ⟨rfl, rfl, rfl⟩) | exact (y_callA (p2) ⟨rfl, rfl, rfl⟩) | exact (y_callA (p3) ⟨rfl, rfl, rfl⟩) | exact V.y vAuto) ?_)
    | (show VG _ _ _ _ _ _ _ _; refine VG.mk (fun hb => by (try (have hc := And.left hb; have hb := And.right hb; rw [hc])); (try rw [hb]); exact vAuto) ?_)
    | (refine nxVS ?_)
    | (refine nxGS ?_)
    | (refine nxX ?_)
    | (refine G.condN rfl (fun hc => ?_) (fun hc => ?_) <;> (try first | exact False.elim hc | (exfalso; omega))))
  exact X.ret (vs := [_, _]) rfl ⟨rfl, rfl, rfl⟩ rfl (fun w hw => ⟨rfl, hw.ext⟩)
theorem rp_bad_g3 (l : List UInt8) {y m d h mi s : Int} (hl : l.length = 19 ∨ l.length = 23) (p0 : Cont Tryz.prog 32 [strV (l.take 10)] (.tuple [dateV y m d, .bool true].toArray)) (p1 : Cont Tryz.prog 33 [strV ((l.drop 11).take 2), .int .i64 2] (.tuple [.int .i64 h, .bool true].toArray)) (p2 : Cont Tryz.prog 33 [strV ((l.drop 14).take 2), .int .i64 2] (.tuple [.int .i64 mi, .bool true].toArray)) (p3 : Cont Tryz.prog 33 [strV ((l.drop 17).take 2), .int .i64 2] (.tuple [.int .i64 s, .bool true].toArray)) (g : 23 < h) : Cont Tryz.prog 10 [strV l] (numE 0 7) := fun w => by
  refine enter0 Tryz.func10 rfl rfl rfl ?_
  repeat' (first
    | (show YK _ _ _ _ _ _ _; first | refine YK.mk (y_callA (p0) ⟨rfl, rfl⟩) ?_ | refine YK.mk (y_callA (p1) ⟨rfl, rfl, rfl⟩) ?_ | refine YK.mk (y_callA (p2) ⟨rfl, rfl, rfl⟩) ?_ | refine YK.mk (y_callA (p3) ⟨rfl, rfl, rfl⟩) ?_)
    | (show YK _ _ _ _ _ _ _; refine YK.ofV vAuto ?_)
    | (show VK _ _ _ _ _ _ _; refine VK.mk vAuto ?_)
    | (show RS _ _ _ _ _ _ _ _; first | (refine nxRS ?_) | (refine nxRS1 fun _ => ?_))
    | (show RM _ _ _ _ _ _ _ _ _ _; first | (refine nxRM ?_) | (refine nxRM1 fun _ => ?_))
    | (show YG _ _ _ _ _ _ _ _; refine YG.mk (fun hb => by (try (have hc := And.left hb; have hb := And.right hb; rw [hc])); (try rw [hb]); first | exact (y_callA (p0) ⟨rfl, rfl⟩) | exact (y_callA (p1) ⟨rfl, rfl, rfl⟩) | exact (y_callA (p2) ⟨rfl, rfl, rfl⟩) | exact (y_callA (p3) ⟨rfl, rfl, rfl⟩) | exact V.y vAuto) ?_)
    | (show VG _ _ _ _ _ _ _ _; refine VG.mk (fun hb => by (try (have hc := And.left hb; have hb := And.right hb; rw [hc])); (try rw [hb]); exact vAuto) ?_)
    | (refine nxVS ?_)
    | (refine nxGS ?_)
    | (refine nxX ?_)
    | (refine G.condN rfl (fun hc => ?_) (fun hc => ?_) <;> (try first | exact False.elim hc | (exfalso; omega))))
  exact X.ret (vs := [_, _]) rfl ⟨rfl, rfl, rfl⟩ rfl (fun w hw => ⟨rfl, hw.ext⟩)
theorem rp_bad_g4 (l : List UInt8) {y m d h mi s : Int} (hl : l.length = 19 ∨ l.length = 23) (p0 : Cont Tryz.prog 32 [strV (l.take 10)] (.tuple [dateV y m d, .bool true].toArray)) (p1 : Cont Tryz.prog 33 [strV ((l.drop 11).take 2), .int .i64 2] (.tuple [.int .i64 h, .bool true].toArray)) (p2 : Cont Tryz.prog 33 [strV ((l.drop 14).take 2), .int .i64 2] (.tuple [.int .i64 mi, .bool true].toArray)) (p3 : Cont Tryz.prog 33 [strV ((l.drop 17).take 2), .int .i64 2] (.tuple [.int .i64 s, .bool true].toArray)) (g : 59 < mi) : Cont Tryz.prog 10 [strV l] (numE 0 7) := fun w => by
  refine enter0 Tryz.func10 rfl rfl rfl ?_
  repeat' (first
    | (show YK _ _ _ _ _ _ _; first | refine YK.mk (y_callA (p0) ⟨rfl, rfl⟩) ?_ | refine YK.mk (y_callA (p1) ⟨rfl, rfl, rfl⟩) ?_ | refine YK.mk (y_callA (p2) ⟨rfl, rfl, rfl⟩) ?_ | refine YK.mk (y_callA (p3) ⟨rfl, rfl, rfl⟩) ?_)
    | (show YK _ _ _ _ _ _ _; refine YK.ofV vAuto ?_)
    | (show VK _ _ _ _ _ _ _; refine VK.mk vAuto ?_)
    | (show RS _ _ _ _ _ _ _ _; first | (refine nxRS ?_) | (refine nxRS1 fun _ => ?_))
    | (show RM _ _ _ _ _ _ _ _ _ _; first | (refine nxRM ?_) | (refine nxRM1 fun _ => ?_))
    | (show YG _ _ _ _ _ _ _ _; refine YG.mk (fun hb => by (try (have hc := And.left hb; have hb := And.right hb; rw [hc])); (try rw [hb]); first | exact (y_callA (p0) ⟨rfl, rfl⟩) | exact (y_callA (p1) ⟨rfl, rfl, rfl⟩) | exact (y_callA (p2) ⟨rfl, rfl, rfl⟩) | exact (y_callA (p3) ⟨rfl, rfl, rfl⟩) | exact V.y vAuto) ?_)
    | (show VG _ _ _ _ _ _ _ _; refine VG.mk (fun hb => by (try (have hc := And.left hb; have hb := And.right hb; rw [hc])); (try rw [hb]); exact vAuto) ?_)
    | (refine nxVS ?_)
    | (refine nxGS ?_)
    | (refine nxX ?_)
    | (refine G.condN rfl (fun hc => ?_) (fun hc => ?_) <;> (try first | exact False.elim hc | (exfalso; omega))))
  exact X.ret (vs := [_, _]) rfl ⟨rfl, rfl, rfl⟩ rfl (fun w hw => ⟨rfl, hw.ext⟩)
theorem rp_bad_g5 (l : List UInt8) {y m d h mi s : Int} (hl : l.length = 19 ∨ l.length = 23) (p0 : Cont Tryz.prog 32 [strV (l.take 10)] (.tuple [dateV y m d, .bool true].toArray)) (p1 : Cont Tryz.prog 33 [strV ((l.drop 11).take 2), .int .i64 2] (.tuple [.int .i64 h, .bool true].toArray)) (p2 : Cont Tryz.prog 33 [strV ((l.drop 14).take 2), .int .i64 2] (.tuple [.int .i64 mi, .bool true].toArray)) (p3 : Cont Tryz.prog 33 [strV ((l.drop 17).take 2), .int .i64 2] (.tuple [.int .i64 s, .bool true].toArray)) (g : 59 < s) : Cont Tryz.prog 10 [strV l] (numE 0 7) := fun w => by
  refine enter0 Tryz.func10 rfl rfl rfl ?_
  repeat' (first
    | (show YK _ _ _ _ _ _ _; first | refine YK.mk (y_callA (p0) ⟨rfl, rfl⟩) ?_ | refine YK.mk (y_callA (p1) ⟨rfl, rfl, rfl⟩) ?_ | refine YK.mk (y_callA (p2) ⟨rfl, rfl, rfl⟩) ?_ | refine YK.mk (y_callA (p3) ⟨rfl, rfl, rfl⟩) ?_)
    | (show YK _ _ _ _ _ _ _; refine YK.ofV vAuto ?_)
    | (show VK _ _ _ _ _ _ _; refine VK.mk vAuto ?_)
    | (show RS _ _ _ _ _ _ _ _; first | (refine nxRS ?_) | (refine nxRS1 fun _ => ?_))
    | (show RM _ _ _ _ _ _ _ _ _ _; first | (refine nxRM ?_) | (refine nxRM1 fun _ => ?_))
    | (show YG _ _ _ _ _ _ _ _; refine YG.mk (fun hb => by (try (have hc := And.left hb; have hb := And.right hb; rw [hc])); (try rw [hb]); first | exact (y_callA (p0) ⟨rfl, rfl⟩) | exact (y_callA (p1) ⟨rfl, rfl, rfl⟩) | exact (y_callA (p2) ⟨rfl, rfl, rfl⟩) | exact (y_callA (p3) ⟨rfl, rfl, rfl⟩) | exact V.y vAuto) ?_)
    | (show VG _ _ _ _ _ _ _ _; refine VG.mk (fun hb => by (try (have hc := And.left hb; have hb := And.right hb; rw [hc])); (try rw [hb]); exact vAuto) ?_)
    | (refine nxVS ?_)
    | (refine nxGS ?_)
    | (refine nxX ?_)
    | (refine G.condN rfl (fun hc => ?_) (fun hc => ?_) <;> (try first | exact False.elim hc | (exfalso; omega))))
  exact X.ret (vs := [_, _]) rfl ⟨rfl, rfl, rfl⟩ rfl (fun w hw => ⟨rfl, hw.ext⟩)
theorem rp_bad (l : List UInt8) {y m d h mi s : Int} {a b c : Bool} (hl : l.length = 19 ∨ l.length = 23) (p0 : Cont Tryz.prog 32 [strV (l.take 10)] (.tuple [dateV y m d, .bool true].toArray)) (p1 : Cont Tryz.prog 33 [strV ((l.drop 11).take 2), .int .i64 2] (.tuple [.int .i64 h, .bool a].toArray)) (p2 : Cont Tryz.prog 33 [strV ((l.drop 14).take 2), .int .i64 2] (.tuple [.int .i64 mi, .bool b].toArray)) (p3 : Cont Tryz.prog 33 [strV ((l.drop 17).take 2), .int .i64 2] (.tuple [.int .i64 s, .bool c].toArray)) (hg : ¬ ((a = true ∧ b = true ∧ c = true) ∧ (((nth l 10).toNat : Int) = 32 ∧ ((nth l 13).toNat : Int) = 58 ∧ ((nth l 16).toNat : Int) = 58) ∧ h ≤ 23 ∧ mi ≤ 59 ∧ s ≤ 59)) : Cont Tryz.prog 10 [strV l] (numE 0 7) := by
  cases a with
  | false => exact rp_bad_b0 l hl p0 p1 p2 p3
  | true =>
  cases b with
  | false => exact rp_bad_b1 l hl p0 p1 p2 p3
  | true =>
  cases c with
  | false => exact rp_bad_b2 l hl p0 p1 p2 p3
  | true =>
  have hg2 : ((nth l 10).toNat : Int) ≠ 32 ∨ ((nth l 13).toNat : Int) ≠ 58 ∨ ((nth l 16).toNat : Int) ≠ 58 ∨ 23 < h ∨ 59 < mi ∨ 59 < s := by
    apply Classical.byContradiction
    intro g
    exact hg ⟨⟨rfl, rfl, rfl⟩, by omega⟩
  rcases hg2 with g | g | g | g | g | g
  · exact rp_bad_g0 l hl p0 p1 p2 p3 g
  · exact rp_bad_g1 l hl p0 p1 p2 p3 g
  · exact rp_bad_g2 l hl p0 p1 p2 p3 g
  · exact rp_bad_g3 l hl p0 p1 p2 p3 g
  · exact rp_bad_g4 l hl p0 p1 p2 p3 g
  · exact rp_bad_g5 l hl p0 p1 p2 p3 g
theorem rp_19 (l : List UInt8) {y m d h mi s r e : Int} (hl : l.length = 19) (p0 : Cont Tryz.prog 32 [strV (l.take 10)] (.tuple [dateV y m d, .bool true].toArray)) (p1 : Cont Tryz.prog 33 [strV ((l.drop 11).take 2), .int .i64 2] (.tuple [.int .i64 h, .bool true].toArray)) (p2 : Cont Tryz.prog 33 [strV ((l.drop 14).take 2), .int .i64 2] (.tuple [.int .i64 mi, .bool true].toArray)) (p3 : Cont Tryz.prog 33 [strV ((l.drop 17).take 2), .int .i64 2] (.tuple [.int .i64 s, .bool true].toArray)) (g10 : ((nth l 10).toNat : Int) = 32) (g13 : ((nth l 13).toNat : Int) = 58) (g16 : ((nth l 16).toNat : Int) = 58) (hh : 0 ≤ h ∧ h ≤ 23) (hm : 0 ≤ mi ∧ mi ≤ 59) (hs : 0 ≤ s ∧ s ≤ 59) (q : Cont Tryz.prog 13 [dateV y m d, .int .i64 (h * 3600000 + mi * 60000 + s * 1000 + 0)] (numE r e)) : Cont Tryz.prog 10 [strV l] (numE r e) := fun w => by
  refine enter0 Tryz.func10 rfl rfl rfl ?_
  repeat' (first
    | (show YK _ _ _ _ _ _ _; first | refine YK.mk (y_callA (p0) ⟨rfl, rfl⟩) ?_ | refine YK.mk (y_callA (p1) ⟨rfl, rfl, rfl⟩) ?_ | refine YK.mk (y_callA (p2) ⟨rfl, rfl, rfl⟩) ?_ | refine YK.mk (y_callA (p3) ⟨rfl, rfl, rfl⟩) ?_ | refine YK.mk (y_callA (q) ⟨rfl, rfl, rfl⟩) ?_)
    | (show YK _ _ _ _ _ _ _; refine YK.ofV vAuto ?_)
    | (show VK _ _ _ _ _ _ _; refine VK.mk vAuto ?_)
    | (show RS _ _ _ _ _ _ _ _; first | (refine nxRS ?_) | (refine nxRS1 fun _ => ?_))
    | (show RM _ _ _ _ _ _ _ _ _ _; first | (refine nxRM ?_) | (refine nxRM1 fun _ => ?_))
    | (show YG _ _ _ _ _ _ _ _; refine YG.mk (fun hb => by (try (have hc := And.left hb; have hb := And.right hb; rw [hc])); (try rw [hb]); first | exact (y_callA (p0) ⟨rfl, rfl⟩) | exact (y_callA (p1) ⟨rfl, rfl, rfl⟩) | exact (y_callA (p2) ⟨rfl, rfl, rfl⟩) | exact (y_callA (p3) ⟨rfl, rfl, rfl⟩) | exact (y_callA (q) ⟨rfl, rfl, rfl⟩) | exact V.y vAuto) ?_)
    | (show VG _ _ _ _ _ _ _ _; refine VG.mk (fun hb => by (try (have hc := And.left hb; have hb := And.right hb; rw [hc])); (try rw [hb]); exact vAuto) ?_)
    | (refine nxVS ?_)
    | (refine nxGS ?_)
    | (refine nxX ?_)
    | (refine G.condN rfl (fun hc => ?_) (fun hc => ?_) <;> (try first | exact False.elim hc | (exfalso; omega))))
  exact X.ret (vs := [_, _]) rfl ⟨rfl, rfl, rfl⟩ rfl (fun w hw => ⟨rfl, hw.ext⟩)
theorem rp_23 (l : List UInt8) {y m d h mi s n r e : Int} (hl : l.length = 23) (p0 : Cont Tryz.prog 32 [strV (l.take 10)] (.tuple [dateV y m d, .bool true].toArray)) (p1 : Cont Tryz.prog 33 [strV ((l.drop 11).take 2), .int .i64 2] (.tuple [.int .i64 h, .bool true].toArray)) (p2 : Cont Tryz.prog 33 [strV ((l.drop 14).take 2), .int .i64 2] (.tuple [.int .i64 mi, .bool true].toArray)) (p3 : Cont Tryz.prog 33 [strV ((l.drop 17).take 2), .int .i64 2] (.tuple [.int .i64 s, .bool true].toArray)) (g10 : ((nth l 10).toNat : Int) = 32) (g13 : ((nth l 13).toNat : Int) = 58) (g16 : ((nth l 16).toNat : Int) = 58) (hh : 0 ≤ h ∧ h ≤ 23) (hm : 0 ≤ mi ∧ mi ≤ 59) (hs : 0 ≤ s ∧ s ≤ 59) (p4 : Cont Tryz.prog 33 [strV (l.drop 20), .int .i64 3] (.tuple [.int .i64 n, .bool true].toArray)) (g19 : ((nth l 19).toNat : Int) = 46) (hn : 1 ≤ n ∧ n ≤ 999) (q : Cont Tryz.prog 13 [dateV y m d, .int .i64 (h * 3600000 + mi * 60000 + s * 1000 + n)] (numE r e)) : Cont Tryz.prog 10 [strV l] (numE r e) := fun w => by
  refine enter0 Tryz.func10 rfl rfl rfl ?_
  repeat' (first
    | (show YK _ _ _ _ _ _ _; first | refine YK.mk (y_callA (p0) ⟨rfl, rfl⟩) ?_ | refine YK.mk (y_callA (p1) ⟨rfl, rfl, rfl⟩) ?_ | refine YK.mk (y_callA (p2) ⟨rfl, rfl, rfl⟩) ?_ | refine YK.mk (y_callA (p3) ⟨rfl, rfl, rfl⟩) ?_ | refine YK.mk (y_callA (p4) ⟨rfl, rfl, rfl⟩) ?_ | refine YK.mk (y_callA (q) ⟨rfl, rfl, rfl⟩) ?_)
    | (show YK _ _ _ _ _ _ _; refine YK.ofV vAuto ?_)
    | (show VK _ _ _ _ _ _ _; refine VK.mk vAuto ?_)
    | (show RS _ _ _ _ _ _ _ _; first | (refine nxRS ?_) | (refine nxRS1 fun _ => ?_))
    | (show RM _ _ _ _ _ _ _ _ _ _; first | (refine nxRM ?_) | (refine nxRM1 fun _ => ?_))
    | (show YG _ _ _ _ _ _ _ _; refine YG.mk (fun hb => by (try (have hc := And.left hb; have hb := And.right hb; rw [hc])); (try rw [hb]); first | exact (y_callA (p0) ⟨rfl, rfl⟩) | exact (y_callA (p1) ⟨rfl, rfl, rfl⟩) | exact (y_callA (p2) ⟨rfl, rfl, rfl⟩) | exact (y_callA (p3) ⟨rfl, rfl, rfl⟩) | exact (y_callA (p4) ⟨rfl, rfl, rfl⟩) | exact (y_callA (q) ⟨rfl, rfl, rfl⟩) | exact V.y vAuto) ?_)
    | (show VG _ _ _ _ _ _ _ _; refine VG.mk (fun hb => by (try (have hc := And.left hb; have hb := And.right hb; rw [hc])); (try rw [hb]); exact vAuto) ?_)
    | (refine nxVS ?_)
    | (refine nxGS ?_)
    | (refine nxX ?_)
    | (refine G.condN rfl (fun hc => ?_) (fun hc => ?_) <;> (try first | exact False.elim hc | (exfalso; omega))))
  exact X.ret (vs := [_, _]) rfl ⟨rfl, rfl, rfl⟩ rfl (fun w hw => ⟨rfl, hw.ext⟩)
theorem rp_frac0 (l : List UInt8) {y m d h mi s n : Int} (hl : l.length = 23) (p0 : Cont Tryz.prog 32 [strV (l.take 10)] (.tuple [dateV y m d, .bool true].toArray)) (p1 : Cont Tryz.prog 33 [strV ((l.drop 11).take 2), .int .i64 2] (.tuple [.int .i64 h, .bool true].toArray)) (p2 : Cont Tryz.prog 33 [strV ((l.drop 14).take 2), .int .i64 2] (.tuple [.int .i64 mi, .bool true].toArray)) (p3 : Cont Tryz.prog 33 [strV ((l.drop 17).take 2), .int .i64 2] (.tuple [.int .i64 s, .bool true].toArray)) (g10 : ((nth l 10).toNat : Int) = 32) (g13 : ((nth l 13).toNat : Int) = 58) (g16 : ((nth l 16).toNat : Int) = 58) (hh : 0 ≤ h ∧ h ≤ 23) (hm : 0 ≤ mi ∧ mi ≤ 59) (hs : 0 ≤ s ∧ s ≤ 59) (p4 : Cont Tryz.prog 33 [strV (l.drop 20), .int .i64 3] (.tuple [.int .i64 n, .bool false].toArray))  : Cont Tryz.prog 10 [strV l] (numE 0 7) := fun w => by
  refine enter0 Tryz.func10 rfl rfl rfl ?_
  repeat' (first
    | (show YK _ _ _ _ _ _ _; first | refine YK.mk (y_callA (p0) ⟨rfl, rfl⟩) ?_ | refine YK.mk (y_callA (p1) ⟨rfl, rfl, rfl⟩) ?_ | refine YK.mk (y_callA (p2) ⟨rfl, rfl, rfl⟩) ?_ | refine YK.mk (y_callA (p3) ⟨rfl, rfl, rfl⟩) ?_ | refine YK.mk (y_callA (p4) ⟨rfl, rfl, rfl⟩) ?_)
    | (show YK _ _ _ _ _ _ _; refine YK.ofV vAuto ?_)
    | (show VK _ _ _ _ _ _ _; refine VK.mk vAuto ?_)
    | (show RS _ _ _ _ _ _ _ _; first | (refine nxRS ?_) | (refine nxRS1 fun _ => ?_))
    | (show RM _ _ _ _ _ _ _ _ _ _; first | (refine nxRM ?_) | (refine nxRM1 fun _ => ?_))
    | (show YG _ _ _ _ _ _ _ _; refine YG.mk (fun hb => by (try (have hc := And.left hb; have hb := And.right hb; rw [hc])); (try rw [hb]); first | exact (y_callA (p0) ⟨rfl, rfl⟩) | exact (y_callA (p1) ⟨rfl, rfl, rfl⟩) | exact (y_callA (p2) ⟨rfl, rfl, rfl⟩) | exact (y_callA (p3) ⟨rfl, rfl, rfl⟩) | exact (y_callA (p4) ⟨rfl, rfl, rfl⟩) | exact V.y vAuto) ?_)
    | (show VG _ _ _ _ _ _ _ _; refine VG.mk (fun hb => by (try (have hc := And.left hb; have hb := And.right hb; rw [hc])); (try rw [hb]); exact vAuto) ?_)
    | (refine nxVS ?_)
    | (refine nxGS ?_)
    | (refine nxX ?_)
    | (refine G.condN rfl (fun hc => ?_) (fun hc => ?_) <;> (try first | exact False.elim hc | (exfalso; omega))))
  exact X.ret (vs := [_, _]) rfl ⟨rfl, rfl, rfl⟩ rfl (fun w hw => ⟨rfl, hw.ext⟩)
theorem rp_frac1 (l : List UInt8) {y m d h mi s n : Int} (hl : l.length = 23) (p0 : Cont Tryz.prog 32 [strV (l.take 10)] (.tuple [dateV y m d, .bool true].toArray)) (p1 : Cont Tryz.prog 33 [strV ((l.drop 11).take 2), .int .i64 2] (.tuple [.int .i64 h, .bool true].toArray)) (p2 : Cont Tryz.prog 33 [strV ((l.drop 14).take 2), .int .i64 2] (.tuple [.int .i64 mi, .bool true].toArray)) (p3 : Cont Tryz.prog 33 [strV ((l.drop 17).take 2), .int .i64 2] (.tuple [.int .i64 s, .bool true].toArray)) (g10 : ((nth l 10).toNat : Int) = 32) (g13 : ((nth l 13).toNat : Int) = 58) (g16 : ((nth l 16).toNat : Int) = 58) (hh : 0 ≤ h ∧ h ≤ 23) (hm : 0 ≤ mi ∧ mi ≤ 59) (hs : 0 ≤ s ∧ s ≤ 59) (p4 : Cont Tryz.prog 33 [strV (l.drop 20), .int .i64 3] (.tuple [.int .i64 n, .bool true].toArray)) (g : ((nth l 19).toNat : Int) ≠ 46) : Cont Tryz.prog 10 [strV l] (numE 0 7) := fun w => by
  refine enter0 Tryz.func10 rfl rfl rfl ?_
  repeat' (first
    | (show YK _ _ _ _ _ _ _; first | refine YK.mk (y_callA (p0) ⟨rfl, rfl⟩) ?_ | refine YK.mk (y_callA (p1) ⟨rfl, rfl, rfl⟩) ?_ | refine YK.mk (y_callA (p2) ⟨rfl, rfl, rfl⟩) ?_ | refine YK.mk (y_callA (p3) ⟨rfl, rfl, rfl⟩) ?_ | refine YK.mk (y_callA (p4) ⟨rfl, rfl, rfl⟩) ?_)
    | (show YK _ _ _ _ _ _ _; refine YK.ofV vAuto ?_)
    | (show VK _ _ _ _ _ _ _; refine VK.mk vAuto ?_)
    | (show RS _ _ _ _ _ _ _ _; first | (refine nxRS ?_) | (refine nxRS1 fun _ => ?_))
    | (show RM _ _ _ _ _ _ _ _ _ _; first | (refine nxRM ?_) | (refine nxRM1 fun _ => ?_))
    | (show YG _ _ _ _ _ _ _ _; refine YG.mk (fun hb => by (try (have hc := And.left hb; have hb := And.right hb; rw [hc])); (try rw [hb]); first | exact (y_callA (p0) ⟨rfl, rfl⟩) | exact (y_callA (p1) ⟨rfl, rfl, rfl⟩) | exact (y_callA (p2) ⟨rfl, rfl, rfl⟩) | exact (y_callA (p3) ⟨rfl, rfl, rfl⟩) | exact (y_callA (p4) ⟨rfl, rfl, rfl⟩) | exact V.y vAuto) ?_)
    | (show VG _ _ _ _ _ _ _ _; refine VG.mk (fun hb => by (try (have hc := And.left hb; have hb := And.right hb; rw [hc])); (try rw [hb]); exact vAuto) ?_)
    | (refine nxVS ?_)
    | (refine nxGS ?_)
    | (refine nxX ?_)
    | (refine G.condN rfl (fun hc => ?_) (fun hc => ?_) <;> (try first | exact False.elim hc | (exfalso; omega))))
  exact X.ret (vs := [_, _]) rfl ⟨rfl, rfl, rfl⟩ rfl (fun w hw => ⟨rfl, hw.ext⟩)
theorem rp_frac2 (l : List UInt8) {y m d h mi s n : Int} (hl : l.length = 23) (p0 : Cont Tryz.prog 32 [strV (l.take 10)] (.tuple [dateV y m d, .bool true].toArray)) (p1 : Cont Tryz.prog 33 [strV ((l.drop 11).take 2), .int .i64 2] (.tuple [.int .i64 h, .bool true].toArray)) (p2 : Cont Tryz.prog 33 [strV ((l.drop 14).take 2), .int .i64 2] (.tuple [.int .i64 mi, .bool true].toArray)) (p3 : Cont Tryz.prog 33 [strV ((l.drop 17).take 2), .int .i64 2] (.tuple [.int .i64 s, .bool true].toArray)) (g10 : ((nth l 10).toNat : Int) = 32) (g13 : ((nth l 13).toNat : Int) = 58) (g16 : ((nth l 16).toNat : Int) = 58) (hh : 0 ≤ h ∧ h ≤ 23) (hm : 0 ≤ mi ∧ mi ≤ 59) (hs : 0 ≤ s ∧ s ≤ 59) (p4 : Cont Tryz.prog 33 [strV (l.drop 20), .int .i64 3] (.tuple [.int .i64 n, .bool true].toArray)) (g : n = 0) : Cont Tryz.prog 10 [strV l] (numE 0 7) := fun w => by
  refine enter0 Tryz.func10 rfl rfl rfl ?_
  repeat' (first
    | (show YK _ _ _ _ _ _ _; first | refine YK.mk (y_callA (p0) ⟨rfl, rfl⟩) ?_ | refine YK.mk (y_callA (p1) ⟨rfl, rfl, rfl⟩) ?_ | refine YK.mk (y_callA (p2) ⟨rfl, rfl, rfl⟩) ?_ | refine YK.mk (y_callA (p3) ⟨rfl, rfl, rfl⟩) ?_ | refine YK.mk (y_callA (p4) ⟨rfl, rfl, rfl⟩) ?_)
    | (show YK _ _ _ _ _ _ _; refine YK.ofV vAuto ?_)
    | (show VK _ _ _ _ _ _ _; refine VK.mk vAuto ?_)
    | (show RS _ _ _ _ _ _ _ _; first | (refine nxRS ?_) | (refine nxRS1 fun _ => ?_))
    | (show RM _ _ _ _ _ _ _ _ _ _; first | (refine nxRM ?_) | (refine nxRM1 fun _ => ?_))
    | (show YG _ _ _ _ _ _ _ _; refine YG.mk (fun hb => by (try (have hc := And.left hb; have hb := And.right hb; rw [hc])); (try rw [hb]); first | exact (y_callA (p0) ⟨rfl, rfl⟩) | exact (y_callA (p1) ⟨rfl, rfl, rfl⟩) | exact (y_callA (p2) ⟨rfl, rfl, rfl⟩) | exact (y_callA (p3) ⟨rfl, rfl, rfl⟩) | exact (y_callA (p4) ⟨rfl, rfl, rfl⟩) | exact V.y vAuto) ?_)
    | (show VG _ _ _ _ _ _ _ _; refine VG.mk (fun hb => by (try (have hc := And.left hb; have hb := And.right hb; rw [hc])); (try rw [hb]); exact vAuto) ?_)
    | (refine nxVS ?_)
    | (refine nxGS ?_)
    | (refine nxX ?_)
    | (refine G.condN rfl (fun hc => ?_) (fun hc => ?_) <;> (try first | exact False.elim hc | (exfalso; omega))))
  exact X.ret (vs := [_, _]) rfl ⟨rfl, rfl, rfl⟩ rfl (fun w hw => ⟨rfl, hw.ext⟩)
theorem rp_frac (l : List UInt8) {y m d h mi s n : Int} {a : Bool} (hl : l.length = 23) (p0 : Cont Tryz.prog 32 [strV (l.take 10)] (.tuple [dateV y m d, .bool true].toArray)) (p1 : Cont Tryz.prog 33 [strV ((l.drop 11).take 2), .int .i64 2] (.tuple [.int .i64 h, .bool true].toArray)) (p2 : Cont Tryz.prog 33 [strV ((l.drop 14).take 2), .int .i64 2] (.tuple [.int .i64 mi, .bool true].toArray)) (p3 : Cont Tryz.prog 33 [strV ((l.drop 17).take 2), .int .i64 2] (.tuple [.int .i64 s, .bool true].toArray)) (g10 : ((nth l 10).toNat : Int) = 32) (g13 : ((nth l 13).toNat : Int) = 58) (g16 : ((nth l 16).toNat : Int) = 58) (hh : 0 ≤ h ∧ h ≤ 23) (hm : 0 ≤ mi ∧ mi ≤ 59) (hs : 0 ≤ s ∧ s ≤ 59) (p4 : Cont Tryz.prog 33 [strV (l.drop 20), .int .i64 3] (.tuple [.int .i64 n, .bool a].toArray)) (hg : ¬ (a = true ∧ ((nth l 19).toNat : Int) = 46 ∧ n ≠ 0)) : Cont Tryz.prog 10 [strV l] (numE 0 7) := by
  cases a with
  | false => exact rp_frac0 l hl p0 p1 p2 p3 g10 g13 g16 hh hm hs p4
  | true =>
  by_cases g : ((nth l 19).toNat : Int) = 46
  · exact rp_frac2 l hl p0 p1 p2 p3 g10 g13 g16 hh hm hs p4 (by
      apply Classical.byContradiction
      intro g2
      exact hg ⟨rfl, g, g2⟩)
  · exact rp_frac1 l hl p0 p1 p2 p3 g10 g13 g16 hh hm hs p4 g
end Go.Proofs.YtpnfmbfehbnljaaGreatDoor
