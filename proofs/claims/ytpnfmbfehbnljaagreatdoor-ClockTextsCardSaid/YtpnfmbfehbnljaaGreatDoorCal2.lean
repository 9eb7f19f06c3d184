/- The calendar's functions, further. -/
import Derived.Test.YtpnfmbfehbnljaaGreatDoorCal
set_option linter.unusedVariables false
namespace Go.Proofs.YtpnfmbfehbnljaaGreatDoor
open Go.RowKit

theorem number_c (y m d : Int) (hv : validB y m d = true) : Cont Tryz.prog 55 [dateV y m d] (.int .i64 (num y m d)) := fun w => by
  obtain ⟨hy, hm, hd⟩ := valid_of hv
  have hdm := dim_bd y m
  have hb := before_bd hy.1 (by omega)
  have h2 := before2000
  have hc := cum_bd y (m - 1).toNat
  have hdoy : 1 ≤ doy y m d ∧ doy y m d ≤ 1000 := by unfold doy; omega
  refine enter0 Tryz.func55 rfl rfl rfl ?_
  repeat' (first
    | (show YK _ _ _ _ _ _ _; first | refine YK.mk (y_callA (before_c _ (by omega) (by omega)) ⟨rfl, rfl⟩) ?_ | refine YK.mk (y_callA (doy_c _ _ _ hv) ⟨rfl, rfl⟩) ?_)
    | (show YK _ _ _ _ _ _ _; refine YK.ofV vAuto ?_)
    | (show VK _ _ _ _ _ _ _; refine VK.mk vAuto ?_)
    | (show RS _ _ _ _ _ _ _ _; first | (refine nxRS ?_) | (refine nxRS1 fun _ => ?_))
    | (show RM _ _ _ _ _ _ _ _ _ _; first | (refine nxRM ?_) | (refine nxRM1 fun _ => ?_))
    | (show YG _ _ _ _ _ _ _ _; refine YG.mk (fun hb => by (try (have hc := And.left hb; have hb := And.right hb; rw [hc])); (try rw [hb]); first | exact (y_callA (before_c _ (by omega) (by omega)) ⟨rfl, rfl⟩) | exact (y_callA (doy_c _ _ _ hv) ⟨rfl, rfl⟩) | exact V.y vAuto) ?_)
    | (show VG _ _ _ _ _ _ _ _; refine VG.mk (fun hb => by (try (have hc := And.left hb; have hb := And.right hb; rw [hc])); (try rw [hb]); exact vAuto) ?_)
    | (refine G.mixedA 1 [.go 0, .go 1, .go 5, .go 2, .go 3, .go 4, .go 6, .go 7, .go 8, .go 9] ?_)
    | (refine nxX ?_)
    | (refine G.condN rfl (fun hc => ?_) (fun hc => ?_) <;> (try first | exact False.elim hc | (exfalso; omega))))
  refine X.ret (vs := [_]) rfl ⟨rfl, rfl⟩ rfl (fun w hw => ⟨ret_int ?_, hw.ext⟩)
  unfold num; rw [h2]
theorem rnumber_c (y m d : Int) (hv : validB y m d = true) : Cont Tryz.prog 39 [dateV y m d] (.int .i64 (num y m d)) := fun w => by
  obtain ⟨hy, hm, hd⟩ := valid_of hv
  have hdm := dim_bd y m
  have hb := before_bd hy.1 (by omega)
  have h2 := before2000
  have hc := cum_bd y (m - 1).toNat
  have hdoy : 1 ≤ doy y m d ∧ doy y m d ≤ 1000 := by unfold doy; omega
  refine enter0 Tryz.func39 rfl rfl rfl ?_
  repeat' (first
    | (show YK _ _ _ _ _ _ _; first | refine YK.mk (y_callA (rbefore_c _ (by omega) (by omega)) ⟨rfl, rfl⟩) ?_ | refine YK.mk (y_callA (rdoy_c _ _ _ hv) ⟨rfl, rfl⟩) ?_)
    | (show YK _ _ _ _ _ _ _; refine YK.ofV vAuto ?_)
    | (show VK _ _ _ _ _ _ _; refine VK.mk vAuto ?_)
    | (show RS _ _ _ _ _ _ _ _; first | (refine nxRS ?_) | (refine nxRS1 fun _ => ?_))
    | (show RM _ _ _ _ _ _ _ _ _ _; first | (refine nxRM ?_) | (refine nxRM1 fun _ => ?_))
    | (show YG _ _ _ _ _ _ _ _; refine YG.mk (fun hb => by (try (have hc := And.left hb; have hb := And.right hb; rw [hc])); (try rw [hb]); first | exact (y_callA (rbefore_c _ (by omega) (by omega)) ⟨rfl, rfl⟩) | exact (y_callA (rdoy_c _ _ _ hv) ⟨rfl, rfl⟩) | exact V.y vAuto) ?_)
    | (show VG _ _ _ _ _ _ _ _; refine VG.mk (fun hb => by (try (have hc := And.left hb; have hb := And.right hb; rw [hc])); (try rw [hb]); exact vAuto) ?_)
    | (refine G.mixedA 1 [.go 0, .go 1, .go 3, .go 2, .go 4, .go 5, .go 6, .go 7, .go 8, .go 9] ?_)
    | (refine nxX ?_)
    | (refine G.condN rfl (fun hc => ?_) (fun hc => ?_) <;> (try first | exact False.elim hc | (exfalso; omega))))
  refine X.ret (vs := [_]) rfl ⟨rfl, rfl⟩ rfl (fun w hw => ⟨ret_int ?_, hw.ext⟩)
  unfold num; rw [h2]; omega
abbrev e2 (v : Value) (e : Int) : Value := .tuple [v, .int .i64 e].toArray
theorem valid_t {y m d : Int} (hv : validB y m d = true) : Cont Tryz.prog 47 [dateV y m d] (.bool true) := hv ▸ valid_c y m d
theorem valid_f {y m d : Int} (hv : validB y m d = false) : Cont Tryz.prog 47 [dateV y m d] (.bool false) := hv ▸ valid_c y m d
theorem rvalid_t {y m d : Int} (hv : validB y m d = true) : Cont Tryz.prog 38 [dateV y m d] (.bool true) := hv ▸ rvalid_c y m d
theorem rvalid_f {y m d : Int} (hv : validB y m d = false) : Cont Tryz.prog 38 [dateV y m d] (.bool false) := hv ▸ rvalid_c y m d
theorem Number_t {y m d : Int} (hv : validB y m d = true) : Cont Tryz.prog 34 [dateV y m d] (e2 (.int .i64 (num y m d)) 0) := fun w => by
  refine enter0 Tryz.func34 rfl rfl rfl ?_
  repeat' (first
    | (show YK _ _ _ _ _ _ _; first | refine YK.mk (y_callA (valid_t hv) ⟨rfl, rfl⟩) ?_ | refine YK.mk (y_callA (number_c _ _ _ hv) ⟨rfl, rfl⟩) ?_)
    | (show YK _ _ _ _ _ _ _; refine YK.ofV vAuto ?_)
    | (show VK _ _ _ _ _ _ _; refine VK.mk vAuto ?_)
    | (show RS _ _ _ _ _ _ _ _; first | (refine nxRS ?_) | (refine nxRS1 fun _ => ?_))
    | (show RM _ _ _ _ _ _ _ _ _ _; first | (refine nxRM ?_) | (refine nxRM1 fun _ => ?_))
    | (show YG _ _ _ _ _ _ _ _; refine YG.mk (fun hb => by (try (have hc := And.left hb; have hb := And.right hb; rw [hc])); (try rw [hb]); first | exact (y_callA (valid_t hv) ⟨rfl, rfl⟩) | exact (y_callA (number_c _ _ _ hv) ⟨rfl, rfl⟩) | exact V.y vAuto) ?_)
    | (show VG _ _ _ _ _ _ _ _; refine VG.mk (fun hb => by (try (have hc := And.left hb; have hb := And.right hb; rw [hc])); (try rw [hb]); exact vAuto) ?_)
    | (refine nxX ?_)
    | (refine G.condN rfl (fun hc => ?_) (fun hc => ?_) <;> (try first | exact False.elim hc | (exfalso; omega))))
  exact X.ret (vs := [_, _]) rfl ⟨rfl, rfl, rfl⟩ rfl (fun w hw => ⟨rfl, hw.ext⟩)
theorem Number_f {y m d : Int} (hv : validB y m d = false) : Cont Tryz.prog 34 [dateV y m d] (e2 (.int .i64 0) 1) := fun w => by
  refine enter0 Tryz.func34 rfl rfl rfl ?_
  repeat' (first
    | (show YK _ _ _ _ _ _ _; first | refine YK.mk (y_callA (valid_f hv) ⟨rfl, rfl⟩) ?_)
    | (show YK _ _ _ _ _ _ _; refine YK.ofV vAuto ?_)
    | (show VK _ _ _ _ _ _ _; refine VK.mk vAuto ?_)
    | (show RS _ _ _ _ _ _ _ _; first | (refine nxRS ?_) | (refine nxRS1 fun _ => ?_))
    | (show RM _ _ _ _ _ _ _ _ _ _; first | (refine nxRM ?_) | (refine nxRM1 fun _ => ?_))
    | (show YG _ _ _ _ _ _ _ _; refine YG.mk (fun hb => by (try (have hc := And.left hb; have hb := And.right hb; rw [hc])); (try rw [hb]); first | exact (y_callA (valid_f hv) ⟨rfl, rfl⟩) | exact V.y vAuto) ?_)
    | (show VG _ _ _ _ _ _ _ _; refine VG.mk (fun hb => by (try (have hc := And.left hb; have hb := And.right hb; rw [hc])); (try rw [hb]); exact vAuto) ?_)
    | (refine nxX ?_)
    | (refine G.condN rfl (fun hc => ?_) (fun hc => ?_) <;> (try first | exact False.elim hc | (exfalso; omega))))
  exact X.ret (vs := [_, _]) rfl ⟨rfl, rfl, rfl⟩ rfl (fun w hw => ⟨rfl, hw.ext⟩)
theorem First_c : Cont Tryz.prog 42 [] (.int .i64 (-730119)) := fun w => by
  refine enter0 Tryz.func42 rfl rfl rfl ?_
  repeat' (first
    | (show YK _ _ _ _ _ _ _; first | refine YK.mk (y_callA (rnumber_c 1 1 1 (by decide)) ⟨rfl, rfl⟩) ?_)
    | (show YK _ _ _ _ _ _ _; refine YK.ofV vAuto ?_)
    | (show VK _ _ _ _ _ _ _; refine VK.mk vAuto ?_)
    | (show RS _ _ _ _ _ _ _ _; first | (refine nxRS ?_) | (refine nxRS1 fun _ => ?_))
    | (show RM _ _ _ _ _ _ _ _ _ _; first | (refine nxRM ?_) | (refine nxRM1 fun _ => ?_))
    | (show YG _ _ _ _ _ _ _ _; refine YG.mk (fun hb => by (try (have hc := And.left hb; have hb := And.right hb; rw [hc])); (try rw [hb]); first | exact (y_callA (rnumber_c 1 1 1 (by decide)) ⟨rfl, rfl⟩) | exact V.y vAuto) ?_)
    | (show VG _ _ _ _ _ _ _ _; refine VG.mk (fun hb => by (try (have hc := And.left hb; have hb := And.right hb; rw [hc])); (try rw [hb]); exact vAuto) ?_)
    | (refine nxX ?_)
    | (refine G.condN rfl (fun hc => ?_) (fun hc => ?_) <;> (try first | exact False.elim hc | (exfalso; omega))))
  exact X.ret (vs := [_]) rfl ⟨rfl, rfl⟩ rfl (fun w hw => ⟨ret_int (by decide), hw.ext⟩)
theorem Last_c : Cont Tryz.prog 43 [] (.int .i64 2921939) := fun w => by
  refine enter0 Tryz.func43 rfl rfl rfl ?_
  repeat' (first
    | (show YK _ _ _ _ _ _ _; first | refine YK.mk (y_callA (rnumber_c 9999 12 31 (by decide)) ⟨rfl, rfl⟩) ?_)
    | (show YK _ _ _ _ _ _ _; refine YK.ofV vAuto ?_)
    | (show VK _ _ _ _ _ _ _; refine VK.mk vAuto ?_)
    | (show RS _ _ _ _ _ _ _ _; first | (refine nxRS ?_) | (refine nxRS1 fun _ => ?_))
    | (show RM _ _ _ _ _ _ _ _ _ _; first | (refine nxRM ?_) | (refine nxRM1 fun _ => ?_))
    | (show YG _ _ _ _ _ _ _ _; refine YG.mk (fun hb => by (try (have hc := And.left hb; have hb := And.right hb; rw [hc])); (try rw [hb]); first | exact (y_callA (rnumber_c 9999 12 31 (by decide)) ⟨rfl, rfl⟩) | exact V.y vAuto) ?_)
    | (show VG _ _ _ _ _ _ _ _; refine VG.mk (fun hb => by (try (have hc := And.left hb; have hb := And.right hb; rw [hc])); (try rw [hb]); exact vAuto) ?_)
    | (refine nxX ?_)
    | (refine G.condN rfl (fun hc => ?_) (fun hc => ?_) <;> (try first | exact False.elim hc | (exfalso; omega))))
  exact X.ret (vs := [_]) rfl ⟨rfl, rfl⟩ rfl (fun w hw => ⟨ret_int (by decide), hw.ext⟩)
theorem right_t {y m : Int} (hv : rightB y m = true) : Cont Tryz.prog 63 [.int .i64 y, .int .i64 m] (.bool true) := hv ▸ right_c y m
theorem right_f {y m : Int} (hv : rightB y m = false) : Cont Tryz.prog 63 [.int .i64 y, .int .i64 m] (.bool false) := hv ▸ right_c y m
def cmpI (a b : Int) : Int := if a < b then -1 else if b < a then 1 else 0
end Go.Proofs.YtpnfmbfehbnljaaGreatDoor
