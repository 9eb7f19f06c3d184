/- The calendar's functions: what each returns. -/
import Derived.Test.YtpnfmbfehbnljaaGreatDoorTys
import Derived.Test.YtpnfmbfehbnljaaGreatDoorCalPlain
import Derived.Test.YtpnfmbfehbnljaaGreatDoorRows
set_option linter.unusedVariables false
namespace Go.Proofs.YtpnfmbfehbnljaaGreatDoor
open Go.RowKit

theorem leap_c (y : Int) : Cont Tryz.prog 71 [.int .i64 y] (.bool (leapB y)) := fun w => by
  refine enter0 Tryz.func71 rfl rfl rfl ?_
  repeat' (first
    | (refine nxV ?_)
    | (show RS _ _ _ _ _ _ _ _; first | (refine nxRS ?_) | (refine nxRS1 fun _ => ?_))
    | (show RM _ _ _ _ _ _ _ _ _ _; first | (refine nxRM ?_) | (refine nxRM1 fun _ => ?_))
    | (refine nxG ?_)
    | (refine nxX ?_)
    | (refine G.condN rfl (fun hc => ?_) (fun hc => ?_) <;> (try first | exact False.elim hc | (exfalso; omega))))
  exact X.ret (vs := [_]) rfl ⟨rfl, rfl⟩ rfl (fun w hw => ⟨rfl, hw.ext⟩)
theorem rleap_c (y : Int) : Cont Tryz.prog 73 [.int .i64 y] (.bool (leapB y)) := fun w => by
  rw [← leap_same]
  refine enter0 Tryz.func73 rfl rfl rfl ?_
  repeat' (first
    | (refine nxV ?_)
    | (show RS _ _ _ _ _ _ _ _; first | (refine nxRS ?_) | (refine nxRS1 fun _ => ?_))
    | (show RM _ _ _ _ _ _ _ _ _ _; first | (refine nxRM ?_) | (refine nxRM1 fun _ => ?_))
    | (refine nxG ?_)
    | (refine nxX ?_)
    | (refine G.condN rfl (fun hc => ?_) (fun hc => ?_) <;> (try first | exact False.elim hc | (exfalso; omega))))
  exact X.ret (vs := [_]) rfl ⟨rfl, rfl⟩ rfl (fun w hw => ⟨rfl, hw.ext⟩)
theorem right_c (y m : Int) : Cont Tryz.prog 63 [.int .i64 y, .int .i64 m] (.bool (rightB y m)) := fun w => by
  refine enter0 Tryz.func63 rfl rfl rfl ?_
  repeat' (first
    | (refine nxV ?_)
    | (show RS _ _ _ _ _ _ _ _; first | (refine nxRS ?_) | (refine nxRS1 fun _ => ?_))
    | (show RM _ _ _ _ _ _ _ _ _ _; first | (refine nxRM ?_) | (refine nxRM1 fun _ => ?_))
    | (refine nxG ?_)
    | (refine nxX ?_)
    | (refine G.condN rfl (fun hc => ?_) (fun hc => ?_) <;> (try first | exact False.elim hc | (exfalso; omega))))
  exact X.ret (vs := [_]) rfl ⟨rfl, rfl⟩ rfl (fun w hw => ⟨rfl, hw.ext⟩)
def lens : List Value := [.int .i64 31, .int .i64 28, .int .i64 31, .int .i64 30, .int .i64 31, .int .i64 30, .int .i64 31, .int .i64 31, .int .i64 30, .int .i64 31, .int .i64 30, .int .i64 31]
theorem zeroLens : zeroOf Tryz.prog 92 = some (.agg (List.replicate 12 (.int .i64 0)).toArray) := by kernel_rfl
theorem zeroDate : zeroOf Tryz.prog 36 = some (.agg [.int .i64 0, .int .i64 0, .int .i64 0].toArray) := by kernel_rfl
theorem lengths_c : Cont Tryz.prog 72 [] (.agg lens.toArray) := fun w => by
  refine enter0 Tryz.func72 rfl rfl rfl ?_
  repeat' (first
    | (show YK _ _ _ _ _ ⟨_, .build _ _, _, _, _, _⟩ _; refine YK.ofV (y_buildV (vs := lens) ⟨rfl, rfl, rfl, rfl, rfl, rfl, rfl, rfl, rfl, rfl, rfl, rfl, rfl⟩ (by kernel_rfl)) ?_)
    | (refine nxV ?_)
    | (show RS _ _ _ _ _ _ _ _; first | (refine nxRS ?_) | (refine nxRS1 fun _ => ?_))
    | (show RM _ _ _ _ _ _ _ _ _ _; first | (refine nxRM ?_) | (refine nxRM1 fun _ => ?_))
    | (refine nxG ?_)
    | (refine nxX ?_)
    | (refine G.condN rfl (fun hc => ?_) (fun hc => ?_) <;> (try first | exact False.elim hc | (exfalso; omega))))
  exact X.ret (vs := [_]) rfl ⟨⟨_, _, _, _, rfl, (by exact memA), (by (repeat (first | exact .nil | apply LenIs.cons))), by decide +kernel, rfl⟩, rfl⟩ rfl (fun w hw => ⟨rfl, hw.ext⟩)
theorem lens_at {m : Int} (h1 : 1 ≤ m) (h2 : m ≤ 12) : lens[(m - 1).toNat]? = some (.int .i64 (monthLen m)) := by
  have : m = 1 ∨ m = 2 ∨ m = 3 ∨ m = 4 ∨ m = 5 ∨ m = 6 ∨ m = 7 ∨ m = 8 ∨ m = 9 ∨ m = 10 ∨ m = 11 ∨ m = 12 := by omega
  rcases this with rfl | rfl | rfl | rfl | rfl | rfl | rfl | rfl | rfl | rfl | rfl | rfl <;> rfl
theorem days_c (y m : Int) (h1 : 1 ≤ m) (h2 : m ≤ 12) : Cont Tryz.prog 59 [.int .i64 y, .int .i64 m] (.int .i64 (dim y m)) := fun w => by
  refine enter0 Tryz.func59 rfl rfl rfl ?_
  repeat' (first
    | (show YK _ _ _ _ _ ⟨_, .index _ _ _, _, _, _, _⟩ _; refine YK.ofV (y_index (i := (m - 1).toNat) (by rfl) (by rfl) (by omega) (lens_at h1 h2) (by (repeat (first | exact .nil | apply LenIs.cons))) (by decide +kernel)) ?_)
    | (show YK _ _ _ _ _ _ _; first | refine YK.mk (y_callA (leap_c _) ⟨rfl, rfl⟩) ?_ | refine YK.mk (y_callA (lengths_c) rfl) ?_)
    | (show YK _ _ _ _ _ _ _; refine YK.ofV vAuto ?_)
    | (show VK _ _ _ _ _ _ _; refine VK.mk vAuto ?_)
    | (show RS _ _ _ _ _ _ _ _; first | (refine nxRS ?_) | (refine nxRS1 fun _ => ?_))
    | (show RM _ _ _ _ _ _ _ _ _ _; first | (refine nxRM ?_) | (refine nxRM1 fun _ => ?_))
    | (show YG _ _ _ _ _ _ _ _; refine YG.mk (fun hb => by (try (have hc := And.left hb; have hb := And.right hb; rw [hc])); (try rw [hb]); first | exact (y_callA (leap_c _) ⟨rfl, rfl⟩) | exact (y_callA (lengths_c) rfl) | exact V.y vAuto) ?_)
    | (show VG _ _ _ _ _ _ _ _; refine VG.mk (fun hb => by (try (have hc := And.left hb; have hb := And.right hb; rw [hc])); (try rw [hb]); exact vAuto) ?_)
    | (refine nxX ?_)
    | (refine G.condN rfl (fun hc => ?_) (fun hc => ?_) <;> (try first | exact False.elim hc | (exfalso; omega))))
  all_goals refine X.ret (vs := [_]) rfl ⟨rfl, rfl⟩ rfl (fun w hw => ⟨?_, hw.ext⟩)
  · simp [dim, hc.1, hc.2]
  · rcases hc with hc | hc
    · simp [dim, monthLen, hc]
    · simp [dim, monthLen, hc]
theorem rdays_c (y m : Int) : Cont Tryz.prog 60 [.int .i64 y, .int .i64 m] (.int .i64 (dim y m)) := fun w => by
  refine enter0 Tryz.func60 rfl rfl rfl ?_
  repeat' (first
    | (show YK _ _ _ _ _ _ _; first | refine YK.mk (y_callA (rleap_c _) ⟨rfl, rfl⟩) ?_)
    | (show YK _ _ _ _ _ _ _; refine YK.ofV vAuto ?_)
    | (show VK _ _ _ _ _ _ _; refine VK.mk vAuto ?_)
    | (show RS _ _ _ _ _ _ _ _; first | (refine nxRS ?_) | (refine nxRS1 fun _ => ?_))
    | (show RM _ _ _ _ _ _ _ _ _ _; first | (refine nxRM ?_) | (refine nxRM1 fun _ => ?_))
    | (show YG _ _ _ _ _ _ _ _; refine YG.mk (fun hb => by (try (have hc := And.left hb; have hb := And.right hb; rw [hc])); (try rw [hb]); first | exact (y_callA (rleap_c _) ⟨rfl, rfl⟩) | exact V.y vAuto) ?_)
    | (show VG _ _ _ _ _ _ _ _; refine VG.mk (fun hb => by (try (have hc := And.left hb; have hb := And.right hb; rw [hc])); (try rw [hb]); exact vAuto) ?_)
    | (refine nxX ?_)
    | (refine G.condN rfl (fun hc => ?_) (fun hc => ?_) <;> (try first | exact False.elim hc | (exfalso; omega))))
  all_goals refine X.ret (vs := [_]) rfl ⟨rfl, rfl⟩ rfl (fun w hw => ⟨?_, hw.ext⟩)
  all_goals (simp only [dim, *, if_true, if_false]; try rfl)
  all_goals first
    | (have h : m = 4 ∨ m = 6 ∨ m = 9 ∨ m = 11 := by omega
       simp [h]; done)
    | (have h : ¬ (m = 4 ∨ m = 6 ∨ m = 9 ∨ m = 11) := by omega
       simp [h]; done)
theorem before_c (y : Int) (h1 : 1 ≤ y) (h2 : y ≤ 10000) : Cont Tryz.prog 56 [.int .i64 y] (.int .i64 (before y)) := fun w => by
  refine enter0 Tryz.func56 rfl rfl rfl ?_
  repeat' (first
    | (refine nxV ?_)
    | (show RS _ _ _ _ _ _ _ _; first | (refine nxRS ?_) | (refine nxRS1 fun _ => ?_))
    | (show RM _ _ _ _ _ _ _ _ _ _; first | (refine nxRM ?_) | (refine nxRM1 fun _ => ?_))
    | (refine nxG ?_)
    | (refine nxX ?_)
    | (refine G.condN rfl (fun hc => ?_) (fun hc => ?_) <;> (try first | exact False.elim hc | (exfalso; omega))))
  exact X.ret (vs := [_]) rfl ⟨rfl, rfl⟩ rfl (fun w hw => ⟨rfl, hw.ext⟩)
theorem rbefore_c (y : Int) (h1 : 1 ≤ y) (h2 : y ≤ 10000) : Cont Tryz.prog 61 [.int .i64 y] (.int .i64 (before y)) := fun w => by
  refine enter0 Tryz.func61 rfl rfl rfl ?_
  repeat' (first
    | (refine nxV ?_)
    | (show RS _ _ _ _ _ _ _ _; first | (refine nxRS ?_) | (refine nxRS1 fun _ => ?_))
    | (show RM _ _ _ _ _ _ _ _ _ _; first | (refine nxRM ?_) | (refine nxRM1 fun _ => ?_))
    | (refine nxG ?_)
    | (refine nxX ?_)
    | (refine G.condN rfl (fun hc => ?_) (fun hc => ?_) <;> (try first | exact False.elim hc | (exfalso; omega))))
  exact X.ret (vs := [_]) rfl ⟨rfl, rfl⟩ rfl (fun w hw => ⟨rfl, hw.ext⟩)
abbrev dateV (y m d : Int) : Value := .agg [.int .i64 y, .int .i64 m, .int .i64 d].toArray
theorem valid_c (y m d : Int) : Cont Tryz.prog 47 [dateV y m d] (.bool (validB y m d)) := fun w => by
  refine enter0 Tryz.func47 rfl rfl rfl ?_
  repeat' (first
    | (show YK _ _ _ _ _ _ _; first | refine YK.mk (y_callA (right_c _ _) ⟨rfl, rfl, rfl⟩) ?_ | refine YK.mk (y_callA (days_c _ _ (by simp only [Bool.and_eq_true] at hb; have := right_of hb.1; omega) (by simp only [Bool.and_eq_true] at hb; have := right_of hb.1; omega)) ⟨rfl, rfl, rfl⟩) ?_)
    | (show YK _ _ _ _ _ _ _; refine YK.ofV vAuto ?_)
    | (show VK _ _ _ _ _ _ _; refine VK.mk vAuto ?_)
    | (show RS _ _ _ _ _ _ _ _; first | (refine nxRS ?_) | (refine nxRS1 fun _ => ?_))
    | (show RM _ _ _ _ _ _ _ _ _ _; first | (refine nxRM ?_) | (refine nxRM1 fun _ => ?_))
    | (show YG _ _ _ _ _ _ _ _; refine YG.mk (fun hb => by (try (have hc := And.left hb; have hb := And.right hb; rw [hc])); (try rw [hb]); first | exact (y_callA (right_c _ _) ⟨rfl, rfl, rfl⟩) | exact (y_callA (days_c _ _ (by simp only [Bool.and_eq_true] at hb; have := right_of hb.1; omega) (by simp only [Bool.and_eq_true] at hb; have := right_of hb.1; omega)) ⟨rfl, rfl, rfl⟩) | exact V.y vAuto) ?_)
    | (show VG _ _ _ _ _ _ _ _; refine VG.mk (fun hb => by (try (have hc := And.left hb; have hb := And.right hb; rw [hc])); (try rw [hb]); exact vAuto) ?_)
    | (refine G.mixedA 1 [.go 0, .go 1, .go 2, .go 3, .go 4, .go 5, .go 6, .go 7, .go 8, .go 9, .go 10, .go 11, .go 12, .go 13, .go 14, .go 15, .go 16, .go 17, .go 18, .go 19, .go 20] ?_)
    | (refine nxX ?_)
    | (refine G.condN rfl (fun hc => ?_) (fun hc => ?_) <;> (try first | exact False.elim hc | (exfalso; omega))))
  exact X.ret (vs := [_]) rfl ⟨rfl, rfl⟩ rfl (fun w hw => ⟨rfl, hw.ext⟩)
theorem rvalid_c (y m d : Int) : Cont Tryz.prog 38 [dateV y m d] (.bool (validB y m d)) := fun w => by
  refine enter0 Tryz.func38 rfl rfl rfl ?_
  repeat' (first
    | (show YK _ _ _ _ _ _ _; first | refine YK.mk (y_callA (rdays_c _ _) ⟨rfl, rfl, rfl⟩) ?_)
    | (show YK _ _ _ _ _ _ _; refine YK.ofV vAuto ?_)
    | (show VK _ _ _ _ _ _ _; refine VK.mk vAuto ?_)
    | (show RS _ _ _ _ _ _ _ _; first | (refine nxRS ?_) | (refine nxRS1 fun _ => ?_))
    | (show RM _ _ _ _ _ _ _ _ _ _; first | (refine nxRM ?_) | (refine nxRM1 fun _ => ?_))
    | (show YG _ _ _ _ _ _ _ _; refine YG.mk (fun hb => by (try (have hc := And.left hb; have hb := And.right hb; rw [hc])); (try rw [hb]); first | exact (y_callA (rdays_c _ _) ⟨rfl, rfl, rfl⟩) | exact V.y vAuto) ?_)
    | (show VG _ _ _ _ _ _ _ _; refine VG.mk (fun hb => by (try (have hc := And.left hb; have hb := And.right hb; rw [hc])); (try rw [hb]); exact vAuto) ?_)
    | (refine G.mixedA 1 [.go 0, .go 1, .go 2, .go 3, .go 4, .go 5, .go 6, .go 7, .go 8, .go 9, .go 10, .go 11, .go 12, .go 13, .go 14, .go 15, .go 16, .go 17, .go 18, .go 19, .go 20, .go 21, .go 22, .go 23, .go 24, .go 25, .go 26, .go 27, .go 28, .go 29, .go 30, .go 31, .go 32, .go 33] ?_)
    | (refine nxX ?_)
    | (refine G.condN rfl (fun hc => ?_) (fun hc => ?_) <;> (try first | exact False.elim hc | (exfalso; omega))))
  exact X.ret (vs := [_]) rfl ⟨rfl, rfl⟩ rfl (fun w hw => ⟨rfl, hw.ext⟩)

theorem doy_c (y m d : Int) (hv : validB y m d = true) : Cont Tryz.prog 70 [dateV y m d] (.int .i64 (doy y m d)) := fun w => by
  obtain ⟨hy, hm, hd⟩ := valid_of hv
  have hdm := dim_bd y m
  refine enter0 Tryz.func70 rfl rfl rfl ?_
  repeat' (first
    | (refine nxV ?_)
    | (show RS _ _ _ _ _ _ _ _; first | (refine nxRS ?_) | (refine nxRS1 fun _ => ?_))
    | (show RM _ _ _ _ _ _ _ _ _ _; first | (refine nxRM ?_) | (refine nxRM1 fun _ => ?_))
    | (refine nxG ?_)
    | (refine nxX ?_)
    | (refine G.condN rfl (fun hc => ?_) (fun hc => ?_) <;> (try first | exact False.elim hc | (exfalso; omega))))
  rename_i b
  refine G.loop (ι := Nat × Int) (fun x => [(1, .pointer (some ⟨b, 0, none⟩)), (3, .int .i64 x.2), (4, .int .i64 ((x.1 : Int) + 1))]) (fun _ => [.blk b 36 [.int .i64 y, .int .i64 m, .int .i64 d]])
    (fun x => (x.1 : Int) + 1 ≤ m ∧ x.2 = d + cum y x.1) (fun x => 12 - x.1) (0, d) ⟨by omega, by simp [cum]⟩ ⟨rfl, rfl, rfl, trivial⟩ (fun w h => h) ?_
  rintro ⟨k, s⟩ mx ⟨hk, hs⟩ hmx
  dsimp only at hk hs hmx
  have hc := cum_bd y k
  have hc1 := dim_bd y ((k : Int) + 1)
  dsimp only
  repeat' (first
    | (show YK _ _ _ _ _ _ _; first | refine YK.mk (y_callA (days_c _ _ (by omega) (by omega)) ⟨rfl, rfl, rfl⟩) ?_)
    | (show YK _ _ _ _ _ _ _; refine YK.ofV vAuto ?_)
    | (show VK _ _ _ _ _ _ _; refine VK.mk vAuto ?_)
    | (show RS _ _ _ _ _ _ _ _; first | (refine nxRS ?_) | (refine nxRS1 fun _ => ?_))
    | (show RM _ _ _ _ _ _ _ _ _ _; first | (refine nxRM ?_) | (refine nxRM1 fun _ => ?_))
    | (show YG _ _ _ _ _ _ _ _; refine YG.mk (fun hb => by (try (have hc := And.left hb; have hb := And.right hb; rw [hc])); (try rw [hb]); first | exact (y_callA (days_c _ _ (by omega) (by omega)) ⟨rfl, rfl, rfl⟩) | exact V.y vAuto) ?_)
    | (show VG _ _ _ _ _ _ _ _; refine VG.mk (fun hb => by (try (have hc := And.left hb; have hb := And.right hb; rw [hc])); (try rw [hb]); exact vAuto) ?_)
    | (refine nxX ?_)
    | (refine G.condN rfl (fun hc => ?_) (fun hc => ?_) <;> (try first | exact False.elim hc | (exfalso; omega))))
  · apply X.again (k + 1, s + dim y ((k : Int) + 1))
    · exact ⟨by simp only; omega, by simp only [cum]; omega⟩
    · simp only; omega
    · exact ⟨rfl, rfl, rfl, trivial⟩
    · exact fun w h => h.sub (by repeat (first | exact List.Sublist.refl _ | apply List.Sublist.cons_cons | apply List.Sublist.cons))
  · refine X.ret (vs := [_]) rfl ⟨rfl, rfl⟩ rfl (fun w hw => ⟨?_, hw.ext⟩)
    have : (m - 1).toNat = k := by omega
    rw [doy, this, hs]
theorem rdoy_c (y m d : Int) (hv : validB y m d = true) : Cont Tryz.prog 62 [dateV y m d] (.int .i64 (doy y m d)) := fun w => by
  obtain ⟨hy, hm, hd⟩ := valid_of hv
  have hdm := dim_bd y m
  refine enter0 Tryz.func62 rfl rfl rfl ?_
  repeat' (first
    | (refine nxV ?_)
    | (show RS _ _ _ _ _ _ _ _; first | (refine nxRS ?_) | (refine nxRS1 fun _ => ?_))
    | (show RM _ _ _ _ _ _ _ _ _ _; first | (refine nxRM ?_) | (refine nxRM1 fun _ => ?_))
    | (refine nxG ?_)
    | (refine nxX ?_)
    | (refine G.condN rfl (fun hc => ?_) (fun hc => ?_) <;> (try first | exact False.elim hc | (exfalso; omega))))
  rename_i b
  refine G.loop (ι := Nat × Int) (fun x => [(1, .pointer (some ⟨b, 0, none⟩)), (3, .int .i64 x.2), (4, .int .i64 ((x.1 : Int) + 1))]) (fun _ => [.blk b 36 [.int .i64 y, .int .i64 m, .int .i64 d]])
    (fun x => (x.1 : Int) + 1 ≤ m ∧ x.2 = d + cum y x.1) (fun x => 12 - x.1) (0, d) ⟨by omega, by simp [cum]⟩ ⟨rfl, rfl, rfl, trivial⟩ (fun w h => h) ?_
  rintro ⟨k, s⟩ mx ⟨hk, hs⟩ hmx
  dsimp only at hk hs hmx
  have hc := cum_bd y k
  have hc1 := dim_bd y ((k : Int) + 1)
  dsimp only
  repeat' (first
    | (show YK _ _ _ _ _ _ _; first | refine YK.mk (y_callA (rdays_c _ _) ⟨rfl, rfl, rfl⟩) ?_)
    | (show YK _ _ _ _ _ _ _; refine YK.ofV vAuto ?_)
    | (show VK _ _ _ _ _ _ _; refine VK.mk vAuto ?_)
    | (show RS _ _ _ _ _ _ _ _; first | (refine nxRS ?_) | (refine nxRS1 fun _ => ?_))
    | (show RM _ _ _ _ _ _ _ _ _ _; first | (refine nxRM ?_) | (refine nxRM1 fun _ => ?_))
    | (show YG _ _ _ _ _ _ _ _; refine YG.mk (fun hb => by (try (have hc := And.left hb; have hb := And.right hb; rw [hc])); (try rw [hb]); first | exact (y_callA (rdays_c _ _) ⟨rfl, rfl, rfl⟩) | exact V.y vAuto) ?_)
    | (show VG _ _ _ _ _ _ _ _; refine VG.mk (fun hb => by (try (have hc := And.left hb; have hb := And.right hb; rw [hc])); (try rw [hb]); exact vAuto) ?_)
    | (refine nxX ?_)
    | (refine G.condN rfl (fun hc => ?_) (fun hc => ?_) <;> (try first | exact False.elim hc | (exfalso; omega))))
  · apply X.again (k + 1, s + dim y ((k : Int) + 1))
    · exact ⟨by simp only; omega, by simp only [cum]; omega⟩
    · simp only; omega
    · exact ⟨rfl, rfl, rfl, trivial⟩
    · exact fun w h => h.sub (by repeat (first | exact List.Sublist.refl _ | apply List.Sublist.cons_cons | apply List.Sublist.cons))
  · refine X.ret (vs := [_]) rfl ⟨rfl, rfl⟩ rfl (fun w hw => ⟨?_, hw.ext⟩)
    have : (m - 1).toNat = k := by omega
    rw [doy, this, hs]
end Go.Proofs.YtpnfmbfehbnljaaGreatDoor
