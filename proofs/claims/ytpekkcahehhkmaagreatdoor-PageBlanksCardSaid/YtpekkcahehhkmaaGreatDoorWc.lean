/- Joined texts: CalPlain, Cal, Cal2, Pg1, Par13, Bld, Rev, LaidC, Ang, RndP, Dcp, Fnd, Ent, Ent2, RndQ. -/
import Derived.Test.YtpekkcahehhkmaaGreatDoorWa
import Derived.Test.YtpekkcahehhkmaaGreatDoorRows
import Derived.Test.YtpekkcahehhkmaaGreatDoorWb
import Derived.Recover
import Derived.Tactics2
import Derived.Lib.Builder
import Derived.Lib.AppendStr
import Derived.Test.YtpekkcahehhkmaaGreatDoorShelf
/- The calendar in plain Lean: no program in sight. -/
set_option linter.unusedVariables false
namespace Go.Proofs.YtpekkcahehhkmaaGreatDoor

def leapB (y : Int) : Bool := decide (y.tmod 4 = 0) && (!decide (y.tmod 100 = 0) || decide (y.tmod 400 = 0))
def leapR (y : Int) : Bool := (decide (y.tmod 4 = 0) && !decide (y.tmod 100 = 0)) || decide (y.tmod 400 = 0)
theorem leap_same (y : Int) : leapR y = leapB y := by
  unfold leapR leapB
  have h : y.tmod 400 = 0 → y.tmod 4 = 0 := fun h => by
    have h1 : (400 : Int) ∣ y := Int.dvd_of_tmod_eq_zero h
    exact Int.tmod_eq_zero_of_dvd (Int.dvd_trans (by decide) h1)
  by_cases h1 : y.tmod 4 = 0 <;> by_cases h2 : y.tmod 100 = 0 <;> by_cases h3 : y.tmod 400 = 0 <;> simp_all
def rightB (y m : Int) : Bool := ((decide (1 ≤ y) && decide (y ≤ 9999)) && decide (1 ≤ m)) && decide (m ≤ 12)
theorem right_of {y m : Int} (h : rightB y m = true) : (1 ≤ y ∧ y ≤ 9999) ∧ 1 ≤ m ∧ m ≤ 12 := by
  simpa [rightB, and_assoc] using h
def before (y : Int) : Int := 365 * (y - 1) + (y - 1) / 4 - (y - 1) / 100 + (y - 1) / 400
theorem before_bd {y : Int} (h1 : 1 ≤ y) (h2 : y ≤ 10000) : 0 ≤ before y ∧ before y ≤ 3652059 := by unfold before; omega
def monthLen (m : Int) : Int := if m = 2 then 28 else if m = 4 ∨ m = 6 ∨ m = 9 ∨ m = 11 then 30 else 31
def dim (y m : Int) : Int := if m = 2 then (if leapB y then 29 else 28) else if m = 4 ∨ m = 6 ∨ m = 9 ∨ m = 11 then 30 else 31
theorem dim_bd (y m : Int) : 28 ≤ dim y m ∧ dim y m ≤ 31 := by
  unfold dim; split
  · split <;> omega
  · split <;> omega
/-- The days of the first k months. -/
def cum (y : Int) : Nat → Int
  | 0 => 0
  | k + 1 => cum y k + dim y (k + 1)
theorem cum_bd (y : Int) : ∀ k : Nat, 0 ≤ cum y k ∧ cum y k ≤ 31 * k
  | 0 => by simp [cum]
  | k + 1 => by have := cum_bd y k; have := dim_bd y (k + 1); simp only [cum]; omega
def validB (y m d : Int) : Bool := (rightB y m && decide (1 ≤ d)) && decide (d ≤ dim y m)
theorem valid_of {y m d : Int} (h : validB y m d = true) : (1 ≤ y ∧ y ≤ 9999) ∧ (1 ≤ m ∧ m ≤ 12) ∧ 1 ≤ d ∧ d ≤ dim y m := by
  simp only [validB, Bool.and_eq_true, decide_eq_true_eq] at h
  exact ⟨(right_of h.1.1).1, (right_of h.1.1).2, h.1.2, h.2⟩
theorem valid_mk {y m d : Int} (h : (1 ≤ y ∧ y ≤ 9999) ∧ (1 ≤ m ∧ m ≤ 12) ∧ 1 ≤ d ∧ d ≤ dim y m) : validB y m d = true := by
  simp [validB, rightB]; omega
def doy (y m d : Int) : Int := d + cum y (m - 1).toNat
def num (y m d : Int) : Int := before y - 730119 + doy y m d - 1
theorem before2000 : before 2000 = 730119 := by decide

theorem before_mono {a b : Int} (h1 : 1 ≤ a) (h : a ≤ b) : before a ≤ before b := by unfold before; omega
theorem before_lt {a b : Int} (h1 : 1 ≤ a) (h : a < b) : before a < before b := by unfold before; omega
theorem before_1 : before 1 = 0 := by decide
theorem before_10000 : before 10000 = 3652059 := by decide
theorem leap_iff {y : Int} (h : 0 ≤ y) : leapB y = true ↔ (y % 4 = 0 ∧ (y % 100 ≠ 0 ∨ y % 400 = 0)) := by
  simp [leapB, Int.tmod_eq_emod_of_nonneg h]
theorem cum12 (y : Int) : cum y 12 = if leapB y then 366 else 365 := by
  cases h : leapB y <;> simp [cum, dim, h]
theorem year_len {y : Int} (h : 1 ≤ y) : before (y + 1) = before y + cum y 12 := by
  rw [cum12]
  have hl := leap_iff (y := y) (by omega)
  unfold before
  split
  · rename_i hb
    have := hl.1 hb
    omega
  · rename_i hb
    have : ¬ (y % 4 = 0 ∧ (y % 100 ≠ 0 ∨ y % 400 = 0)) := fun h => hb (hl.2 h)
    omega
theorem cum_mono (y : Int) {a b : Nat} (h : a ≤ b) : cum y a ≤ cum y b := by
  induction b with
  | zero => have : a = 0 := by omega
            subst this; exact Int.le_refl _
  | succ b ih =>
    by_cases e : a = b + 1
    · subst e; exact Int.le_refl _
    · have := ih (by omega); have := dim_bd y (b + 1); simp only [cum]; omega
theorem num_in {y m d : Int} (hv : validB y m d = true) : before y ≤ num y m d + 730119 ∧ num y m d + 730119 < before (y + 1) := by
  obtain ⟨hy, hm, hd⟩ := valid_of hv
  have hl := year_len hy.1
  unfold num doy
  obtain ⟨k, hk⟩ : ∃ k : Nat, m = (k : Int) + 1 := ⟨(m - 1).toNat, by omega⟩
  subst hk
  have e : ((k : Int) + 1 - 1).toNat = k := by omega
  rw [e]
  have h0 := cum_bd y k
  have h1 := cum_mono y (a := k + 1) (b := 12) (by omega)
  simp only [cum] at h1 hl
  omega
theorem num_bd {y m d : Int} (hv : validB y m d = true) : -730119 ≤ num y m d ∧ num y m d ≤ 2921939 := by
  have h := num_in hv
  obtain ⟨hy, hm, hd⟩ := valid_of hv
  have h1 := before_mono (a := 1) (b := y) (by omega) hy.1
  have h2 := before_mono (a := y + 1) (b := 10000) (by omega) (by omega)
  rw [before_1] at h1
  rw [before_10000] at h2
  omega
theorem year_ex (N : Int) (h0 : 0 ≤ N) : ∀ k : Nat, N < before ((k : Int) + 1) → ∃ y : Int, 1 ≤ y ∧ y ≤ k ∧ before y ≤ N ∧ N < before (y + 1)
  | 0, h => by rw [show (((0 : Nat) : Int) + 1) = 1 from rfl, before_1] at h; omega
  | k + 1, h => by
    by_cases e : N < before ((k : Int) + 1)
    · obtain ⟨y, h1, h2, h3⟩ := year_ex N h0 k e
      exact ⟨y, h1, by omega, h3⟩
    · exact ⟨(k : Int) + 1, by omega, by omega, by omega, by simpa using h⟩
theorem month_ex (y r : Int) (h0 : 0 ≤ r) : ∀ k : Nat, r < cum y k → ∃ j : Nat, j < k ∧ cum y j ≤ r ∧ r < cum y (j + 1)
  | 0, h => by simp [cum] at h; omega
  | k + 1, h => by
    by_cases e : r < cum y k
    · obtain ⟨j, h1, h2⟩ := month_ex y r h0 k e
      exact ⟨j, by omega, h2⟩
    · exact ⟨k, by omega, by omega, h⟩
/-- Every number in range is that of a date. -/
theorem date_ex (n : Int) (h1 : -730119 ≤ n) (h2 : n ≤ 2921939) : ∃ y m d : Int, validB y m d = true ∧ num y m d = n := by
  obtain ⟨y, hy1, hy2, hy3, hy4⟩ := year_ex (n + 730119) (by omega) 9999 (by rw [show (((9999 : Nat) : Int) + 1) = 10000 from rfl, before_10000]; omega)
  rw [year_len hy1] at hy4
  obtain ⟨j, hj, hj1, hj2⟩ := month_ex y (n + 730119 - before y) (by omega) 12 (by omega)
  refine ⟨y, (j : Int) + 1, n + 730119 - before y - cum y j + 1, valid_mk ⟨⟨hy1, by omega⟩, ⟨by omega, by omega⟩, by omega, ?_⟩, ?_⟩
  · simp only [cum] at hj2; omega
  · unfold num doy
    rw [show ((j : Int) + 1 - 1).toNat = j by omega]
    omega
def wd (y m d : Int) : Int := (num y m d + 5) % 7 + 1

theorem doy_inj {y m d m' d' : Int} (hm : 1 ≤ m) (hm' : 1 ≤ m') (hd : 1 ≤ d ∧ d ≤ dim y m) (hd' : 1 ≤ d' ∧ d' ≤ dim y m') (h : doy y m d = doy y m' d') : m = m' ∧ d = d' := by
  obtain ⟨j, hj⟩ : ∃ j : Nat, m = (j : Int) + 1 := ⟨(m - 1).toNat, by omega⟩
  obtain ⟨k, hk⟩ : ∃ k : Nat, m' = (k : Int) + 1 := ⟨(m' - 1).toNat, by omega⟩
  subst hj hk
  unfold doy at h
  rw [show ((j : Int) + 1 - 1).toNat = j by omega, show ((k : Int) + 1 - 1).toNat = k by omega] at h
  rcases Nat.lt_trichotomy j k with hlt | heq | hlt
  · have := cum_mono y (a := j + 1) (b := k) (by omega)
    simp only [cum] at this
    omega
  · subst heq; omega
  · have := cum_mono y (a := k + 1) (b := j) (by omega)
    simp only [cum] at this
    omega
theorem num_inj {y m d y' m' d' : Int} (hv : validB y m d = true) (hv' : validB y' m' d' = true) (h : num y m d = num y' m' d') : y = y' ∧ m = m' ∧ d = d' := by
  have h1 := num_in hv
  have h2 := num_in hv'
  obtain ⟨hy, hm, hd⟩ := valid_of hv
  obtain ⟨hy', hm', hd'⟩ := valid_of hv'
  have e : y = y' := by
    rcases Int.lt_trichotomy y y' with hlt | heq | hlt
    · have := before_mono (a := y + 1) (b := y') (by omega) (by omega); omega
    · exact heq
    · have := before_mono (a := y' + 1) (b := y) (by omega) (by omega); omega
  subst e
  have hdd : doy y m d = doy y m' d' := by unfold num at h; omega
  exact ⟨rfl, doy_inj hm.1 hm'.1 hd hd' hdd⟩
theorem doy_next (y m d : Int) (hm : 1 ≤ m) : doy y (m + 1) 1 = doy y m (dim y m) + 1 := by
  obtain ⟨j, hj⟩ : ∃ j : Nat, m = (j : Int) + 1 := ⟨(m - 1).toNat, by omega⟩
  subst hj
  unfold doy
  rw [show ((j : Int) + 1 + 1 - 1).toNat = j + 1 by omega, show ((j : Int) + 1 - 1).toNat = j by omega]
  simp only [cum]; omega
theorem next_day {y m d : Int} (hv : validB y m d = true) (h : d < dim y m) : validB y m (d + 1) = true ∧ num y m (d + 1) = num y m d + 1 ∧ doy y m (d + 1) = doy y m d + 1 := by
  obtain ⟨hy, hm, hd⟩ := valid_of hv
  exact ⟨valid_mk ⟨hy, hm, by omega, by omega⟩, by unfold num doy; omega, by unfold doy; omega⟩
theorem next_month {y m d : Int} (hv : validB y m d = true) (h : ¬ d < dim y m) (hm12 : m < 12) : validB y (m + 1) 1 = true ∧ num y (m + 1) 1 = num y m d + 1 ∧ doy y (m + 1) 1 = doy y m d + 1 := by
  obtain ⟨hy, hm, hd⟩ := valid_of hv
  have e : d = dim y m := by omega
  have := dim_bd y (m + 1)
  have hn := doy_next y m d hm.1
  rw [← e] at hn
  exact ⟨valid_mk ⟨hy, by omega, by omega, by omega⟩, by unfold num; omega, hn⟩
theorem next_year {y m d : Int} (hv : validB y m d = true) (h : ¬ d < dim y m) (hm12 : ¬ m < 12) (hy2 : y < 9999) :
    validB (y + 1) 1 1 = true ∧ num (y + 1) 1 1 = num y m d + 1 ∧ doy (y + 1) 1 1 = 1 ∧ doy y m d = if leapB y then 366 else 365 := by
  obtain ⟨hy, hm, hd⟩ := valid_of hv
  have e : d = dim y m := by omega
  obtain rfl : m = 12 := by omega
  have := dim_bd (y + 1) 1
  have hc := cum12 y
  have hl := year_len hy.1
  have hdoy : doy y 12 d = cum y 12 := by
    unfold doy; rw [e]
    rw [show ((12 : Int) - 1).toNat = 11 from rfl]
    simp only [cum]
    have : ((11 : Nat) : Int) + 1 = 12 := rfl
    rw [this]; omega
  refine ⟨valid_mk ⟨by omega, by omega, by omega, by omega⟩, ?_, by simp [doy, cum], by rw [hdoy, hc]⟩
  unfold num
  rw [hdoy, hl]
  simp [doy, cum]; omega
theorem last_num {y m d : Int} (hv : validB y m d = true) (h : num y m d = 2921939) : y = 9999 ∧ m = 12 ∧ d = 31 :=
  num_inj hv (y' := 9999) (m' := 12) (d' := 31) (by decide) (by rw [h]; decide)
theorem wd_next {y m d y' m' d' : Int} (h : num y' m' d' = num y m d + 1) (hb : -730119 ≤ num y m d) : wd y' m' d' = wd y m d % 7 + 1 := by unfold wd; rw [h]; omega
theorem wd_bd (y m d : Int) : 1 ≤ wd y m d ∧ wd y m d ≤ 7 := by unfold wd; omega
end Go.Proofs.YtpekkcahehhkmaaGreatDoor
/- The calendar's functions: what each returns. -/
set_option linter.unusedVariables false
namespace Go.Proofs.YtpekkcahehhkmaaGreatDoor
open Go.RowKit

theorem leap_c (y : Int) : Cont Tryz.prog 132 [.int .i64 y] (.bool (leapB y)) := fun w => by
  refine enter0 Tryz.func132 rfl rfl rfl ?_
  repeat' (first
    | (refine nxV ?_)
    | (show RS _ _ _ _ _ _ _ _; first | (refine nxRS ?_) | (refine nxRS1 fun _ => ?_))
    | (show RM _ _ _ _ _ _ _ _ _ _; first | (refine nxRM ?_) | (refine nxRM1 fun _ => ?_))
    | (refine nxG ?_)
    | (refine nxX ?_)
    | (refine G.condN rfl (fun hc => ?_) (fun hc => ?_) <;> (try first | exact False.elim hc | (exfalso; omega))))
  exact X.ret (vs := [_]) rfl ⟨rfl, rfl⟩ rfl (fun w hw => ⟨rfl, hw.ext⟩)
theorem rleap_c (y : Int) : Cont Tryz.prog 111 [.int .i64 y] (.bool (leapB y)) := fun w => by
  rw [← leap_same]
  refine enter0 Tryz.func111 rfl rfl rfl ?_
  repeat' (first
    | (refine nxV ?_)
    | (show RS _ _ _ _ _ _ _ _; first | (refine nxRS ?_) | (refine nxRS1 fun _ => ?_))
    | (show RM _ _ _ _ _ _ _ _ _ _; first | (refine nxRM ?_) | (refine nxRM1 fun _ => ?_))
    | (refine nxG ?_)
    | (refine nxX ?_)
    | (refine G.condN rfl (fun hc => ?_) (fun hc => ?_) <;> (try first | exact False.elim hc | (exfalso; omega))))
  exact X.ret (vs := [_]) rfl ⟨rfl, rfl⟩ rfl (fun w hw => ⟨rfl, hw.ext⟩)
theorem right_c (y m : Int) : Cont Tryz.prog 102 [.int .i64 y, .int .i64 m] (.bool (rightB y m)) := fun w => by
  refine enter0 Tryz.func102 rfl rfl rfl ?_
  repeat' (first
    | (refine nxV ?_)
    | (show RS _ _ _ _ _ _ _ _; first | (refine nxRS ?_) | (refine nxRS1 fun _ => ?_))
    | (show RM _ _ _ _ _ _ _ _ _ _; first | (refine nxRM ?_) | (refine nxRM1 fun _ => ?_))
    | (refine nxG ?_)
    | (refine nxX ?_)
    | (refine G.condN rfl (fun hc => ?_) (fun hc => ?_) <;> (try first | exact False.elim hc | (exfalso; omega))))
  exact X.ret (vs := [_]) rfl ⟨rfl, rfl⟩ rfl (fun w hw => ⟨rfl, hw.ext⟩)
def lens : List Value := [.int .i64 31, .int .i64 28, .int .i64 31, .int .i64 30, .int .i64 31, .int .i64 30, .int .i64 31, .int .i64 31, .int .i64 30, .int .i64 31, .int .i64 30, .int .i64 31]
theorem zeroLens : zeroOf Tryz.prog 151 = some (.agg (List.replicate 12 (.int .i64 0)).toArray) := by kernel_rfl
theorem zeroDate : zeroOf Tryz.prog 23 = some (.agg [.int .i64 0, .int .i64 0, .int .i64 0].toArray) := by kernel_rfl
theorem lengths_c : Cont Tryz.prog 133 [] (.agg lens.toArray) := fun w => by
  refine enter0 Tryz.func133 rfl rfl rfl ?_
  repeat' (first
    | (show YK _ _ _ _ _ ⟨_, .build _ _, _, _, _, _⟩ _; refine YK.ofV (y_buildV (vs := lens) ⟨rfl, rfl, rfl, rfl, rfl, rfl, rfl, rfl, rfl, rfl, rfl, rfl, rfl⟩ (by kernel_rfl)) ?_)
    | (refine nxV ?_)
    | (show RS _ _ _ _ _ _ _ _; first | (refine nxRS ?_) | (refine nxRS1 fun _ => ?_))
    | (show RM _ _ _ _ _ _ _ _ _ _; first | (refine nxRM ?_) | (refine nxRM1 fun _ => ?_))
    | (refine nxG ?_)
    | (refine nxX ?_)
    | (refine G.condN rfl (fun hc => ?_) (fun hc => ?_) <;> (try first | exact False.elim hc | (exfalso; omega))))
  exact X.ret (vs := [_]) rfl ⟨⟨_, _, _, _, rfl, (by exact memA), (by (repeat (first | exact .nil | apply LenIs.cons))), by decide +kernel, rfl⟩, rfl⟩ rfl (fun w hw => ⟨rfl, hw.ext⟩)
theorem lens_at {m : Int} (h1 : 1 ≤ m) (h2 : m ≤ 12) : lens[(m - 1).toNat]? = some (.int .i64 (monthLen m)) := by
  have : m = 1 ∨ m = 2 ∨ m = 3 ∨ m = 4 ∨ m = 5 ∨ m = 6 ∨ m = 7 ∨ m = 8 ∨ m = 9 ∨ m = 10 ∨ m = 11 ∨ m = 12 := by omega
  rcases this with rfl | rfl | rfl | rfl | rfl | rfl | rfl | rfl | rfl | rfl | rfl | rfl <;> rfl
theorem days_c (y m : Int) (h1 : 1 ≤ m) (h2 : m ≤ 12) : Cont Tryz.prog 103 [.int .i64 y, .int .i64 m] (.int .i64 (dim y m)) := fun w => by
  refine enter0 Tryz.func103 rfl rfl rfl ?_
  repeat' (first
    | (show YK _ _ _ _ _ ⟨_, .index _ _ _, _, _, _, _⟩ _; refine YK.ofV (y_index (i := (m - 1).toNat) (by rfl) (by rfl) (by omega) (lens_at h1 h2) (by (repeat (first | exact .nil | apply LenIs.cons))) (by decide +kernel)) ?_)
    | (show YK _ _ _ _ _ _ _; first | refine YK.mk (y_callA (leap_c _) ⟨rfl, rfl⟩) ?_ | refine YK.mk (y_callA (lengths_c) rfl) ?_)
    | (show YK _ _ _ _ _ _ _; refine YK.ofV vAuto ?_)
    | (show VK _ _ _ _ _ _ _; refine VK.mk vAuto ?_)
    | (show RS _ _ _ _ _ _ _ _; first | (refine nxRS ?_) | (refine nxRS1 fun _ => ?_))
    | (show RM _ _ _ _ _ _ _ _ _ _; first | (refine nxRM ?_) | (refine nxRM1 fun _ => ?_))
    | (show YG _ _ _ _ _ _ _ _; refine YG.mk (fun hb => by (try (have hc := And.left hb; have hb := And.right hb; rw [hc])); (try rw [hb]); first | exact (y_callA (leap_c _) ⟨rfl, rfl⟩) | exact (y_callA (lengths_c) rfl) | exact V.y vAuto) ?_)
    | (show VG _ _ _ _ _ _ _ _; refine VG.mk (fun hb => by (try (have hc := And.left hb; have hb := And.right hb; rw [hc])); (try rw [hb]); exact vAuto) ?_)
    | (refine nxX ?_)
    | (refine G.condN rfl (fun hc => ?_) (fun hc => ?_) <;> (try first | exact False.elim hc | (exfalso; omega))))
  all_goals refine X.ret (vs := [_]) rfl ⟨rfl, rfl⟩ rfl (fun w hw => ⟨?_, hw.ext⟩)
  · simp [dim, hc.1, hc.2]
  · rcases hc with hc | hc
    · simp [dim, monthLen, hc]
    · simp [dim, monthLen, hc]
theorem rdays_c (y m : Int) : Cont Tryz.prog 72 [.int .i64 y, .int .i64 m] (.int .i64 (dim y m)) := fun w => by
  refine enter0 Tryz.func72 rfl rfl rfl ?_
  repeat' (first
    | (show YK _ _ _ _ _ _ _; first | refine YK.mk (y_callA (rleap_c _) ⟨rfl, rfl⟩) ?_)
    | (show YK _ _ _ _ _ _ _; refine YK.ofV vAuto ?_)
    | (show VK _ _ _ _ _ _ _; refine VK.mk vAuto ?_)
    | (show RS _ _ _ _ _ _ _ _; first | (refine nxRS ?_) | (refine nxRS1 fun _ => ?_))
    | (show RM _ _ _ _ _ _ _ _ _ _; first | (refine nxRM ?_) | (refine nxRM1 fun _ => ?_))
    | (show YG _ _ _ _ _ _ _ _; refine YG.mk (fun hb => by (try (have hc := And.left hb; have hb := And.right hb; rw [hc])); (try rw [hb]); first | exact (y_callA (rleap_c _) ⟨rfl, rfl⟩) | exact V.y vAuto) ?_)
    | (show VG _ _ _ _ _ _ _ _; refine VG.mk (fun hb => by (try (have hc := And.left hb; have hb := And.right hb; rw [hc])); (try rw [hb]); exact vAuto) ?_)
    | (refine nxX ?_)
    | (refine G.condN rfl (fun hc => ?_) (fun hc => ?_) <;> (try first | exact False.elim hc | (exfalso; omega))))
  all_goals refine X.ret (vs := [_]) rfl ⟨rfl, rfl⟩ rfl (fun w hw => ⟨?_, hw.ext⟩)
  all_goals (simp only [dim, *, if_true, if_false]; try rfl)
  all_goals first
    | (have h : m = 4 ∨ m = 6 ∨ m = 9 ∨ m = 11 := by omega
       simp [h]; done)
    | (have h : ¬ (m = 4 ∨ m = 6 ∨ m = 9 ∨ m = 11) := by omega
       simp [h]; done)
theorem before_c (y : Int) (h1 : 1 ≤ y) (h2 : y ≤ 10000) : Cont Tryz.prog 104 [.int .i64 y] (.int .i64 (before y)) := fun w => by
  refine enter0 Tryz.func104 rfl rfl rfl ?_
  repeat' (first
    | (refine nxV ?_)
    | (show RS _ _ _ _ _ _ _ _; first | (refine nxRS ?_) | (refine nxRS1 fun _ => ?_))
    | (show RM _ _ _ _ _ _ _ _ _ _; first | (refine nxRM ?_) | (refine nxRM1 fun _ => ?_))
    | (refine nxG ?_)
    | (refine nxX ?_)
    | (refine G.condN rfl (fun hc => ?_) (fun hc => ?_) <;> (try first | exact False.elim hc | (exfalso; omega))))
  exact X.ret (vs := [_]) rfl ⟨rfl, rfl⟩ rfl (fun w hw => ⟨rfl, hw.ext⟩)
theorem rbefore_c (y : Int) (h1 : 1 ≤ y) (h2 : y ≤ 10000) : Cont Tryz.prog 73 [.int .i64 y] (.int .i64 (before y)) := fun w => by
  refine enter0 Tryz.func73 rfl rfl rfl ?_
  repeat' (first
    | (refine nxV ?_)
    | (show RS _ _ _ _ _ _ _ _; first | (refine nxRS ?_) | (refine nxRS1 fun _ => ?_))
    | (show RM _ _ _ _ _ _ _ _ _ _; first | (refine nxRM ?_) | (refine nxRM1 fun _ => ?_))
    | (refine nxG ?_)
    | (refine nxX ?_)
    | (refine G.condN rfl (fun hc => ?_) (fun hc => ?_) <;> (try first | exact False.elim hc | (exfalso; omega))))
  exact X.ret (vs := [_]) rfl ⟨rfl, rfl⟩ rfl (fun w hw => ⟨rfl, hw.ext⟩)
abbrev dateV (y m d : Int) : Value := .agg [.int .i64 y, .int .i64 m, .int .i64 d].toArray
theorem valid_c (y m d : Int) : Cont Tryz.prog 68 [dateV y m d] (.bool (validB y m d)) := fun w => by
  refine enter0 Tryz.func68 rfl rfl rfl ?_
  repeat' (first
    | (show YK _ _ _ _ _ _ _; first | refine YK.mk (y_callA (right_c _ _) ⟨rfl, rfl, rfl⟩) ?_ | refine YK.mk (y_callA (days_c _ _ (by simp only [Bool.and_eq_true] at hb; have := right_of hb.1; omega) (by simp only [Bool.and_eq_true] at hb; have := right_of hb.1; omega)) ⟨rfl, rfl, rfl⟩) ?_)
    | (show YK _ _ _ _ _ _ _; refine YK.ofV vAuto ?_)
    | (show VK _ _ _ _ _ _ _; refine VK.mk vAuto ?_)
    | (show RS _ _ _ _ _ _ _ _; first | (refine nxRS ?_) | (refine nxRS1 fun _ => ?_))
    | (show RM _ _ _ _ _ _ _ _ _ _; first | (refine nxRM ?_) | (refine nxRM1 fun _ => ?_))
    | (show YG _ _ _ _ _ _ _ _; refine YG.mk (fun hb => by (try (have hc := And.left hb; have hb := And.right hb; rw [hc])); (try rw [hb]); first | exact (y_callA (right_c _ _) ⟨rfl, rfl, rfl⟩) | exact (y_callA (days_c _ _ (by simp only [Bool.and_eq_true] at hb; have := right_of hb.1; omega) (by simp only [Bool.and_eq_true] at hb; have := right_of hb.1; omega)) ⟨rfl, rfl, rfl⟩) | exact V.y vAuto) ?_)
    | (show VG _ _ _ _ _ _ _ _; refine VG.mk (fun hb => by (try (have hc := And.left hb; have hb := And.right hb; rw [hc])); (try rw [hb]); exact vAuto) ?_)
    | (refine G.mixedA 1 [.go 0, .go 1, .go 2, .go 3, .go 4, .go 5, .go 6, .go 7, .go 8, .go 9, .go 10, .go 11, .go 12, .go 13, .go 14, .go 15, .go 16, .go 17, .go 18, .go 19, .go 20] ?_)
    | (refine nxX ?_)
    | (refine G.condN rfl (fun hc => ?_) (fun hc => ?_) <;> (try first | exact False.elim hc | (exfalso; omega))))
  exact X.ret (vs := [_]) rfl ⟨rfl, rfl⟩ rfl (fun w hw => ⟨rfl, hw.ext⟩)
theorem rvalid_c (y m d : Int) : Cont Tryz.prog 37 [dateV y m d] (.bool (validB y m d)) := fun w => by
  refine enter0 Tryz.func37 rfl rfl rfl ?_
  repeat' (first
    | (show YK _ _ _ _ _ _ _; first | refine YK.mk (y_callA (rdays_c _ _) ⟨rfl, rfl, rfl⟩) ?_)
    | (show YK _ _ _ _ _ _ _; refine YK.ofV vAuto ?_)
    | (show VK _ _ _ _ _ _ _; refine VK.mk vAuto ?_)
    | (show RS _ _ _ _ _ _ _ _; first | (refine nxRS ?_) | (refine nxRS1 fun _ => ?_))
    | (show RM _ _ _ _ _ _ _ _ _ _; first | (refine nxRM ?_) | (refine nxRM1 fun _ => ?_))
    | (show YG _ _ _ _ _ _ _ _; refine YG.mk (fun hb => by (try (have hc := And.left hb; have hb := And.right hb; rw [hc])); (try rw [hb]); first | exact (y_callA (rdays_c _ _) ⟨rfl, rfl, rfl⟩) | exact V.y vAuto) ?_)
    | (show VG _ _ _ _ _ _ _ _; refine VG.mk (fun hb => by (try (have hc := And.left hb; have hb := And.right hb; rw [hc])); (try rw [hb]); exact vAuto) ?_)
    | (refine G.mixedA 1 [.go 0, .go 1, .go 2, .go 3, .go 4, .go 5, .go 6, .go 7, .go 8, .go 9, .go 10, .go 11, .go 12, .go 13, .go 14, .go 15, .go 16, .go 17, .go 18, .go 19, .go 20, .go 21, .go 22, .go 23, .go 24, .go 25, .go 26, .go 27, .go 28, .go 29, .go 30, .go 31, .go 32, .go 33] ?_)
    | (refine nxX ?_)
    | (refine G.condN rfl (fun hc => ?_) (fun hc => ?_) <;> (try first | exact False.elim hc | (exfalso; omega))))
  exact X.ret (vs := [_]) rfl ⟨rfl, rfl⟩ rfl (fun w hw => ⟨rfl, hw.ext⟩)

theorem doy_c (y m d : Int) (hv : validB y m d = true) : Cont Tryz.prog 105 [dateV y m d] (.int .i64 (doy y m d)) := fun w => by
  obtain ⟨hy, hm, hd⟩ := valid_of hv
  have hdm := dim_bd y m
  refine enter0 Tryz.func105 rfl rfl rfl ?_
  repeat' (first
    | (refine nxV ?_)
    | (show RS _ _ _ _ _ _ _ _; first | (refine nxRS ?_) | (refine nxRS1 fun _ => ?_))
    | (show RM _ _ _ _ _ _ _ _ _ _; first | (refine nxRM ?_) | (refine nxRM1 fun _ => ?_))
    | (refine nxG ?_)
    | (refine nxX ?_)
    | (refine G.condN rfl (fun hc => ?_) (fun hc => ?_) <;> (try first | exact False.elim hc | (exfalso; omega))))
  rename_i b
  refine G.loop (ι := Nat × Int) (fun x => [(1, .pointer (some ⟨b, 0, none⟩)), (3, .int .i64 x.2), (4, .int .i64 ((x.1 : Int) + 1))]) (fun _ => [.blk b 23 [.int .i64 y, .int .i64 m, .int .i64 d]])
    (fun x => (x.1 : Int) + 1 ≤ m ∧ x.2 = d + cum y x.1) (fun x => 12 - x.1) (0, d) ⟨by omega, by simp [cum]⟩ ⟨rfl, rfl, rfl, trivial⟩ (fun w h => h) ?_
  rintro ⟨k, s⟩ mx ⟨hk, hs⟩ hmx
  dsimp only at hk hs hmx
  have hc := cum_bd y k
  have hc1 := dim_bd y ((k : Int) + 1)
  dsimp only
  repeat' (first
    | (show YK _ _ _ _ _ _ _; first | refine YK.mk (y_callA (days_c _ _ (by omega) (by omega)) ⟨rfl, rfl, rfl⟩) ?_)
    | (show YK _ _ _ _ _ _ _; refine YK.ofV vAuto ?_)
    | (show VK _ _ _ _ _ _ _; refine VK.mk vAuto ?_)
    | (show RS _ _ _ _ _ _ _ _; first | (refine nxRS ?_) | (refine nxRS1 fun _ => ?_))
    | (show RM _ _ _ _ _ _ _ _ _ _; first | (refine nxRM ?_) | (refine nxRM1 fun _ => ?_))
    | (show YG _ _ _ _ _ _ _ _; refine YG.mk (fun hb => by (try (have hc := And.left hb; have hb := And.right hb; rw [hc])); (try rw [hb]); first | exact (y_callA (days_c _ _ (by omega) (by omega)) ⟨rfl, rfl, rfl⟩) | exact V.y vAuto) ?_)
    | (show VG _ _ _ _ _ _ _ _; refine VG.mk (fun hb => by (try (have hc := And.left hb; have hb := And.right hb; rw [hc])); (try rw [hb]); exact vAuto) ?_)
    | (refine nxX ?_)
    | (refine G.condN rfl (fun hc => ?_) (fun hc => ?_) <;> (try first | exact False.elim hc | (exfalso; omega))))
  · apply X.again (k + 1, s + dim y ((k : Int) + 1))
    · exact ⟨by simp only; omega, by simp only [cum]; omega⟩
    · simp only; omega
    · exact ⟨rfl, rfl, rfl, trivial⟩
    · exact fun w h => h.sub (by repeat (first | exact List.Sublist.refl _ | apply List.Sublist.cons_cons | apply List.Sublist.cons))
  · refine X.ret (vs := [_]) rfl ⟨rfl, rfl⟩ rfl (fun w hw => ⟨?_, hw.ext⟩)
    have : (m - 1).toNat = k := by omega
    rw [doy, this, hs]
theorem rdoy_c (y m d : Int) (hv : validB y m d = true) : Cont Tryz.prog 74 [dateV y m d] (.int .i64 (doy y m d)) := fun w => by
  obtain ⟨hy, hm, hd⟩ := valid_of hv
  have hdm := dim_bd y m
  refine enter0 Tryz.func74 rfl rfl rfl ?_
  repeat' (first
    | (refine nxV ?_)
    | (show RS _ _ _ _ _ _ _ _; first | (refine nxRS ?_) | (refine nxRS1 fun _ => ?_))
    | (show RM _ _ _ _ _ _ _ _ _ _; first | (refine nxRM ?_) | (refine nxRM1 fun _ => ?_))
    | (refine nxG ?_)
    | (refine nxX ?_)
    | (refine G.condN rfl (fun hc => ?_) (fun hc => ?_) <;> (try first | exact False.elim hc | (exfalso; omega))))
  rename_i b
  refine G.loop (ι := Nat × Int) (fun x => [(1, .pointer (some ⟨b, 0, none⟩)), (3, .int .i64 x.2), (4, .int .i64 ((x.1 : Int) + 1))]) (fun _ => [.blk b 23 [.int .i64 y, .int .i64 m, .int .i64 d]])
    (fun x => (x.1 : Int) + 1 ≤ m ∧ x.2 = d + cum y x.1) (fun x => 12 - x.1) (0, d) ⟨by omega, by simp [cum]⟩ ⟨rfl, rfl, rfl, trivial⟩ (fun w h => h) ?_
  rintro ⟨k, s⟩ mx ⟨hk, hs⟩ hmx
  dsimp only at hk hs hmx
  have hc := cum_bd y k
  have hc1 := dim_bd y ((k : Int) + 1)
  dsimp only
  repeat' (first
    | (show YK _ _ _ _ _ _ _; first | refine YK.mk (y_callA (rdays_c _ _) ⟨rfl, rfl, rfl⟩) ?_)
    | (show YK _ _ _ _ _ _ _; refine YK.ofV vAuto ?_)
    | (show VK _ _ _ _ _ _ _; refine VK.mk vAuto ?_)
    | (show RS _ _ _ _ _ _ _ _; first | (refine nxRS ?_) | (refine nxRS1 fun _ => ?_))
    | (show RM _ _ _ _ _ _ _ _ _ _; first | (refine nxRM ?_) | (refine nxRM1 fun _ => ?_))
    | (show YG _ _ _ _ _ _ _ _; refine YG.mk (fun hb => by (try (have hc := And.left hb; have hb := And.right hb; rw [hc])); (try rw [hb]); first | exact (y_callA (rdays_c _ _) ⟨rfl, rfl, rfl⟩) | exact V.y vAuto) ?_)
    | (show VG _ _ _ _ _ _ _ _; refine VG.mk (fun hb => by (try (have hc := And.left hb; have hb := And.right hb; rw [hc])); (try rw [hb]); exact vAuto) ?_)
    | (refine nxX ?_)
    | (refine G.condN rfl (fun hc => ?_) (fun hc => ?_) <;> (try first | exact False.elim hc | (exfalso; omega))))
  · apply X.again (k + 1, s + dim y ((k : Int) + 1))
    · exact ⟨by simp only; omega, by simp only [cum]; omega⟩
    · simp only; omega
    · exact ⟨rfl, rfl, rfl, trivial⟩
    · exact fun w h => h.sub (by repeat (first | exact List.Sublist.refl _ | apply List.Sublist.cons_cons | apply List.Sublist.cons))
  · refine X.ret (vs := [_]) rfl ⟨rfl, rfl⟩ rfl (fun w hw => ⟨?_, hw.ext⟩)
    have : (m - 1).toNat = k := by omega
    rw [doy, this, hs]
end Go.Proofs.YtpekkcahehhkmaaGreatDoor
/- The calendar's functions, further. -/
set_option linter.unusedVariables false
namespace Go.Proofs.YtpekkcahehhkmaaGreatDoor
open Go.RowKit

theorem number_c (y m d : Int) (hv : validB y m d = true) : Cont Tryz.prog 69 [dateV y m d] (.int .i64 (num y m d)) := fun w => by
  obtain ⟨hy, hm, hd⟩ := valid_of hv
  have hdm := dim_bd y m
  have hb := before_bd hy.1 (by omega)
  have h2 := before2000
  have hc := cum_bd y (m - 1).toNat
  have hdoy : 1 ≤ doy y m d ∧ doy y m d ≤ 1000 := by unfold doy; omega
  refine enter0 Tryz.func69 rfl rfl rfl ?_
  repeat' (first
    | (show YK _ _ _ _ _ _ _; first | refine YK.mk (y_callA (before_c _ (by omega) (by omega)) ⟨rfl, rfl⟩) ?_ | refine YK.mk (y_callA (doy_c _ _ _ hv) ⟨rfl, rfl⟩) ?_)
    | (show YK _ _ _ _ _ _ _; refine YK.ofV vAuto ?_)
    | (show VK _ _ _ _ _ _ _; refine VK.mk vAuto ?_)
    | (show RS _ _ _ _ _ _ _ _; first | (refine nxRS ?_) | (refine nxRS1 fun _ => ?_))
    | (show RM _ _ _ _ _ _ _ _ _ _; first | (refine nxRM ?_) | (refine nxRM1 fun _ => ?_))
    | (show YG _ _ _ _ _ _ _ _; refine YG.mk (fun hb => by (try (have hc := And.left hb; have hb := And.right hb; rw [hc])); (try rw [hb]); first | exact (y_callA (before_c _ (by omega) (by omega)) ⟨rfl, rfl⟩) | exact (y_callA (doy_c _ _ _ hv) ⟨rfl, rfl⟩) | exact V.y vAuto) ?_)
    | (show VG _ _ _ _ _ _ _ _; refine VG.mk (fun hb => by (try (have hc := And.left hb; have hb := And.right hb; rw [hc])); (try rw [hb]); exact vAuto) ?_)
    | (refine G.mixedA 1 [.go 0, .go 1, .go 5, .go 2, .go 3, .go 4, .go 6, .go 7, .go 8, .go 9] ?_)
    | (refine nxX ?_)
    | (refine G.condN rfl (fun hc => ?_) (fun hc => ?_) <;> (try first | exact False.elim hc | (exfalso; omega))))
  refine X.ret (vs := [_]) rfl ⟨rfl, rfl⟩ rfl (fun w hw => ⟨ret_int ?_, hw.ext⟩)
  unfold num; rw [h2]
theorem rnumber_c (y m d : Int) (hv : validB y m d = true) : Cont Tryz.prog 39 [dateV y m d] (.int .i64 (num y m d)) := fun w => by
  obtain ⟨hy, hm, hd⟩ := valid_of hv
  have hdm := dim_bd y m
  have hb := before_bd hy.1 (by omega)
  have h2 := before2000
  have hc := cum_bd y (m - 1).toNat
  have hdoy : 1 ≤ doy y m d ∧ doy y m d ≤ 1000 := by unfold doy; omega
  refine enter0 Tryz.func39 rfl rfl rfl ?_
  repeat' (first
    | (show YK _ _ _ _ _ _ _; first | refine YK.mk (y_callA (rbefore_c _ (by omega) (by omega)) ⟨rfl, rfl⟩) ?_ | refine YK.mk (y_callA (rdoy_c _ _ _ hv) ⟨rfl, rfl⟩) ?_)
    | (show YK _ _ _ _ _ _ _; refine YK.ofV vAuto ?_)
    | (show VK _ _ _ _ _ _ _; refine VK.mk vAuto ?_)
    | (show RS _ _ _ _ _ _ _ _; first | (refine nxRS ?_) | (refine nxRS1 fun _ => ?_))
    | (show RM _ _ _ _ _ _ _ _ _ _; first | (refine nxRM ?_) | (refine nxRM1 fun _ => ?_))
    | (show YG _ _ _ _ _ _ _ _; refine YG.mk (fun hb => by (try (have hc := And.left hb; have hb := And.right hb; rw [hc])); (try rw [hb]); first | exact (y_callA (rbefore_c _ (by omega) (by omega)) ⟨rfl, rfl⟩) | exact (y_callA (rdoy_c _ _ _ hv) ⟨rfl, rfl⟩) | exact V.y vAuto) ?_)
    | (show VG _ _ _ _ _ _ _ _; refine VG.mk (fun hb => by (try (have hc := And.left hb; have hb := And.right hb; rw [hc])); (try rw [hb]); exact vAuto) ?_)
    | (refine G.mixedA 1 [.go 0, .go 1, .go 3, .go 2, .go 4, .go 5, .go 6, .go 7, .go 8, .go 9] ?_)
    | (refine nxX ?_)
    | (refine G.condN rfl (fun hc => ?_) (fun hc => ?_) <;> (try first | exact False.elim hc | (exfalso; omega))))
  refine X.ret (vs := [_]) rfl ⟨rfl, rfl⟩ rfl (fun w hw => ⟨ret_int ?_, hw.ext⟩)
  unfold num; rw [h2]; omega
abbrev e2 (v : Value) (e : Int) : Value := .tuple [v, .int .i64 e].toArray
theorem valid_t {y m d : Int} (hv : validB y m d = true) : Cont Tryz.prog 68 [dateV y m d] (.bool true) := hv ▸ valid_c y m d
theorem valid_f {y m d : Int} (hv : validB y m d = false) : Cont Tryz.prog 68 [dateV y m d] (.bool false) := hv ▸ valid_c y m d
theorem rvalid_t {y m d : Int} (hv : validB y m d = true) : Cont Tryz.prog 37 [dateV y m d] (.bool true) := hv ▸ rvalid_c y m d
theorem rvalid_f {y m d : Int} (hv : validB y m d = false) : Cont Tryz.prog 37 [dateV y m d] (.bool false) := hv ▸ rvalid_c y m d
theorem Number_t {y m d : Int} (hv : validB y m d = true) : Cont Tryz.prog 35 [dateV y m d] (e2 (.int .i64 (num y m d)) 0) := fun w => by
  refine enter0 Tryz.func35 rfl rfl rfl ?_
  repeat' (first
    | (show YK _ _ _ _ _ _ _; first | refine YK.mk (y_callA (valid_t hv) ⟨rfl, rfl⟩) ?_ | refine YK.mk (y_callA (number_c _ _ _ hv) ⟨rfl, rfl⟩) ?_)
    | (show YK _ _ _ _ _ _ _; refine YK.ofV vAuto ?_)
    | (show VK _ _ _ _ _ _ _; refine VK.mk vAuto ?_)
    | (show RS _ _ _ _ _ _ _ _; first | (refine nxRS ?_) | (refine nxRS1 fun _ => ?_))
    | (show RM _ _ _ _ _ _ _ _ _ _; first | (refine nxRM ?_) | (refine nxRM1 fun _ => ?_))
    | (show YG _ _ _ _ _ _ _ _; refine YG.mk (fun hb => by (try (have hc := And.left hb; have hb := And.right hb; rw [hc])); (try rw [hb]); first | exact (y_callA (valid_t hv) ⟨rfl, rfl⟩) | exact (y_callA (number_c _ _ _ hv) ⟨rfl, rfl⟩) | exact V.y vAuto) ?_)
    | (show VG _ _ _ _ _ _ _ _; refine VG.mk (fun hb => by (try (have hc := And.left hb; have hb := And.right hb; rw [hc])); (try rw [hb]); exact vAuto) ?_)
    | (refine nxX ?_)
    | (refine G.condN rfl (fun hc => ?_) (fun hc => ?_) <;> (try first | exact False.elim hc | (exfalso; omega))))
  exact X.ret (vs := [_, _]) rfl ⟨rfl, rfl, rfl⟩ rfl (fun w hw => ⟨rfl, hw.ext⟩)
theorem Number_f {y m d : Int} (hv : validB y m d = false) : Cont Tryz.prog 35 [dateV y m d] (e2 (.int .i64 0) 1) := fun w => by
  refine enter0 Tryz.func35 rfl rfl rfl ?_
  repeat' (first
    | (show YK _ _ _ _ _ _ _; first | refine YK.mk (y_callA (valid_f hv) ⟨rfl, rfl⟩) ?_)
    | (show YK _ _ _ _ _ _ _; refine YK.ofV vAuto ?_)
    | (show VK _ _ _ _ _ _ _; refine VK.mk vAuto ?_)
    | (show RS _ _ _ _ _ _ _ _; first | (refine nxRS ?_) | (refine nxRS1 fun _ => ?_))
    | (show RM _ _ _ _ _ _ _ _ _ _; first | (refine nxRM ?_) | (refine nxRM1 fun _ => ?_))
    | (show YG _ _ _ _ _ _ _ _; refine YG.mk (fun hb => by (try (have hc := And.left hb; have hb := And.right hb; rw [hc])); (try rw [hb]); first | exact (y_callA (valid_f hv) ⟨rfl, rfl⟩) | exact V.y vAuto) ?_)
    | (show VG _ _ _ _ _ _ _ _; refine VG.mk (fun hb => by (try (have hc := And.left hb; have hb := And.right hb; rw [hc])); (try rw [hb]); exact vAuto) ?_)
    | (refine nxX ?_)
    | (refine G.condN rfl (fun hc => ?_) (fun hc => ?_) <;> (try first | exact False.elim hc | (exfalso; omega))))
  exact X.ret (vs := [_, _]) rfl ⟨rfl, rfl, rfl⟩ rfl (fun w hw => ⟨rfl, hw.ext⟩)
theorem right_t {y m : Int} (hv : rightB y m = true) : Cont Tryz.prog 102 [.int .i64 y, .int .i64 m] (.bool true) := hv ▸ right_c y m
theorem right_f {y m : Int} (hv : rightB y m = false) : Cont Tryz.prog 102 [.int .i64 y, .int .i64 m] (.bool false) := hv ▸ right_c y m
def ccmpI (a b : Int) : Int := if a < b then -1 else if b < a then 1 else 0
end Go.Proofs.YtpekkcahehhkmaaGreatDoor
/- Pages: Valid, find, Find. -/
set_option linter.unusedVariables false
set_option maxHeartbeats 4000000
namespace Go.Proofs.YtpekkcahehhkmaaGreatDoor
open Go.RowKit

theorem zero_bool (w : World) : (zeroValue 4).run Tryz.prog w = .ok (.bool false) w := by kernel_rfl
def nmsL (l : List TrkT) (i : Nat) : List (List UInt8) := ((l.take i).map TrkT.nm).reverse
theorem nmsL_succ {l : List TrkT} {i : Nat} (h : i < l.length) : nmsL l (i + 1) = (nth l (i : Int)).nm :: nmsL l i := by
  have e := nth_some (l := l) (m := (i : Int)) (by omega) (by omega)
  rw [Int.toNat_natCast] at e
  unfold nmsL
  rw [List.take_add_one, e]
  simp
def trkOk (l : List TrkT) (i : Nat) : Bool := okT (nth l (i : Int)) && !decide ((nth l (i : Int)).nm ∈ nmsL l i)
def tracksOk (l : List TrkT) : Bool := (List.range l.length).all (trkOk l)
def dateOk (y m d : Int) : Bool := validB y m d && (decide (-300000 ≤ num y m d) && decide (num y m d ≤ 300000))
def pageB (y m d : Int) (l : List TrkT) : Bool := dateOk y m d && decide ((l.length : Int) ≤ 12) && tracksOk l
/-- The lists of these tracks are of a size that a page's reader bears. -/
def fitT (l : List TrkT) : Prop := ∀ t ∈ l, t.nm.length ≤ 100 ∧ t.gl.length ≤ 40 ∧ t.dl.length ≤ 40
theorem fitT.at {l : List TrkT} (h : fitT l) {i : Nat} (hi : i < l.length) : (nth l (i : Int)).nm.length ≤ 100 ∧ (nth l (i : Int)).gl.length ≤ 40 ∧ (nth l (i : Int)).dl.length ≤ 40 := by
  have e := nth_some (l := l) (m := (i : Int)) (by omega) (by omega)
  rw [Int.toNat_natCast] at e
  exact h _ (List.mem_of_getElem? e)
theorem pvalid_d {y m d : Int} {v : Value} {l : List TrkT} (hd : dateOk y m d = false) : ContIn Tryz.prog (PgP v l) 11 [pgV y m d v] (.bool false) := fun w hw0 => by
  refine enter Tryz.func11 rfl rfl rfl (Hp := [Hl.rd v cT 6 l]) (fun h hm => by
    rcases List.mem_singleton.1 hm with rfl
    exact ⟨⟨hw0.1, fun h => by cases h⟩, rfl⟩) ?_
  cases hv : validB y m d with
  | false =>
    repeat' (first
    | (show YK _ _ _ _ _ ⟨_, .load 23 _, _, _, _, _⟩ _; refine YK.ofV (y_loadPart (k := 3) (by rfl) (by exact memA) (by decide +kernel) (by rfl)) ?_)
    | (show YK _ _ _ _ _ _ _; first | refine YK.mk (y_callA (Number_f hv) ⟨rfl, rfl⟩) ?_)
    | (show YK _ _ _ _ _ _ _; refine YK.ofV vAuto ?_)
    | (show VK _ _ _ _ _ _ _; refine VK.mk vAuto ?_)
    | (show RS _ _ _ _ _ _ _ _; first | (refine nxRS ?_) | (refine nxRS1 fun _ => ?_))
    | (show RM _ _ _ _ _ _ _ _ _ _; first | (refine nxRM ?_) | (refine nxRM1 fun _ => ?_))
    | (show YG _ _ _ _ _ _ _ _; refine YG.mk (fun hb => by (try (have hc := And.left hb; have hb := And.right hb; rw [hc])); (try rw [hb]); first | exact (y_callA (Number_f hv) ⟨rfl, rfl⟩) | exact V.y vAuto) ?_)
    | (show VG _ _ _ _ _ _ _ _; refine VG.mk (fun hb => by (try (have hc := And.left hb; have hb := And.right hb; rw [hc])); (try rw [hb]); exact vAuto) ?_)
    | (refine nxX ?_)
    | (refine G.condN rfl (fun hc => ?_) (fun hc => ?_) <;> (try first | exact False.elim hc | (exfalso; omega))))
    exact X.ret (vs := [_]) rfl ⟨rfl, rfl⟩ rfl (fun w hw => ⟨rfl, hw.ext⟩)
  | true =>
    have hn := num_bd hv
    unfold dateOk at hd
    rw [hv] at hd
    have hno : num y m d < -300000 ∨ 300000 < num y m d := by
      simp at hd; omega
    clear hd
    have q := Number_t hv
    generalize num y m d = N at q hn hno
    repeat' (first
    | (show YK _ _ _ _ _ ⟨_, .load 23 _, _, _, _, _⟩ _; refine YK.ofV (y_loadPart (k := 3) (by rfl) (by exact memA) (by decide +kernel) (by rfl)) ?_)
    | (show YK _ _ _ _ _ _ _; first | refine YK.mk (y_callA (q) ⟨rfl, rfl⟩) ?_)
    | (show YK _ _ _ _ _ _ _; refine YK.ofV vAuto ?_)
    | (show VK _ _ _ _ _ _ _; refine VK.mk vAuto ?_)
    | (show RS _ _ _ _ _ _ _ _; first | (refine nxRS ?_) | (refine nxRS1 fun _ => ?_))
    | (show RM _ _ _ _ _ _ _ _ _ _; first | (refine nxRM ?_) | (refine nxRM1 fun _ => ?_))
    | (show YG _ _ _ _ _ _ _ _; refine YG.mk (fun hb => by (try (have hc := And.left hb; have hb := And.right hb; rw [hc])); (try rw [hb]); first | exact (y_callA (q) ⟨rfl, rfl⟩) | exact V.y vAuto) ?_)
    | (show VG _ _ _ _ _ _ _ _; refine VG.mk (fun hb => by (try (have hc := And.left hb; have hb := And.right hb; rw [hc])); (try rw [hb]); exact vAuto) ?_)
    | (refine nxX ?_)
    | (refine G.condN rfl (fun hc => ?_) (fun hc => ?_) <;> (try first | exact False.elim hc | (exfalso; omega))))
    exact X.ret (vs := [_]) rfl ⟨rfl, rfl⟩ rfl (fun w hw => ⟨rfl, hw.ext⟩)
theorem pvalid_l {y m d : Int} {v : Value} {l : List TrkT} (hd : dateOk y m d = true) (hl : 12 < l.length) : ContIn Tryz.prog (PgP v l) 11 [pgV y m d v] (.bool false) := fun w hw0 => by
  refine enter Tryz.func11 rfl rfl rfl (Hp := [Hl.rd v cT 6 l]) (fun h hm => by
    rcases List.mem_singleton.1 hm with rfl
    exact ⟨⟨hw0.1, fun h => by cases h⟩, rfl⟩) ?_
  have hv : validB y m d = true := by unfold dateOk at hd; simp at hd; exact hd.1
  have hn := num_bd hv
  have q := Number_t hv
  generalize num y m d = N at q hn
  repeat' (first
    | (show YK _ _ _ _ _ ⟨_, .load 23 _, _, _, _, _⟩ _; refine YK.ofV (y_loadPart (k := 3) (by rfl) (by exact memA) (by decide +kernel) (by rfl)) ?_)
    | (show YK _ _ _ _ _ _ _; first | refine YK.mk (y_callA (q) ⟨rfl, rfl⟩) ?_)
    | (show YK _ _ _ _ _ _ _; refine YK.ofV vAuto ?_)
    | (show VK _ _ _ _ _ _ _; refine VK.mk vAuto ?_)
    | (show RS _ _ _ _ _ _ _ _; first | (refine nxRS ?_) | (refine nxRS1 fun _ => ?_))
    | (show RM _ _ _ _ _ _ _ _ _ _; first | (refine nxRM ?_) | (refine nxRM1 fun _ => ?_))
    | (show YG _ _ _ _ _ _ _ _; refine YG.mk (fun hb => by (try (have hc := And.left hb; have hb := And.right hb; rw [hc])); (try rw [hb]); first | exact (y_callA (q) ⟨rfl, rfl⟩) | exact V.y vAuto) ?_)
    | (show VG _ _ _ _ _ _ _ _; refine VG.mk (fun hb => by (try (have hc := And.left hb; have hb := And.right hb; rw [hc])); (try rw [hb]); exact vAuto) ?_)
    | (refine nxX ?_)
    | (refine G.condN rfl (fun hc => ?_) (fun hc => ?_) <;> (try first | exact False.elim hc | (exfalso; omega))))
  exact X.ret (vs := [_]) rfl ⟨rfl, rfl⟩ rfl (fun w hw => ⟨rfl, hw.ext⟩)
theorem pvalid_t {y m d : Int} {v : Value} {l : List TrkT} (hd : dateOk y m d = true) (hl : l.length ≤ 12) (hf : fitT l) : ContIn Tryz.prog (PgP v l) 11 [pgV y m d v] (.bool (tracksOk l)) := fun w hw0 => by
  refine enter Tryz.func11 rfl rfl rfl (Hp := [Hl.rd v cT 6 l]) (fun h hm => by
    rcases List.mem_singleton.1 hm with rfl
    exact ⟨⟨hw0.1, fun h => by cases h⟩, rfl⟩) ?_
  have hv : validB y m d = true := by unfold dateOk at hd; simp at hd; exact hd.1
  have hn := num_bd hv
  have hN : -300000 ≤ num y m d ∧ num y m d ≤ 300000 := by unfold dateOk at hd; simp at hd; exact hd.2
  have q := Number_t hv
  generalize num y m d = N at q hn hN
  repeat' (first
    | (show YK _ _ _ _ _ ⟨_, .load 23 _, _, _, _, _⟩ _; refine YK.ofV (y_loadPart (k := 3) (by rfl) (by exact memA) (by decide +kernel) (by rfl)) ?_)
    | (show RS _ _ _ _ _ _ _ (⟨_, .makeMap _ _, _, _, _, _⟩ :: _); refine RS.makeMap 9 4 (fun b => ?_))
    | (show YK _ _ _ _ _ _ _; first | refine YK.mk (y_callA (q) ⟨rfl, rfl⟩) ?_)
    | (show YK _ _ _ _ _ _ _; refine YK.ofV vAuto ?_)
    | (show VK _ _ _ _ _ _ _; refine VK.mk vAuto ?_)
    | (show RS _ _ _ _ _ _ _ _; first | (refine nxRS ?_) | (refine nxRS1 fun _ => ?_))
    | (show RM _ _ _ _ _ _ _ _ _ _; first | (refine nxRM ?_) | (refine nxRM1 fun _ => ?_))
    | (show YG _ _ _ _ _ _ _ _; refine YG.mk (fun hb => by (try (have hc := And.left hb; have hb := And.right hb; rw [hc])); (try rw [hb]); first | exact (y_callA (q) ⟨rfl, rfl⟩) | exact V.y vAuto) ?_)
    | (show VG _ _ _ _ _ _ _ _; refine VG.mk (fun hb => by (try (have hc := And.left hb; have hb := And.right hb; rw [hc])); (try rw [hb]); exact vAuto) ?_)
    | (refine nxX ?_)
    | (refine G.condN rfl (fun hc => ?_) (fun hc => ?_) <;> (try first | exact False.elim hc | (exfalso; omega))))
  rename_i b1
  have hmx0 : l.length ≤ maxLen := by simp only [maxLen]; omega
  refine G.loop (ι := Nat) (fun i => [(1, .pointer (some ⟨b1, 0, none⟩)), (5, .map (some b)), (32, v), (33, .int .i64 l.length), (34, .int .i64 (i : Int))]) (fun i => [Hl.map Tryz.prog 9 4 b i (nmsL l i), Hl.blk b1 26 [.int .i64 y, .int .i64 m, .int .i64 d, v], Hl.rd v cT 6 l]) (fun i => i ≤ l.length ∧ ∀ k : Nat, k < i → trkOk l k = true) (fun i => l.length - i) 0 ⟨Nat.zero_le _, fun k hk => by omega⟩ ⟨rfl, rfl, rfl, rfl, rfl, trivial⟩ (fun w h => h) ?_
  rintro i mx ⟨g1, g2⟩ hmx
  rcases Nat.lt_or_ge i l.length with hi | hi
  · have hfi := hf.at hi
    have hto : trkOk l i = (okT (nth l (i : Int)) && !decide ((nth l (i : Int)).nm ∈ nmsL l i)) := rfl
    have hnx := nmsL_succ hi
    have hfal : trkOk l i = false → tracksOk l = false := fun h => by
      unfold tracksOk
      rw [List.all_eq_false]
      exact ⟨i, List.mem_range.2 hi, by rw [h]; decide⟩
    have qv := validTrack_c (nth l (i : Int)) (by omega) (by omega) (by omega)
    have hnl : (nth l (i : Int)).nm.length ≤ maxLen := by simp only [maxLen]; omega
    have hNi : i < maxLen := by simp only [maxLen]; omega
    refine G.bring (hw0.2.at hi).1 (G.bring (hw0.2.at hi).2 ?_)
    generalize nmsL l i = S at hto hnx
    cases hc0 : okT (nth l (i : Int)) with
    | false =>
      rw [hc0] at qv hto
      repeat' (first
    | (show YK _ _ _ _ _ _ _; first | refine YK.mk (y_callRA (qv) ⟨rfl, rfl⟩) ?_)
    | (show YK _ _ _ _ _ _ _; refine YK.ofV vAuto ?_)
    | (show VK _ _ _ _ _ _ _; refine VK.mk vAuto ?_)
    | (show RS _ _ _ _ _ _ _ _; first | (refine nxRS ?_) | (refine nxRS1 fun _ => ?_))
    | (show RM _ _ _ _ _ _ _ _ _ _; first | (refine nxRM ?_) | (refine nxRM1 fun _ => ?_))
    | (show YG _ _ _ _ _ _ _ _; refine YG.mk (fun hb => by (try (have hc := And.left hb; have hb := And.right hb; rw [hc])); (try rw [hb]); first | exact (y_callRA (qv) ⟨rfl, rfl⟩) | exact V.y vAuto) ?_)
    | (show VG _ _ _ _ _ _ _ _; refine VG.mk (fun hb => by (try (have hc := And.left hb; have hb := And.right hb; rw [hc])); (try rw [hb]); exact vAuto) ?_)
    | (refine nxX ?_)
    | (refine G.condN rfl (fun hc => ?_) (fun hc => ?_) <;> (try first | exact False.elim hc | (exfalso; omega))))
      exact X.ret (vs := [_]) rfl ⟨rfl, rfl⟩ rfl (fun w hw => ⟨ret_bool (hfal (by rw [hto]; rfl)).symm, hw.ext⟩)
    | true =>
      rw [hc0] at qv hto
      cases hc1 : decide ((nth l (i : Int)).nm ∈ S) with
      | true =>
        rw [hc1] at hto
        repeat' (first
    | (show RS _ _ _ _ _ _ _ (⟨_, .lookup _ _ _ _, _, _, _, _⟩ :: _); refine RS.lookF S hc1 ?_ hnl (by exact memA) Tryz.underlying75 Tryz.underlying9 Tryz.underlying4 zero_bool)
    | (show RS _ _ _ _ _ _ _ (⟨_, .mapUpdate _ _ _ _, _, _, _, _⟩ :: _); refine RS.put (by exact updA) hNi hnl ?_ Tryz.underlying75 Tryz.underlying9 Tryz.underlying4)
    | (show YK _ _ _ _ _ _ _; first | refine YK.mk (y_callRA (qv) ⟨rfl, rfl⟩) ?_)
    | (show YK _ _ _ _ _ _ _; refine YK.ofV vAuto ?_)
    | (show VK _ _ _ _ _ _ _; refine VK.mk vAuto ?_)
    | (show RS _ _ _ _ _ _ _ _; first | (refine nxRS ?_) | (refine nxRS1 fun _ => ?_))
    | (show RM _ _ _ _ _ _ _ _ _ _; first | (refine nxRM ?_) | (refine nxRM1 fun _ => ?_))
    | (show YG _ _ _ _ _ _ _ _; refine YG.mk (fun hb => by (try (have hc := And.left hb; have hb := And.right hb; rw [hc])); (try rw [hb]); first | exact (y_callRA (qv) ⟨rfl, rfl⟩) | exact V.y vAuto) ?_)
    | (show VG _ _ _ _ _ _ _ _; refine VG.mk (fun hb => by (try (have hc := And.left hb; have hb := And.right hb; rw [hc])); (try rw [hb]); exact vAuto) ?_)
    | (refine nxX ?_)
    | (refine G.condN rfl (fun hc => ?_) (fun hc => ?_) <;> (try first | exact False.elim hc | (exfalso; omega))))
        exact X.ret (vs := [_]) rfl ⟨rfl, rfl⟩ rfl (fun w hw => ⟨ret_bool (hfal (by rw [hto]; rfl)).symm, hw.ext⟩)
      | false =>
        rw [hc1] at hto
        repeat' (first
    | (show RS _ _ _ _ _ _ _ (⟨_, .lookup _ _ _ _, _, _, _, _⟩ :: _); refine RS.lookF S hc1 ?_ hnl (by exact memA) Tryz.underlying75 Tryz.underlying9 Tryz.underlying4 zero_bool)
    | (show RS _ _ _ _ _ _ _ (⟨_, .mapUpdate _ _ _ _, _, _, _, _⟩ :: _); refine RS.put (by exact updA) hNi hnl ?_ Tryz.underlying75 Tryz.underlying9 Tryz.underlying4)
    | (show YK _ _ _ _ _ _ _; first | refine YK.mk (y_callRA (qv) ⟨rfl, rfl⟩) ?_)
    | (show YK _ _ _ _ _ _ _; refine YK.ofV vAuto ?_)
    | (show VK _ _ _ _ _ _ _; refine VK.mk vAuto ?_)
    | (show RS _ _ _ _ _ _ _ _; first | (refine nxRS ?_) | (refine nxRS1 fun _ => ?_))
    | (show RM _ _ _ _ _ _ _ _ _ _; first | (refine nxRM ?_) | (refine nxRM1 fun _ => ?_))
    | (show YG _ _ _ _ _ _ _ _; refine YG.mk (fun hb => by (try (have hc := And.left hb; have hb := And.right hb; rw [hc])); (try rw [hb]); first | exact (y_callRA (qv) ⟨rfl, rfl⟩) | exact V.y vAuto) ?_)
    | (show VG _ _ _ _ _ _ _ _; refine VG.mk (fun hb => by (try (have hc := And.left hb; have hb := And.right hb; rw [hc])); (try rw [hb]); exact vAuto) ?_)
    | (refine nxX ?_)
    | (refine G.condN rfl (fun hc => ?_) (fun hc => ?_) <;> (try first | exact False.elim hc | (exfalso; omega))))
        refine X.again (i + 1) ⟨by omega, fun k hk => ?_⟩ (by omega) ⟨rfl, rfl, rfl, rfl, rfl, trivial⟩ (fun w h => ?_)
        · rcases Nat.lt_or_ge k i with h | h
          · exact g2 k h
          · rw [show k = i by omega, hto]; rfl
        · rw [hnx]
          exact h.sub (by repeat (first | exact List.Sublist.refl _ | apply List.Sublist.cons_cons | apply List.Sublist.cons))
  · repeat' (first
    | (refine nxV ?_)
    | (show RS _ _ _ _ _ _ _ _; first | (refine nxRS ?_) | (refine nxRS1 fun _ => ?_))
    | (show RM _ _ _ _ _ _ _ _ _ _; first | (refine nxRM ?_) | (refine nxRM1 fun _ => ?_))
    | (refine nxG ?_)
    | (refine nxX ?_)
    | (refine G.condN rfl (fun hc => ?_) (fun hc => ?_) <;> (try first | exact False.elim hc | (exfalso; omega))))
    refine X.ret (vs := [_]) rfl ⟨rfl, rfl⟩ rfl (fun w hw => ⟨ret_bool ?_, hw.ext⟩)
    unfold tracksOk
    rw [eq_comm, List.all_eq_true]
    exact fun k hk => g2 k (by have := List.mem_range.1 hk; omega)
theorem pvalid_c {y m d : Int} {v : Value} {l : List TrkT} (hf : l.length ≤ 12 → fitT l) : ContIn Tryz.prog (PgP v l) 11 [pgV y m d v] (.bool (pageB y m d l)) := by
  unfold pageB
  cases hd : dateOk y m d with
  | false => exact pvalid_d hd
  | true =>
    by_cases hl : l.length ≤ 12
    · rw [decide_eq_true (by omega), Bool.true_and, Bool.true_and]
      exact pvalid_t hd hl (hf hl)
    · rw [decide_eq_false (by omega), Bool.true_and, Bool.false_and]
      exact pvalid_l hd (by omega)
end Go.Proofs.YtpekkcahehhkmaaGreatDoor
/- page.Parse: a deferred function that finds nothing to recover. -/
set_option linter.unusedVariables false
set_option maxHeartbeats 4000000
namespace Go.Proofs.YtpekkcahehhkmaaGreatDoor
open Go.RowKit

/-! ### Frames that have deferred calls -/
/-- The same frame with more deferred calls behind its own. -/
def bg (D : List Deferred) (a : Act) : Act := { a with defers := a.defers ++ D }
def QD (D : List Deferred) (Q : Exit → Act → World → Prop) (e : Exit) (a : Act) (w : World) : Prop := Q e (bg D a) w
theorem bg_eval (D : List Deferred) (a : Act) : (bg D a).eval = a.eval := by
  funext x
  cases x <;> rfl
theorem bg_put (D : List Deferred) (a : Act) (d : Option Tmp) (v : Value) : (bg D a).put d v = bg D (a.put d v) := by
  cases d <;> rfl
theorem bg_upon {P : Program} {D : List Deferred} {o : Oper} {a : Act} {N N0 : Act → World → Prop} {Q : Exit → Act → World → Prop} {r : Result Next} (h : o.upon P a N0 (QD D Q) r) (hN : ∀ a w, N0 a w → N (bg D a) w) : o.upon P (bg D a) N Q r := by
  unfold Oper.upon at *
  cases r with
  | ok n w' =>
    cases n with
    | value v => dsimp only at h ⊢; rw [bg_put]; exact hN _ _ h
    | skip => dsimp only at h ⊢; rw [bg_put]; exact hN _ _ h
    | «defer» d =>
      dsimp only at h ⊢
      have e : ({ bg D a with defers := d :: (bg D a).defers } : Act).put o.dst undef = bg D (({ a with defers := d :: a.defers } : Act).put o.dst undef) := bg_put D { a with defers := d :: a.defers } o.dst undef
      exact e ▸ hN _ _ h
    | enter f args =>
      dsimp only at h ⊢
      refine Calls.mono h fun e w'' he => ?_
      cases e with
      | returned v => dsimp only at he ⊢; rw [bg_put]; exact hN _ _ he
      | panicked c => exact he
      | outgrown => obtain ⟨a0, w0, h0⟩ := he; exact ⟨_, _, h0⟩
    | row row args =>
      dsimp only at h ⊢
      refine Rows.mono h fun v w'' he => ?_
      rw [bg_put]; exact hN _ _ he
    | _ => exact h
  | halt x w' =>
    cases x with
    | panic v => exact h
    | _ => exact h
theorem bg_list {P : Program} {D : List Deferred} {ops : Array Oper} {Q : Exit → Act → World → Prop} : ∀ (l : List Oper) (a : Act) (w : World), wpList P ops (QD D Q) l a w → wpList P ops Q l (bg D a) w
  | [], _, _, h => h
  | o :: rest, a, w, h => by
    unfold wpList at h ⊢
    rw [show (bg D a).tmps = a.tmps from rfl]
    split at h
    · rename_i hw
      rw [if_pos hw]
      rcases h with h | ⟨h1, h2⟩
      · refine .inl ?_
        unfold Oper.wp at *
        rw [bg_eval]
        exact bg_upon h fun a w h => bg_list rest a w h
      · refine .inr ⟨?_, ?_⟩
        · unfold Oper.asks at *
          rw [bg_eval]; exact h1
        · obtain ⟨a0, w0, h0⟩ := h2; exact ⟨_, _, h0⟩
    · rename_i hw
      rw [if_neg hw, bg_put]
      exact bg_list rest _ _ h
section
variable {P : Program} {D : List Deferred} {n : Nat} {L : FL} {w0 : World} {H : List Hl} {Q : Exit → Act → World → Prop} {ops : Array Oper}
/-- The code, run in a frame that has deferred calls, from every state of this shape. -/
def GD (D : List Deferred) (P : Program) (Q : Exit → Act → World → Prop) (n : Nat) (L : FL) (w0 : World) (H : List Hl) (c : Code) : Prop := ∀ a w, Fr n L a → St w0 H w → c.wp P Q (bg D a) w
theorem GD.seq {x y : Code} (h : GD D P (Exit.then (fun a w => y.wp P Q a w) Q) n L w0 H x) : GD D P Q n L w0 H (.seq x y) := fun a w ha hw => wp_seq (h a w ha hw)
theorem GD.region {id : Nat} {l : List Oper} (h : RS P l.toArray (QD D Q) n L w0 H l) : GD D P Q n L w0 H (.region id l.toArray false) := fun a w ha hw => by
  unfold RS at h
  exact wp_region_lit (bg_list l a w (h a w ha hw))
theorem GD.condF {x y : Code} {c : Operand} (hc : evO L c = some (.bool false)) (h : GD D P Q n L w0 H y) : GD D P Q n L w0 H (.cond c x y) := fun a w ha hw =>
  wp_cond_split (t := false) (by rw [bg_eval]; exact ha.eval hc) (fun e => by cases e) (fun _ => h a w ha hw)
theorem GD.skip (h : ∀ a w, Fr n L a → St w0 H w → Q .normal (bg D a) w) : GD D P Q n L w0 H .skip := fun a w ha hw => wp_skip (h a w ha hw)
theorem GD.ret (h : ∀ a w, Fr n L a → St w0 H w → Q .ret (bg D a) w) : GD D P Q n L w0 H .ret := fun a w ha hw => wp_ret (h a w ha hw)
theorem GD.conv {H' : List Hl} {c : Code} (hH : ∀ w, St w0 H w → St w0 H' w) (h : GD D P Q n L w0 H' c) : GD D P Q n L w0 H c := fun a w ha hw => h a w ha (hH w hw)
/-- Behind a region: the rest. -/
theorem X.andD {y : Code} (h : GD D P Q n L w0 H y) : X (QD D (Exit.then (fun a w => y.wp P Q a w) Q)) n L w0 H .normal := by
  unfold X
  exact fun a w ha hw => h a w ha hw
theorem GD.thenSkip {y : Code} (h : GD D P Q n L w0 H y) : GD D P (Exit.then (fun a w => y.wp P Q a w) Q) n L w0 H .skip := fun a w ha hw => wp_skip (h a w ha hw)
/-- A closure is deferred. -/
theorem RS.deferF {y : Code} {f : FuncId} {first caps : Array Value} {x : Operand} {tys : Array TypeId} {ty : TypeId} {pos : String} {af : Array Edge} (hx : evO L x = some (.func (.func f) first caps)) (h : GD [{ target := .fn (.func f) caps, args := first }] P Q n L w0 H y) :
    RS P ops (Exit.then (fun a w => y.wp P Q a w) Q) n L w0 H [⟨none, .defer { callee := .value x, args := #[], argTypes := tys }, ty, pos, af, none⟩] := by
  unfold RS
  intro a w ha hw
  have hr : (execOp a.eval ⟨none, .defer { callee := .value x, args := #[], argTypes := tys }, ty, pos, af, none⟩).run P w = .ok (.defer { target := .fn (.func f) caps, args := first }) w := by
    simp [execOp, resolve, ha.eval hx, Deferred.ofValue]
  unfold wpList
  rw [if_pos (by rfl)]
  refine .inl ?_
  unfold Oper.wp
  rw [hr, Oper.upon_defer]
  unfold wpList
  have e : ({ a with defers := { target := .fn (.func f) caps, args := first } :: a.defers } : Act).put none undef = bg [{ target := .fn (.func f) caps, args := first }] a := by
    unfold bg
    rw [ha.defs]; rfl
  rw [e]
  exact h a w ha hw
end
/-! ### What is deferred -/
theorem catch_c (caps : Array Value) (hc : caps.size = 3) (w : World) : CallsD Tryz.prog 56 caps .returning w fun e u' w' => e = .returned (.tuple #[]) ∧ u' = .returning ∧ w' = w := by
  obtain ⟨l⟩ := caps
  match l, hc with
  | [x, y, z], _ =>
  refine callsD_of_wpS Tryz.func56 rfl fun c₀ cs hu => ?_
  apply wpS_seq
  apply wpS_region
  simp [wpOpsS, go_sem, recoverD, hu, Tryz.ntmps56, Exit.thenS]
  apply wpS_seq
  apply wpS_region
  simp [wpOpsS, go_sem, Exit.thenS]
  refine wpS_cond (t := false) (by simp [go_sem]) ?_
  simp only [Bool.false_eq_true, if_false]
  refine wpS_of_wp (wp_skip ⟨rfl, .returning, by rw [← hu], .tuple #[], ?_, rfl, rfl, rfl⟩)
  have h : Tryz.f56.results = #[] := rfl
  simp [results, go_sem]
/-! ### Parse -/
theorem enterDef {P : Program} {n : Nat} {w0 : World} {H : List Hl} {f : FuncId} {fn : Func} {c : Code} {vs : List Value} {w : World} {R : Ending → World → Prop} (hf : P.funcs[f]? = some fn) (hb : fn.body = some c) (hn : fn.ntmps = n) (hl : Nat.ble vs.length n = true) (hw : St w0 H w)
    (h : G P (bodyPostD P fn R) n (argsL 0 vs) w0 H c) : Calls P f vs.toArray w R := by
  unfold G at h
  refine calls_of_wp_defers hf hb (h _ _ ⟨?_, rfl, fun i v hi => ?_⟩ hw)
  · have := Nat.le_of_ble_eq_true hl
    simp [hn]; omega
  · have := (lk_argsL vs 0 i v hi).2
    have hlt := (List.getElem?_eq_some_iff.1 this).1
    simp at this
    have hlt' : i < vs.length := by omega
    have h2 := (List.getElem?_eq_some_iff.1 this).2
    simpa [Array.getElem?_append, hlt'] using h2
theorem St.oldU {α : Type} {w0 w : World} {H H' : List Hl} {v : Value} {f : α → List Value} {s : Nat} {l : List α} (hu : Upd (Hl.nw v f s l) (Hl.rd v f s l) H H') (h : St w0 H w) : St w0 H' w := by
  have hm := hu.mem
  induction hu generalizing w with
  | here r =>
    refine ⟨h.ext, fun x hx => ?_, fun z hz b hb ho => ?_, h.apart.2⟩
    · rcases List.mem_cons.1 hx with rfl | hx
      · exact ⟨(h.all _ List.mem_cons_self).1, fun g => by cases g⟩
      · exact h.all x (List.mem_cons_of_mem _ hx)
    · exact h.apart.1 z hz b hb ho
  | there z hu ih =>
    have h2 := ih (St.sub h (List.sublist_cons_self _ _)) hu.mem
    refine ⟨h.ext, fun x hx => ?_, fun y hy b hb ho => ?_, h2.apart⟩
    · rcases List.mem_cons.1 hx with rfl | hx
      · exact h.all _ List.mem_cons_self
      · exact h2.all x hx
    · rcases hu.from_ y hy with rfl | hy'
      · exact h.apart.1 (Hl.nw v f s l) hu.mem b hb ho
      · exact h.apart.1 y hy' b hb ho
theorem inn_mem {t : TrkT} : ∀ {l : List TrkT}, t ∈ l → Hl.nw t.gv.v cI 1 t.gl ∈ inn l ∧ Hl.nw t.dv.v cI 1 t.dl ∈ inn l
  | u :: r, h => by
    rcases List.mem_cons.1 h with rfl | h
    · exact ⟨List.mem_cons_self, List.mem_cons_of_mem _ List.mem_cons_self⟩
    · obtain ⟨h1, h2⟩ := inn_mem h
      exact ⟨List.mem_cons_of_mem _ (List.mem_cons_of_mem _ h1), List.mem_cons_of_mem _ (List.mem_cons_of_mem _ h2)⟩
theorem pgP_of {w0 w : World} {H : List Hl} {v : Value} {l : List TrkT} (hw : St w0 H w) (h1 : Hl.nw v cT 6 l ∈ H) (h2 : ∀ x ∈ inn l.reverse, x ∈ H) : PgP v l w :=
  ⟨(hw.all _ h1).1, fun t ht => by
    obtain ⟨g1, g2⟩ := inn_mem (l := l.reverse) (List.mem_reverse.2 ht)
    exact ⟨(hw.all _ (h2 _ g1)).1, (hw.all _ (h2 _ g2)).1⟩⟩
/-- The results of a return, where a result may lie in a cell of its own. -/
def RW (P : Program) (L : FL) (H : List Hl) : List ResultVar → List Value → Prop
  | [], vs => vs = []
  | r :: rs, vs => match vs with
    | [] => False
    | v :: vs => (RV P L H [r] [v] ∨ ∃ a t b t', r = .cell a t ∧ lk L a = some (.pointer (some ⟨b, 0, none⟩)) ∧ Hl.blk b t' [v] ∈ H ∧ scalarB P t = true) ∧ RW P L H rs vs
theorem run_RW {P : Program} {n : Nat} {L : FL} {w0 : World} {H : List Hl} {a : Act} {w : World} (ha : Fr n L a) (hw : St w0 H w) : ∀ {rs : List ResultVar} {vs : List Value}, RW P L H rs vs →
    (rs.mapM (resOf a.tmps)).run P w = .ok vs w
  | [], vs, h => by cases (show vs = [] from h); simp
  | r :: rs, vs, h => by
    cases vs with
    | nil => exact h.elim
    | cons v vs =>
      obtain ⟨h1, h2⟩ := h
      have ih := run_RW ha hw h2
      have h0 : (resOf a.tmps r).run P w = .ok v w := by
        rcases h1 with h1 | ⟨c, t, b, t', rfl, h3, h4, h5⟩
        · have := run_RV (P := P) ha hw h1
          simp only [List.mapM_cons, List.mapM_nil, Sem.run_bind, Sem.run_pure] at this
          cases hr : (resOf a.tmps r).run P w with
          | ok u w' => rw [hr] at this; simp at this; rw [this.1, this.2]
          | halt x w' => rw [hr] at this; simp at this
        · have hc : w.cell? ⟨b, 0, none⟩ = some v := (hw.cell h4 0).trans rfl
          simp only [resOf, ha.at_ c _ h3]
          simp [asAddr, loadVar, run_isAgg_false h5, hc]
      simp [h0, ih]
theorem GD.retD {P : Program} {n : Nat} {L : FL} {w0 : World} {H : List Hl} {fn : Func} {R : Ending → World → Prop} {rs : List ResultVar} {vs : List Value} {v : Value} {f : FuncId} {caps : Array Value} (hf : fn.results = rs.toArray) (hr : RW P L H rs vs) (hv : (match vs with | [v] => v | _ => .tuple vs.toArray) = v) (hg : isGo P f = true)
    (hc : ∀ w, CallsD P f caps .returning w fun e u' w' => e = .returned (.tuple #[]) ∧ u' = .returning ∧ w' = w) (h : ∀ w, St w0 H w → R (.returned v) w) : GD [{ target := .fn (.func f) caps, args := #[] }] P (bodyPostD P fn R) n L w0 H .ret := GD.ret fun a w ha hw => by
  show Leaves P fn (bg _ a).tmps R (bg _ a).defers .returning w
  have hd : (bg [{ target := .fn (.func f) caps, args := #[] }] a).defers = [{ target := .fn (.func f) caps, args := #[] }] := by unfold bg; rw [ha.defs]; rfl
  rw [hd]
  refine ⟨by simp, .func f, caps, f, caps, rfl, ?_, ?_⟩
  · have := run_isGo hg caps w
    simpa [invoke] using this
  · intro c cs hu
    obtain ⟨e, u', w', fr, ⟨rfl, rfl, rfl⟩, h4⟩ := hc w c cs hu
    refine ⟨_, _, _, fr, ?_, h4⟩
    refine ⟨v, ?_, h _ hw⟩
    have h1 := run_RW ha hw hr
    have h2 : (rs.toArray.mapM (resOf a.tmps)).run P w' = .ok vs.toArray w' := by
      rw [List.mapM_toArray]
      simp [h1]
    have h3 : results fn a.tmps = (do let vs ← fn.results.mapM (resOf a.tmps); pure (if h : vs.size = 1 then vs[0] else .tuple vs)) := rfl
    rw [show (bg [{ target := .fn (.func f) caps, args := #[] }] a).tmps = a.tmps from rfl, h3, hf]
    subst hv
    simp only [Sem.run_bind, h2, Result.andThen_ok, Sem.run_pure]
    match vs with
    | [] => rfl
    | [u] => rfl
    | u :: u' :: r => simp
attribute [irreducible] GD QD
theorem RS.conv {P : Program} {n : Nat} {L : FL} {w0 : World} {H H' : List Hl} {Q : Exit → Act → World → Prop} {ops : Array Oper} {rest : List Oper} (hH : ∀ w, St w0 H w → St w0 H' w) (h : RS P ops Q n L w0 H' rest) : RS P ops Q n L w0 H rest := by
  unfold RS at *
  exact fun a w ha hw => h a w ha (hH w hw)
theorem newIn_inn {H : List Hl} : ∀ {l : List TrkT}, (∀ x ∈ inn l, x ∈ H) → NewIn H (inn l)
  | [], _ => NewIn.nil
  | t :: r, h => NewIn.nw (h _ List.mem_cons_self) (NewIn.nw (h _ (List.mem_cons_of_mem _ List.mem_cons_self)) (newIn_inn fun x hx => h x (List.mem_cons_of_mem _ (List.mem_cons_of_mem _ hx))))
theorem parse_c {s : List UInt8} {E : List TkE} {k : Nat} {y m d : Int} {ts : List TrkP} (hl : s.length ≤ 65536) (hx : Lx s E) (hp : pageP k E = some ((y, m, d), ts)) (hts : ts.length ≤ 1000) (hv : ∀ l : List TrkT, l.map trkP = ts → fitT l ∧ pageB y m d l = true) :
    ContXI Tryz.prog Laid 23 [strV s] (fun z : List TrkT × Sl => z.1.map trkP = ts) (fun z => .tuple [pgV y m d z.2.v, .agg [.int .i64 0, .int .i64 0].toArray, .int .i64 0].toArray) (fun z => Hl.nw z.2.v cT 6 z.1 :: inn z.1.reverse) := fun w hI => by
  have qt := tokens_c hl hx
  refine enterDef Tryz.func23 rfl rfl rfl (St.start (H := []) w (fun h hm => by cases hm)) ?_
  repeat' (first
    | (show YK _ _ _ _ _ ⟨_, .call { callee := .builtin .len, args := _, argTypes := #[9] }, _, _, _, _⟩ _; refine YK.ofV (y_lenS (by rfl) StrTy.is) ?_)
    | (show VK _ _ _ _ _ ⟨_, .call { callee := .builtin .len, args := _, argTypes := #[9] }, _, _, _, _⟩ _; refine VK.mk (y_lenS (by rfl) StrTy.is) ?_)
    | (show YG _ _ _ _ _ _ ⟨_, .call { callee := .builtin .len, args := _, argTypes := #[9] }, _, _, _, _⟩ _; refine YG.mk (fun hb => by (try (have hc := And.left hb; have hb := And.right hb; rw [hc])); (try rw [hb]); exact V.y (y_lenS (by rfl) StrTy.is)) ?_)
    | (show VG _ _ _ _ _ _ ⟨_, .call { callee := .builtin .len, args := _, argTypes := #[9] }, _, _, _, _⟩ _; refine VG.mk (fun hb => by (try (have hc := And.left hb; have hb := And.right hb; rw [hc])); (try rw [hb]); exact y_lenS (by rfl) StrTy.is) ?_)
    | (refine nxN ?_)
    | (refine nxV ?_)
    | (show RS _ _ _ _ _ _ _ _; first | (refine RS.callX (qt) ⟨rfl, rfl⟩ ?_; rintro z ⟨hz, hz2⟩) | (refine RS.callXG (fun _ : True => qt) ⟨rfl, rfl⟩ ?_; rintro z ⟨hz, hz2⟩) | (refine nxRS ?_) | (refine nxRS1 fun _ => ?_))
    | (show RM _ _ _ _ _ _ _ _ _ _; first | (refine RM.callX (qt) ?_; rintro z ⟨hz, hz2⟩) | (refine RM.callXG (fun _ : True => qt) ?_; rintro z ⟨hz, hz2⟩) | (refine nxRM ?_) | (refine nxRM1 fun _ => ?_))
    | (refine nxG ?_)
    | (refine nxVS ?_)
    | (refine nxGS ?_)
    | (refine G.mixedA 3 [.go 0, .go 1, .go 2, .go 3, .go 4, .go 5] ?_)
    | (refine nxX ?_)
    | (refine G.condN rfl (fun hc => ?_) (fun hc => ?_) <;> (try first | exact False.elim hc | (exfalso; omega))))
  refine RS.deferF rfl ?_
  rename_i b2 b3 b4
  refine GD.conv (fun w h => h.oldU (.here _)) ?_
  have qp := fun b => page_c (b := b) (v := z.2.v) (l := z.1) (k := k) (y := y) (m := m) (d := d) (ts := ts) (by omega) hts (by unfold sfx; rw [List.drop_zero, hz]; exact hp)
  repeat' (first
    | (show YK _ _ _ _ _ ⟨_, .call { callee := .builtin .len, args := _, argTypes := #[9] }, _, _, _, _⟩ _; refine YK.ofV (y_lenS (by rfl) StrTy.is) ?_)
    | (show VK _ _ _ _ _ ⟨_, .call { callee := .builtin .len, args := _, argTypes := #[9] }, _, _, _, _⟩ _; refine VK.mk (y_lenS (by rfl) StrTy.is) ?_)
    | (show YG _ _ _ _ _ _ ⟨_, .call { callee := .builtin .len, args := _, argTypes := #[9] }, _, _, _, _⟩ _; refine YG.mk (fun hb => by (try (have hc := And.left hb; have hb := And.right hb; rw [hc])); (try rw [hb]); exact V.y (y_lenS (by rfl) StrTy.is)) ?_)
    | (show VG _ _ _ _ _ _ ⟨_, .call { callee := .builtin .len, args := _, argTypes := #[9] }, _, _, _, _⟩ _; refine VG.mk (fun hb => by (try (have hc := And.left hb; have hb := And.right hb; rw [hc])); (try rw [hb]); exact y_lenS (by rfl) StrTy.is) ?_)
    | (refine GD.seq ?_)
    | (refine GD.region ?_)
    | (refine X.andD ?_)
    | (refine GD.condF rfl ?_)
    | (refine GD.thenSkip ?_)
    | (show RS _ _ _ _ _ _ _ (⟨_, .call { callee := .value (.func 57), args := _, argTypes := _ }, _, _, _, _⟩ :: _); refine RS.callL (qp _) hI ?_; rintro z1 hz1; dsimp only [List.cons_append, List.nil_append]; refine RS.conv (fun w h => (St.sub h (.cons _ (.cons _ (.refl _)))).perm (List.perm_append_comm (l₁ := Hl.nw z1.2.2.v cT 6 z1.1 :: inn z1.1.reverse))) ?_; dsimp only [List.cons_append, List.nil_append])
    | (show YK _ _ _ _ _ ⟨some 23, _, _, _, _, _⟩ _; have hvz := hv z1.1 hz1; have q := pvalid_c (y := y) (m := m) (d := d) (v := z1.2.2.v) (fun _ => hvz.1); rw [hvz.2] at q; refine YK.mk (y_callIn (xs := [.tmp 22]) q (fun w hw => pgP_of hw (by exact memA) (fun x hx => by simp [hx])) ⟨rfl, rfl⟩ (by decide +kernel)) ?_)
    | (refine nxN ?_)
    | (refine nxV ?_)
    | (show RS _ _ _ _ _ _ _ _; first | (refine nxRS ?_) | (refine nxRS1 fun _ => ?_))
    | (show RM _ _ _ _ _ _ _ _ _ _; first | (refine nxRM ?_) | (refine nxRM1 fun _ => ?_))
    | (refine nxG ?_)
    | (refine nxVS ?_)
    | (refine nxGS ?_)
    | (refine G.mixedA 3 [.go 0, .go 1, .go 2, .go 3, .go 4, .go 5] ?_)
    | (refine nxX ?_)
    | (refine G.condN rfl (fun hc => ?_) (fun hc => ?_) <;> (try first | exact False.elim hc | (exfalso; omega))))
  exact GD.retD (vs := [_, _, _]) rfl ⟨.inl ⟨⟨_, _, _, _, rfl, (by exact memA), (by (repeat (first | exact .nil | apply LenIs.cons))), by decide +kernel, rfl⟩, rfl⟩, .inl ⟨⟨_, _, _, _, rfl, (by exact memA), (by (repeat (first | exact .nil | apply LenIs.cons))), by decide +kernel, rfl⟩, rfl⟩, .inr ⟨_, _, _, _, rfl, rfl, (by exact memA), by decide +kernel⟩, rfl⟩ rfl (by decide +kernel) (catch_c _ rfl) (fun w hw => ⟨(z1.1, z1.2.2), hz1, rfl, hw.ext, NewIn.spec (NewIn.nw (by exact memA) (newIn_inn fun x hx => by simp [hx])) hw⟩)
end Go.Proofs.YtpekkcahehhkmaaGreatDoor
/- strings.Builder: copyCheck, WriteByte, WriteString (walked: the shelf's form does not fit where a copied builder is refused). -/
set_option linter.unusedVariables false
set_option maxHeartbeats 4000000
namespace Go.Proofs.YtpekkcahehhkmaaGreatDoor
open Go.RowKit

section
variable {P : Program} {n : Nat} {L : FL} {w0 : World} {H : List Hl} {Q : Exit → Act → World → Prop} {ops : Array Oper} {rest : List Oper} {d : Option Tmp} {dd : Nat} {ty : TypeId} {pos : String} {af : Array Edge} {g : Option (Nat × Bool)} {x y : Operand} {t t' e : TypeId} {v : Value} {b : Nat}
theorem y_eqNil0 (hx : evO L x = some (.pointer none)) (hy : evO L y = some (.pointer none)) (ht : P.underlying t = some (.pointer e)) : V P n L w0 H ⟨d, .binOp .eql t x y t', ty, pos, af, g⟩ (.bool true) := by
  unfold V
  intro a w ha hw
  have h : ∀ k : Nat, (Op.equalIn (k + 1) t (.pointer none) (.pointer none)).run P w = .ok true w := fun k => by simp [Op.equalIn, run_underlying ht]
  simp [execOp, ha.eval hx, ha.eval hy, eqGuard, binOp, Op.equal, Op.maxDepth, h 9999]
theorem y_eqNil1 {a0 : Addr} (hx : evO L x = some (.pointer (some a0))) (hy : evO L y = some (.pointer none)) (ht : P.underlying t = some (.pointer e)) : V P n L w0 H ⟨d, .binOp .eql t x y t', ty, pos, af, g⟩ (.bool false) := by
  unfold V
  intro a w ha hw
  have h : ∀ k : Nat, (Op.equalIn (k + 1) t (.pointer (some a0)) (.pointer none)).run P w = .ok false w := fun k => by simp [Op.equalIn, run_underlying ht]
  simp [execOp, ha.eval hx, ha.eval hy, eqGuard, binOp, Op.equal, Op.maxDepth, h 9999]
theorem y_neSame {a0 : Addr} (hx : evO L x = some (.pointer (some a0))) (hy : evO L y = some (.pointer (some a0))) (ht : P.underlying t = some (.pointer e)) (hi : (P.info? e).isSome = true) : V P n L w0 H ⟨d, .binOp .neq t x y t', ty, pos, af, g⟩ (.bool false) := by
  unfold V
  intro a w ha hw
  obtain ⟨j, hj⟩ := Option.isSome_iff_exists.1 hi
  have h := Lib.run_neq_ptr_same w a0 ht hj
  simp [execOp, ha.eval hx, ha.eval hy, eqGuard, h]
theorem shape_of {T : TypeId} {cs : List Value} {w : World} (hm : Hl.blk b T cs ∈ H) (hw : St w0 H w) : w.shape? b = some (T, cs.length) := by
  have := (hw.all _ hm : _ ∧ w.heap[b]? = some (.cells cs.toArray T (0, 0))).2
  simp [World.shape?, this]
theorem y_toUnsafe {T : TypeId} {cs : List Value} (hx : evO L x = some (.pointer (some ⟨b, 0, none⟩))) (hm : Hl.blk b T cs ∈ H) (h0 : 0 < cs.length) (hs : P.underlying t = some (.pointer e)) (hd : P.underlying t' = some .unsafePointer) (hi : (P.info? e).map (·.size) = some 2) : V P n L w0 H ⟨d, .convert t t' x, ty, pos, af, g⟩ (.pointer (some ⟨b, 0, none⟩)) := by
  unfold V
  intro a w ha hw
  obtain ⟨j, hj, hz⟩ := Option.map_eq_some_iff.1 hi
  have h := Lib.run_to_unsafe w ⟨b, 0, none⟩ hs hd hj (by omega) (shape_of hm hw) h0
  simp [execOp, ha.eval hx, h]
theorem y_fromUnsafe {k : Nat} {T : TypeId} {cs : List Value} (hx : evO L x = some (.pointer (some ⟨b, 0, none⟩))) (hm : Hl.blk b T cs ∈ H) (hs : P.underlying t = some .unsafePointer) (hd : P.underlying t' = some (.pointer e)) (hi : (P.info? e).isSome = true) (hk : cs.length = k) (hl : liesAt P P.depth T (k / P.cellsOf T) 0 e 1 = true) : V P n L w0 H ⟨d, .convert t t' x, ty, pos, af, g⟩ (.pointer (some ⟨b, 0, none⟩)) := by
  unfold V
  intro a w ha hw
  obtain ⟨j, hj⟩ := Option.isSome_iff_exists.1 hi
  have h := Lib.run_from_unsafe w ⟨b, 0, none⟩ hs hd hj (shape_of hm hw) (by rw [hk]; exact hl)
  simp [execOp, ha.eval hx, h]
theorem y_noEsc {f : FuncId} {fn : Func} {tys : Array TypeId} (hx : evO L x = some v) (hf : P.funcs[f]? = some fn) (hname : (fn.name == "runtime.NumGoroutine") = false) (hb : fn.body.isNone = true) (hn : Extern.findNext fn = none) (he : Extern.find fn = some Extern.AbiNoEscape.same) : V P n L w0 H ⟨d, .call { callee := .value (.func f), args := #[x], argTypes := tys }, ty, pos, af, g⟩ v := by
  unfold V
  intro a w ha hw
  rw [show execOp a.eval ⟨d, .call { callee := .value (.func f), args := #[x], argTypes := tys }, ty, pos, af, g⟩ = callFunc f (#[] ++ #[x].map a.eval ++ #[]) from rfl]
  rw [run_callFunc_extern hf hname hb hn he]
  simp [ha.eval hx, Lib.run_noEscape]
theorem y_nil {a0 : Addr} (hx : evO L x = some (.pointer (some a0))) : V P n L w0 H ⟨d, .nilCheck x, ty, pos, af, g⟩ (.pointer (some a0)) := by
  unfold V
  intro a w ha hw
  simp [execOp, ha.eval hx]
end
abbrev cU (c : UInt8) : List Value := [.int .u8 c.toNat]
theorem strCells_cU (l : List UInt8) : Lib.strCells ⟨l.toArray⟩ = l.flatMap cU := by
  unfold Lib.strCells
  show l.map _ = _
  induction l with
  | nil => rfl
  | cons c r ih => simp [ih]
section
variable {P : Program} {n : Nat} {L : FL} {w0 : World} {H : List Hl} {Q : Exit → Act → World → Prop} {ops : Array Oper} {rest : List Oper} {dd : Nat} {ty : TypeId} {pos : String} {af : Array Edge} {gd : Option (Nat × Bool)} {x y : Operand} {t u e : TypeId} {v : Value}
theorem run_appStr_at (w : World) (base : Nat) (t u ty e : TypeId) (i : TypeInfo) (ht : P.underlying t = some (.slice e)) (hu : P.underlying u = some .string) (hi : P.info? e = some i) (hz : i.zero = some (.int .u8 0)) (hsize : i.size = 1) (hby : i.bytes = 1)
    (v : Value) (n : Nat) (xs : List Value) (hown : w.ownsRow base e 1 v n xs) (s : ByteArray) (hbytes : n + s.size ≤ 140737488355328) (hbase : base ≤ w.heap.size) :
    ∃ v' w', (Builtin.append_ #[t, u] ty #[v, .string s]).run P w = .ok v' w' ∧ w'.ownsRow base e 1 v' (n + s.size) (xs ++ Lib.strCells s) ∧ w.grownBy w' v.ownBlock ∧ ∀ b, v'.ownBlock = some b → v.ownBlock = some b ∨ w.heap.size ≤ b := by
  have hxl : xs.length = n := by simpa using hown.1
  obtain ⟨v', w', hr, h2, h3, h4⟩ := Lib.run_append_own_string (P := P) w base t u ty e i ht hu hi hz hsize hby v n xs hown s (by simp only [maxLen]; omega) hbytes hbase
  refine ⟨v', w', hr, h2, h3, fun b hb => ?_⟩
  rcases hown.2 with ⟨rfl, rfl⟩ | ⟨g, cap, cur, rfl, hbg, hg, hnc, hcm, hcs, htake⟩
  · by_cases hm : s.size = 0
    · rw [h4.2 ⟨rfl, hm⟩] at hb; simp [Value.ownBlock] at hb
    · have hr2 := run_append_nil_string (P := P) w t u ty e i (.int .u8 0) ht hu hi hz s (by omega) (by omega) (by rw [hby]; omega)
      rw [hr2] at hr
      simp only [Result.ok.injEq] at hr
      rw [← hr.1] at hb
      simp only [Value.ownBlock, Option.some.injEq] at hb
      exact .inr (by omega)
  · by_cases hroom : n + s.size ≤ cap
    · have hcs' : cur.size = cap := by simpa using hcs
      have hr2 := Lib.run_append_room_string (P := P) w t u ty e i ht hu hi hsize g n cap cur hg s hroom (by omega)
      rw [hr2] at hr
      simp only [Result.ok.injEq] at hr
      rw [← hr.1] at hb
      exact .inl hb
    · have holds : ∀ j u, xs[j]? = some u → w.cell? ((⟨g, 0, none⟩ : Addr).add j) = some u := hown.cells (g := g) rfl
      have hr2 := Lib.run_append_grow_string (P := P) w t u ty e i (.int .u8 0) ht hu hi hz ⟨g, 0, none⟩ n cap xs (by rw [hsize]; simpa using hxl) holds s (by omega) (by omega) (by rw [hby]; exact growslice_fits (by omega) (by omega))
      rw [hr2] at hr
      simp only [Result.ok.injEq] at hr
      rw [← hr.1] at hb
      simp only [Value.ownBlock, Option.some.injEq] at hb
      exact .inr (by omega)
theorem x_appStr {l l' : List UInt8} {H' : Sl → List Hl} (hx : evO L x = some v) (hy : evO L y = some (strV l')) (hu : ∀ v' : Sl, Upd (Hl.rw v e cU 1 l) (Hl.rw v'.v e cU 1 (l ++ l')) H (H' v')) (hb : l.length + l'.length ≤ 140737488355328) (ht : rowTyB P t e 1 1 = true) (hz0 : zeroByteB P e = true) (hs : P.underlying u = some .string) (hd : Nat.blt dd n = true) :
    EX P n L w0 H ⟨some dd, .call { callee := .builtin .append, args := #[x, y], argTypes := #[t, u] }, ty, pos, af, gd⟩ (fun _ : Sl => True) (fun v' => (dd, v'.v) :: L) H' :=
  EX.of_run (fun a w ha hw => by
    obtain ⟨i, z, hu1, hi, hz, hs1, hby, hzs, h0⟩ := rowTyB_spec ht
    have hz2 : i.zero = some (.int .u8 0) := by
      have := zeroByteB_spec hz0
      simp [zeroOf, hi] at this
      exact this
    have hsz : (⟨l'.toArray⟩ : ByteArray).size = l'.length := size_str l'
    obtain ⟨v', w', hr1, h2, h3, h4⟩ := run_appStr_at (P := P) w w0.heap.size t u ty e i hu1 hs hi hz2 hs1 hby v l.length _ (hw.all _ (hu ⟨none, 0, 0⟩).mem) ⟨l'.toArray⟩ (by rw [hsz]; exact hb) hw.ext.size
    rw [hsz, strCells_cU] at h2
    obtain ⟨x', rfl⟩ := owns_sl h2
    refine ⟨_, w', x', by simp [execOp, resolve, invoke, builtin, ha.eval hx, ha.eval hy, hr1], trivial, rfl, hw.turn (hu x') rfl h3 ?_ h4⟩
    show w'.ownsRow _ _ _ _ _ _
    rw [List.length_append, List.flatMap_append]
    exact h2) hd
theorem RS.appStr {l l' : List UInt8} {H' : Sl → List Hl} (h : ∀ v' : Sl, RS P ops Q n ((dd, v'.v) :: L) w0 (H' v') rest) (hx : evO L x = some v) (hy : evO L y = some (strV l')) (hu : ∀ v' : Sl, Upd (Hl.rw v e cU 1 l) (Hl.rw v'.v e cU 1 (l ++ l')) H (H' v')) (hb : l.length + l'.length ≤ 140737488355328) (ht : rowTyB P t e 1 1 = true) (hz0 : zeroByteB P e = true) (hs : P.underlying u = some .string) (hd : Nat.blt dd n = true) :
    RS P ops Q n L w0 H (⟨some dd, .call { callee := .builtin .append, args := #[x, y], argTypes := #[t, u] }, ty, pos, af, none⟩ :: rest) := RS.actX rfl (x_appStr hx hy hu hb ht hz0 hs hd) fun v' _ => h v'
end
abbrev pB (b : Nat) : Value := .pointer (some ⟨b, 0, none⟩)
theorem copyCheck1_c (b : Nat) (sl : Value) : ContU Tryz.prog (Hl.blk b 59 [pB b, sl]) 62 [pB b] (fun _ : Unit => True) (fun _ => .tuple #[]) (fun _ => [Hl.blk b 59 [pB b, sl]]) := fun w0 HR w hw => by
  refine enterU Tryz.func62 rfl rfl rfl hw ?_
  repeat' (first
    | (show YK _ _ _ _ _ ⟨_, .nilCheck _, _, _, _, _⟩ _; refine YK.ofV (y_nil (by rfl)) ?_)
    | (show YK _ _ _ _ _ ⟨_, .binOp .eql _ _ _ _, _, _, _, _⟩ _; refine YK.ofV (y_eqNil1 (by rfl) (by rfl) Tryz.underlying57) ?_)
    | (show YK _ _ _ _ _ ⟨_, .binOp .neq _ _ _ _, _, _, _, _⟩ _; refine YK.ofV (y_neSame (by rfl) (by rfl) Tryz.underlying57 (by decide +kernel)) ?_)
    | (refine nxV ?_)
    | (show RS _ _ _ _ _ _ _ _; first | (refine nxRS ?_) | (refine nxRS1 fun _ => ?_))
    | (show RM _ _ _ _ _ _ _ _ _ _; first | (refine nxRM ?_) | (refine nxRM1 fun _ => ?_))
    | (refine nxG ?_)
    | (refine nxX ?_)
    | (refine G.condN rfl (fun hc => ?_) (fun hc => ?_) <;> (try first | exact False.elim hc | (exfalso; omega))))
  exact X.endN rfl (fun w hw => ⟨(), trivial, rfl, hw⟩)
theorem copyCheck0_c (b : Nat) (sl : Value) : ContU Tryz.prog (Hl.blk b 59 [.pointer none, sl]) 62 [pB b] (fun _ : Unit => True) (fun _ => .tuple #[]) (fun _ => [Hl.blk b 59 [pB b, sl]]) := fun w0 HR w hw => by
  refine enterU Tryz.func62 rfl rfl rfl hw ?_
  repeat' (first
    | (show YK _ _ _ _ _ ⟨_, .nilCheck _, _, _, _, _⟩ _; refine YK.ofV (y_nil (by rfl)) ?_)
    | (show YK _ _ _ _ _ ⟨_, .binOp .eql _ _ _ _, _, _, _, _⟩ _; refine YK.ofV (y_eqNil0 (by rfl) (by rfl) Tryz.underlying57) ?_)
    | (show YK _ _ _ _ _ ⟨_, .binOp .neq _ _ _ _, _, _, _, _⟩ _; refine YK.ofV (y_neSame (by rfl) (by rfl) Tryz.underlying57 (by decide +kernel)) ?_)
    | (show YK _ _ _ _ _ ⟨_, .call _, _, _, _, _⟩ _; refine YK.ofV (y_noEsc (by rfl) Tryz.func97 (by kernel_rfl) (by kernel_rfl) (by kernel_rfl) (by kernel_rfl)) ?_)
    | (show YK _ _ _ _ _ ⟨_, .convert 57 _ _, _, _, _, _⟩ _; refine YK.ofV (y_toUnsafe (by rfl) (List.Mem.head _) (Nat.zero_lt_succ _) Tryz.underlying57 Tryz.underlying125 (by kernel_rfl)) ?_)
    | (show YK _ _ _ _ _ ⟨_, .convert 125 _ _, _, _, _, _⟩ _; refine YK.ofV (y_fromUnsafe (k := 2) (by rfl) (List.Mem.head _) Tryz.underlying125 Tryz.underlying57 (by decide +kernel) rfl (by kernel_rfl)) ?_)
    | (refine nxV ?_)
    | (show RS _ _ _ _ _ _ _ _; first | (refine nxRS ?_) | (refine nxRS1 fun _ => ?_))
    | (show RM _ _ _ _ _ _ _ _ _ _; first | (refine nxRM ?_) | (refine nxRM1 fun _ => ?_))
    | (refine nxG ?_)
    | (refine nxX ?_)
    | (refine G.condN rfl (fun hc => ?_) (fun hc => ?_) <;> (try first | exact False.elim hc | (exfalso; omega))))
  exact X.endN rfl (fun w hw => ⟨(), trivial, rfl, hw⟩)
/-- A contract that turns two heaplets of the caller's. -/
def ContW (P : Program) (X1 X2 : Hl) (f : FuncId) (args : List Value) {ι : Type} (post : ι → Prop) (v : ι → Value) (Y : ι → List Hl) : Prop :=
  ∀ w0 HR w, St w0 (X1 :: X2 :: HR) w → Calls P f args.toArray w fun e w' => ∃ z, post z ∧ e = .returned (v z) ∧ St w0 (Y z ++ HR) w'
section
variable {P : Program} {n : Nat} {L : FL} {w0 : World} {H : List Hl} {Q : Exit → Act → World → Prop} {ops : Array Oper} {rest : List Oper} {dd : Nat} {ty : TypeId} {pos : String} {af : Array Edge} {gd : Option (Nat × Bool)} {ι : Type}
theorem x_callW {X1 X2 : Hl} {A B A' B' : List Hl} {f : FuncId} {xs : List Operand} {vs : List Value} {tys : Array TypeId} {post : ι → Prop} {v : ι → Value} {Y : ι → List Hl} (hc : ContW P X1 X2 f vs post v Y) (ha : AE L xs vs) (hA : At X2 A B H) (hA2 : At X1 A' B' (A ++ B)) (hg : isGo P f = true) (hd : Nat.blt dd n = true) :
    EX P n L w0 H ⟨some dd, .call { callee := .value (.func f), args := xs.toArray, argTypes := tys }, ty, pos, af, gd⟩ post (fun z => (dd, v z) :: L) (fun z => Y z ++ (A' ++ B')) := fun a w hfr hw K Q hK => by
  unfold Oper.wp
  rw [run_call hfr ha hg]
  have h1 := St.front hA hw
  have h2 := St.front (At.there (h := X2) hA2) h1
  refine (hc w0 (A' ++ B') w h2).mono ?_
  rintro e w' ⟨z, hz, rfl, hs⟩
  exact hK _ _ ⟨z, hz, hfr.put (by simpa [Nat.blt_eq] using hd), hs⟩
theorem RS.callW {X1 X2 : Hl} {A B A' B' : List Hl} {f : FuncId} {xs : List Operand} {vs : List Value} {tys : Array TypeId} {post : ι → Prop} {v : ι → Value} {Y : ι → List Hl} (hc : ContW P X1 X2 f vs post v Y) (ha : AE L xs vs) (h : ∀ z, post z → RS P ops Q n ((dd, v z) :: L) w0 (Y z ++ (A' ++ B')) rest)
    (hA : At X2 A B H := by first | exact .here | exact .there .here | exact .there (.there .here) | exact .there (.there (.there .here)) | exact .there (.there (.there (.there .here))))
    (hA2 : At X1 A' B' (A ++ B) := by first | exact .here | exact .there .here | exact .there (.there .here) | exact .there (.there (.there .here)) | exact .there (.there (.there (.there .here))))
    (hg : isGo P f = true := by decide +kernel) (hd : Nat.blt dd n = true := by rfl) :
    RS P ops Q n L w0 H (⟨some dd, .call { callee := .value (.func f), args := xs.toArray, argTypes := tys }, ty, pos, af, none⟩ :: rest) := RS.actX rfl (x_callW hc ha hA hA2 hg hd) h
end
abbrev bldB (b : Nat) (p : Value) (x : Sl) : Hl := Hl.blk b 59 [p, x.v]
abbrev bldR (x : Sl) (l : List UInt8) : Hl := Hl.rw x.v 5 cU 1 l
theorem writeS_c (b : Nat) (p : Value) (hp : p = .pointer none ∨ p = pB b) (x : Sl) (l l' : List UInt8) (hb : l.length + l'.length ≤ 140737488355328) : ContW Tryz.prog (bldR x l) (bldB b p x) 26 [pB b, strV l'] (fun _ : Sl => True) (fun _ => .tuple [.int .i64 l'.length, .nilIface].toArray) (fun z => [bldB b (pB b) z, bldR z (l ++ l')]) := fun w0 HR w hw => by
  have qc : ContU Tryz.prog (bldB b p x) 62 [pB b] (fun _ : Unit => True) (fun _ => .tuple #[]) (fun _ => [bldB b (pB b) x]) := by
    rcases hp with rfl | rfl
    · exact copyCheck0_c b x.v
    · exact copyCheck1_c b x.v
  refine enterU Tryz.func26 rfl rfl rfl hw ?_
  repeat' (first
    | (show YK _ _ _ _ _ ⟨_, .call { callee := .builtin .len, args := _, argTypes := #[9] }, _, _, _, _⟩ _; refine YK.ofV (y_lenS (by rfl) StrTy.is) ?_)
    | (show VK _ _ _ _ _ ⟨_, .call { callee := .builtin .len, args := _, argTypes := #[9] }, _, _, _, _⟩ _; refine VK.mk (y_lenS (by rfl) StrTy.is) ?_)
    | (show YG _ _ _ _ _ _ ⟨_, .call { callee := .builtin .len, args := _, argTypes := #[9] }, _, _, _, _⟩ _; refine YG.mk (fun hb => by (try (have hc := And.left hb; have hb := And.right hb; rw [hc])); (try rw [hb]); exact V.y (y_lenS (by rfl) StrTy.is)) ?_)
    | (show VG _ _ _ _ _ _ ⟨_, .call { callee := .builtin .len, args := _, argTypes := #[9] }, _, _, _, _⟩ _; refine VG.mk (fun hb => by (try (have hc := And.left hb; have hb := And.right hb; rw [hc])); (try rw [hb]); exact y_lenS (by rfl) StrTy.is) ?_)
    | (refine RS.callU qc ⟨rfl, rfl⟩ ?_; rintro z0 _; dsimp only [List.cons_append, List.nil_append])
    | (show YK _ _ _ _ _ ⟨_, .nilCheck _, _, _, _, _⟩ _; refine YK.ofV (y_nil (by rfl)) ?_)
    | (refine RS.appStr ?_ (by rfl) (by rfl) (fun v' => .there _ (.here _)) hb (by decide +kernel) (by decide +kernel) Tryz.underlying9 (by rfl); intro z1)
    | (refine nxV ?_)
    | (show RS _ _ _ _ _ _ _ _; first | (refine nxRS ?_) | (refine nxRS1 fun _ => ?_))
    | (show RM _ _ _ _ _ _ _ _ _ _; first | (refine nxRM ?_) | (refine nxRM1 fun _ => ?_))
    | (refine nxG ?_)
    | (refine nxVS ?_)
    | (refine nxGS ?_)
    | (refine nxX ?_)
    | (refine G.condN rfl (fun hc => ?_) (fun hc => ?_) <;> (try first | exact False.elim hc | (exfalso; omega))))
  exact X.ret (vs := [_, _]) rfl ⟨rfl, rfl, rfl⟩ rfl (fun w hw => ⟨z1, trivial, rfl, hw⟩)
theorem RS.litU {P : Program} {ops : Array Oper} {Q : Exit → Act → World → Prop} {n : Nat} {L : FL} {w0 : World} {H : List Hl} {dd : Tmp} {ty : TypeId} {pos : String} {af : Array Edge} {t e : TypeId} {x : Operand} {c : UInt8} {rest : List Oper} (h : ∀ v' : Sl, RS P ops Q n ((dd, v'.v) :: L) w0 (Hl.rw v'.v e cU 1 [c] :: H) rest) (hx : evO L x = some (.int .u8 c.toNat)) (ht : rowTyB P t e 1 1 = true) (hd : Nat.blt dd n = true) :
    RS P ops Q n L w0 H (⟨some dd, .buildSlice t 1 #[(0, x)], ty, pos, af, none⟩ :: rest) := RS.actX rfl (x_lit (parts := [(0, x)]) (vs := [.int .u8 c.toNat]) (f := cU) (l := [c]) ⟨hx, rfl⟩ rfl rfl rfl rfl rfl rfl ht hd) fun v' _ => h v'
theorem writeB_c (b : Nat) (p : Value) (hp : p = .pointer none ∨ p = pB b) (x : Sl) (l : List UInt8) (c : UInt8) (hb : l.length ≤ 1000000) : ContW Tryz.prog (bldR x l) (bldB b p x) 141 [pB b, .int .u8 c.toNat] (fun _ : Sl => True) (fun _ => .nilIface) (fun z => [bldB b (pB b) z, bldR z (l ++ [c])]) := fun w0 HR w hw => by
  have qc : ContU Tryz.prog (bldB b p x) 62 [pB b] (fun _ : Unit => True) (fun _ => .tuple #[]) (fun _ => [bldB b (pB b) x]) := by
    rcases hp with rfl | rfl
    · exact copyCheck0_c b x.v
    · exact copyCheck1_c b x.v
  refine enterU Tryz.func141 rfl rfl rfl hw ?_
  repeat' (first
    | (show YK _ _ _ _ _ ⟨_, .call { callee := .builtin .len, args := _, argTypes := #[9] }, _, _, _, _⟩ _; refine YK.ofV (y_lenS (by rfl) StrTy.is) ?_)
    | (show VK _ _ _ _ _ ⟨_, .call { callee := .builtin .len, args := _, argTypes := #[9] }, _, _, _, _⟩ _; refine VK.mk (y_lenS (by rfl) StrTy.is) ?_)
    | (show YG _ _ _ _ _ _ ⟨_, .call { callee := .builtin .len, args := _, argTypes := #[9] }, _, _, _, _⟩ _; refine YG.mk (fun hb => by (try (have hc := And.left hb; have hb := And.right hb; rw [hc])); (try rw [hb]); exact V.y (y_lenS (by rfl) StrTy.is)) ?_)
    | (show VG _ _ _ _ _ _ ⟨_, .call { callee := .builtin .len, args := _, argTypes := #[9] }, _, _, _, _⟩ _; refine VG.mk (fun hb => by (try (have hc := And.left hb; have hb := And.right hb; rw [hc])); (try rw [hb]); exact y_lenS (by rfl) StrTy.is) ?_)
    | (refine RS.callU qc ⟨rfl, rfl⟩ ?_; rintro z0 _; dsimp only [List.cons_append, List.nil_append])
    | (show YK _ _ _ _ _ ⟨_, .nilCheck _, _, _, _, _⟩ _; refine YK.ofV (y_nil (by rfl)) ?_)
    | (show RS _ _ _ _ _ _ _ (⟨_, .buildSlice _ _ _, _, _, _, _⟩ :: _); refine RS.litU (e := 5) (c := c) ?_ (by rfl) (by decide +kernel) (by rfl); intro z2)
    | (show RS _ _ _ _ _ _ _ (⟨_, .call { callee := .builtin .append, args := _, argTypes := _ }, _, _, _, _⟩ :: _); refine RS.appendA (f := cU) (l := l) (l' := [c]) ?_; intro z1)
    | (refine nxV ?_)
    | (show RS _ _ _ _ _ _ _ _; first | (refine nxRS ?_) | (refine nxRS1 fun _ => ?_))
    | (show RM _ _ _ _ _ _ _ _ _ _; first | (refine nxRM ?_) | (refine nxRM1 fun _ => ?_))
    | (refine nxG ?_)
    | (refine nxVS ?_)
    | (refine nxGS ?_)
    | (refine nxX ?_)
    | (refine G.condN rfl (fun hc => ?_) (fun hc => ?_) <;> (try first | exact False.elim hc | (exfalso; omega))))
  exact X.ret (vs := [_]) rfl ⟨rfl, rfl⟩ rfl (fun w hw => ⟨z1, trivial, rfl, hw.sub (List.sublist_cons_self _ _)⟩)
theorem bytes_cU (l : List UInt8) : Lib.byteCells l = l.flatMap cU := by
  unfold Lib.byteCells
  induction l with
  | nil => rfl
  | cons c r ih => simp [ih]
section
variable {n : Nat} {L : FL} {w0 : World} {H : List Hl} {Q : Exit → Act → World → Prop} {ops : Array Oper} {rest : List Oper} {dd : Nat} {ty : TypeId} {pos : String} {af : Array Edge} {gd : Option (Nat × Bool)} {x : Operand} {tys : Array TypeId}
theorem isBld {b : Nat} {p : Value} (hp : p = .pointer none ∨ p = pB b) {z : Sl} {l : List UInt8} {w : World} (h1 : bldB b p z ∈ H) (h2 : bldR z l ∈ H) (hw : St w0 H w) : Lib.IsBuilder 59 5 w0.heap.size b (Lib.byteCells l) w := by
  have a1 : _ ∧ w.heap[b]? = some (.cells [p, z.v].toArray 59 (0, 0)) := hw.all _ h1
  have a2 : w.ownsRow w0.heap.size 5 1 z.v l.length (l.flatMap cU) := hw.all _ h2
  have e : (Lib.byteCells l).length = l.length := by unfold Lib.byteCells; simp
  have a3 : Lib.BuilderAt 59 5 w0.heap.size b p (Lib.byteCells l) w := ⟨a1.1, z.v, a1.2, by rw [e, bytes_cU]; exact a2, Lib.ownBlock_ne a2 a1.2 (by decide)⟩
  rcases hp with rfl | rfl
  · exact .inl a3
  · exact .inr a3
theorem RS.string {b : Nat} {p : Value} {z : Sl} {l : List UInt8} (h : RS Tryz.prog ops Q n ((dd, strV l) :: L) w0 [] rest) (hp : p = .pointer none ∨ p = pB b) (h1 : bldB b p z ∈ H) (h2 : bldR z l ∈ H) (ha : AE L [x] [pB b]) (hd : Nat.blt dd n = true := by rfl) :
    RS Tryz.prog ops Q n L w0 H (⟨some dd, .call { callee := .value (.func 29), args := [x].toArray, argTypes := tys }, ty, pos, af, none⟩ :: rest) :=
  RS.actX rfl (post := fun _ : Unit => True) (fun a w hfr hw K Q hK => by
    unfold Oper.wp
    rw [run_call hfr ha (by decide +kernel)]
    refine (Tryz.Builder_String_any w0.heap.size b l w (isBld hp h1 h2 hw) hw.ext.size).mono ?_
    rintro e w' ⟨rfl, hs⟩
    exact hK _ _ ⟨(), trivial, hfr.put (by simpa [Nat.blt_eq] using hd), hw.ext.trans hs, (fun y hy => by cases hy), trivial⟩) fun _ _ => h
end
end Go.Proofs.YtpekkcahehhkmaaGreatDoor
/- slices.Reverse at bytes. -/
set_option linter.unusedVariables false
set_option maxHeartbeats 4000000
namespace Go.Proofs.YtpekkcahehhkmaaGreatDoor
open Go.RowKit

theorem gt0_set (l : List Int) (i k : Nat) (x : Int) : gt0 (l.set i x) k = if i = k ∧ k < l.length then x else gt0 l k := by
  show (l.set i x).getD k 0 = _
  rw [List.getD_eq_getElem?_getD, List.getElem?_set]
  by_cases h : i = k
  · subst h
    by_cases h2 : i < l.length
    · simp [h2]
    · simp [h2, gt0, List.getD_eq_getElem?_getD]
  · simp [h, gt0, List.getD_eq_getElem?_getD]
def revS (l : List Int) : Nat → List Int
  | 0 => l
  | i + 1 => ((revS l i).set i (gt0 (revS l i) (l.length - 1 - i))).set (l.length - 1 - i) (gt0 (revS l i) i)
theorem revS_len (l : List Int) (i : Nat) : (revS l i).length = l.length := by
  induction i with
  | zero => rfl
  | succ i ih => simp [revS, ih]
theorem revS_get (l : List Int) (i : Nat) (h : 2 * i ≤ l.length) (k : Nat) (hk : k < l.length) : gt0 (revS l i) k = if k < i ∨ l.length ≤ k + i then gt0 l (l.length - 1 - k) else gt0 l k := by
  induction i generalizing k with
  | zero => rw [if_neg (by omega)]; rfl
  | succ i ih =>
    have h1 := ih (by omega) k hk
    have h2 := ih (by omega) i (by omega)
    have h3 := ih (by omega) (l.length - 1 - i) (by omega)
    rw [if_neg (by omega)] at h2 h3
    show gt0 (((revS l i).set i _).set (l.length - 1 - i) _) k = _
    rw [gt0_set, gt0_set, List.length_set, revS_len, h1, h2, h3]
    by_cases e1 : l.length - 1 - i = k
    · rw [if_pos ⟨e1, hk⟩, if_pos (by omega)]
      congr 1; omega
    · rw [if_neg (by omega)]
      by_cases e2 : i = k
      · subst e2
        rw [if_pos ⟨rfl, hk⟩, if_pos (by omega)]
      · rw [if_neg (by omega)]
        by_cases e3 : k < i ∨ l.length ≤ k + i
        · rw [if_pos e3, if_pos (by omega)]
        · rw [if_neg e3, if_neg (by omega)]
theorem revS_all (l : List Int) (i : Nat) (h : 2 * i ≤ l.length) (h2 : l.length ≤ 2 * i + 1) : revS l i = l.reverse := by
  apply List.ext_getElem
  · rw [revS_len, List.length_reverse]
  · intro k hk1 hk2
    rw [revS_len] at hk1
    have e := revS_get l i h k hk1
    have g1 : gt0 (revS l i) k = (revS l i)[k] := by
      show (revS l i).getD k 0 = _
      rw [List.getD_eq_getElem?_getD, List.getElem?_eq_getElem (by rw [revS_len]; exact hk1)]; rfl
    have g2 : ∀ j (hj : j < l.length), gt0 l j = l[j] := fun j hj => by
      show l.getD j 0 = _
      rw [List.getD_eq_getElem?_getD, List.getElem?_eq_getElem hj]; rfl
    rw [← g1, e, List.getElem_reverse, ← g2]
    split
    · rfl
    · congr 1; omega
section
variable {P : Program} {ops : Array Oper} {Q : Exit → Act → World → Prop} {HS : List Hl} {n : Nat} {L : FL} {w0 : World} {H : List Hl} {i : Nat} {ord : List Mv} {t : TypeId} {x y : Operand} {ty : TypeId} {pos : String} {af : Array Edge}
theorem RF.storeB {ls : List Int} {b : Int} {H' : List Hl} {v : Value} {e : TypeId} {m : Int} (ho : ops[i]? = some ⟨none, .store t x y, ty, pos, af, none⟩) (hx : evO L x = some (elA v 1 m 0)) (hy : evO L y = some (.int .u8 b)) (hu : Upd (Hl.rw v e cB 1 ls) (Hl.rw v e cB 1 (ls.set m.toNat b)) H H') (hm : 0 ≤ m ∧ m < ls.length) (hs : scalarB P t = true) (hl : lateF .any ops i = true) (h : RF P ops Q HS n L w0 H' ord) :
    RF P ops Q HS n L w0 H (.go i :: ord) := RF.act h ho rfl rfl (x_storeEl (f := cB) (b := b) hx hy rfl hu hm (fun _ => rfl) rfl rfl hs) hl
end
abbrev rwB (v : Sl) (l : List Int) : Hl := Hl.rw v.v 5 cB 1 l
theorem reverse_c (v : Sl) (l : List Int) (hl : l.length ≤ 1000000) : ContU Tryz.prog (rwB v l) 136 [v.v] (fun _ : Unit => True) (fun _ => .tuple #[]) (fun _ => [rwB v l.reverse]) := fun w0 HR w hw => by
  refine enterU Tryz.func136 rfl rfl rfl hw ?_
  repeat' (first
    | (refine nxV ?_)
    | (show RS _ _ _ _ _ _ _ _; first | (refine nxRS ?_) | (refine nxRS1 fun _ => ?_))
    | (show RM _ _ _ _ _ _ _ _ _ _; first | (refine nxRM ?_) | (refine nxRM1 fun _ => ?_))
    | (refine nxG ?_)
    | (refine G.mixedA 3 [.go 0, .go 1, .go 2, .go 3, .go 4, .go 5, .go 6, .go 7, .go 8, .go 9, .go 10, .go 11, .go 12, .go 13, .go 14, .go 15] ?_)
    | (refine nxX ?_)
    | (refine G.condN rfl (fun hc => ?_) (fun hc => ?_) <;> (try first | exact False.elim hc | (exfalso; omega))))
  refine G.loop (ι := Nat × Int) (fun x => [(0, v.v), (2, .int .i64 (x.1 : Int)), (3, .int .i64 x.2)]) (fun x => rwB v (revS l x.1) :: HR) (fun x => 2 * x.1 ≤ l.length ∧ x.2 = (l.length : Int) - 1 - x.1) (fun x => l.length - x.1) (0, (l.length : Int) - 1) ⟨Nat.zero_le _, by dsimp only; omega⟩ ⟨rfl, rfl, rfl, trivial⟩ (fun w h => h) ?_
  rintro ⟨k, J⟩ mx ⟨g1, g2⟩ hmx
  dsimp only at g1 g2 hmx ⊢
  have hlen := revS_len l k
  rcases Nat.lt_or_ge (2 * k + 1) l.length with hk | hk
  · have e : ((revS l k).set (k : Int).toNat (nth (revS l k) J)).set J.toNat (nth (revS l k) (k : Int)) = revS l (k + 1) := by
      rw [nth_gt0, nth_gt0, show (k : Int).toNat = k by omega, show J.toNat = l.length - 1 - k by omega]; rfl
    generalize hcur : revS l k = cur at hlen e
    repeat' (first
    | (show RF _ _ _ _ _ _ _ _ _; refine RF.storeB (ls := cur) (b := nth cur J) (by rfl) (by rfl) (by rfl) (by exact updA) (by omega) (by decide +kernel) (by decide +kernel) ?_)
    | (show RF _ _ _ _ _ _ _ _ _; refine RF.storeB (ls := cur.set (k : Int).toNat (nth cur J)) (b := nth cur (k : Int)) (by rfl) (by rfl) (by rfl) (by exact updA) (by rw [List.length_set]; omega) (by decide +kernel) (by decide +kernel) ?_)
    | (refine G.mixedFH 3 [.go 0, .go 1, .go 2, .go 3, .go 4, .go 5, .go 6, .go 7, .go 8, .go 9, .go 10, .go 11, .go 12, .go 13, .go 14, .go 15] ?_)
    | (refine nxRF ?_)
    | (refine nxVF ?_)
    | (refine nxV ?_)
    | (show RS _ _ _ _ _ _ _ _; first | (refine nxRS ?_) | (refine nxRS1 fun _ => ?_))
    | (show RM _ _ _ _ _ _ _ _ _ _; first | (refine nxRM ?_) | (refine nxRM1 fun _ => ?_))
    | (refine nxG ?_)
    | (refine nxX ?_)
    | (refine G.condN rfl (fun hc => ?_) (fun hc => ?_) <;> (try first | exact False.elim hc | (exfalso; omega))))
    exact X.again (k + 1, J - 1) ⟨by dsimp only; omega, by dsimp only; omega⟩ (by dsimp only; omega) ⟨rfl, rfl, rfl, trivial⟩ (fun w h => e ▸ h)
  · have e := revS_all l k g1 (by omega)
    rw [e]
    repeat' (first
    | (refine nxV ?_)
    | (show RS _ _ _ _ _ _ _ _; first | (refine nxRS ?_) | (refine nxRS1 fun _ => ?_))
    | (show RM _ _ _ _ _ _ _ _ _ _; first | (refine nxRM ?_) | (refine nxRM1 fun _ => ?_))
    | (refine nxG ?_)
    | (refine G.mixedA 3 [.go 0, .go 1, .go 2, .go 3, .go 4, .go 5, .go 6, .go 7, .go 8, .go 9, .go 10, .go 11, .go 12, .go 13, .go 14, .go 15] ?_)
    | (refine nxX ?_)
    | (refine G.condN rfl (fun hc => ?_) (fun hc => ?_) <;> (try first | exact False.elim hc | (exfalso; omega))))
    refine X.endN rfl (fun w hw => ?_)
    exact ⟨(), trivial, rfl, hw⟩
end Go.Proofs.YtpekkcahehhkmaaGreatDoor
/- What rows without error variables list: the table of powers, and the bound of bytealg. -/
set_option linter.unusedVariables false
set_option maxHeartbeats 4000000
namespace Go.Proofs.YtpekkcahehhkmaaGreatDoor
open Go.RowKit

structure LaidC (w : World) : Prop where
  tab : Lib.TabIs Tryz.prog w "internal/strconv.uint64pow10" .u64 Lib.pow10Tab
  max : ∃ m, w.cell? ⟨0, 0, none⟩ = some (.int .i64 m)
theorem LaidC.keep {w w' : World} (h : LaidC w) (hb : Below w.heap.size w w') : LaidC w' where
  tab := var_keep h.tab hb
  max := by obtain ⟨m, e⟩ := h.max; exact ⟨m, (hb.cell (World.block_lt_of_cell? w _ e)).trans e⟩
theorem laidC_of {w : World} {l : List (String × DataW Unit)} (h : laidMetH Tryz.prog l w) (hp : (l.all fun x => x.2.handleName?.isNone) = true) (hs : w.ShapedOpen Tryz.prog)
    (m1 : ("internal/strconv.uint64pow10", Lib.tabData .u64 Lib.pow10Tab) ∈ l) : LaidC w := by
  rw [MakeChecks.laidMetH_plain _ _ _ hp] at h
  obtain ⟨ps, h, _⟩ := h
  refine ⟨?_, cell_of_shapedOpen_int (t := 3) (zero := #[.int .i64 0]) hs (of_decide_eq_true (by kernel_rfl)) (by kernel_rfl) (by kernel_rfl) (by kernel_rfl) (by kernel_rfl) (by kernel_rfl)⟩
  obtain ⟨g', t', cs, fuel, p, h1, h2, h3, h4⟩ := laid_get h m1
  obtain rfl := Option.some.inj (gPow.symm.trans h1)
  unfold Lib.TabIs
  rw [h3, ← Lib.cells_of_tab (P := Tryz.prog) (t := t') (e := 133) (n := 20) (by obtain rfl := Option.some.inj ((show (Tryz.prog.globals[3]?).map (·.type) = some 169 by kernel_rfl).symm.trans h2); kernel_rfl) (by kernel_rfl) (by kernel_rfl) (by obtain rfl := Option.some.inj ((show (Tryz.prog.globals[3]?).map (·.type) = some 169 by kernel_rfl).symm.trans h2); kernel_rfl) h4]
theorem itoaC_c {n : Int} (h : -9223372036854775808 ≤ n ∧ n ≤ 9223372036854775807) : ContIn Tryz.prog LaidC 53 [.int .i64 n] (strV (Lib.itoa n)) := fun w hI =>
  (Tryz.strconv_Itoa n h.1 h.2 w hI.tab).mono fun e w' ⟨he, k, os, hw⟩ => ⟨he, by subst hw; exact below_grown w k os⟩
theorem cutC_c (l sep : List UInt8) (hl : l.length < 4294967281) : ContIn Tryz.prog LaidC 124 [strV l, strV sep] (.tuple [strV (Lib.cut l sep).1, strV (Lib.cut l sep).2.1, .bool (Lib.cut l sep).2.2].toArray) := fun w hI => by
  obtain ⟨m, hm⟩ := hI.max
  refine (Tryz.strings_Cut ⟨l.toArray⟩ ⟨sep.toArray⟩ m w (by rw [size_str]; exact hl) hm).mono fun e w' ⟨he, k, hw⟩ => ⟨?_, by subst hw; exact below_drawn w k⟩
  rw [he]
theorem splitC_c (l sep : List UInt8) (hl : l.length < 4294967281) (h1 : 1 ≤ sep.length) : ContXI Tryz.prog LaidC 25 [strV l, strV sep] (fun _ : Sl => True) (fun z => z.v) (fun z => [Hl.nw z.v cS 1 (Lib.split l sep)]) := fun w hI => by
  obtain ⟨m, hm⟩ := hI.max
  refine (Tryz.strings_Split ⟨l.toArray⟩ ⟨sep.toArray⟩ m w (by rw [size_str]; exact hl) hm (by rw [size_str]; exact h1)).mono fun e w' ⟨he, hw⟩ => ?_
  subst hw
  obtain ⟨k, hk⟩ : ∃ k, Lib.countB ⟨l.toArray⟩ ⟨sep.toArray⟩ = k := ⟨_, rfl⟩
  have hd := Lib.splitB_data ⟨sep.toArray⟩ 0 k ⟨l.toArray⟩
  have hs : Lib.split l sep = (Lib.splitB ⟨sep.toArray⟩ 0 k ⟨l.toArray⟩).map (·.data.toList) := by rw [hd, ← hk]; rfl
  have hlen : (Lib.splitB ⟨sep.toArray⟩ 0 k ⟨l.toArray⟩).length = k + 1 := Lib.splitB_all _ (by rw [size_str]; exact h1) 0 k _ hk
  rw [hk] at he ⊢
  have hkb : k ≤ l.length + 1 := by rw [← hk]; exact Lib.count_le l sep
  have hf : (Lib.splitB ⟨sep.toArray⟩ 0 k ⟨l.toArray⟩).map Value.string = (Lib.split l sep).flatMap cS := by
    rw [hs, List.flatMap_map]
    induction Lib.splitB ⟨sep.toArray⟩ 0 k ⟨l.toArray⟩ with
    | nil => rfl
    | cons b r ih => simp [ih]
  have hsl : (Lib.split l sep).length = k + 1 := by rw [hs, List.length_map, hlen]
  have own := World.ownsRow_lit (base := w.heap.size) (e := 9) (size := 1) w ((Lib.splitB ⟨sep.toArray⟩ 0 k ⟨l.toArray⟩).map Value.string).toArray (k + 1) (Nat.le_refl _) (by unfold maxLen; omega) (by simp [hlen])
  refine ⟨⟨some ⟨w.heap.size, 0, none⟩, k + 1, k + 1⟩, trivial, he, (Below.refl w.heap.size w).alloc (Nat.le_refl _) _, fun x hx => ?_⟩
  rcases List.mem_singleton.1 hx with rfl
  refine ⟨⟨?_, fun _ _ b hb => ?_⟩, rfl⟩
  · have := RO.of_row own
    rw [hsl]
    simpa [hf] using this
  · simp [Value.ownBlock] at hb; omega
end Go.Proofs.YtpekkcahehhkmaaGreatDoor
/- angle.text: an angle's text by a strings.Builder. -/
set_option linter.unusedVariables false
set_option maxHeartbeats 4000000
namespace Go.Proofs.YtpekkcahehhkmaaGreatDoor
open Go.RowKit

section
variable {P : Program} {n : Nat} {L : FL} {w0 : World} {H : List Hl} {Q : Exit → Act → World → Prop} {ops : Array Oper} {rest : List Oper} {dd : Nat} {ty : TypeId} {pos : String} {af : Array Edge} {gd : Option (Nat × Bool)} {ι : Type}
/-- The first write into a fresh builder: its buffer is nil. -/
theorem RS.callW0 {X2 : Hl} {A B : List Hl} {f : FuncId} {xs : List Operand} {vs : List Value} {tys : Array TypeId} {post : ι → Prop} {v : ι → Value} {Y : ι → List Hl} (hc : ContW P (bldR ⟨none, 0, 0⟩ []) X2 f vs post v Y) (ha : AE L xs vs) (h : ∀ z, post z → RS P ops Q n ((dd, v z) :: L) w0 (Y z ++ (A ++ B)) rest)
    (hA : At X2 A B H := by first | exact .here | exact .there .here | exact .there (.there .here) | exact .there (.there (.there .here)) | exact .there (.there (.there (.there .here))))
    (hg : isGo P f = true := by decide +kernel) (hd : Nat.blt dd n = true := by rfl) :
    RS P ops Q n L w0 H (⟨some dd, .call { callee := .value (.func f), args := xs.toArray, argTypes := tys }, ty, pos, af, none⟩ :: rest) := RS.actX (post := post) (L' := fun z => (dd, v z) :: L) (H' := fun z => Y z ++ (A ++ B)) rfl (fun a w hfr hw K Q hK => by
      unfold Oper.wp
      rw [run_call hfr ha hg]
      have h2 := (St.front hA hw).nilRow 5 cU 1
      refine (hc w0 (A ++ B) w h2).mono ?_
      rintro e w' ⟨z, hz, rfl, hs⟩
      exact hK _ _ ⟨z, hz, hfr.put (by simpa [Nat.blt_eq] using hd), hs⟩) h
end
def padL (n k : Int) : List UInt8 := Lib.repeatL [48] (max 0 (k - (Lib.itoa n).length)).toNat ++ Lib.itoa n
theorem pad_len {n k : Int} (h : -9223372036854775808 ≤ n ∧ n ≤ 9223372036854775807) (hk : k ≤ 10) : (padL n k).length ≤ 30 := by
  have := itoa_len h
  unfold padL
  rw [List.length_append, Lib.repeatL_length]
  simp; omega
theorem padded_c {n k : Int} (h : (-9223372036854775808 ≤ n ∧ n ≤ 9223372036854775807) ∧ 0 ≤ k ∧ k ≤ 10) : ContIn Tryz.prog LaidC 142 [.int .i64 n, .int .i64 k] (strV (padL n k)) := fun w hI => by
  have hl := itoa_len h.1
  have h1 := itoaC_c h.1
  have hr : (Lib.repeatL [48] (max 0 (k - (Lib.itoa n).length)).toNat).length ≤ 10 := by rw [Lib.repeatL_length]; simp; omega
  refine enter0 Tryz.func142 rfl rfl rfl ?_
  repeat' (first
    | (show YK _ _ _ _ _ ⟨_, .call { callee := .builtin .len, args := _, argTypes := #[9] }, _, _, _, _⟩ _; refine YK.ofV (y_lenS (by rfl) StrTy.is) ?_)
    | (show VK _ _ _ _ _ ⟨_, .call { callee := .builtin .len, args := _, argTypes := #[9] }, _, _, _, _⟩ _; refine VK.mk (y_lenS (by rfl) StrTy.is) ?_)
    | (show YG _ _ _ _ _ _ ⟨_, .call { callee := .builtin .len, args := _, argTypes := #[9] }, _, _, _, _⟩ _; refine YG.mk (fun hb => by (try (have hc := And.left hb; have hb := And.right hb; rw [hc])); (try rw [hb]); exact V.y (y_lenS (by rfl) StrTy.is)) ?_)
    | (show VG _ _ _ _ _ _ ⟨_, .call { callee := .builtin .len, args := _, argTypes := #[9] }, _, _, _, _⟩ _; refine VG.mk (fun hb => by (try (have hc := And.left hb; have hb := And.right hb; rw [hc])); (try rw [hb]); exact y_lenS (by rfl) StrTy.is) ?_)
    | (show YK _ _ _ _ _ _ _; first | refine YK.mk (y_callIn (h1) (fun _ hw => hI.keep hw.ext) ⟨rfl, rfl⟩ (by decide +kernel)) ?_ | refine YK.mk (y_callA (repeat_c [48] (m := max 0 (k - (Lib.itoa n).length)) (by omega) (by decide)) ⟨rfl, rfl, rfl⟩) ?_)
    | (show YK _ _ _ _ _ _ _; refine YK.ofV vAuto ?_)
    | (show VK _ _ _ _ _ _ _; refine VK.mk vAuto ?_)
    | (show RS _ _ _ _ _ _ _ _; first | (refine nxRS ?_) | (refine nxRS1 fun _ => ?_))
    | (show RM _ _ _ _ _ _ _ _ _ _; first | (refine nxRM ?_) | (refine nxRM1 fun _ => ?_))
    | (show YG _ _ _ _ _ _ _ _; refine YG.mk (fun hb => by (try (have hc := And.left hb; have hb := And.right hb; rw [hc])); (try rw [hb]); first | exact (y_callIn (h1) (fun _ hw => hI.keep hw.ext) ⟨rfl, rfl⟩ (by decide +kernel)) | exact (y_callA (repeat_c [48] (m := max 0 (k - (Lib.itoa n).length)) (by omega) (by decide)) ⟨rfl, rfl, rfl⟩) | exact V.y vAuto) ?_)
    | (show VG _ _ _ _ _ _ _ _; refine VG.mk (fun hb => by (try (have hc := And.left hb; have hb := And.right hb; rw [hc])); (try rw [hb]); exact vAuto) ?_)
    | (refine nxVS ?_)
    | (refine nxGS ?_)
    | (refine nxX ?_)
    | (refine G.condN rfl (fun hc => ?_) (fun hc => ?_) <;> (try first | exact False.elim hc | (exfalso; omega))))
  exact X.ret (vs := [_]) rfl ⟨rfl, rfl⟩ rfl (fun w hw => ⟨rfl, hw.ext⟩)
def angHead (n : Int) : List UInt8 := Lib.itoa (n / 60000) ++ [45] ++ padL (n % 60000 / 1000) 2 ++ [46]
def angRest (n : Int) : List UInt8 := if n % 1000 % 100 = 0 then Lib.itoa (n % 1000 / 100) else padL (n % 1000) 3
theorem text_p {n : Int} (h : 0 ≤ n ∧ n ≤ 1099511627776) : ContIn Tryz.prog LaidC 118 [.int .i64 n] (strV (angHead n ++ angRest n)) := fun w hI => by
  have i1 := itoaC_c (n := n / 60000) (by omega)
  have i2 := padded_c (n := n % 60000 / 1000) (k := 2) (by omega)
  have i3 := itoaC_c (n := n % 1000 / 100) (by omega)
  have i4 := padded_c (n := n % 1000) (k := 3) (by omega)
  have l1 := itoa_len (n := n / 60000) (by omega)
  have l2 := pad_len (n := n % 60000 / 1000) (k := 2) (by omega) (by omega)
  have l3 := itoa_len (n := n % 1000 / 100) (by omega)
  have l4 := pad_len (n := n % 1000) (k := 3) (by omega) (by omega)
  have e1 : (angHead n).length ≤ 100 := by simp only [angHead, List.length_append, List.length_singleton]; omega
  have w1 := fun b => writeS_c b (.pointer none) (.inl rfl) ⟨none, 0, 0⟩ [] (angHead n) (by simp only [List.length_nil]; omega)
  have w2 := fun b z => writeS_c b (pB b) (.inr rfl) z (angHead n) (Lib.itoa (n % 1000 / 100)) (by omega)
  have w3 := fun b z => writeS_c b (pB b) (.inr rfl) z (angHead n) (padL (n % 1000) 3) (by omega)
  unfold angHead angRest at *
  refine enter0 Tryz.func118 rfl rfl rfl ?_
  repeat' (first
    | (show YK _ _ _ _ _ ⟨_, .call { callee := .builtin .len, args := _, argTypes := #[9] }, _, _, _, _⟩ _; refine YK.ofV (y_lenS (by rfl) StrTy.is) ?_)
    | (show VK _ _ _ _ _ ⟨_, .call { callee := .builtin .len, args := _, argTypes := #[9] }, _, _, _, _⟩ _; refine VK.mk (y_lenS (by rfl) StrTy.is) ?_)
    | (show YG _ _ _ _ _ _ ⟨_, .call { callee := .builtin .len, args := _, argTypes := #[9] }, _, _, _, _⟩ _; refine YG.mk (fun hb => by (try (have hc := And.left hb; have hb := And.right hb; rw [hc])); (try rw [hb]); exact V.y (y_lenS (by rfl) StrTy.is)) ?_)
    | (show VG _ _ _ _ _ _ ⟨_, .call { callee := .builtin .len, args := _, argTypes := #[9] }, _, _, _, _⟩ _; refine VG.mk (fun hb => by (try (have hc := And.left hb; have hb := And.right hb; rw [hc])); (try rw [hb]); exact y_lenS (by rfl) StrTy.is) ?_)
    | (refine RS.callW0 (w1 _) ⟨rfl, rfl, rfl⟩ ?_; rintro z1 _; dsimp only [List.cons_append, List.nil_append])
    | (refine RS.callW (w2 _ _) ⟨rfl, rfl, rfl⟩ ?_; rintro z2 _; dsimp only [List.cons_append, List.nil_append])
    | (refine RS.callW (w3 _ _) ⟨rfl, rfl, rfl⟩ ?_; rintro z2 _; dsimp only [List.cons_append, List.nil_append])
    | (refine RS.string ?_ (.inr rfl) (List.Mem.head _) (List.Mem.tail _ (List.Mem.head _)) ⟨rfl, rfl⟩)
    | (show YK _ _ _ _ _ _ _; first | refine YK.mk (y_callIn (i1) (fun _ hw => hI.keep hw.ext) ⟨rfl, rfl⟩ (by decide +kernel)) ?_ | refine YK.mk (y_callIn (i2) (fun _ hw => hI.keep hw.ext) ⟨rfl, rfl, rfl⟩ (by decide +kernel)) ?_ | refine YK.mk (y_callIn (i3) (fun _ hw => hI.keep hw.ext) ⟨rfl, rfl⟩ (by decide +kernel)) ?_ | refine YK.mk (y_callIn (i4) (fun _ hw => hI.keep hw.ext) ⟨rfl, rfl, rfl⟩ (by decide +kernel)) ?_)
    | (show YK _ _ _ _ _ _ _; refine YK.ofV vAuto ?_)
    | (show VK _ _ _ _ _ _ _; refine VK.mk vAuto ?_)
    | (show RS _ _ _ _ _ _ _ _; first | (refine nxRS ?_) | (refine nxRS1 fun _ => ?_))
    | (show RM _ _ _ _ _ _ _ _ _ _; first | (refine nxRM ?_) | (refine nxRM1 fun _ => ?_))
    | (show YG _ _ _ _ _ _ _ _; refine YG.mk (fun hb => by (try (have hc := And.left hb; have hb := And.right hb; rw [hc])); (try rw [hb]); first | exact (y_callIn (i1) (fun _ hw => hI.keep hw.ext) ⟨rfl, rfl⟩ (by decide +kernel)) | exact (y_callIn (i2) (fun _ hw => hI.keep hw.ext) ⟨rfl, rfl, rfl⟩ (by decide +kernel)) | exact (y_callIn (i3) (fun _ hw => hI.keep hw.ext) ⟨rfl, rfl⟩ (by decide +kernel)) | exact (y_callIn (i4) (fun _ hw => hI.keep hw.ext) ⟨rfl, rfl, rfl⟩ (by decide +kernel)) | exact V.y vAuto) ?_)
    | (show VG _ _ _ _ _ _ _ _; refine VG.mk (fun hb => by (try (have hc := And.left hb; have hb := And.right hb; rw [hc])); (try rw [hb]); exact vAuto) ?_)
    | (refine nxVS ?_)
    | (refine nxGS ?_)
    | (refine nxX ?_)
    | (refine G.condN rfl (fun hc => ?_) (fun hc => ?_) <;> (try first | exact False.elim hc | (exfalso; omega))))
  · rw [if_pos hc]; exact X.ret (vs := [_]) rfl ⟨rfl, rfl⟩ rfl (fun w hw => ⟨rfl, hw.ext⟩)
  · rw [if_neg hc]; exact X.ret (vs := [_]) rfl ⟨rfl, rfl⟩ rfl (fun w hw => ⟨rfl, hw.ext⟩)
theorem text_m {n m : Int} (hm : m = -n) (h : 0 < m ∧ m ≤ 1099511627776) : ContIn Tryz.prog LaidC 118 [.int .i64 n] (strV ([45] ++ angHead m ++ angRest m)) := fun w hI => by
  have i1 := itoaC_c (n := m / 60000) (by omega)
  have i2 := padded_c (n := m % 60000 / 1000) (k := 2) (by omega)
  have i3 := itoaC_c (n := m % 1000 / 100) (by omega)
  have i4 := padded_c (n := m % 1000) (k := 3) (by omega)
  have l1 := itoa_len (n := m / 60000) (by omega)
  have l2 := pad_len (n := m % 60000 / 1000) (k := 2) (by omega) (by omega)
  have l3 := itoa_len (n := m % 1000 / 100) (by omega)
  have l4 := pad_len (n := m % 1000) (k := 3) (by omega) (by omega)
  have e1 : (angHead m).length ≤ 100 := by simp only [angHead, List.length_append, List.length_singleton]; omega
  have w0' := fun b => writeB_c b (.pointer none) (.inl rfl) ⟨none, 0, 0⟩ [] 45 (by simp)
  have w1 := fun b z => writeS_c b (pB b) (.inr rfl) z [45] (angHead m) (by simp only [List.length_singleton]; omega)
  have w2 := fun b z => writeS_c b (pB b) (.inr rfl) z ([45] ++ angHead m) (Lib.itoa (m % 1000 / 100)) (by simp only [List.length_append, List.length_singleton]; omega)
  have w3 := fun b z => writeS_c b (pB b) (.inr rfl) z ([45] ++ angHead m) (padL (m % 1000) 3) (by simp only [List.length_append, List.length_singleton]; omega)
  unfold angHead angRest at *
  subst hm
  refine enter0 Tryz.func118 rfl rfl rfl ?_
  repeat' (first
    | (show YK _ _ _ _ _ ⟨_, .call { callee := .builtin .len, args := _, argTypes := #[9] }, _, _, _, _⟩ _; refine YK.ofV (y_lenS (by rfl) StrTy.is) ?_)
    | (show VK _ _ _ _ _ ⟨_, .call { callee := .builtin .len, args := _, argTypes := #[9] }, _, _, _, _⟩ _; refine VK.mk (y_lenS (by rfl) StrTy.is) ?_)
    | (show YG _ _ _ _ _ _ ⟨_, .call { callee := .builtin .len, args := _, argTypes := #[9] }, _, _, _, _⟩ _; refine YG.mk (fun hb => by (try (have hc := And.left hb; have hb := And.right hb; rw [hc])); (try rw [hb]); exact V.y (y_lenS (by rfl) StrTy.is)) ?_)
    | (show VG _ _ _ _ _ _ ⟨_, .call { callee := .builtin .len, args := _, argTypes := #[9] }, _, _, _, _⟩ _; refine VG.mk (fun hb => by (try (have hc := And.left hb; have hb := And.right hb; rw [hc])); (try rw [hb]); exact y_lenS (by rfl) StrTy.is) ?_)
    | (refine RS.callW0 (w0' _) ⟨rfl, rfl, rfl⟩ ?_; rintro z0 _; dsimp only [List.cons_append, List.nil_append])
    | (refine RS.callW (w1 _ _) ⟨rfl, rfl, rfl⟩ ?_; rintro z1 _; dsimp only [List.cons_append, List.nil_append])
    | (refine RS.callW (w2 _ _) ⟨rfl, rfl, rfl⟩ ?_; rintro z2 _; dsimp only [List.cons_append, List.nil_append])
    | (refine RS.callW (w3 _ _) ⟨rfl, rfl, rfl⟩ ?_; rintro z2 _; dsimp only [List.cons_append, List.nil_append])
    | (refine RS.string ?_ (.inr rfl) (List.Mem.head _) (List.Mem.tail _ (List.Mem.head _)) ⟨rfl, rfl⟩)
    | (show YK _ _ _ _ _ _ _; first | refine YK.mk (y_callIn (i1) (fun _ hw => hI.keep hw.ext) ⟨rfl, rfl⟩ (by decide +kernel)) ?_ | refine YK.mk (y_callIn (i2) (fun _ hw => hI.keep hw.ext) ⟨rfl, rfl, rfl⟩ (by decide +kernel)) ?_ | refine YK.mk (y_callIn (i3) (fun _ hw => hI.keep hw.ext) ⟨rfl, rfl⟩ (by decide +kernel)) ?_ | refine YK.mk (y_callIn (i4) (fun _ hw => hI.keep hw.ext) ⟨rfl, rfl, rfl⟩ (by decide +kernel)) ?_)
    | (show YK _ _ _ _ _ _ _; refine YK.ofV vAuto ?_)
    | (show VK _ _ _ _ _ _ _; refine VK.mk vAuto ?_)
    | (show RS _ _ _ _ _ _ _ _; first | (refine nxRS ?_) | (refine nxRS1 fun _ => ?_))
    | (show RM _ _ _ _ _ _ _ _ _ _; first | (refine nxRM ?_) | (refine nxRM1 fun _ => ?_))
    | (show YG _ _ _ _ _ _ _ _; refine YG.mk (fun hb => by (try (have hc := And.left hb; have hb := And.right hb; rw [hc])); (try rw [hb]); first | exact (y_callIn (i1) (fun _ hw => hI.keep hw.ext) ⟨rfl, rfl⟩ (by decide +kernel)) | exact (y_callIn (i2) (fun _ hw => hI.keep hw.ext) ⟨rfl, rfl, rfl⟩ (by decide +kernel)) | exact (y_callIn (i3) (fun _ hw => hI.keep hw.ext) ⟨rfl, rfl⟩ (by decide +kernel)) | exact (y_callIn (i4) (fun _ hw => hI.keep hw.ext) ⟨rfl, rfl, rfl⟩ (by decide +kernel)) | exact V.y vAuto) ?_)
    | (show VG _ _ _ _ _ _ _ _; refine VG.mk (fun hb => by (try (have hc := And.left hb; have hb := And.right hb; rw [hc])); (try rw [hb]); exact vAuto) ?_)
    | (refine nxVS ?_)
    | (refine nxGS ?_)
    | (refine nxX ?_)
    | (refine G.condN rfl (fun hc => ?_) (fun hc => ?_) <;> (try first | exact False.elim hc | (exfalso; omega))))
  · rw [if_pos hc]; exact X.ret (vs := [_]) rfl ⟨rfl, rfl⟩ rfl (fun w hw => ⟨rfl, hw.ext⟩)
  · rw [if_neg hc]; exact X.ret (vs := [_]) rfl ⟨rfl, rfl⟩ rfl (fun w hw => ⟨rfl, hw.ext⟩)
def angL (n : Int) : List UInt8 := if n < 0 then [45] ++ angHead (-n) ++ angRest (-n) else angHead n ++ angRest n
theorem angH_len {n : Int} (h : 0 ≤ n ∧ n ≤ 1099511627776) : (angHead n).length ≤ 70 ∧ (angRest n).length ≤ 30 := by
  have l1 := itoa_len (n := n / 60000) (by omega)
  have l2 := pad_len (n := n % 60000 / 1000) (k := 2) (by omega) (by omega)
  have l3 := itoa_len (n := n % 1000 / 100) (by omega)
  have l4 := pad_len (n := n % 1000) (k := 3) (by omega) (by omega)
  refine ⟨by simp only [angHead, List.length_append, List.length_singleton]; omega, ?_⟩
  unfold angRest
  split <;> omega
theorem angL_len {n : Int} (h : -1099511627776 ≤ n ∧ n ≤ 1099511627776) : (angL n).length ≤ 110 := by
  unfold angL
  split
  · have := angH_len (n := -n) (by omega)
    simp only [List.length_append, List.length_singleton]; omega
  · have := angH_len (n := n) (by omega)
    simp only [List.length_append]; omega
theorem atext_c {n : Int} (h : -1099511627776 ≤ n ∧ n ≤ 1099511627776) : ContIn Tryz.prog LaidC 118 [.int .i64 n] (strV (angL n)) := by
  unfold angL
  split
  · exact text_m rfl (by omega)
  · exact text_p (by omega)
theorem fits_c {n : Int} (h : -1099511627776 ≤ n ∧ n ≤ 1099511627776) : Cont Tryz.prog 78 [.int .i64 n] (.bool true) := fun w => by
  refine enter0 Tryz.func78 rfl rfl rfl ?_
  repeat' (first
    | (refine nxV ?_)
    | (show RS _ _ _ _ _ _ _ _; first | (refine nxRS ?_) | (refine nxRS1 fun _ => ?_))
    | (show RM _ _ _ _ _ _ _ _ _ _; first | (refine nxRM ?_) | (refine nxRM1 fun _ => ?_))
    | (refine nxG ?_)
    | (refine nxX ?_)
    | (refine G.condN rfl (fun hc => ?_) (fun hc => ?_) <;> (try first | exact False.elim hc | (exfalso; omega))))
  exact X.ret (vs := [_]) rfl ⟨rfl, rfl⟩ rfl (fun w hw => ⟨ret_bool (by simp; omega), hw.ext⟩)
theorem aText_c {n : Int} (h : -1099511627776 ≤ n ∧ n ≤ 1099511627776) : ContIn Tryz.prog LaidC 82 [.int .i64 n] (.tuple [strV (angL n), .int .i64 0].toArray) := fun w hI => by
  have q1 := fits_c h
  have q2 := atext_c h
  generalize angL n = l at q2
  refine enter0 Tryz.func82 rfl rfl rfl ?_
  repeat' (first
    | (show YK _ _ _ _ _ _ _; first | refine YK.mk (y_callA (q1) ⟨rfl, rfl⟩) ?_ | refine YK.mk (y_callIn (q2) (fun _ hw => hI.keep hw.ext) ⟨rfl, rfl⟩ (by decide +kernel)) ?_)
    | (show YK _ _ _ _ _ _ _; refine YK.ofV vAuto ?_)
    | (show VK _ _ _ _ _ _ _; refine VK.mk vAuto ?_)
    | (show RS _ _ _ _ _ _ _ _; first | (refine nxRS ?_) | (refine nxRS1 fun _ => ?_))
    | (show RM _ _ _ _ _ _ _ _ _ _; first | (refine nxRM ?_) | (refine nxRM1 fun _ => ?_))
    | (show YG _ _ _ _ _ _ _ _; refine YG.mk (fun hb => by (try (have hc := And.left hb; have hb := And.right hb; rw [hc])); (try rw [hb]); first | exact (y_callA (q1) ⟨rfl, rfl⟩) | exact (y_callIn (q2) (fun _ hw => hI.keep hw.ext) ⟨rfl, rfl⟩ (by decide +kernel)) | exact V.y vAuto) ?_)
    | (show VG _ _ _ _ _ _ _ _; refine VG.mk (fun hb => by (try (have hc := And.left hb; have hb := And.right hb; rw [hc])); (try rw [hb]); exact vAuto) ?_)
    | (refine nxX ?_)
    | (refine G.condN rfl (fun hc => ?_) (fun hc => ?_) <;> (try first | exact False.elim hc | (exfalso; omega))))
  exact X.ret (vs := [_, _]) rfl ⟨rfl, rfl, rfl⟩ rfl (fun w hw => ⟨rfl, hw.ext⟩)
end Go.Proofs.YtpekkcahehhkmaaGreatDoor
/- The lines of a page's text, and the tokens that they stand for. Plain. -/
set_option linter.unusedVariables false
set_option maxHeartbeats 1000000
namespace Go.Proofs.YtpekkcahehhkmaaGreatDoor
open Go.RowKit

/-! ### Digits -/
theorem padd2 {u : Nat} (h : u < 100) : padL (u : Int) 2 = [dgt (u / 10), dgt (u % 10)] := by
  unfold padL
  rw [itoa_of_nat]
  by_cases h1 : u < 10
  · rw [deci_lt h1, show u / 10 = 0 by omega, show u % 10 = u by omega]; rfl
  · rw [deci_ge (by omega), deci_lt (by omega)]; rfl
theorem padd4 {u : Nat} (h : u < 10000) : padL (u : Int) 4 = [dgt (u / 1000), dgt (u / 100 % 10), dgt (u / 10 % 10), dgt (u % 10)] := by
  unfold padL
  rw [itoa_of_nat]
  by_cases h1 : u < 10
  · rw [deci_lt h1, show u / 1000 = 0 by omega, show u / 100 % 10 = 0 by omega, show u / 10 % 10 = 0 by omega, show u % 10 = u by omega]; rfl
  by_cases h2 : u < 100
  · rw [deci_ge (by omega), deci_lt (by omega), show u / 1000 = 0 by omega, show u / 100 % 10 = 0 by omega, show u / 10 % 10 = u / 10 by omega]; rfl
  by_cases h3 : u < 1000
  · rw [deci_ge (by omega), deci_ge (by omega), deci_lt (by omega), show u / 1000 = 0 by omega, show u / 100 % 10 = u / 10 / 10 by omega]; rfl
  · rw [deci_ge (by omega), deci_ge (by omega), deci_ge (by omega), deci_lt (by omega), show u / 1000 = u / 10 / 10 / 10 by omega, show u / 100 % 10 = u / 10 / 10 % 10 by omega]; rfl
theorem digit_of {b : UInt8} (h : isDg b = true) : digitB (b.toNat : Int) = true := by
  unfold isDg at h
  unfold digitB
  simp only [Bool.and_eq_true, decide_eq_true_eq] at h ⊢
  omega
theorem isDg_ne {b c : UInt8} (h : isDg b = true) (hc : c.toNat < 48 ∨ 57 < c.toNat) : b ≠ c := by
  rintro rfl
  unfold isDg at h
  simp only [Bool.and_eq_true, decide_eq_true_eq] at h
  omega
theorem dgs_deci (u : Nat) : dgs (Lib.decDigits u) := ⟨deci_ne u, fun b hb => digit_of (deci_dg hb)⟩
theorem deci_head2 : ∀ (k u : Nat), u ≤ k → (Lib.decDigits u).length = 1 ∨ ¬ nth (Lib.decDigits u) 0 = 48
  | 0, u, h => by
    rw [deci_lt (by omega)]; exact .inl rfl
  | k + 1, u, h => by
    by_cases h1 : u < 10
    · rw [deci_lt h1]; exact .inl rfl
    · refine .inr fun e => ?_
      rw [deci_ge (by omega)] at e
      have e2 : nth (Lib.decDigits (u / 10)) 0 = 48 := by
        cases hd : Lib.decDigits (u / 10) with
        | nil => exact absurd hd (deci_ne _)
        | cons b r => rw [hd] at e; exact e
      rcases deci_head2 k (u / 10) (by omega) with h2 | h2
      · by_cases h3 : u / 10 < 10
        · rw [deci_lt h3] at e2
          have := congrArg UInt8.toNat e2
          rw [show nth [dgt (u / 10)] 0 = dgt (u / 10) from rfl, dgt_nat h3] at this
          have h48 : (48 : UInt8).toNat = 48 := rfl
          omega
        · rw [deci_ge (by omega), List.length_append, List.length_singleton] at h2
          have := List.length_pos_iff.2 (deci_ne (u / 10 / 10))
          omega
      · exact h2 e2
theorem not_dgs {w : List UInt8} (h : ∀ b ∈ w, isDg b = true) {c : UInt8} (hc : c.toNat < 48 ∨ 57 < c.toNat) : c ∉ w := fun hm => isDg_ne (h c hm) hc rfl
theorem numV_whole {n : Int} (h : 0 ≤ n ∧ n ≤ 999999) : numV 0 0 (Lib.itoa n) = some n := by
  obtain ⟨u, rfl⟩ := Int.eq_ofNat_of_zero_le h.1
  have e := atoi_itoa (n := (u : Int)) (by omega)
  have hl := dec_len 5 u (by omega)
  have hh := deci_head2 u u (Nat.le_refl _)
  rw [itoa_of_nat] at e ⊢
  unfold numV numC
  rw [cut_not (not_dgs (fun b hb => deci_dg hb) (.inl (by decide)))]
  dsimp only
  rw [List.append_nil, e]
  rw [if_pos ⟨rfl, rfl, List.length_pos_iff.2 (deci_ne u), by omega, by rw [if_neg (by decide)]; exact ⟨by omega, hh⟩⟩]
  dsimp only
  rw [if_pos ⟨by omega, by omega⟩]
/-- The number of digits. -/
def valD : Nat → List Nat → Nat
  | a, [] => a
  | a, x :: r => valD (a * 10 + x) r
theorem valD_lt : ∀ (l : List Nat) (acc b : Nat), (∀ x ∈ l, x < 10) → acc < b → valD acc l < b * 10 ^ l.length
  | [], acc, b, _, h => by simpa [valD] using h
  | x :: r, acc, b, hx, h => by
    have := valD_lt r (acc * 10 + x) (b * 10) (fun y hy => hx y (List.mem_cons_of_mem _ hy)) (by have := hx x List.mem_cons_self; omega)
    rw [List.length_cons, Nat.pow_succ, Nat.mul_comm (10 ^ r.length), ← Nat.mul_assoc]
    exact this
theorem parse_dgts : ∀ (l : List Nat) (acc b : Nat), (∀ x ∈ l, x < 10) → acc < b → b * 10 ^ l.length ≤ 1000000000000000000 → Lib.parseUint10 acc (l.map dgt) = .ok (valD acc l)
  | [], _, _, _, _, _ => rfl
  | x :: r, acc, b, h, ha, hb => by
    have hx := h x List.mem_cons_self
    have hp : 1 ≤ 10 ^ r.length := Nat.one_le_pow _ _ (by decide)
    rw [List.length_cons, Nat.pow_succ, Nat.mul_comm (10 ^ r.length), ← Nat.mul_assoc] at hb
    have h2 : b * 10 * 1 ≤ b * 10 * 10 ^ r.length := Nat.mul_le_mul_left _ hp
    rw [List.map_cons, parse_dgt hx (by omega)]
    exact parse_dgts r (acc * 10 + x) (b * 10) (fun y hy => h y (List.mem_cons_of_mem _ hy)) (by omega) hb
theorem atoi_dgts {x : Nat} {l : List Nat} (h : ∀ y ∈ x :: l, y < 10) (hl : l.length ≤ 8) : Lib.atoiAll ((x :: l).map dgt) = .ok (valD 0 (x :: l) : Int) := by
  have hx := h x List.mem_cons_self
  have hp : 10 ^ (x :: l).length ≤ 10 ^ 9 := Nat.pow_le_pow_right (by decide) (by simp; omega)
  have e := parse_dgts (x :: l) 0 1 h (by decide) (by omega)
  have hv := valD_lt (x :: l) 0 1 h (by decide)
  have hd := dgt_nat hx
  rw [List.map_cons] at e ⊢
  unfold Lib.atoiAll
  dsimp only
  rw [if_neg (by omega)]
  unfold Lib.parseMag
  rw [if_neg (by simp), e]
  dsimp only
  rw [if_neg (by omega), if_neg (by omega), if_neg (by omega)]
theorem map_dgts {l : List Nat} (h : ∀ y ∈ l, y < 10) : ∀ b ∈ l.map dgt, isDg b = true := fun b hb => by
  obtain ⟨y, hy, rfl⟩ := List.mem_map.1 hb
  exact isDg_dgt (h y hy)
/-- So many digits, and no point. -/
theorem numV_fix {whole x : Nat} {l : List Nat} (h : ∀ y ∈ x :: l, y < 10) (hl : l.length ≤ 7) (hw : (x :: l).length = whole) : numV whole 0 ((x :: l).map dgt) = some (valD 0 (x :: l) : Int) := by
  have hv := valD_lt (x :: l) 0 1 h (by decide)
  have hp : 10 ^ (x :: l).length ≤ 10 ^ 8 := Nat.pow_le_pow_right (by decide) (by simp; omega)
  unfold numV numC
  rw [cut_not (not_dgs (map_dgts h) (.inl (by decide)))]
  dsimp only
  rw [List.append_nil, atoi_dgts h (by omega)]
  have hlen : ((x :: l).map dgt).length = whole := by rw [List.length_map]; exact hw
  have hl9 : (x :: l).length ≤ 8 := by rw [List.length_cons]; omega
  rw [if_pos ⟨rfl, rfl, by rw [hlen, ← hw]; simp, by rw [hlen, ← hw]; omega, by rw [if_pos (by rw [← hw]; simp)]; exact hlen⟩]
  dsimp only
  rw [if_pos ⟨by omega, by omega⟩]
theorem numV_pad2 {n : Int} (h : 0 ≤ n ∧ n < 100) : numV 2 0 (padL n 2) = some n := by
  obtain ⟨u, rfl⟩ := Int.eq_ofNat_of_zero_le h.1
  rw [padd2 (by omega)]
  have := numV_fix (whole := 2) (x := u / 10) (l := [u % 10]) (by intro y hy; simp at hy; omega) (by simp) rfl
  rw [show [dgt (u / 10), dgt (u % 10)] = [u / 10, u % 10].map dgt from rfl, this]
  congr 2
  simp only [valD]; omega
theorem numV_pad4 {n : Int} (h : 0 ≤ n ∧ n < 10000) : numV 4 0 (padL n 4) = some n := by
  obtain ⟨u, rfl⟩ := Int.eq_ofNat_of_zero_le h.1
  rw [padd4 (by omega)]
  have := numV_fix (whole := 4) (x := u / 1000) (l := [u / 100 % 10, u / 10 % 10, u % 10]) (by intro y hy; simp at hy; omega) (by simp) rfl
  rw [show [dgt (u / 1000), dgt (u / 100 % 10), dgt (u / 10 % 10), dgt (u % 10)] = [u / 1000, u / 100 % 10, u / 10 % 10, u % 10].map dgt from rfl, this]
  congr 2
  simp only [valD]; omega
/-- The minutes of an angle, in tenths. -/
theorem numV_min {n : Int} (h : 0 ≤ n ∧ n < 600) : numV 2 1 (padL (n / 10) 2 ++ 46 :: Lib.itoa (n % 10)) = some n := by
  obtain ⟨u, rfl⟩ := Int.eq_ofNat_of_zero_le h.1
  rw [show (u : Int) / 10 = ((u / 10 : Nat) : Int) by omega, show (u : Int) % 10 = ((u % 10 : Nat) : Int) by omega, padd2 (by omega), itoa_of_nat, deci_lt (by omega)]
  have hd : ∀ y ∈ u / 10 / 10 :: [u / 10 % 10, u % 10], y < 10 := by intro y hy; simp at hy; omega
  have e := atoi_dgts hd (by simp)
  have hn : (46 : UInt8) ∉ [dgt (u / 10 / 10), dgt (u / 10 % 10)] := not_dgs (map_dgts (l := [u / 10 / 10, u / 10 % 10]) (fun y hy => by simp at hy; omega)) (.inl (by decide))
  unfold numV numC
  rw [cut_at _ hn]
  dsimp only
  rw [show [dgt (u / 10 / 10), dgt (u / 10 % 10)] ++ [dgt (u % 10)] = (u / 10 / 10 :: [u / 10 % 10, u % 10]).map dgt from rfl, e]
  rw [if_pos ⟨rfl, rfl, by simp, by simp, by rw [if_pos (by decide)]; rfl⟩]
  have hv : valD 0 (u / 10 / 10 :: [u / 10 % 10, u % 10]) = u := by simp only [valD]; omega
  rw [hv]
  dsimp only
  rw [if_pos ⟨by omega, by omega⟩]
/-- A number in tenths. -/
def tenL (n : Int) : List UInt8 := Lib.itoa (n / 10) ++ 46 :: Lib.itoa (n % 10)
theorem numV_ten {n : Int} (h : 0 ≤ n ∧ n ≤ 9999999) : numV 0 1 (tenL n) = some n := by
  obtain ⟨u, rfl⟩ := Int.eq_ofNat_of_zero_le h.1
  unfold tenL
  rw [show (u : Int) / 10 = ((u / 10 : Nat) : Int) by omega, show (u : Int) % 10 = ((u % 10 : Nat) : Int) by omega, itoa_of_nat, itoa_of_nat, deci_lt (u := u % 10) (by omega)]
  have hl := dec_len 5 (u / 10) (by omega)
  have hh := deci_head2 (u / 10) (u / 10) (Nat.le_refl _)
  have hn : (46 : UInt8) ∉ Lib.decDigits (u / 10) := not_dgs (fun b hb => deci_dg hb) (.inl (by decide))
  have e : Lib.atoiAll (Lib.decDigits (u / 10) ++ [dgt (u % 10)]) = .ok (u : Int) := by
    by_cases h1 : u < 10
    · rw [show u / 10 = 0 by omega, deci_lt (by omega)]
      have := atoi_dgts (x := 0) (l := [u % 10]) (by intro y hy; simp at hy; omega) (by simp)
      rw [show [dgt 0] ++ [dgt (u % 10)] = (0 :: [u % 10]).map dgt from rfl, this]
      congr 1
      simp only [valD]; omega
    · rw [← deci_ge (by omega), ← itoa_of_nat]
      exact atoi_itoa (by omega)
  unfold numV numC
  rw [cut_at _ hn]
  dsimp only
  rw [e, if_pos ⟨rfl, rfl, List.length_pos_iff.2 (deci_ne _), by rw [List.length_append, List.length_cons, List.length_singleton]; omega, by rw [if_neg (by decide)]; exact ⟨by omega, hh⟩⟩]
  dsimp only
  rw [if_pos ⟨by omega, by omega⟩]

/-! ### Lines -/
/-- Blanks become something else. -/
def repS (sep l : List UInt8) : List UInt8 := l.flatMap fun b => if b = 32 then sep else [b]
theorem repS_app (sep a b : List UInt8) : repS sep (a ++ b) = repS sep a ++ repS sep b := List.flatMap_append
theorem repS_no {sep : List UInt8} : ∀ {l : List UInt8}, (32 : UInt8) ∉ l → repS sep l = l
  | [], _ => rfl
  | b :: r, h => by
    rw [List.mem_cons, not_or] at h
    show (if b = 32 then sep else [b]) ++ repS sep r = _
    rw [if_neg (Ne.symm h.1), repS_no h.2]; rfl
theorem repS_sp (sep r : List UInt8) : repS sep (32 :: r) = sep ++ repS sep r := rfl
/-- What may follow a word or a number. -/
def Stop (l : List UInt8) : Prop := spanN wordB l = 0 ∧ spanN digitB l = 0 ∧ ∀ r, l ≠ 46 :: r
theorem stop_c {c : UInt8} (h : wordB (c.toNat : Int) = false) (hp : c ≠ 46) (r : List UInt8) : Stop (c :: r) := by
  refine ⟨spanN_no h, spanN_no ?_, fun r' e => ?_⟩
  · unfold wordB at h
    simp only [Bool.or_eq_false_iff] at h
    exact h.1.2
  · injection e with e1 _
    exact hp e1
structure SepOk (sep : List UInt8) : Prop where
  head : ∃ z, sep = 32 :: z
  lex : ∀ l E, Lx l E → Lx (sep ++ l) E
theorem SepOk.stop {sep : List UInt8} (h : SepOk sep) (l : List UInt8) : Stop (sep ++ l) := by
  obtain ⟨z, rfl⟩ := h.head
  exact stop_c (by decide) (by decide) _
theorem sep1 : SepOk [32] := ⟨⟨_, rfl⟩, fun _ _ h => h.blank⟩
theorem sep2 : SepOk [32, 32] := ⟨⟨_, rfl⟩, fun _ _ h => h.blank.blank⟩
theorem sep3 : SepOk [32, 9] := ⟨⟨_, rfl⟩, fun _ _ h => h.tab.blank⟩
theorem Lx.word {w l : List UInt8} {E : List TkE} (h : Lx l E) (hw : nameB w = true) (hl : Stop l) : Lx (w ++ l) ((1, w) :: E) := by
  unfold nameB allP at hw
  simp only [Bool.and_eq_true, decide_eq_true_eq, List.all_eq_true] at hw
  obtain ⟨⟨h1, h2, h3⟩, h4⟩ := hw
  cases w with
  | nil => simp at h2
  | cons c w =>
    exact h.name (by exact h4) (fun b hb => h3 b (List.mem_cons_of_mem _ hb)) (by simp at h1; omega) hl.1
theorem Lx.num {w l : List UInt8} {E : List TkE} (h : Lx l E) (hw : dgs w) (hl : Stop l) : Lx (w ++ l) ((2, w) :: E) := h.int hw hl.2.1 hl.2.2
theorem dgs_itoa {n : Int} (h : 0 ≤ n) : dgs (Lib.itoa n) := by
  obtain ⟨u, rfl⟩ := Int.eq_ofNat_of_zero_le h
  rw [itoa_of_nat]; exact dgs_deci u
theorem dgs_map {x : Nat} {l : List Nat} (h : ∀ y ∈ x :: l, y < 10) : dgs ((x :: l).map dgt) := ⟨by simp, fun b hb => digit_of (map_dgts h b hb)⟩
theorem dgs_pad2 {n : Int} (h : 0 ≤ n ∧ n < 100) : dgs (padL n 2) := by
  obtain ⟨u, rfl⟩ := Int.eq_ofNat_of_zero_le h.1
  rw [padd2 (by omega)]
  exact dgs_map (x := u / 10) (l := [u % 10]) (by intro y hy; simp at hy; omega)
theorem dgs_pad4 {n : Int} (h : 0 ≤ n ∧ n < 10000) : dgs (padL n 4) := by
  obtain ⟨u, rfl⟩ := Int.eq_ofNat_of_zero_le h.1
  rw [padd4 (by omega)]
  exact dgs_map (x := u / 1000) (l := [u / 100 % 10, u / 10 % 10, u % 10]) (by intro y hy; simp at hy; omega)
theorem dgs_no {w : List UInt8} (h : dgs w) {c : UInt8} (hc : digitB (c.toNat : Int) = false) : c ∉ w := fun hm => by
  have := h.2 c hm
  rw [hc] at this; cases this
/-- An angle, in tenths of a minute. -/
def angT (g : Int) : List UInt8 := Lib.itoa (g / 600) ++ 45 :: (padL (g % 600 / 10) 2 ++ 46 :: Lib.itoa (g % 600 % 10))
theorem angT_sp {g : Int} (h : 0 ≤ g) : (32 : UInt8) ∉ angT g := by
  unfold angT
  simp only [List.mem_append, List.mem_cons, not_or]
  exact ⟨dgs_no (dgs_itoa (by omega)) (by decide), by decide, dgs_no (dgs_pad2 (by omega)) (by decide), by decide, dgs_no (dgs_itoa (by omega)) (by decide)⟩
theorem lx_ang {g : Int} (h : 0 ≤ g) {l : List UInt8} {E : List TkE} (hl : Lx l E) (hs : Stop l) : Lx (angT g ++ l) (angE (Lib.itoa (g / 600)) (padL (g % 600 / 10) 2 ++ 46 :: Lib.itoa (g % 600 % 10)) ++ E) := by
  unfold angT angE
  rw [List.append_assoc, List.cons_append, List.append_assoc, List.cons_append]
  refine Lx.num ?_ (dgs_itoa (by omega)) (stop_c (by decide) (by decide) _)
  refine Lx.dash ?_
  exact Lx.dec hl (dgs_pad2 (by omega)) (dgs_itoa (by omega)) hs.2.1
def entLn (h g d : Int) : List UInt8 := Lib.itoa h ++ 32 :: (angT g ++ 32 :: (if d < 0 then 83 else 78) :: 32 :: angT (max d (-d)))
def entEx (h g d : Int) : List TkE := entE (Lib.itoa h) (Lib.itoa (g / 600)) (padL (g % 600 / 10) 2 ++ 46 :: Lib.itoa (g % 600 % 10)) (decide (d < 0)) (Lib.itoa (max d (-d) / 600)) (padL (max d (-d) % 600 / 10) 2 ++ 46 :: Lib.itoa (max d (-d) % 600 % 10))
theorem nameB_SN (d : Int) : nameB [if d < 0 then 83 else 78] = true := by split <;> decide
theorem lx_ent {sep : List UInt8} (hsep : SepOk sep) {h g d : Int} (hh : 0 ≤ h) (hg : 0 ≤ g) {l : List UInt8} {E : List TkE} (hl : Lx l E) (hs : Stop l) : Lx (repS sep (entLn h g d) ++ l) (entEx h g d ++ E) := by
  have e : repS sep (entLn h g d) = Lib.itoa h ++ (sep ++ (angT g ++ (sep ++ ([if d < 0 then 83 else 78] ++ (sep ++ angT (max d (-d))))))) := by
    unfold entLn
    rw [repS_app, repS_no (dgs_no (dgs_itoa hh) (by decide)), repS_sp, repS_app, repS_no (angT_sp hg), repS_sp, show ∀ (c : UInt8) r, c :: 32 :: r = [c] ++ 32 :: r from fun _ _ => rfl, repS_app, repS_sp, repS_no (angT_sp (by omega)), repS_no (by split <;> decide)]
  rw [e]
  unfold entEx entE
  simp only [List.append_assoc, List.cons_append]
  refine Lx.num (hsep.lex _ _ ?_) (dgs_itoa hh) (hsep.stop _)
  refine lx_ang hg (hsep.lex _ _ ?_) (hsep.stop _)
  have hd : (if decide (d < 0) = true then ([83] : List UInt8) else [78]) = [if d < 0 then 83 else 78] := by
    by_cases h0 : d < 0
    · rw [if_pos (decide_eq_true h0), if_pos h0]
    · rw [if_neg (by simpa using h0), if_neg h0]
  rw [hd]
  show Lx ([if d < 0 then (83 : UInt8) else 78] ++ (sep ++ (angT (max d (-d)) ++ l))) _
  exact Lx.word (hsep.lex _ _ (lx_ang (by omega) hl hs)) (nameB_SN d) (hsep.stop _)
theorem ent_ok {h g d : Int} (hh : 0 ≤ h ∧ h ≤ 999999) (hg : 0 ≤ g ∧ g ≤ 599999999) (hd : -599999999 ≤ d ∧ d ≤ 599999999) : EntOk (entEx h g d) h g d := by
  refine ⟨_, _, _, _, _, decide (d < 0), g / 600, g % 600, max d (-d) / 600, max d (-d) % 600, rfl, numV_whole hh, ⟨numV_whole (by omega), numV_min (by omega), by omega, by omega⟩, numV_whole (by omega), numV_min (by omega), by omega, ?_⟩
  by_cases h0 : d < 0
  · rw [decide_eq_true h0, if_pos rfl]; omega
  · rw [decide_eq_false h0, if_neg (by decide)]; omega
def bodyLn (nm : List UInt8) (se pa be : Int) : List UInt8 := bBody ++ 32 :: (nm ++ 32 :: (bSemi ++ 32 :: (tenL se ++ 32 :: (bPar ++ 32 :: (tenL pa ++ 32 :: (bBend ++ 32 :: tenL be))))))
theorem tenL_sp {n : Int} (h : 0 ≤ n) : (32 : UInt8) ∉ tenL n := by
  unfold tenL
  simp only [List.mem_append, List.mem_cons, not_or]
  exact ⟨dgs_no (dgs_itoa (by omega)) (by decide), by decide, dgs_no (dgs_itoa (by omega)) (by decide)⟩
theorem lx_ten {n : Int} (h : 0 ≤ n) {l : List UInt8} {E : List TkE} (hl : Lx l E) (hs : Stop l) : Lx (tenL n ++ l) ((2, tenL n) :: E) := by
  unfold tenL
  have := Lx.dec hl (dgs_itoa (n := n / 10) (by omega)) (dgs_itoa (n := n % 10) (by omega)) hs.2.1
  rw [List.append_assoc]
  exact this
theorem nameB_sp {w : List UInt8} (h : nameB w = true) : (32 : UInt8) ∉ w := fun hm => by
  unfold nameB allP at h
  simp only [Bool.and_eq_true, decide_eq_true_eq, List.all_eq_true] at h
  have := h.1.2.2 32 hm
  revert this; decide
theorem lx_body {sep : List UInt8} (hsep : SepOk sep) {nm : List UInt8} {se pa be : Int} (hn : nameB nm = true) (h1 : 0 ≤ se) (h2 : 0 ≤ pa) (h3 : 0 ≤ be) {l : List UInt8} {E : List TkE} (hl : Lx l E) (hs : Stop l) : Lx (repS sep (bodyLn nm se pa be) ++ l) (bodyE nm (tenL se) (tenL pa) (tenL be) ++ E) := by
  have e : repS sep (bodyLn nm se pa be) = bBody ++ (sep ++ (nm ++ (sep ++ (bSemi ++ (sep ++ (tenL se ++ (sep ++ (bPar ++ (sep ++ (tenL pa ++ (sep ++ (bBend ++ (sep ++ tenL be))))))))))))) := by
    unfold bodyLn
    rw [repS_app, repS_no (l := bBody) (by decide), repS_sp, repS_app, repS_no (nameB_sp hn), repS_sp, repS_app, repS_no (l := bSemi) (by decide), repS_sp, repS_app, repS_no (tenL_sp h1), repS_sp, repS_app, repS_no (l := bPar) (by decide), repS_sp, repS_app, repS_no (tenL_sp h2), repS_sp, repS_app, repS_no (l := bBend) (by decide), repS_sp, repS_no (tenL_sp h3)]
  rw [e]
  unfold bodyE
  simp only [List.append_assoc, List.cons_append]
  refine Lx.word (w := bBody) (hsep.lex _ _ ?_) (by decide) (hsep.stop _)
  refine Lx.word (hsep.lex _ _ ?_) hn (hsep.stop _)
  refine Lx.word (w := bSemi) (hsep.lex _ _ ?_) (by decide) (hsep.stop _)
  refine lx_ten h1 (hsep.lex _ _ ?_) (hsep.stop _)
  refine Lx.word (w := bPar) (hsep.lex _ _ ?_) (by decide) (hsep.stop _)
  refine lx_ten h2 (hsep.lex _ _ ?_) (hsep.stop _)
  refine Lx.word (w := bBend) (hsep.lex _ _ ?_) (by decide) (hsep.stop _)
  exact lx_ten h3 hl hs
def dateLn (y m d : Int) : List UInt8 := bPage ++ 32 :: (padL y 4 ++ 45 :: (padL m 2 ++ 45 :: padL d 2))
theorem lx_date {sep : List UInt8} (hsep : SepOk sep) {y m d : Int} (h1 : 0 ≤ y ∧ y < 10000) (h2 : 0 ≤ m ∧ m < 100) (h3 : 0 ≤ d ∧ d < 100) {l : List UInt8} {E : List TkE} (hl : Lx l E) (hs : Stop l) : Lx (repS sep (dateLn y m d) ++ l) (dateE (padL y 4) (padL m 2) (padL d 2) ++ E) := by
  have n1 := dgs_no (dgs_pad4 h1) (c := 32) (by decide)
  have n2 := dgs_no (dgs_pad2 h2) (c := 32) (by decide)
  have n3 := dgs_no (dgs_pad2 h3) (c := 32) (by decide)
  have e : repS sep (dateLn y m d) = bPage ++ (sep ++ (padL y 4 ++ 45 :: (padL m 2 ++ 45 :: padL d 2))) := by
    unfold dateLn
    rw [repS_app, repS_no (l := bPage) (by decide), repS_sp, repS_no]
    simp only [List.mem_append, List.mem_cons, not_or]
    exact ⟨n1, by decide, n2, by decide, n3⟩
  rw [e]
  unfold dateE
  simp only [List.append_assoc, List.cons_append]
  refine Lx.word (w := bPage) (hsep.lex _ _ ?_) (by decide) (hsep.stop _)
  refine Lx.num ?_ (dgs_pad4 h1) (stop_c (by decide) (by decide) _)
  refine Lx.dash ?_
  refine Lx.num ?_ (dgs_pad2 h2) (stop_c (by decide) (by decide) _)
  refine Lx.dash ?_
  exact Lx.num hl (dgs_pad2 h3) hs
end Go.Proofs.YtpekkcahehhkmaaGreatDoor
/- decimal.format, decimal.Format of numbers of at most four digits, at one digit behind the point. -/
set_option linter.unusedVariables false
set_option maxHeartbeats 4000000
namespace Go.Proofs.YtpekkcahehhkmaaGreatDoor
open Go.RowKit

theorem RS.litB {P : Program} {ops : Array Oper} {Q : Exit → Act → World → Prop} {n : Nat} {L : FL} {w0 : World} {H : List Hl} {dd : Tmp} {ty : TypeId} {pos : String} {af : Array Edge} {t e : TypeId} {x : Operand} {c : Int} {rest : List Oper} (h : ∀ v' : Sl, RS P ops Q n ((dd, v'.v) :: L) w0 (Hl.rw v'.v e cB 1 [c] :: H) rest) (hx : evO L x = some (.int .u8 c)) (ht : rowTyB P t e 1 1 = true) (hd : Nat.blt dd n = true) :
    RS P ops Q n L w0 H (⟨some dd, .buildSlice t 1 #[(0, x)], ty, pos, af, none⟩ :: rest) := RS.actX rfl (x_lit (parts := [(0, x)]) (vs := [.int .u8 c]) (f := cB) (l := [c]) ⟨hx, rfl⟩ rfl rfl rfl rfl rfl rfl ht hd) fun v' _ => h v'
/-- One digit behind the point, from the right. -/
def decR (m : Int) : List Int := [48 + m % 10, 46, 48 + m / 10 % 10] ++ if 100 ≤ m then [48 + m / 100 % 10] ++ (if 1000 ≤ m then [48 + m / 1000 % 10] else []) else []
abbrev decI (m k mk : Int) (ls : List Int) : Prop := (k = 0 ∧ mk = m ∧ ls = []) ∨ (k = 1 ∧ mk = m / 10 ∧ ls = [48 + m % 10]) ∨ (k = 2 ∧ mk = m / 100 ∧ ls = [48 + m % 10, 46, 48 + m / 10 % 10]) ∨ (k = 3 ∧ mk = m / 1000 ∧ 100 ≤ m ∧ ls = [48 + m % 10, 46, 48 + m / 10 % 10, 48 + m / 100 % 10]) ∨ (k = 4 ∧ mk = 0 ∧ 1000 ≤ m ∧ ls = [48 + m % 10, 46, 48 + m / 10 % 10, 48 + m / 100 % 10, 48 + m / 1000 % 10])
def decL (n : Int) : List UInt8 := ((decR (max n (-n)) ++ if n < 0 then [45] else []).reverse).map fun x : Int => UInt8.ofNat x.toNat
theorem format_c {n : Int} (h : -9999 ≤ n ∧ n ≤ 9999) : Cont Tryz.prog 116 [.int .i64 n, .int .i64 1] (strV (decL n)) := fun w => by
  have hm : 0 ≤ max n (-n) ∧ max n (-n) ≤ 9999 := by omega
  refine enter0 Tryz.func116 rfl rfl rfl ?_
  repeat' (first
    | (refine nxV ?_)
    | (show RS _ _ _ _ _ _ _ _; first | (refine nxRS ?_) | (refine nxRS1 fun _ => ?_))
    | (show RM _ _ _ _ _ _ _ _ _ _; first | (refine nxRM ?_) | (refine nxRM1 fun _ => ?_))
    | (refine nxG ?_)
    | (refine nxX ?_)
    | (refine G.condN rfl (fun hc => ?_) (fun hc => ?_) <;> (try first | exact False.elim hc | (exfalso; omega))))
  unfold decL
  generalize max n (-n) = m at hm
  refine G.loop (ι := Int × Int × List Int × Sl) (fun x => [(0, .int .i64 n), (1, .int .i64 1), (5, x.2.2.2.v), (6, .int .i64 x.2.1), (7, .int .i64 x.1)]) (fun x => [rwB x.2.2.2 x.2.2.1]) (fun x => decI m x.1 x.2.1 x.2.2.1) (fun x => (5 - x.1).toNat) (0, m, [], ⟨none, 0, 0⟩) (.inl ⟨rfl, rfl, rfl⟩) ⟨rfl, rfl, rfl, rfl, rfl, trivial⟩ (fun w h => h.nilRow 5 cB 1) ?_
  rintro ⟨k, mk, ls, z⟩ mx g1 hmx
  dsimp only at g1 hmx ⊢
  have g2 : (0 ≤ k ∧ k ≤ 4) ∧ (0 ≤ mk ∧ mk ≤ 9999) := by rcases g1 with g | g | g | g | g <;> omega
  have g3 : ls.length ≤ 10 := by rcases g1 with g | g | g | g | g <;> simp [g]
  by_cases hcont : 0 < mk ∨ k ≤ 1
  · repeat' (first
    | (show RS _ _ _ _ _ _ _ (⟨_, .buildSlice _ _ _, _, _, _, _⟩ :: _); refine RS.litB (e := 5) ?_ (by rfl) (by decide +kernel) (by rfl); intro z2)
    | (refine nxV ?_)
    | (show RS _ _ _ _ _ _ _ _; first | (refine nxRS ?_) | (refine nxRS1 fun _ => ?_))
    | (show RM _ _ _ _ _ _ _ _ _ _; first | (refine nxRM ?_) | (refine nxRM1 fun _ => ?_))
    | (refine nxG ?_)
    | (refine nxX ?_)
    | (refine G.condN rfl (fun hc => ?_) (fun hc => ?_) <;> (try first | exact False.elim hc | (exfalso; omega))))
    · rename_i y
      refine X.again (k + 1, mk / 10, (ls ++ [46]) ++ [48 + mk % 10], y) ?_ (by dsimp only; omega) ⟨rfl, rfl, rfl, rfl, rfl, trivial⟩ (fun w h => by dsimp only; exact h.sub (by repeat (first | exact List.Sublist.refl _ | apply List.Sublist.cons_cons | apply List.Sublist.cons)))
      dsimp only
      rcases g1 with g | g | g | g | g
      · omega
      · obtain ⟨rfl, rfl, rfl⟩ := g
        exact .inr (.inr (.inl ⟨by omega, by omega, rfl⟩))
      · omega
      · omega
      · omega
    · rename_i y
      refine X.again (k + 1, mk / 10, ls ++ [48 + mk % 10], y) ?_ (by dsimp only; omega) ⟨rfl, rfl, rfl, rfl, rfl, trivial⟩ (fun w h => by dsimp only; exact h.sub (by repeat (first | exact List.Sublist.refl _ | apply List.Sublist.cons_cons | apply List.Sublist.cons)))
      dsimp only
      rcases g1 with g | g | g | g | g
      · obtain ⟨rfl, rfl, rfl⟩ := g
        exact .inr (.inl ⟨by omega, rfl, rfl⟩)
      · omega
      · obtain ⟨rfl, rfl, rfl⟩ := g
        exact .inr (.inr (.inr (.inl ⟨by omega, by omega, by omega, rfl⟩)))
      · obtain ⟨rfl, rfl, h2, rfl⟩ := g
        exact .inr (.inr (.inr (.inr ⟨by omega, by omega, by omega, rfl⟩)))
      · omega
  · have er : ls = decR m := by
      rcases g1 with g | g | g | g | g
      · omega
      · omega
      · obtain ⟨_, h2, rfl⟩ := g
        unfold decR; rw [if_neg (by omega), List.append_nil]
      · obtain ⟨_, _, h2, rfl⟩ := g
        unfold decR; rw [if_pos h2, if_neg (by omega)]; rfl
      · obtain ⟨_, _, h2, rfl⟩ := g
        unfold decR; rw [if_pos (by omega), if_pos h2]; rfl
    have hne : ls ≠ [] := by rw [er]; simp [decR]
    have q1 := fun x => reverse_c x ls (by omega)
    have q2 := fun x => reverse_c x (ls ++ [45]) (by simp; omega)
    have n1 : ls.reverse ≠ [] := by simpa using hne
    have n2 : (ls ++ [45]).reverse ≠ [] := by simp
    rw [← er]
    repeat' (first
    | (show RS _ _ _ _ _ _ _ (⟨_, .buildSlice _ _ _, _, _, _, _⟩ :: _); refine RS.litB (e := 5) ?_ (by rfl) (by decide +kernel) (by rfl); intro z2)
    | (refine RS.callU (q1 _) ⟨rfl, rfl⟩ ?_; rintro z3 _; dsimp only [List.cons_append, List.nil_append])
    | (refine RS.callU (q2 _) ⟨rfl, rfl⟩ ?_; rintro z3 _; dsimp only [List.cons_append, List.nil_append])
    | (show YK _ _ _ _ _ ⟨_, .convert _ 9 _, _, _, _, _⟩ _; refine YK.ofV (y_strOf (by rfl) (by exact rdA) Tryz.underlying56 Tryz.underlying5 Tryz.underlying9 n1) ?_)
    | (show YK _ _ _ _ _ ⟨_, .convert _ 9 _, _, _, _, _⟩ _; refine YK.ofV (y_strOf (by rfl) (by exact rdA) Tryz.underlying56 Tryz.underlying5 Tryz.underlying9 n2) ?_)
    | (refine nxV ?_)
    | (show RS _ _ _ _ _ _ _ _; first | (refine nxRS ?_) | (refine nxRS1 fun _ => ?_))
    | (show RM _ _ _ _ _ _ _ _ _ _; first | (refine nxRM ?_) | (refine nxRM1 fun _ => ?_))
    | (refine nxG ?_)
    | (refine nxX ?_)
    | (refine G.condN rfl (fun hc => ?_) (fun hc => ?_) <;> (try first | exact False.elim hc | (exfalso; omega))))
    · rw [if_pos hc]; exact X.ret (vs := [_]) rfl ⟨rfl, rfl⟩ rfl (fun w hw => ⟨rfl, hw.ext⟩)
    · rw [if_neg (by omega), List.append_nil]; exact X.ret (vs := [_]) rfl ⟨rfl, rfl⟩ rfl (fun w hw => ⟨rfl, hw.ext⟩)
theorem big_c {n : Int} (h : -9999 ≤ n ∧ n ≤ 9999) : Cont Tryz.prog 115 [.int .i64 n] (.bool false) := fun w => by
  refine enter0 Tryz.func115 rfl rfl rfl ?_
  repeat' (first
    | (refine nxV ?_)
    | (show RS _ _ _ _ _ _ _ _; first | (refine nxRS ?_) | (refine nxRS1 fun _ => ?_))
    | (show RM _ _ _ _ _ _ _ _ _ _; first | (refine nxRM ?_) | (refine nxRM1 fun _ => ?_))
    | (refine nxG ?_)
    | (refine nxX ?_)
    | (refine G.condN rfl (fun hc => ?_) (fun hc => ?_) <;> (try first | exact False.elim hc | (exfalso; omega))))
  exact X.ret (vs := [_]) rfl ⟨rfl, rfl⟩ rfl (fun w hw => ⟨ret_bool (by simp; omega), hw.ext⟩)
theorem Format_c {n : Int} (h : -9999 ≤ n ∧ n ≤ 9999) : Cont Tryz.prog 80 [.int .i64 n, .int .i64 1] (.tuple [strV (decL n), .int .i64 0].toArray) := fun w => by
  have q1 := big_c h
  have q2 := format_c h
  generalize decL n = l at q2
  refine enter0 Tryz.func80 rfl rfl rfl ?_
  repeat' (first
    | (show YK _ _ _ _ _ _ _; first | refine YK.mk (y_callA (q1) ⟨rfl, rfl⟩) ?_ | refine YK.mk (y_callA (q2) ⟨rfl, rfl, rfl⟩) ?_)
    | (show YK _ _ _ _ _ _ _; refine YK.ofV vAuto ?_)
    | (show VK _ _ _ _ _ _ _; refine VK.mk vAuto ?_)
    | (show RS _ _ _ _ _ _ _ _; first | (refine nxRS ?_) | (refine nxRS1 fun _ => ?_))
    | (show RM _ _ _ _ _ _ _ _ _ _; first | (refine nxRM ?_) | (refine nxRM1 fun _ => ?_))
    | (show YG _ _ _ _ _ _ _ _; refine YG.mk (fun hb => by (try (have hc := And.left hb; have hb := And.right hb; rw [hc])); (try rw [hb]); first | exact (y_callA (q1) ⟨rfl, rfl⟩) | exact (y_callA (q2) ⟨rfl, rfl, rfl⟩) | exact V.y vAuto) ?_)
    | (show VG _ _ _ _ _ _ _ _; refine VG.mk (fun hb => by (try (have hc := And.left hb; have hb := And.right hb; rw [hc])); (try rw [hb]); exact vAuto) ?_)
    | (refine nxX ?_)
    | (refine G.condN rfl (fun hc => ?_) (fun hc => ?_) <;> (try first | exact False.elim hc | (exfalso; omega))))
  exact X.ret (vs := [_, _]) rfl ⟨rfl, rfl, rfl⟩ rfl (fun w hw => ⟨rfl, hw.ext⟩)
theorem decL_ten {n : Int} (h : 0 ≤ n ∧ n ≤ 9999) : decL n = tenL n := by
  obtain ⟨u, rfl⟩ := Int.eq_ofNat_of_zero_le h.1
  unfold decL tenL decR
  have dq : ∀ k : Nat, UInt8.ofNat (48 + ((k : Nat) : Int)).toNat = dgt k := fun k => by rw [show (48 + ((k : Nat) : Int)).toNat = 48 + k by omega]; rfl
  rw [if_neg (show ¬ (u : Int) < 0 by omega), List.append_nil, show max (u : Int) (-(u : Int)) = u by omega, show (u : Int) / 10 = ((u / 10 : Nat) : Int) by omega, show (u : Int) / 100 = ((u / 100 : Nat) : Int) by omega, show (u : Int) / 1000 = ((u / 1000 : Nat) : Int) by omega, show (u : Int) % 10 = ((u % 10 : Nat) : Int) by omega, show ((u / 10 : Nat) : Int) % 10 = ((u / 10 % 10 : Nat) : Int) by omega, show ((u / 100 : Nat) : Int) % 10 = ((u / 100 % 10 : Nat) : Int) by omega, show ((u / 1000 : Nat) : Int) % 10 = ((u / 1000 % 10 : Nat) : Int) by omega, itoa_of_nat, itoa_of_nat, deci_lt (u := u % 10) (by omega)]
  have h46 : UInt8.ofNat (46 : Int).toNat = 46 := rfl
  by_cases h1 : u < 100
  · rw [if_neg (by omega), deci_lt (by omega), Nat.mod_eq_of_lt (show u / 10 < 10 by omega)]
    simp
    exact ⟨by simpa using dq (u / 10), by simpa using dq (u % 10)⟩
  · by_cases h2 : u < 1000
    · rw [if_pos (by omega), if_neg (by omega), deci_ge (by omega), deci_lt (by omega), show u / 10 / 10 = u / 100 % 10 by omega]
      simp
      exact ⟨by simpa using dq (u / 100 % 10), by simpa using dq (u / 10 % 10), by simpa using dq (u % 10)⟩
    · rw [if_pos (by omega), if_pos (by omega), deci_ge (by omega), deci_ge (by omega), deci_lt (by omega), show u / 10 / 10 / 10 = u / 1000 % 10 by omega, show u / 10 / 10 % 10 = u / 100 % 10 by omega]
      simp
      exact ⟨by simpa using dq (u / 1000 % 10), by simpa using dq (u / 100 % 10), by simpa using dq (u / 10 % 10), by simpa using dq (u % 10)⟩
end Go.Proofs.YtpekkcahehhkmaaGreatDoor
/- Pages: find, Find; the reference's Find. -/
set_option linter.unusedVariables false
set_option maxHeartbeats 4000000
namespace Go.Proofs.YtpekkcahehhkmaaGreatDoor
open Go.RowKit

def idxT (l : List TrkT) (nm : List UInt8) : Int := match (List.range l.length).find? (fun i : Nat => decide ((nth l (i : Int)).nm = nm)) with
  | some k => (k : Int)
  | none => -1
theorem idxT_lt {l : List TrkT} {nm : List UInt8} : -1 ≤ idxT l nm ∧ idxT l nm < l.length := by
  unfold idxT
  cases h : (List.range l.length).find? (fun i : Nat => decide ((nth l (i : Int)).nm = nm)) with
  | none => dsimp only; omega
  | some k =>
    have := List.mem_range.1 (List.mem_of_find?_eq_some h)
    dsimp only; omega
theorem find1_c (B : Nat) (s : TrkT) (nm : List UInt8) : ContIn Tryz.prog (fun w => RO w (boxS B) 1 1 [strV nm]) 67 ([trV s] ++ (#[.pointer (some ⟨B, 0, none⟩)] : Array Value).toList) (.bool (decide (s.nm = nm))) := fun w hw0 => by
  refine enter Tryz.func67 rfl rfl rfl (Hp := [Hl.rd (boxS B) c1S 1 [strV nm]]) (fun h hm => by
    rcases List.mem_singleton.1 hm with rfl
    exact ⟨⟨hw0, fun h => by cases h⟩, rfl⟩) ?_
  repeat' (first
    | (show YK _ _ _ _ _ ⟨_, .call { callee := .builtin .len, args := _, argTypes := #[9] }, _, _, _, _⟩ _; refine YK.ofV (y_lenS (by rfl) StrTy.is) ?_)
    | (show VK _ _ _ _ _ ⟨_, .call { callee := .builtin .len, args := _, argTypes := #[9] }, _, _, _, _⟩ _; refine VK.mk (y_lenS (by rfl) StrTy.is) ?_)
    | (show YG _ _ _ _ _ _ ⟨_, .call { callee := .builtin .len, args := _, argTypes := #[9] }, _, _, _, _⟩ _; refine YG.mk (fun hb => by (try (have hc := And.left hb; have hb := And.right hb; rw [hc])); (try rw [hb]); exact V.y (y_lenS (by rfl) StrTy.is)) ?_)
    | (show VG _ _ _ _ _ _ ⟨_, .call { callee := .builtin .len, args := _, argTypes := #[9] }, _, _, _, _⟩ _; refine VG.mk (fun hb => by (try (have hc := And.left hb; have hb := And.right hb; rw [hc])); (try rw [hb]); exact y_lenS (by rfl) StrTy.is) ?_)
    | (show YK _ _ _ _ _ ⟨_, .load 9 (.tmp 1), _, _, _, _⟩ _; refine YK.ofV (y_loadEl (inst := ⟨strV nm⟩) (u := strV nm) (v := boxS B) (s := 1) (m := 0) (i := 0) (f := c1S) (l := [strV nm]) (by rfl) (by exact rdA) (fun _ => rfl) (boxS_m _) (by rfl) (by rfl) (by decide +kernel)) ?_)
    | (refine nxV ?_)
    | (show RS _ _ _ _ _ _ _ _; first | (refine nxRS ?_) | (refine nxRS1 fun _ => ?_))
    | (show RM _ _ _ _ _ _ _ _ _ _; first | (refine nxRM ?_) | (refine nxRM1 fun _ => ?_))
    | (refine nxG ?_)
    | (refine nxVS ?_)
    | (refine nxGS ?_)
    | (refine nxX ?_)
    | (refine G.condN rfl (fun hc => ?_) (fun hc => ?_) <;> (try first | exact False.elim hc | (exfalso; omega))))
  exact X.ret (vs := [_]) rfl ⟨rfl, rfl⟩ rfl (fun w hw => ⟨rfl, hw.ext⟩)
theorem findFT_c (B : Nat) (nm : List UInt8) (v : Value) (l : List TrkT) (hl : l.length ≤ 1000000) :
    ContIn Tryz.prog (fun w => RO w v 6 l.length (l.flatMap cT) ∧ RO w (boxS B) 1 1 [strV nm]) 66 [v, .func (.func 67) #[] #[.pointer (some ⟨B, 0, none⟩)]] (.int .i64 (idxT l nm)) := fun w hw0 => by
  refine enter Tryz.func66 rfl rfl rfl (Hp := [Hl.rd v cT 6 l, Hl.rd (boxS B) c1S 1 [strV nm]]) (fun h hm => by
    rcases List.mem_cons.1 hm with rfl | hm
    · exact ⟨⟨hw0.1, fun h => by cases h⟩, rfl⟩
    rcases List.mem_singleton.1 hm with rfl
    exact ⟨⟨hw0.2, fun h => by cases h⟩, rfl⟩) ?_
  repeat' (first
    | (refine nxV ?_)
    | (show RS _ _ _ _ _ _ _ _; first | (refine nxRS ?_) | (refine nxRS1 fun _ => ?_))
    | (show RM _ _ _ _ _ _ _ _ _ _; first | (refine nxRM ?_) | (refine nxRM1 fun _ => ?_))
    | (refine nxG ?_)
    | (refine nxX ?_)
    | (refine G.condN rfl (fun hc => ?_) (fun hc => ?_) <;> (try first | exact False.elim hc | (exfalso; omega))))
  refine G.loop (ι := Nat) (fun i => [(0, v), (1, .func (.func 67) #[] #[.pointer (some ⟨B, 0, none⟩)]), (7, .int .i64 l.length), (8, .int .i64 (i : Int))]) (fun _ => [Hl.rd v cT 6 l, Hl.rd (boxS B) c1S 1 [strV nm]]) (fun i => i ≤ l.length ∧ ∀ k : Nat, k < i → decide ((nth l (k : Int)).nm = nm) = false) (fun i => l.length - i) 0 ⟨by omega, fun k hk => by omega⟩ ⟨rfl, rfl, rfl, rfl, trivial⟩ (fun w h => h) ?_
  rintro i mx ⟨g1, g2⟩ hmx
  have hr : idxT l nm = match (List.range l.length).find? (fun i : Nat => decide ((nth l (i : Int)).nm = nm)) with
    | some k => (k : Int)
    | none => -1 := rfl
  rcases Nat.lt_or_ge i l.length with hi | hi
  · have q1 := find1_c B (nth l (i : Int)) nm
    cases hb : decide ((nth l (i : Int)).nm = nm) with
    | true =>
      rw [hb] at q1
      repeat' (first
    | (show YK _ _ _ _ _ ⟨_, .call { callee := .builtin .len, args := _, argTypes := #[9] }, _, _, _, _⟩ _; refine YK.ofV (y_lenS (by rfl) StrTy.is) ?_)
    | (show VK _ _ _ _ _ ⟨_, .call { callee := .builtin .len, args := _, argTypes := #[9] }, _, _, _, _⟩ _; refine VK.mk (y_lenS (by rfl) StrTy.is) ?_)
    | (show YG _ _ _ _ _ _ ⟨_, .call { callee := .builtin .len, args := _, argTypes := #[9] }, _, _, _, _⟩ _; refine YG.mk (fun hb => by (try (have hc := And.left hb; have hb := And.right hb; rw [hc])); (try rw [hb]); exact V.y (y_lenS (by rfl) StrTy.is)) ?_)
    | (show VG _ _ _ _ _ _ ⟨_, .call { callee := .builtin .len, args := _, argTypes := #[9] }, _, _, _, _⟩ _; refine VG.mk (fun hb => by (try (have hc := And.left hb; have hb := And.right hb; rw [hc])); (try rw [hb]); exact y_lenS (by rfl) StrTy.is) ?_)
    | (show YK _ _ _ _ _ ⟨_, .call { callee := .value _, args := _, argTypes := _ }, _, _, _, _⟩ _; refine YK.mk (y_callV (f := 67) (by rfl) q1 (fun w hw => (hw.all _ (List.Mem.tail _ (List.Mem.head _))).1) ⟨rfl, rfl⟩ (by decide +kernel)) ?_)
    | (refine nxV ?_)
    | (show RS _ _ _ _ _ _ _ _; first | (refine nxRS ?_) | (refine nxRS1 fun _ => ?_))
    | (show RM _ _ _ _ _ _ _ _ _ _; first | (refine nxRM ?_) | (refine nxRM1 fun _ => ?_))
    | (refine nxG ?_)
    | (refine nxVS ?_)
    | (refine nxGS ?_)
    | (refine nxX ?_)
    | (refine G.condN rfl (fun hc => ?_) (fun hc => ?_) <;> (try first | exact False.elim hc | (exfalso; omega))))
      rw [findr_some hi g2 hb] at hr
      exact X.ret (vs := [_]) rfl ⟨rfl, rfl⟩ rfl (fun w hw => ⟨ret_int hr.symm, hw.ext⟩)
    | false =>
      rw [hb] at q1
      repeat' (first
    | (show YK _ _ _ _ _ ⟨_, .call { callee := .builtin .len, args := _, argTypes := #[9] }, _, _, _, _⟩ _; refine YK.ofV (y_lenS (by rfl) StrTy.is) ?_)
    | (show VK _ _ _ _ _ ⟨_, .call { callee := .builtin .len, args := _, argTypes := #[9] }, _, _, _, _⟩ _; refine VK.mk (y_lenS (by rfl) StrTy.is) ?_)
    | (show YG _ _ _ _ _ _ ⟨_, .call { callee := .builtin .len, args := _, argTypes := #[9] }, _, _, _, _⟩ _; refine YG.mk (fun hb => by (try (have hc := And.left hb; have hb := And.right hb; rw [hc])); (try rw [hb]); exact V.y (y_lenS (by rfl) StrTy.is)) ?_)
    | (show VG _ _ _ _ _ _ ⟨_, .call { callee := .builtin .len, args := _, argTypes := #[9] }, _, _, _, _⟩ _; refine VG.mk (fun hb => by (try (have hc := And.left hb; have hb := And.right hb; rw [hc])); (try rw [hb]); exact y_lenS (by rfl) StrTy.is) ?_)
    | (show YK _ _ _ _ _ ⟨_, .call { callee := .value _, args := _, argTypes := _ }, _, _, _, _⟩ _; refine YK.mk (y_callV (f := 67) (by rfl) q1 (fun w hw => (hw.all _ (List.Mem.tail _ (List.Mem.head _))).1) ⟨rfl, rfl⟩ (by decide +kernel)) ?_)
    | (refine nxV ?_)
    | (show RS _ _ _ _ _ _ _ _; first | (refine nxRS ?_) | (refine nxRS1 fun _ => ?_))
    | (show RM _ _ _ _ _ _ _ _ _ _; first | (refine nxRM ?_) | (refine nxRM1 fun _ => ?_))
    | (refine nxG ?_)
    | (refine nxVS ?_)
    | (refine nxGS ?_)
    | (refine nxX ?_)
    | (refine G.condN rfl (fun hc => ?_) (fun hc => ?_) <;> (try first | exact False.elim hc | (exfalso; omega))))
      refine X.again (i + 1) ⟨by omega, fun k hk => ?_⟩ (by omega) ⟨rfl, rfl, rfl, rfl, trivial⟩ (by exact fun w h => h.sub (by repeat (first | exact List.Sublist.refl _ | apply List.Sublist.cons_cons | apply List.Sublist.cons)))
      rcases Nat.lt_or_ge k i with h | h
      · exact g2 k h
      · rw [show k = i by omega]; exact hb
  · repeat' (first
    | (refine nxV ?_)
    | (show RS _ _ _ _ _ _ _ _; first | (refine nxRS ?_) | (refine nxRS1 fun _ => ?_))
    | (show RM _ _ _ _ _ _ _ _ _ _; first | (refine nxRM ?_) | (refine nxRM1 fun _ => ?_))
    | (refine nxG ?_)
    | (refine nxX ?_)
    | (refine G.condN rfl (fun hc => ?_) (fun hc => ?_) <;> (try first | exact False.elim hc | (exfalso; omega))))
    rw [findr_none (fun k hk => g2 k (by omega))] at hr
    exact X.ret (vs := [_]) rfl ⟨rfl, rfl⟩ rfl (fun w hw => ⟨ret_int hr.symm, hw.ext⟩)
theorem pfind_c {y m d : Int} (nm : List UInt8) (v : Value) (l : List TrkT) (hl : l.length ≤ 1000000) : ContR Tryz.prog [Hl.rd v cT 6 l] 34 [pgV y m d v, strV nm] (.int .i64 (idxT l nm)) := fun w hw0 => by
  have q1 := fun B => findFT_c B nm v l hl
  refine enter Tryz.func34 rfl rfl rfl hw0 ?_
  repeat' (first
    | (show YK _ _ _ _ _ ⟨_, .call { callee := .builtin .len, args := _, argTypes := #[9] }, _, _, _, _⟩ _; refine YK.ofV (y_lenS (by rfl) StrTy.is) ?_)
    | (show VK _ _ _ _ _ ⟨_, .call { callee := .builtin .len, args := _, argTypes := #[9] }, _, _, _, _⟩ _; refine VK.mk (y_lenS (by rfl) StrTy.is) ?_)
    | (show YG _ _ _ _ _ _ ⟨_, .call { callee := .builtin .len, args := _, argTypes := #[9] }, _, _, _, _⟩ _; refine YG.mk (fun hb => by (try (have hc := And.left hb; have hb := And.right hb; rw [hc])); (try rw [hb]); exact V.y (y_lenS (by rfl) StrTy.is)) ?_)
    | (show VG _ _ _ _ _ _ ⟨_, .call { callee := .builtin .len, args := _, argTypes := #[9] }, _, _, _, _⟩ _; refine VG.mk (fun hb => by (try (have hc := And.left hb; have hb := And.right hb; rw [hc])); (try rw [hb]); exact y_lenS (by rfl) StrTy.is) ?_)
    | (show YK _ _ _ _ _ ⟨_, .call { callee := .value _, args := _, argTypes := _ }, _, _, _, _⟩ _; refine YK.mk (y_callIn (q1 _) (fun w hw => ⟨(hw.all (Hl.rd v cT 6 l) (by exact memA)).1, boxS_of hw (by exact memA)⟩) ⟨rfl, rfl, rfl⟩ (by decide +kernel)) ?_)
    | (refine nxV ?_)
    | (show RS _ _ _ _ _ _ _ _; first | (refine nxRS ?_) | (refine nxRS1 fun _ => ?_))
    | (show RM _ _ _ _ _ _ _ _ _ _; first | (refine nxRM ?_) | (refine nxRM1 fun _ => ?_))
    | (refine nxG ?_)
    | (refine nxVS ?_)
    | (refine nxGS ?_)
    | (refine nxX ?_)
    | (refine G.condN rfl (fun hc => ?_) (fun hc => ?_) <;> (try first | exact False.elim hc | (exfalso; omega))))
  exact X.ret (vs := [_]) rfl ⟨rfl, rfl⟩ rfl (fun w hw => ⟨rfl, hw.ext⟩)
def findP (ok : Bool) (i : Int) : Int × Int := if ok = true then (if 0 ≤ i then (i, 0) else (0, 12)) else (0, 1)
theorem pFind_c {y m d : Int} {v : Value} {l : List TrkT} (nm : List UInt8) (hf : l.length ≤ 12 → fitT l) : ContIn Tryz.prog (PgP v l) 10 [pgV y m d v, strV nm] (.tuple [.int .i64 (findP (pageB y m d l) (idxT l nm)).1, .int .i64 (findP (pageB y m d l) (idxT l nm)).2].toArray) := fun w hw0 => by
  have q0 := pvalid_c (y := y) (m := m) (d := d) (v := v) hf
  have hl : pageB y m d l = true → l.length ≤ 12 := fun h => by unfold pageB at h; simp at h; omega
  cases hb : pageB y m d l with
  | false =>
    rw [hb] at q0
    refine enter Tryz.func10 rfl rfl rfl (Hp := [Hl.rd v cT 6 l]) (fun h hm => by
      rcases List.mem_singleton.1 hm with rfl
      exact ⟨⟨hw0.1, fun h => by cases h⟩, rfl⟩) ?_
    repeat' (first
    | (refine YK.mk (y_callIn q0 (fun w hw => ⟨(hw.all (Hl.rd v cT 6 l) (by exact memA)).1, InT.keep hw0.2 hw.ext⟩) ⟨rfl, rfl⟩ (by decide +kernel)) ?_)
    | (refine nxV ?_)
    | (show RS _ _ _ _ _ _ _ _; first | (refine nxRS ?_) | (refine nxRS1 fun _ => ?_))
    | (show RM _ _ _ _ _ _ _ _ _ _; first | (refine nxRM ?_) | (refine nxRM1 fun _ => ?_))
    | (refine nxG ?_)
    | (refine nxX ?_)
    | (refine G.condN rfl (fun hc => ?_) (fun hc => ?_) <;> (try first | exact False.elim hc | (exfalso; omega))))
    exact X.ret (vs := [_, _]) rfl ⟨rfl, rfl, rfl⟩ rfl (fun w hw => ⟨rfl, hw.ext⟩)
  | true =>
    rw [hb] at q0
    have q1 := pfind_c (y := y) (m := m) (d := d) nm v l (by have := hl hb; omega)
    refine enter Tryz.func10 rfl rfl rfl (Hp := [Hl.rd v cT 6 l]) (fun h hm => by
      rcases List.mem_singleton.1 hm with rfl
      exact ⟨⟨hw0.1, fun h => by cases h⟩, rfl⟩) ?_
    generalize idxT l nm = k at q1
    by_cases hk : 0 ≤ k
    · rw [show findP true k = (k, 0) by unfold findP; rw [if_pos rfl, if_pos hk]]
      repeat' (first
    | (refine YK.mk (y_callIn q0 (fun w hw => ⟨(hw.all (Hl.rd v cT 6 l) (by exact memA)).1, InT.keep hw0.2 hw.ext⟩) ⟨rfl, rfl⟩ (by decide +kernel)) ?_)
    | (show YK _ _ _ _ _ _ _; first | refine YK.mk (y_callRA (q1) ⟨rfl, rfl, rfl⟩) ?_)
    | (show YK _ _ _ _ _ _ _; refine YK.ofV vAuto ?_)
    | (show VK _ _ _ _ _ _ _; refine VK.mk vAuto ?_)
    | (show RS _ _ _ _ _ _ _ _; first | (refine nxRS ?_) | (refine nxRS1 fun _ => ?_))
    | (show RM _ _ _ _ _ _ _ _ _ _; first | (refine nxRM ?_) | (refine nxRM1 fun _ => ?_))
    | (show YG _ _ _ _ _ _ _ _; refine YG.mk (fun hb => by (try (have hc := And.left hb; have hb := And.right hb; rw [hc])); (try rw [hb]); first | exact (y_callRA (q1) ⟨rfl, rfl, rfl⟩) | exact V.y vAuto) ?_)
    | (show VG _ _ _ _ _ _ _ _; refine VG.mk (fun hb => by (try (have hc := And.left hb; have hb := And.right hb; rw [hc])); (try rw [hb]); exact vAuto) ?_)
    | (refine nxX ?_)
    | (refine G.condN rfl (fun hc => ?_) (fun hc => ?_) <;> (try first | exact False.elim hc | (exfalso; omega))))
      exact X.ret (vs := [_, _]) rfl ⟨rfl, rfl, rfl⟩ rfl (fun w hw => ⟨rfl, hw.ext⟩)
    · rw [show findP true k = (0, 12) by unfold findP; rw [if_pos rfl, if_neg hk]]
      repeat' (first
    | (refine YK.mk (y_callIn q0 (fun w hw => ⟨(hw.all (Hl.rd v cT 6 l) (by exact memA)).1, InT.keep hw0.2 hw.ext⟩) ⟨rfl, rfl⟩ (by decide +kernel)) ?_)
    | (show YK _ _ _ _ _ _ _; first | refine YK.mk (y_callRA (q1) ⟨rfl, rfl, rfl⟩) ?_)
    | (show YK _ _ _ _ _ _ _; refine YK.ofV vAuto ?_)
    | (show VK _ _ _ _ _ _ _; refine VK.mk vAuto ?_)
    | (show RS _ _ _ _ _ _ _ _; first | (refine nxRS ?_) | (refine nxRS1 fun _ => ?_))
    | (show RM _ _ _ _ _ _ _ _ _ _; first | (refine nxRM ?_) | (refine nxRM1 fun _ => ?_))
    | (show YG _ _ _ _ _ _ _ _; refine YG.mk (fun hb => by (try (have hc := And.left hb; have hb := And.right hb; rw [hc])); (try rw [hb]); first | exact (y_callRA (q1) ⟨rfl, rfl, rfl⟩) | exact V.y vAuto) ?_)
    | (show VG _ _ _ _ _ _ _ _; refine VG.mk (fun hb => by (try (have hc := And.left hb; have hb := And.right hb; rw [hc])); (try rw [hb]); exact vAuto) ?_)
    | (refine nxX ?_)
    | (refine G.condN rfl (fun hc => ?_) (fun hc => ?_) <;> (try first | exact False.elim hc | (exfalso; omega))))
      exact X.ret (vs := [_, _]) rfl ⟨rfl, rfl, rfl⟩ rfl (fun w hw => ⟨rfl, hw.ext⟩)
theorem rfind_c {y m d : Int} (nm : List UInt8) (v : Value) (l : List TrkT) (hl : l.length ≤ 1000000) : ContR Tryz.prog [Hl.rd v cT 6 l] 15 [pgV y m d v, strV nm] (.int .i64 (idxT l nm)) := fun w hw0 => by
  refine enter Tryz.func15 rfl rfl rfl hw0 ?_
  repeat' (first
    | (refine nxV ?_)
    | (show RS _ _ _ _ _ _ _ _; first | (refine nxRS ?_) | (refine nxRS1 fun _ => ?_))
    | (show RM _ _ _ _ _ _ _ _ _ _; first | (refine nxRM ?_) | (refine nxRM1 fun _ => ?_))
    | (refine nxG ?_)
    | (refine nxX ?_)
    | (refine G.condN rfl (fun hc => ?_) (fun hc => ?_) <;> (try first | exact False.elim hc | (exfalso; omega))))
  rename_i b2
  refine G.loop (ι := Nat) (fun i => [(1, strV nm), (2, .pointer (some ⟨b2, 0, none⟩)), (5, .int .i64 (i : Int))]) (fun _ => [Hl.blk b2 26 [.int .i64 y, .int .i64 m, .int .i64 d, v], Hl.rd v cT 6 l]) (fun i => i ≤ l.length ∧ ∀ k : Nat, k < i → decide ((nth l (k : Int)).nm = nm) = false) (fun i => l.length - i) 0 ⟨by omega, fun k hk => by omega⟩ ⟨rfl, rfl, rfl, trivial⟩ (fun w h => h) ?_
  rintro i mx ⟨g1, g2⟩ hmx
  have hr : idxT l nm = match (List.range l.length).find? (fun i : Nat => decide ((nth l (i : Int)).nm = nm)) with
    | some k => (k : Int)
    | none => -1 := rfl
  rcases Nat.lt_or_ge i l.length with hi | hi
  · by_cases hb : (nth l (i : Int)).nm = nm
    · rw [findr_some hi g2 (decide_eq_true hb)] at hr
      repeat' (first
    | (show YK _ _ _ _ _ ⟨_, .call { callee := .builtin .len, args := _, argTypes := #[9] }, _, _, _, _⟩ _; refine YK.ofV (y_lenS (by rfl) StrTy.is) ?_)
    | (show VK _ _ _ _ _ ⟨_, .call { callee := .builtin .len, args := _, argTypes := #[9] }, _, _, _, _⟩ _; refine VK.mk (y_lenS (by rfl) StrTy.is) ?_)
    | (show YG _ _ _ _ _ _ ⟨_, .call { callee := .builtin .len, args := _, argTypes := #[9] }, _, _, _, _⟩ _; refine YG.mk (fun hb => by (try (have hc := And.left hb; have hb := And.right hb; rw [hc])); (try rw [hb]); exact V.y (y_lenS (by rfl) StrTy.is)) ?_)
    | (show VG _ _ _ _ _ _ ⟨_, .call { callee := .builtin .len, args := _, argTypes := #[9] }, _, _, _, _⟩ _; refine VG.mk (fun hb => by (try (have hc := And.left hb; have hb := And.right hb; rw [hc])); (try rw [hb]); exact y_lenS (by rfl) StrTy.is) ?_)
    | (exact absurd hb hc)
    | (refine nxV ?_)
    | (show RS _ _ _ _ _ _ _ _; first | (refine nxRS ?_) | (refine nxRS1 fun _ => ?_))
    | (show RM _ _ _ _ _ _ _ _ _ _; first | (refine nxRM ?_) | (refine nxRM1 fun _ => ?_))
    | (refine nxG ?_)
    | (refine nxVS ?_)
    | (refine nxGS ?_)
    | (refine nxX ?_)
    | (refine G.condN rfl (fun hc => ?_) (fun hc => ?_) <;> (try first | exact False.elim hc | (exfalso; omega))))
      exact X.ret (vs := [_]) rfl ⟨rfl, rfl⟩ rfl (fun w hw => ⟨ret_int hr.symm, hw.ext⟩)
    · repeat' (first
    | (show YK _ _ _ _ _ ⟨_, .call { callee := .builtin .len, args := _, argTypes := #[9] }, _, _, _, _⟩ _; refine YK.ofV (y_lenS (by rfl) StrTy.is) ?_)
    | (show VK _ _ _ _ _ ⟨_, .call { callee := .builtin .len, args := _, argTypes := #[9] }, _, _, _, _⟩ _; refine VK.mk (y_lenS (by rfl) StrTy.is) ?_)
    | (show YG _ _ _ _ _ _ ⟨_, .call { callee := .builtin .len, args := _, argTypes := #[9] }, _, _, _, _⟩ _; refine YG.mk (fun hb => by (try (have hc := And.left hb; have hb := And.right hb; rw [hc])); (try rw [hb]); exact V.y (y_lenS (by rfl) StrTy.is)) ?_)
    | (show VG _ _ _ _ _ _ ⟨_, .call { callee := .builtin .len, args := _, argTypes := #[9] }, _, _, _, _⟩ _; refine VG.mk (fun hb => by (try (have hc := And.left hb; have hb := And.right hb; rw [hc])); (try rw [hb]); exact y_lenS (by rfl) StrTy.is) ?_)
    | (exact absurd hc hb)
    | (refine nxV ?_)
    | (show RS _ _ _ _ _ _ _ _; first | (refine nxRS ?_) | (refine nxRS1 fun _ => ?_))
    | (show RM _ _ _ _ _ _ _ _ _ _; first | (refine nxRM ?_) | (refine nxRM1 fun _ => ?_))
    | (refine nxG ?_)
    | (refine nxVS ?_)
    | (refine nxGS ?_)
    | (refine nxX ?_)
    | (refine G.condN rfl (fun hc => ?_) (fun hc => ?_) <;> (try first | exact False.elim hc | (exfalso; omega))))
      refine X.again (i + 1) ⟨by omega, fun k hk => ?_⟩ (by omega) ⟨rfl, rfl, rfl, trivial⟩ (by exact fun w h => h.sub (by repeat (first | exact List.Sublist.refl _ | apply List.Sublist.cons_cons | apply List.Sublist.cons)))
      rcases Nat.lt_or_ge k i with h | h
      · exact g2 k h
      · rw [show k = i by omega]; exact decide_eq_false hb
  · repeat' (first
    | (refine nxV ?_)
    | (show RS _ _ _ _ _ _ _ _; first | (refine nxRS ?_) | (refine nxRS1 fun _ => ?_))
    | (show RM _ _ _ _ _ _ _ _ _ _; first | (refine nxRM ?_) | (refine nxRM1 fun _ => ?_))
    | (refine nxG ?_)
    | (refine nxX ?_)
    | (refine G.condN rfl (fun hc => ?_) (fun hc => ?_) <;> (try first | exact False.elim hc | (exfalso; omega))))
    rw [findr_none (fun k hk => g2 k (by omega))] at hr
    exact X.ret (vs := [_]) rfl ⟨rfl, rfl⟩ rfl (fun w hw => ⟨ret_int hr.symm, hw.ext⟩)
end Go.Proofs.YtpekkcahehhkmaaGreatDoor
/- Pages: Entry; angles; the reference's Gha and Dec. -/
set_option linter.unusedVariables false
set_option maxHeartbeats 4000000
namespace Go.Proofs.YtpekkcahehhkmaaGreatDoor
open Go.RowKit

abbrev arcV (lo hi : Int) : Value := .agg [.int .i64 lo, .int .i64 hi].toArray
theorem floor_eq {n d : Int} (h : 0 < d) : (n.tmod d < 0 → n.tdiv d - 1 = n / d ∧ n.tmod d + d = n % d ∧ n < 0) ∧ (0 ≤ n.tmod d → n.tdiv d = n / d ∧ n.tmod d = n % d) := by
  have e1 := Int.tdiv_eq_ediv (a := n) (b := d)
  have e2 := Int.tmod_eq_emod (a := n) (b := d)
  have e3 := Int.emod_nonneg n (show d ≠ 0 by omega)
  have e4 := Int.emod_lt_of_pos n h
  have e5 := Int.sign_eq_one_of_pos h
  by_cases hc : 0 ≤ n ∨ d ∣ n
  · rw [if_pos hc] at e1 e2
    exact ⟨fun g => by omega, fun _ => by omega⟩
  · rw [if_neg hc] at e1 e2
    have hn : n < 0 := Int.not_le.1 fun g => hc (.inl g)
    exact ⟨fun _ => by omega, fun g => by omega⟩
theorem wrap_tm {n : Int} : (n.tmod 21600000 < 0 → n.tmod 21600000 + 21600000 = n % 21600000) ∧ (0 ≤ n.tmod 21600000 → n.tmod 21600000 = n % 21600000) :=
  ⟨fun h => ((floor_eq (by decide)).1 h).2.1, fun h => ((floor_eq (by decide)).2 h).2⟩
theorem wrap_bd (n : Int) : 0 ≤ n % 21600000 ∧ n % 21600000 < 21600000 := ⟨Int.emod_nonneg _ (by decide), Int.emod_lt_of_pos _ (by decide)⟩
theorem awrap_c {n : Int} (h : -9000000000000000000 ≤ n ∧ n ≤ 9000000000000000000) : Cont Tryz.prog 21 [.int .i64 n] (.int .i64 (n % 21600000)) := fun w => by
  have e := wrap_tm (n := n)
  have hb := wrap_bd n
  refine enter0 Tryz.func21 rfl rfl rfl ?_
  repeat' (first
    | (refine nxV ?_)
    | (show RS _ _ _ _ _ _ _ _; first | (refine nxRS ?_) | (refine nxRS1 fun _ => ?_))
    | (show RM _ _ _ _ _ _ _ _ _ _; first | (refine nxRM ?_) | (refine nxRM1 fun _ => ?_))
    | (refine nxG ?_)
    | (refine nxX ?_)
    | (refine G.condN rfl (fun hc => ?_) (fun hc => ?_) <;> (try first | exact False.elim hc | (exfalso; omega))))
  all_goals exact X.ret (vs := [_]) rfl ⟨rfl, rfl⟩ rfl (fun w hw => ⟨ret_int (by first | exact e.2 hc | (rw [IntWalk.i64_in _ (by have := e.1 hc; omega)]; exact e.1 hc) | exact e.1 hc), hw.ext⟩)
theorem rwrap_c {n : Int} (h : -9000000000000000000 ≤ n ∧ n ≤ 9000000000000000000) : Cont Tryz.prog 76 [.int .i64 n] (.int .i64 (n % 21600000)) := fun w => by
  have e := wrap_tm (n := n)
  have hb := wrap_bd n
  refine enter0 Tryz.func76 rfl rfl rfl ?_
  repeat' (first
    | (refine nxV ?_)
    | (show RS _ _ _ _ _ _ _ _; first | (refine nxRS ?_) | (refine nxRS1 fun _ => ?_))
    | (show RM _ _ _ _ _ _ _ _ _ _; first | (refine nxRM ?_) | (refine nxRM1 fun _ => ?_))
    | (refine nxG ?_)
    | (refine nxX ?_)
    | (refine G.condN rfl (fun hc => ?_) (fun hc => ?_) <;> (try first | exact False.elim hc | (exfalso; omega))))
  all_goals exact X.ret (vs := [_]) rfl ⟨rfl, rfl⟩ rfl (fun w hw => ⟨ret_int (by first | exact e.2 hc | (rw [IntWalk.i64_in _ (by have := e.1 hc; omega)]; exact e.1 hc) | exact e.1 hc), hw.ext⟩)
def fitB (n : Int) : Bool := decide (-1099511627776 ≤ n) && decide (n ≤ 1099511627776)
theorem fitsB_c (n : Int) : Cont Tryz.prog 78 [.int .i64 n] (.bool (fitB n)) := fun w => by
  refine enter0 Tryz.func78 rfl rfl rfl ?_
  repeat' (first
    | (refine nxV ?_)
    | (show RS _ _ _ _ _ _ _ _; first | (refine nxRS ?_) | (refine nxRS1 fun _ => ?_))
    | (show RM _ _ _ _ _ _ _ _ _ _; first | (refine nxRM ?_) | (refine nxRM1 fun _ => ?_))
    | (refine nxG ?_)
    | (refine nxX ?_)
    | (refine G.condN rfl (fun hc => ?_) (fun hc => ?_) <;> (try first | exact False.elim hc | (exfalso; omega))))
  exact X.ret (vs := [_]) rfl ⟨rfl, rfl⟩ rfl (fun w hw => ⟨rfl, hw.ext⟩)
def arcB (lo hi : Int) : Bool := decide (lo ≤ hi) && fitB lo && fitB hi
theorem arcB_t {lo hi : Int} (h : lo ≤ hi ∧ -1099511627776 ≤ lo ∧ hi ≤ 1099511627776) : arcB lo hi = true := by
  unfold arcB fitB; simp; omega
theorem avalid_c (lo hi : Int) : Cont Tryz.prog 50 [arcV lo hi] (.bool (arcB lo hi)) := fun w => by
  have q1 := fitsB_c lo
  have q2 := fitsB_c hi
  unfold arcB
  generalize fitB lo = c1 at q1
  generalize fitB hi = c2 at q2
  refine enter0 Tryz.func50 rfl rfl rfl ?_
  repeat' (first
    | (show YK _ _ _ _ _ _ _; first | refine YK.mk (y_callA (q1) ⟨rfl, rfl⟩) ?_ | refine YK.mk (y_callA (q2) ⟨rfl, rfl⟩) ?_)
    | (show YK _ _ _ _ _ _ _; refine YK.ofV vAuto ?_)
    | (show VK _ _ _ _ _ _ _; refine VK.mk vAuto ?_)
    | (show RS _ _ _ _ _ _ _ _; first | (refine nxRS ?_) | (refine nxRS1 fun _ => ?_))
    | (show RM _ _ _ _ _ _ _ _ _ _; first | (refine nxRM ?_) | (refine nxRM1 fun _ => ?_))
    | (show YG _ _ _ _ _ _ _ _; refine YG.mk (fun hb => by (try (have hc := And.left hb; have hb := And.right hb; rw [hc])); (try rw [hb]); first | exact (y_callA (q1) ⟨rfl, rfl⟩) | exact (y_callA (q2) ⟨rfl, rfl⟩) | exact V.y vAuto) ?_)
    | (show VG _ _ _ _ _ _ _ _; refine VG.mk (fun hb => by (try (have hc := And.left hb; have hb := And.right hb; rw [hc])); (try rw [hb]); exact vAuto) ?_)
    | (refine nxX ?_)
    | (refine G.condN rfl (fun hc => ?_) (fun hc => ?_) <;> (try first | exact False.elim hc | (exfalso; omega))))
  exact X.ret (vs := [_]) rfl ⟨rfl, rfl⟩ rfl (fun w hw => ⟨rfl, hw.ext⟩)
theorem rarcValid_c {lo hi : Int} (h : lo ≤ hi ∧ -1099511627776 ≤ lo ∧ hi ≤ 1099511627776) : Cont Tryz.prog 19 [arcV lo hi] (.bool true) := fun w => by
  refine enter0 Tryz.func19 rfl rfl rfl ?_
  repeat' (first
    | (refine nxV ?_)
    | (show RS _ _ _ _ _ _ _ _; first | (refine nxRS ?_) | (refine nxRS1 fun _ => ?_))
    | (show RM _ _ _ _ _ _ _ _ _ _; first | (refine nxRM ?_) | (refine nxRM1 fun _ => ?_))
    | (refine nxG ?_)
    | (refine nxX ?_)
    | (refine G.condN rfl (fun hc => ?_) (fun hc => ?_) <;> (try first | exact False.elim hc | (exfalso; omega))))
  exact X.ret (vs := [_]) rfl ⟨rfl, rfl⟩ rfl (fun w hw => ⟨ret_bool (by simp; omega), hw.ext⟩)
theorem around_c {n : Int} (h : -1000000 ≤ n ∧ n ≤ 1000000) : Cont Tryz.prog 46 [.int .i64 n] (arcV (100 * n - 50) (100 * n + 50)) := fun w => by
  refine enter0 Tryz.func46 rfl rfl rfl ?_
  repeat' (first
    | (refine nxV ?_)
    | (show RS _ _ _ _ _ _ _ _; first | (refine nxRS ?_) | (refine nxRS1 fun _ => ?_))
    | (show RM _ _ _ _ _ _ _ _ _ _; first | (refine nxRM ?_) | (refine nxRM1 fun _ => ?_))
    | (refine nxG ?_)
    | (refine nxX ?_)
    | (refine G.condN rfl (fun hc => ?_) (fun hc => ?_) <;> (try first | exact False.elim hc | (exfalso; omega))))
  exact X.ret (vs := [_]) rfl ⟨⟨_, _, _, _, rfl, (by exact memA), (by (repeat (first | exact .nil | apply LenIs.cons))), by decide +kernel, rfl⟩, rfl⟩ rfl (fun w hw => ⟨rfl, hw.ext⟩)
theorem raround_c {n : Int} (h : -1000000 ≤ n ∧ n ≤ 1000000) : Cont Tryz.prog 48 [.int .i64 n] (arcV (100 * n - 50) (100 * n + 50)) := fun w => by
  refine enter0 Tryz.func48 rfl rfl rfl ?_
  repeat' (first
    | (refine nxV ?_)
    | (show RS _ _ _ _ _ _ _ _; first | (refine nxRS ?_) | (refine nxRS1 fun _ => ?_))
    | (show RM _ _ _ _ _ _ _ _ _ _; first | (refine nxRM ?_) | (refine nxRM1 fun _ => ?_))
    | (refine nxG ?_)
    | (refine nxX ?_)
    | (refine G.condN rfl (fun hc => ?_) (fun hc => ?_) <;> (try first | exact False.elim hc | (exfalso; omega))))
  exact X.ret (vs := [_]) rfl ⟨⟨_, _, _, _, rfl, (by exact memA), (by (repeat (first | exact .nil | apply LenIs.cons))), by decide +kernel, rfl⟩, rfl⟩ rfl (fun w hw => ⟨rfl, hw.ext⟩)
theorem turn_c {lo hi u : Int} (h : (lo ≤ hi ∧ -1099511627776 ≤ lo ∧ hi ≤ 1099511627776) ∧ hi - lo = u ∧ u < 21600000) : Cont Tryz.prog 45 [arcV lo hi] (.tuple [arcV (lo % 21600000) (lo % 21600000 + u), .int .i64 0].toArray) := fun w => by
  have q1 := avalid_c lo hi
  rw [arcB_t h.1] at q1
  have q2 := awrap_c (n := lo) (by omega)
  have hb := wrap_bd lo
  have hu := h.2.1
  refine enter0 Tryz.func45 rfl rfl rfl ?_
  generalize lo % 21600000 = r at q2 hb
  repeat' (first
    | (show YK _ _ _ _ _ _ _; first | refine YK.mk (y_callA (q1) ⟨rfl, rfl⟩) ?_ | refine YK.mk (y_callA (q2) ⟨rfl, rfl⟩) ?_)
    | (show YK _ _ _ _ _ _ _; refine YK.ofV vAuto ?_)
    | (show VK _ _ _ _ _ _ _; refine VK.mk vAuto ?_)
    | (show RS _ _ _ _ _ _ _ _; first | (refine nxRS ?_) | (refine nxRS1 fun _ => ?_))
    | (show RM _ _ _ _ _ _ _ _ _ _; first | (refine nxRM ?_) | (refine nxRM1 fun _ => ?_))
    | (show YG _ _ _ _ _ _ _ _; refine YG.mk (fun hb => by (try (have hc := And.left hb; have hb := And.right hb; rw [hc])); (try rw [hb]); first | exact (y_callA (q1) ⟨rfl, rfl⟩) | exact (y_callA (q2) ⟨rfl, rfl⟩) | exact V.y vAuto) ?_)
    | (show VG _ _ _ _ _ _ _ _; refine VG.mk (fun hb => by (try (have hc := And.left hb; have hb := And.right hb; rw [hc])); (try rw [hb]); exact vAuto) ?_)
    | (refine nxX ?_)
    | (refine G.condN rfl (fun hc => ?_) (fun hc => ?_) <;> (try first | exact False.elim hc | (exfalso; omega))))
  rw [← hu]
  exact X.ret (vs := [_, _]) rfl ⟨⟨_, _, _, _, rfl, (by exact memA), (by (repeat (first | exact .nil | apply LenIs.cons))), by decide +kernel, rfl⟩, rfl, rfl⟩ rfl (fun w hw => ⟨rfl, hw.ext⟩)
theorem rturn_c {lo hi u : Int} (h : (lo ≤ hi ∧ -1099511627776 ≤ lo ∧ hi ≤ 1099511627776) ∧ hi - lo = u ∧ u < 21600000) : Cont Tryz.prog 47 [arcV lo hi] (arcV (lo % 21600000) (lo % 21600000 + u)) := fun w => by
  have q2 := rwrap_c (n := lo) (by omega)
  have hb := wrap_bd lo
  have hu := h.2.1
  refine enter0 Tryz.func47 rfl rfl rfl ?_
  generalize lo % 21600000 = r at q2 hb
  repeat' (first
    | (show YK _ _ _ _ _ _ _; first | refine YK.mk (y_callA (q2) ⟨rfl, rfl⟩) ?_)
    | (show YK _ _ _ _ _ _ _; refine YK.ofV vAuto ?_)
    | (show VK _ _ _ _ _ _ _; refine VK.mk vAuto ?_)
    | (show RS _ _ _ _ _ _ _ _; first | (refine nxRS ?_) | (refine nxRS1 fun _ => ?_))
    | (show RM _ _ _ _ _ _ _ _ _ _; first | (refine nxRM ?_) | (refine nxRM1 fun _ => ?_))
    | (show YG _ _ _ _ _ _ _ _; refine YG.mk (fun hb => by (try (have hc := And.left hb; have hb := And.right hb; rw [hc])); (try rw [hb]); first | exact (y_callA (q2) ⟨rfl, rfl⟩) | exact V.y vAuto) ?_)
    | (show VG _ _ _ _ _ _ _ _; refine VG.mk (fun hb => by (try (have hc := And.left hb; have hb := And.right hb; rw [hc])); (try rw [hb]); exact vAuto) ?_)
    | (refine nxX ?_)
    | (refine G.condN rfl (fun hc => ?_) (fun hc => ?_) <;> (try first | exact False.elim hc | (exfalso; omega))))
  rw [← hu]
  exact X.ret (vs := [_]) rfl ⟨⟨_, _, _, _, rfl, (by exact memA), (by (repeat (first | exact .nil | apply LenIs.cons))), by decide +kernel, rfl⟩, rfl⟩ rfl (fun w hw => ⟨rfl, hw.ext⟩)
theorem rgha_c {n : Int} (h : -1000000 ≤ n ∧ n ≤ 1000000) : Cont Tryz.prog 17 [.int .i64 n] (arcV ((100 * n - 50) % 21600000) ((100 * n - 50) % 21600000 + 100)) := fun w => by
  have q1 := raround_c h
  have q2 := rturn_c (lo := 100 * n - 50) (hi := 100 * n + 50) (u := 100) (by omega)
  refine enter0 Tryz.func17 rfl rfl rfl ?_
  repeat' (first
    | (show YK _ _ _ _ _ _ _; first | refine YK.mk (y_callA (q1) ⟨rfl, rfl⟩) ?_ | refine YK.mk (y_callA (q2) ⟨rfl, rfl⟩) ?_)
    | (show YK _ _ _ _ _ _ _; refine YK.ofV vAuto ?_)
    | (show VK _ _ _ _ _ _ _; refine VK.mk vAuto ?_)
    | (show RS _ _ _ _ _ _ _ _; first | (refine nxRS ?_) | (refine nxRS1 fun _ => ?_))
    | (show RM _ _ _ _ _ _ _ _ _ _; first | (refine nxRM ?_) | (refine nxRM1 fun _ => ?_))
    | (show YG _ _ _ _ _ _ _ _; refine YG.mk (fun hb => by (try (have hc := And.left hb; have hb := And.right hb; rw [hc])); (try rw [hb]); first | exact (y_callA (q1) ⟨rfl, rfl⟩) | exact (y_callA (q2) ⟨rfl, rfl⟩) | exact V.y vAuto) ?_)
    | (show VG _ _ _ _ _ _ _ _; refine VG.mk (fun hb => by (try (have hc := And.left hb; have hb := And.right hb; rw [hc])); (try rw [hb]); exact vAuto) ?_)
    | (refine nxX ?_)
    | (refine G.condN rfl (fun hc => ?_) (fun hc => ?_) <;> (try first | exact False.elim hc | (exfalso; omega))))
  exact X.ret (vs := [_]) rfl ⟨⟨_, _, _, _, rfl, (by exact memA), (by (repeat (first | exact .nil | apply LenIs.cons))), by decide +kernel, rfl⟩, rfl⟩ rfl (fun w hw => ⟨rfl, hw.ext⟩)
theorem rmeet_c {a b c d : Int} : Cont Tryz.prog 77 [arcV a b, arcV c d] (arcV (max a c) (min b d)) := fun w => by
  by_cases h1 : a < c
  · by_cases h2 : d < b
    · rw [show max a c = c by omega, show min b d = d by omega]
      refine enter0 Tryz.func77 rfl rfl rfl ?_
      repeat' (first
    | (refine nxV ?_)
    | (show RS _ _ _ _ _ _ _ _; first | (refine nxRS ?_) | (refine nxRS1 fun _ => ?_))
    | (show RM _ _ _ _ _ _ _ _ _ _; first | (refine nxRM ?_) | (refine nxRM1 fun _ => ?_))
    | (refine nxG ?_)
    | (refine nxX ?_)
    | (refine G.condN rfl (fun hc => ?_) (fun hc => ?_) <;> (try first | exact False.elim hc | (exfalso; omega))))
      exact X.ret (vs := [_]) rfl ⟨⟨_, _, _, _, rfl, (by exact memA), (by (repeat (first | exact .nil | apply LenIs.cons))), by decide +kernel, rfl⟩, rfl⟩ rfl (fun w hw => ⟨rfl, hw.ext⟩)
    · rw [show max a c = c by omega, show min b d = b by omega]
      refine enter0 Tryz.func77 rfl rfl rfl ?_
      repeat' (first
    | (refine nxV ?_)
    | (show RS _ _ _ _ _ _ _ _; first | (refine nxRS ?_) | (refine nxRS1 fun _ => ?_))
    | (show RM _ _ _ _ _ _ _ _ _ _; first | (refine nxRM ?_) | (refine nxRM1 fun _ => ?_))
    | (refine nxG ?_)
    | (refine nxX ?_)
    | (refine G.condN rfl (fun hc => ?_) (fun hc => ?_) <;> (try first | exact False.elim hc | (exfalso; omega))))
      exact X.ret (vs := [_]) rfl ⟨⟨_, _, _, _, rfl, (by exact memA), (by (repeat (first | exact .nil | apply LenIs.cons))), by decide +kernel, rfl⟩, rfl⟩ rfl (fun w hw => ⟨rfl, hw.ext⟩)
  · by_cases h2 : d < b
    · rw [show max a c = a by omega, show min b d = d by omega]
      refine enter0 Tryz.func77 rfl rfl rfl ?_
      repeat' (first
    | (refine nxV ?_)
    | (show RS _ _ _ _ _ _ _ _; first | (refine nxRS ?_) | (refine nxRS1 fun _ => ?_))
    | (show RM _ _ _ _ _ _ _ _ _ _; first | (refine nxRM ?_) | (refine nxRM1 fun _ => ?_))
    | (refine nxG ?_)
    | (refine nxX ?_)
    | (refine G.condN rfl (fun hc => ?_) (fun hc => ?_) <;> (try first | exact False.elim hc | (exfalso; omega))))
      exact X.ret (vs := [_]) rfl ⟨⟨_, _, _, _, rfl, (by exact memA), (by (repeat (first | exact .nil | apply LenIs.cons))), by decide +kernel, rfl⟩, rfl⟩ rfl (fun w hw => ⟨rfl, hw.ext⟩)
    · rw [show max a c = a by omega, show min b d = b by omega]
      refine enter0 Tryz.func77 rfl rfl rfl ?_
      repeat' (first
    | (refine nxV ?_)
    | (show RS _ _ _ _ _ _ _ _; first | (refine nxRS ?_) | (refine nxRS1 fun _ => ?_))
    | (show RM _ _ _ _ _ _ _ _ _ _; first | (refine nxRM ?_) | (refine nxRM1 fun _ => ?_))
    | (refine nxG ?_)
    | (refine nxX ?_)
    | (refine G.condN rfl (fun hc => ?_) (fun hc => ?_) <;> (try first | exact False.elim hc | (exfalso; omega))))
      exact X.ret (vs := [_]) rfl ⟨⟨_, _, _, _, rfl, (by exact memA), (by (repeat (first | exact .nil | apply LenIs.cons))), by decide +kernel, rfl⟩, rfl⟩ rfl (fun w hw => ⟨rfl, hw.ext⟩)
theorem rlat_c {a b : Int} : Cont Tryz.prog 49 [arcV a b] (arcV (max a (-5400000)) (min b 5400000)) := fun w => by
  have q1 := rmeet_c (a := a) (b := b) (c := -5400000) (d := 5400000)
  refine enter0 Tryz.func49 rfl rfl rfl ?_
  repeat' (first
    | (show YK _ _ _ _ _ _ _; first | refine YK.mk (y_callA (q1) ⟨rfl, rfl, rfl⟩) ?_)
    | (show YK _ _ _ _ _ _ _; refine YK.ofV vAuto ?_)
    | (show VK _ _ _ _ _ _ _; refine VK.mk vAuto ?_)
    | (show RS _ _ _ _ _ _ _ _; first | (refine nxRS ?_) | (refine nxRS1 fun _ => ?_))
    | (show RM _ _ _ _ _ _ _ _ _ _; first | (refine nxRM ?_) | (refine nxRM1 fun _ => ?_))
    | (show YG _ _ _ _ _ _ _ _; refine YG.mk (fun hb => by (try (have hc := And.left hb; have hb := And.right hb; rw [hc])); (try rw [hb]); first | exact (y_callA (q1) ⟨rfl, rfl, rfl⟩) | exact V.y vAuto) ?_)
    | (show VG _ _ _ _ _ _ _ _; refine VG.mk (fun hb => by (try (have hc := And.left hb; have hb := And.right hb; rw [hc])); (try rw [hb]); exact vAuto) ?_)
    | (refine nxX ?_)
    | (refine G.condN rfl (fun hc => ?_) (fun hc => ?_) <;> (try first | exact False.elim hc | (exfalso; omega))))
  exact X.ret (vs := [_]) rfl ⟨⟨_, _, _, _, rfl, (by exact memA), (by (repeat (first | exact .nil | apply LenIs.cons))), by decide +kernel, rfl⟩, rfl⟩ rfl (fun w hw => ⟨rfl, hw.ext⟩)
theorem rdec_c {n : Int} (h : -1000000 ≤ n ∧ n ≤ 1000000) : Cont Tryz.prog 18 [.int .i64 n] (arcV (max (100 * n - 50) (-5400000)) (min (100 * n + 50) 5400000)) := fun w => by
  have q1 := raround_c h
  have q2 := rlat_c (a := 100 * n - 50) (b := 100 * n + 50)
  refine enter0 Tryz.func18 rfl rfl rfl ?_
  repeat' (first
    | (show YK _ _ _ _ _ _ _; first | refine YK.mk (y_callA (q1) ⟨rfl, rfl⟩) ?_ | refine YK.mk (y_callA (q2) ⟨rfl, rfl⟩) ?_)
    | (show YK _ _ _ _ _ _ _; refine YK.ofV vAuto ?_)
    | (show VK _ _ _ _ _ _ _; refine VK.mk vAuto ?_)
    | (show RS _ _ _ _ _ _ _ _; first | (refine nxRS ?_) | (refine nxRS1 fun _ => ?_))
    | (show RM _ _ _ _ _ _ _ _ _ _; first | (refine nxRM ?_) | (refine nxRM1 fun _ => ?_))
    | (show YG _ _ _ _ _ _ _ _; refine YG.mk (fun hb => by (try (have hc := And.left hb; have hb := And.right hb; rw [hc])); (try rw [hb]); first | exact (y_callA (q1) ⟨rfl, rfl⟩) | exact (y_callA (q2) ⟨rfl, rfl⟩) | exact V.y vAuto) ?_)
    | (show VG _ _ _ _ _ _ _ _; refine VG.mk (fun hb => by (try (have hc := And.left hb; have hb := And.right hb; rw [hc])); (try rw [hb]); exact vAuto) ?_)
    | (refine nxX ?_)
    | (refine G.condN rfl (fun hc => ?_) (fun hc => ?_) <;> (try first | exact False.elim hc | (exfalso; omega))))
  exact X.ret (vs := [_]) rfl ⟨⟨_, _, _, _, rfl, (by exact memA), (by (repeat (first | exact .nil | apply LenIs.cons))), by decide +kernel, rfl⟩, rfl⟩ rfl (fun w hw => ⟨rfl, hw.ext⟩)
theorem agree_c {a b c d : Int} (h : (a ≤ b ∧ -1099511627776 ≤ a ∧ b ≤ 1099511627776) ∧ c ≤ d ∧ -1099511627776 ≤ c ∧ d ≤ 1099511627776) : Cont Tryz.prog 20 [arcV a b, arcV c d] (.tuple [.bool (decide ((c - a) % 21600000 ≤ b - a) || decide ((a - c) % 21600000 ≤ d - c)), .int .i64 0].toArray) := fun w => by
  have q1 := avalid_c a b
  have q2 := avalid_c c d
  rw [arcB_t h.1] at q1
  rw [arcB_t h.2] at q2
  have q3 := awrap_c (n := c - a) (by omega)
  have q4 := awrap_c (n := a - c) (by omega)
  have b1 := wrap_bd (c - a)
  have b2 := wrap_bd (a - c)
  refine enter0 Tryz.func20 rfl rfl rfl ?_
  generalize (c - a) % 21600000 = r1 at q3 b1
  generalize (a - c) % 21600000 = r2 at q4 b2
  repeat' (first
    | (show YK _ _ _ _ _ _ _; first | refine YK.mk (y_callA (q1) ⟨rfl, rfl⟩) ?_ | refine YK.mk (y_callA (q2) ⟨rfl, rfl⟩) ?_ | refine YK.mk (y_callA (q3) ⟨rfl, rfl⟩) ?_ | refine YK.mk (y_callA (q4) ⟨rfl, rfl⟩) ?_)
    | (show YK _ _ _ _ _ _ _; refine YK.ofV vAuto ?_)
    | (show VK _ _ _ _ _ _ _; refine VK.mk vAuto ?_)
    | (show RS _ _ _ _ _ _ _ _; first | (refine nxRS ?_) | (refine nxRS1 fun _ => ?_))
    | (show RM _ _ _ _ _ _ _ _ _ _; first | (refine nxRM ?_) | (refine nxRM1 fun _ => ?_))
    | (show YG _ _ _ _ _ _ _ _; refine YG.mk (fun hb => by (try (have hc := And.left hb; have hb := And.right hb; rw [hc])); (try rw [hb]); first | exact (y_callA (q1) ⟨rfl, rfl⟩) | exact (y_callA (q2) ⟨rfl, rfl⟩) | exact (y_callA (q3) ⟨rfl, rfl⟩) | exact (y_callA (q4) ⟨rfl, rfl⟩) | exact V.y vAuto) ?_)
    | (show VG _ _ _ _ _ _ _ _; refine VG.mk (fun hb => by (try (have hc := And.left hb; have hb := And.right hb; rw [hc])); (try rw [hb]); exact vAuto) ?_)
    | (refine G.mixedA 3 [.go 0, .go 1, .go 2, .go 3, .go 4, .go 6, .go 7, .go 8, .go 9, .go 10, .go 5, .go 11, .go 12, .go 13, .go 14, .go 15, .go 16, .go 17, .go 19, .go 20, .go 21, .go 22, .go 23, .go 18, .go 24, .go 25, .go 26, .go 27] ?_)
    | (refine nxX ?_)
    | (refine G.condN rfl (fun hc => ?_) (fun hc => ?_) <;> (try first | exact False.elim hc | (exfalso; omega))))
  exact X.ret (vs := [_, _]) rfl ⟨rfl, rfl, rfl⟩ rfl (fun w hw => ⟨rfl, hw.ext⟩)
end Go.Proofs.YtpekkcahehhkmaaGreatDoor
/- Pages: Entry. -/
set_option linter.unusedVariables false
set_option maxHeartbeats 4000000
namespace Go.Proofs.YtpekkcahehhkmaaGreatDoor
open Go.RowKit

abbrev entV (a b c d e : Int) : Value := .tuple [arcV a b, arcV c d, .int .i64 e].toArray
theorem page_tr {y m d : Int} {l : List TrkT} (h : pageB y m d l = true) {i : Nat} (hi : i < l.length) : l.length ≤ 12 ∧ okT (nth l (i : Int)) = true := by
  unfold pageB at h
  simp only [Bool.and_eq_true, decide_eq_true_eq] at h
  refine ⟨by omega, ?_⟩
  have := h.2
  unfold tracksOk at this
  rw [List.all_eq_true] at this
  have := this i (List.mem_range.2 hi)
  unfold trkOk at this
  simp only [Bool.and_eq_true] at this
  exact this.1
theorem inB_nth {l : List Int} {lo up : Int} (h : inB l lo up = true) {i : Int} (hi : 0 ≤ i ∧ i < l.length) : lo ≤ nth l i ∧ nth l i ≤ up := by
  unfold inB at h
  rw [List.all_eq_true] at h
  have e := nth_some (l := l) (m := i) hi.1 hi.2
  have := h _ (List.mem_of_getElem? e)
  simpa using this
theorem okT_parts {t : TrkT} (h : okT t = true) : nameB t.nm = true ∧ t.gl.length = 25 ∧ t.dl.length = 25 ∧ inB t.gl 0 215999 = true ∧ inB t.dl (-54000) 54000 = true ∧ (0 ≤ t.se ∧ t.se ≤ 200) ∧ (0 ≤ t.pa ∧ t.pa ≤ 620) ∧ 0 ≤ t.be ∧ t.be ≤ 1000 := by
  unfold okT inB at h
  simp only [Bool.and_eq_true, decide_eq_true_eq, List.all_cons, List.all_nil, Bool.and_true] at h
  unfold inB
  exact ⟨h.1.1.1.1.1.1.1, by omega, by omega, h.1.1.1.1.2, h.1.1.1.2, h.1.1.2, h.1.2, h.2⟩
theorem pent_e {y m d : Int} {v : Value} {l : List TrkT} {nm : List UInt8} {hour e : Int} (q0 : ContIn Tryz.prog (PgP v l) 10 [pgV y m d v, strV nm] (.tuple [.int .i64 0, .int .i64 e].toArray)) (he : e = 1 ∨ e = 12) : ContIn Tryz.prog (PgP v l) 16 [pgV y m d v, strV nm, .int .i64 hour] (entV 0 0 0 0 e) := fun w hw0 => by
  refine enter Tryz.func16 rfl rfl rfl (Hp := [Hl.rd v cT 6 l]) (fun h hm => by
    rcases List.mem_singleton.1 hm with rfl
    exact ⟨⟨hw0.1, fun h => by cases h⟩, rfl⟩) ?_
  repeat' (first
    | (refine YK.mk (y_callIn q0 (fun w hw => ⟨(hw.all (Hl.rd v cT 6 l) (by exact memA)).1, InT.keep hw0.2 hw.ext⟩) ⟨rfl, rfl, rfl⟩ (by decide +kernel)) ?_)
    | (refine nxV ?_)
    | (show RS _ _ _ _ _ _ _ _; first | (refine nxRS ?_) | (refine nxRS1 fun _ => ?_))
    | (show RM _ _ _ _ _ _ _ _ _ _; first | (refine nxRM ?_) | (refine nxRM1 fun _ => ?_))
    | (refine nxG ?_)
    | (refine G.mixedA 10 [.go 0, .go 1, .go 2, .go 3, .go 4, .go 5, .go 6, .go 7, .go 8, .go 9, .go 10] ?_)
    | (refine nxX ?_)
    | (refine G.condN rfl (fun hc => ?_) (fun hc => ?_) <;> (try first | exact False.elim hc | (exfalso; omega))))
  exact X.ret (vs := [_, _, _]) rfl ⟨⟨_, _, _, _, rfl, (by exact memA), (by (repeat (first | exact .nil | apply LenIs.cons))), by decide +kernel, rfl⟩, ⟨_, _, _, _, rfl, (by exact memA), (by (repeat (first | exact .nil | apply LenIs.cons))), by decide +kernel, rfl⟩, rfl, rfl⟩ rfl (fun w hw => ⟨rfl, hw.ext⟩)
theorem pent_h {y m d : Int} {v : Value} {l : List TrkT} {nm : List UInt8} {hour : Int} {k : Nat} (q0 : ContIn Tryz.prog (PgP v l) 10 [pgV y m d v, strV nm] (.tuple [.int .i64 (k : Int), .int .i64 0].toArray)) (hh : hour < 0 ∨ 24 < hour) : ContIn Tryz.prog (PgP v l) 16 [pgV y m d v, strV nm, .int .i64 hour] (entV 0 0 0 0 2) := fun w hw0 => by
  refine enter Tryz.func16 rfl rfl rfl (Hp := [Hl.rd v cT 6 l]) (fun h hm => by
    rcases List.mem_singleton.1 hm with rfl
    exact ⟨⟨hw0.1, fun h => by cases h⟩, rfl⟩) ?_
  repeat' (first
    | (refine YK.mk (y_callIn q0 (fun w hw => ⟨(hw.all (Hl.rd v cT 6 l) (by exact memA)).1, InT.keep hw0.2 hw.ext⟩) ⟨rfl, rfl, rfl⟩ (by decide +kernel)) ?_)
    | (refine nxV ?_)
    | (show RS _ _ _ _ _ _ _ _; first | (refine nxRS ?_) | (refine nxRS1 fun _ => ?_))
    | (show RM _ _ _ _ _ _ _ _ _ _; first | (refine nxRM ?_) | (refine nxRM1 fun _ => ?_))
    | (refine nxG ?_)
    | (refine G.mixedA 10 [.go 0, .go 1, .go 2, .go 3, .go 4, .go 5, .go 6, .go 7, .go 8, .go 9, .go 10] ?_)
    | (refine nxX ?_)
    | (refine G.condN rfl (fun hc => ?_) (fun hc => ?_) <;> (try first | exact False.elim hc | (exfalso; omega))))
  exact X.ret (vs := [_, _, _]) rfl ⟨⟨_, _, _, _, rfl, (by exact memA), (by (repeat (first | exact .nil | apply LenIs.cons))), by decide +kernel, rfl⟩, ⟨_, _, _, _, rfl, (by exact memA), (by (repeat (first | exact .nil | apply LenIs.cons))), by decide +kernel, rfl⟩, rfl, rfl⟩ rfl (fun w hw => ⟨rfl, hw.ext⟩)
theorem pent_t {y m d : Int} {v : Value} {l : List TrkT} {nm : List UInt8} {hour : Int} {k : Nat} (q0 : ContIn Tryz.prog (PgP v l) 10 [pgV y m d v, strV nm] (.tuple [.int .i64 (k : Int), .int .i64 0].toArray)) (hl : l.length ≤ 12) (hk : k < l.length) (ho : okT (nth l (k : Int)) = true) (hh : 0 ≤ hour ∧ hour ≤ 24) :
    ContIn Tryz.prog (PgP v l) 16 [pgV y m d v, strV nm, .int .i64 hour] (entV ((100 * nth (nth l (k : Int)).gl hour - 50) % 21600000) ((100 * nth (nth l (k : Int)).gl hour - 50) % 21600000 + 100) (max (100 * nth (nth l (k : Int)).dl hour - 50) (-5400000)) (min (100 * nth (nth l (k : Int)).dl hour + 50) 5400000) 0) := fun w hw0 => by
  obtain ⟨o1, o2, o3, o4, o5, o6⟩ := okT_parts ho
  have b1 := inB_nth o4 (i := hour) (by omega)
  have b2 := inB_nth o5 (i := hour) (by omega)
  clear o1 o4 o5 o6
  have q1 := around_c (n := nth (nth l (k : Int)).gl hour) (by omega)
  have q2 := around_c (n := nth (nth l (k : Int)).dl hour) (by omega)
  have q3 := turn_c (lo := 100 * nth (nth l (k : Int)).gl hour - 50) (hi := 100 * nth (nth l (k : Int)).gl hour + 50) (u := 100) (by omega)
  have b3 := wrap_bd (100 * nth (nth l (k : Int)).gl hour - 50)
  refine enter Tryz.func16 rfl rfl rfl (Hp := [Hl.rd v cT 6 l]) (fun h hm => by
    rcases List.mem_singleton.1 hm with rfl
    exact ⟨⟨hw0.1, fun h => by cases h⟩, rfl⟩) ?_
  refine G.bring (hw0.2.at hk).1 (G.bring (hw0.2.at hk).2 ?_)
  repeat' (first
    | (refine YK.mk (y_callIn q0 (fun w hw => ⟨(hw.all (Hl.rd v cT 6 l) (by exact memA)).1, InT.keep hw0.2 hw.ext⟩) ⟨rfl, rfl, rfl⟩ (by decide +kernel)) ?_)
    | (refine G.mixedM 10 [.go 0, .go 1, .go 2, .go 3, .go 4, .go 5, .go 6, .go 7, .go 8, .go 9, .go 10] [true, true, false, false] ?_; dsimp only [maskH])
    | (show YK _ _ _ _ _ _ _; first | refine YK.mk (y_callA (q1) ⟨rfl, rfl⟩) ?_ | refine YK.mk (y_callA (q2) ⟨rfl, rfl⟩) ?_ | refine YK.mk (y_callA (q3) ⟨rfl, rfl⟩) ?_)
    | (show YK _ _ _ _ _ _ _; refine YK.ofV vAuto ?_)
    | (show VK _ _ _ _ _ _ _; refine VK.mk vAuto ?_)
    | (show RS _ _ _ _ _ _ _ _; first | (refine nxRS ?_) | (refine nxRS1 fun _ => ?_))
    | (show RM _ _ _ _ _ _ _ _ _ _; first | (refine nxRM ?_) | (refine nxRM1 fun _ => ?_))
    | (show YG _ _ _ _ _ _ _ _; refine YG.mk (fun hb => by (try (have hc := And.left hb; have hb := And.right hb; rw [hc])); (try rw [hb]); first | exact (y_callA (q1) ⟨rfl, rfl⟩) | exact (y_callA (q2) ⟨rfl, rfl⟩) | exact (y_callA (q3) ⟨rfl, rfl⟩) | exact V.y vAuto) ?_)
    | (show VG _ _ _ _ _ _ _ _; refine VG.mk (fun hb => by (try (have hc := And.left hb; have hb := And.right hb; rw [hc])); (try rw [hb]); exact vAuto) ?_)
    | (refine nxX ?_)
    | (refine G.condN rfl (fun hc => ?_) (fun hc => ?_) <;> (try first | exact False.elim hc | (exfalso; omega))))
  exact X.ret (vs := [_, _, _]) rfl ⟨⟨_, _, _, _, rfl, (by exact memA), (by (repeat (first | exact .nil | apply LenIs.cons))), by decide +kernel, rfl⟩, ⟨_, _, _, _, rfl, (by exact memA), (by (repeat (first | exact .nil | apply LenIs.cons))), by decide +kernel, rfl⟩, rfl, rfl⟩ rfl (fun w hw => ⟨rfl, hw.ext⟩)
end Go.Proofs.YtpekkcahehhkmaaGreatDoor
/- A page's text is read back, also with blanks, notes and empty lines in it. Plain. -/
set_option linter.unusedVariables false
set_option maxHeartbeats 1000000
namespace Go.Proofs.YtpekkcahehhkmaaGreatDoor
open Go.RowKit

/-- This line stands for these tokens, whatever its blanks are. -/
def LnOk (x : List UInt8) (t : List TkE) : Prop := ∀ sep, SepOk sep → ∀ l E, Lx l E → Stop l → Lx (repS sep x ++ l) (t ++ E)
def preK : Nat → List UInt8
  | 0 => []
  | 1 => [32]
  | 2 => [9]
  | 3 => [35, 32, 110, 111, 116, 101, 10]
  | _ => [10]
def sufK : Nat → List UInt8
  | 0 => []
  | 1 => [32]
  | 2 => [35, 32, 98, 111, 100, 121]
  | 3 => []
  | _ => [32, 35, 32, 49]
def sepK : Nat → List UInt8
  | 0 => [32]
  | 1 => [32, 32]
  | 2 => [32, 9]
  | 3 => [32]
  | _ => [32]
theorem sepK_ok : ∀ k : Nat, SepOk (sepK k)
  | 0 => sep1
  | 1 => sep2
  | 2 => sep3
  | 3 => sep1
  | _ + 4 => sep1
def decor (k : Nat) (x : List UInt8) : List UInt8 := preK k ++ (repS (sepK k) x ++ (sufK k ++ [10]))
theorem suf_lx {l : List UInt8} {E : List TkE} (h : Lx (10 :: l) E) : ∀ k : Nat, Lx (sufK k ++ 10 :: l) E ∧ Stop (sufK k ++ 10 :: l)
  | 0 => ⟨h, stop_c (by decide) (by decide) _⟩
  | 1 => ⟨h.blank, stop_c (by decide) (by decide) _⟩
  | 2 => ⟨Lx.note (w := [32, 98, 111, 100, 121]) (by decide) h, stop_c (by decide) (by decide) _⟩
  | 3 => ⟨h, stop_c (by decide) (by decide) _⟩
  | _ + 4 => ⟨(Lx.note (w := [32, 49]) (by decide) h).blank, stop_c (by decide) (by decide) _⟩
theorem pre_lx {l : List UInt8} {E : List TkE} (h : Lx l E) : ∀ k : Nat, ∃ a, Lx (preK k ++ l) (eols a E)
  | 0 => ⟨0, h⟩
  | 1 => ⟨0, h.blank⟩
  | 2 => ⟨0, h.tab⟩
  | 3 => ⟨1, Lx.note (w := [32, 110, 111, 116, 101]) (by decide) h.line⟩
  | _ + 4 => ⟨1, h.line⟩
theorem decor_lx {k : Nat} {x : List UInt8} {t : List TkE} (hx : LnOk x t) {l : List UInt8} {E : List TkE} (h : Lx l E) : ∃ a, Lx (decor k x ++ l) (eols a (t ++ (4, []) :: E)) := by
  obtain ⟨h1, h2⟩ := suf_lx h.line k
  obtain ⟨a, h3⟩ := pre_lx (hx _ (sepK_ok k) _ _ h1 h2) k
  refine ⟨a, ?_⟩
  unfold decor
  simp only [List.append_assoc, List.singleton_append]
  exact h3
def LnsOk : List (List UInt8) → List (List TkE) → Prop
  | [], [] => True
  | x :: xs, t :: ts => LnOk x t ∧ LnsOk xs ts
  | _, _ => False
theorem LnsOk.app : ∀ {a : List (List UInt8)} {s : List (List TkE)} {b : List (List UInt8)} {t : List (List TkE)}, LnsOk a s → LnsOk b t → LnsOk (a ++ b) (s ++ t)
  | [], [], _, _, _, h => h
  | _ :: _, _ :: _, _, _, h1, h => ⟨h1.1, LnsOk.app h1.2 h⟩
  | [], _ :: _, _, _, h1, _ => h1.elim
  | _ :: _, [], _, _, h1, _ => h1.elim
theorem lines_lx : ∀ (xs : List (List UInt8)) (ts : List (List TkE)) (k : Nat → Nat) (i : Nat), LnsOk xs ts → ∀ (ls : List (List TkE)) (l : List UInt8) (E : List TkE), Lx l E → BL ls E → ∃ E', Lx ((xs.mapIdx fun j x => decor (k (i + j)) x).flatten ++ l) E' ∧ BL (ts ++ ls) E'
  | [], [], k, i, _, ls, l, E, h, hb => ⟨E, h, hb⟩
  | x :: xs, t :: ts, k, i, ho, ls, l, E, h, hb => by
    obtain ⟨E', h1, h2⟩ := lines_lx xs ts k (i + 1) ho.2 ls l E h hb
    obtain ⟨a, h3⟩ := decor_lx (k := k i) ho.1 h1
    refine ⟨_, ?_, BL.cons a h2⟩
    rw [List.mapIdx_cons, List.flatten_cons, List.append_assoc, Nat.add_zero]
    simp only [Nat.add_assoc, Nat.add_comm 1] at h3 ⊢
    exact h3
  | [], _ :: _, _, _, ho, _, _, _, _, _ => ho.elim
  | _ :: _, [], _, _, ho, _, _, _, _, _ => ho.elim
/-! ### A page's lines -/
def entLns (gl dl : List Int) (n : Nat) : List (List UInt8) := (List.range n).map fun i : Nat => entLn i (nth gl i) (nth dl i)
def entEs (gl dl : List Int) (n : Nat) : List (List TkE) := (List.range n).map fun i : Nat => entEx i (nth gl i) (nth dl i)
def trkLns (t : TrkP) : List (List UInt8) := bodyLn t.1 t.2.2.2.1 t.2.2.2.2.1 t.2.2.2.2.2 :: entLns t.2.1 t.2.2.1 25
def trkEs (t : TrkP) : List (List TkE) := bodyE t.1 (tenL t.2.2.2.1) (tenL t.2.2.2.2.1) (tenL t.2.2.2.2.2) :: entEs t.2.1 t.2.2.1 25
def pageLns (y m d : Int) (l : List TrkP) : List (List UInt8) := dateLn y m d :: l.flatMap trkLns
def pageEs (y m d : Int) (l : List TrkP) : List (List TkE) := dateE (padL y 4) (padL m 2) (padL d 2) :: l.flatMap trkEs
/-- What a valid track's parts are. -/
structure TrkV (t : TrkP) : Prop where
  name : nameB t.1 = true
  glen : t.2.1.length = 25
  dlen : t.2.2.1.length = 25
  gin : ∀ i : Nat, i < 25 → 0 ≤ nth t.2.1 (i : Int) ∧ nth t.2.1 (i : Int) ≤ 215999
  din : ∀ i : Nat, i < 25 → -54000 ≤ nth t.2.2.1 (i : Int) ∧ nth t.2.2.1 (i : Int) ≤ 54000
  semi : 0 ≤ t.2.2.2.1 ∧ t.2.2.2.1 ≤ 200
  par : 0 ≤ t.2.2.2.2.1 ∧ t.2.2.2.2.1 ≤ 620
  bend : 0 ≤ t.2.2.2.2.2 ∧ t.2.2.2.2.2 ≤ 1000
theorem LnsOk.map {f : Nat → List UInt8} {g : Nat → List TkE} : ∀ {l : List Nat}, (∀ i ∈ l, LnOk (f i) (g i)) → LnsOk (l.map f) (l.map g)
  | [], _ => trivial
  | i :: l, h => ⟨h i List.mem_cons_self, LnsOk.map fun j hj => h j (List.mem_cons_of_mem _ hj)⟩
theorem trk_lines {t : TrkP} (h : TrkV t) : LnsOk (trkLns t) (trkEs t) :=
  ⟨fun sep hs l E hl hst => lx_body hs h.name h.semi.1 h.par.1 h.bend.1 hl hst, LnsOk.map fun i hi sep hs l E hl hst => lx_ent hs (by omega) (h.gin i (List.mem_range.1 hi)).1 hl hst⟩
theorem trks_lines : ∀ {l : List TrkP}, (∀ t ∈ l, TrkV t) → LnsOk (l.flatMap trkLns) (l.flatMap trkEs)
  | [], _ => trivial
  | t :: l, h => (trk_lines (h t List.mem_cons_self)).app (trks_lines fun u hu => h u (List.mem_cons_of_mem _ hu))
theorem page_lines {y m d : Int} {l : List TrkP} (h : ∀ t ∈ l, TrkV t) (h1 : 0 ≤ y ∧ y < 10000) (h2 : 0 ≤ m ∧ m < 100) (h3 : 0 ≤ d ∧ d < 100) : LnsOk (pageLns y m d l) (pageEs y m d l) :=
  ⟨fun sep hs l E hl hst => lx_date hs h1 h2 h3 hl hst, trks_lines h⟩
theorem ents_ok (f : Int → List TkE) (x : Int → Int × Int) : ∀ (n : Nat) (h : Int), (∀ i : Nat, i < n → EntOk (f (h + i)) (h + i) (x (h + i)).1 (x (h + i)).2) → EntsOk h ((List.range n).map fun i : Nat => f (h + i)) ((List.range n).map fun i : Nat => x (h + i))
  | 0, _, _ => trivial
  | n + 1, h, ho => by
    rw [List.range_succ_eq_map, List.map_cons, List.map_cons, List.map_map, List.map_map]
    have h0 := ho 0 (Nat.zero_lt_succ _)
    have h1 := ents_ok f x n (h + 1) fun i hi => by
      have := ho (i + 1) (Nat.succ_lt_succ hi)
      rw [show h + 1 + (i : Int) = h + ((i + 1 : Nat) : Int) by omega]
      exact this
    refine ⟨?_, ?_⟩
    · rw [show h + ((0 : Nat) : Int) = h by omega] at h0 ⊢
      exact h0
    · have e : ∀ i : Nat, h + 1 + (i : Int) = h + ((i.succ : Nat) : Int) := fun i => by omega
      simp only [e] at h1
      exact h1
theorem zip_range {a b : List Int} {n : Nat} (h1 : a.length = n) (h2 : b.length = n) : a.zip b = (List.range n).map fun i : Nat => (nth a (i : Int), nth b (i : Int)) := by
  apply List.ext_getElem
  · simp [h1, h2]
  · intro i hi _
    have hia : i < a.length := by rw [List.length_zip] at hi; omega
    have hib : i < b.length := by rw [List.length_zip] at hi; omega
    have e1 := nth_some (l := a) (m := (i : Int)) (by omega) (by omega)
    have e2 := nth_some (l := b) (m := (i : Int)) (by omega) (by omega)
    rw [Int.toNat_natCast, List.getElem?_eq_getElem hia] at e1
    rw [Int.toNat_natCast, List.getElem?_eq_getElem hib] at e2
    rw [List.getElem_zip, List.getElem_map, List.getElem_range, Option.some.inj e1, Option.some.inj e2]
theorem trk_ok {t : TrkP} (h : TrkV t) : TrkOk (trkEs t) t := by
  refine ⟨_, _, _, _, rfl, numV_ten (by have := h.semi; omega), numV_ten (by have := h.par; omega), numV_ten (by have := h.bend; omega), h.glen, h.dlen, ?_⟩
  rw [zip_range h.glen h.dlen]
  have := ents_ok (fun i => entEx i (nth t.2.1 i) (nth t.2.2.1 i)) (fun i => (nth t.2.1 i, nth t.2.2.1 i)) 25 0 fun i hi => by
    rw [show (0 : Int) + (i : Int) = i by omega]
    have g := h.gin i hi
    have d := h.din i hi
    exact ent_ok (by omega) (by omega) (by omega)
  simp only [Int.zero_add] at this
  exact this
theorem trks_ok : ∀ {l : List TrkP}, (∀ t ∈ l, TrkV t) → TrksOk (l.flatMap trkEs) l
  | [], _ => rfl
  | t :: l, h => ⟨_, _, rfl, trk_ok (h t List.mem_cons_self), trks_ok fun u hu => h u (List.mem_cons_of_mem _ hu)⟩
/-- A page's text with blanks, notes and empty lines, and with more such behind it, is read back. -/
theorem page_back {y m d : Int} {l : List TrkP} (h : ∀ t ∈ l, TrkV t) (h1 : 0 ≤ y ∧ y < 10000) (h2 : 0 ≤ m ∧ m < 100) (h3 : 0 ≤ d ∧ d < 100) (k : Nat → Nat) {r : List UInt8} {a : Nat} (hr : Lx r (eols a [(5, [])])) (n : Nat) (hn : l.length < n) :
    ∃ E, Lx (((pageLns y m d l).mapIdx fun j x => decor (k j) x).flatten ++ r) E ∧ pageP n E = some ((y, m, d), l) := by
  obtain ⟨E, e1, e2⟩ := lines_lx _ _ k 0 (page_lines h h1 h2 h3) [] r _ hr (BL.nil a)
  refine ⟨E, by simpa using e1, ?_⟩
  rw [List.append_nil] at e2
  exact page_read (numV_pad4 h1) (numV_pad2 h2) (numV_pad2 h3) (trks_ok h) e2 n hn
end Go.Proofs.YtpekkcahehhkmaaGreatDoor
