/- The calendar in plain Lean: no program in sight. -/
set_option linter.unusedVariables false
namespace Go.Proofs.YtpnfmbfehbnljaaGreatDoor

def leapB (y : Int) : Bool := decide (y.tmod 4 = 0) && (!decide (y.tmod 100 = 0) || decide (y.tmod 400 = 0))
def leapR (y : Int) : Bool := (decide (y.tmod 4 = 0) && !decide (y.tmod 100 = 0)) || decide (y.tmod 400 = 0)
theorem leap_same (y : Int) : leapR y = leapB y := by
  unfold leapR leapB
  have h : y.tmod 400 = 0 → y.tmod 4 = 0 := fun h => by
    have h1 : (400 : Int) ∣ y := Int.dvd_of_tmod_eq_zero h
    exact Int.tmod_eq_zero_of_dvd (Int.dvd_trans (by decide) h1)
  by_cases h1 : y.tmod 4 = 0 <;> by_cases h2 : y.tmod 100 = 0 <;> by_cases h3 : y.tmod 400 = 0 <;> simp_all
def rightB (y m : Int) : Bool := ((decide (1 ≤ y) && decide (y ≤ 9999)) && decide (1 ≤ m)) && decide (m ≤ 12)
theorem right_of {y m : Int} (h : rightB y m = true) : (1 ≤ y ∧ y ≤ 9999) ∧ 1 ≤ m ∧ m ≤ 12 := by
  simpa [rightB, and_assoc] using h
def before (y : Int) : Int := 365 * (y - 1) + (y - 1) / 4 - (y - 1) / 100 + (y - 1) / 400
theorem before_bd {y : Int} (h1 : 1 ≤ y) (h2 : y ≤ 10000) : 0 ≤ before y ∧ before y ≤ 3652059 := by unfold before; omega
def monthLen (m : Int) : Int := if m = 2 then 28 else if m = 4 ∨ m = 6 ∨ m = 9 ∨ m = 11 then 30 else 31
def dim (y m : Int) : Int := if m = 2 then (if leapB y then 29 else 28) else if m = 4 ∨ m = 6 ∨ m = 9 ∨ m = 11 then 30 else 31
theorem dim_bd (y m : Int) : 28 ≤ dim y m ∧ dim y m ≤ 31 := by
  unfold dim; split
  · split <;> omega
  · split <;> omega
/-- The days of the first k months. -/
def cum (y : Int) : Nat → Int
  | 0 => 0
  | k + 1 => cum y k + dim y (k + 1)
theorem cum_bd (y : Int) : ∀ k : Nat, 0 ≤ cum y k ∧ cum y k ≤ 31 * k
  | 0 => by simp [cum]
  | k + 1 => by have := cum_bd y k; have := dim_bd y (k + 1); simp only [cum]; omega
def validB (y m d : Int) : Bool := (rightB y m && decide (1 ≤ d)) && decide (d ≤ dim y m)
theorem valid_of {y m d : Int} (h : validB y m d = true) : (1 ≤ y ∧ y ≤ 9999) ∧ (1 ≤ m ∧ m ≤ 12) ∧ 1 ≤ d ∧ d ≤ dim y m := by
  simp only [validB, Bool.and_eq_true, decide_eq_true_eq] at h
  exact ⟨(right_of h.1.1).1, (right_of h.1.1).2, h.1.2, h.2⟩
theorem valid_mk {y m d : Int} (h : (1 ≤ y ∧ y ≤ 9999) ∧ (1 ≤ m ∧ m ≤ 12) ∧ 1 ≤ d ∧ d ≤ dim y m) : validB y m d = true := by
  simp [validB, rightB]; omega
def doy (y m d : Int) : Int := d + cum y (m - 1).toNat
def num (y m d : Int) : Int := before y - 730119 + doy y m d - 1
theorem before2000 : before 2000 = 730119 := by decide

theorem before_mono {a b : Int} (h1 : 1 ≤ a) (h : a ≤ b) : before a ≤ before b := by unfold before; omega
theorem before_lt {a b : Int} (h1 : 1 ≤ a) (h : a < b) : before a < before b := by unfold before; omega
theorem before_1 : before 1 = 0 := by decide
theorem before_10000 : before 10000 = 3652059 := by decide
theorem leap_iff {y : Int} (h : 0 ≤ y) : leapB y = true ↔ (y % 4 = 0 ∧ (y % 100 ≠ 0 ∨ y % 400 = 0)) := by
  simp [leapB, Int.tmod_eq_emod_of_nonneg h]
theorem cum12 (y : Int) : cum y 12 = if leapB y then 366 else 365 := by
  cases h : leapB y <;> simp [cum, dim, h]
theorem year_len {y : Int} (h : 1 ≤ y) : before (y + 1) = before y + cum y 12 := by
  rw [cum12]
  have hl := leap_iff (y := y) (by omega)
  unfold before
  split
  · rename_i hb
    have := hl.1 hb
    omega
  · rename_i hb
    have : ¬ (y % 4 = 0 ∧ (y % 100 ≠ 0 ∨ y % 400 = 0)) := fun h => hb (hl.2 h)
    omega
theorem cum_mono (y : Int) {a b : Nat} (h : a ≤ b) : cum y a ≤ cum y b := by
  induction b with
  | zero => have : a = 0 := by omega
            subst this; exact Int.le_refl _
  | succ b ih =>
    by_cases e : a = b + 1
    · subst e; exact Int.le_refl _
    · have := ih (by omega); have := dim_bd y (b + 1); simp only [cum]; omega
theorem num_in {y m d : Int} (hv : validB y m d = true) : before y ≤ num y m d + 730119 ∧ num y m d + 730119 < before (y + 1) := by
  obtain ⟨hy, hm, hd⟩ := valid_of hv
  have hl := year_len hy.1
  unfold num doy
  obtain ⟨k, hk⟩ : ∃ k : Nat, m = (k : Int) + 1 := ⟨(m - 1).toNat, by omega⟩
  subst hk
  have e : ((k : Int) + 1 - 1).toNat = k := by omega
  rw [e]
  have h0 := cum_bd y k
  have h1 := cum_mono y (a := k + 1) (b := 12) (by omega)
  simp only [cum] at h1 hl
  omega
theorem num_bd {y m d : Int} (hv : validB y m d = true) : -730119 ≤ num y m d ∧ num y m d ≤ 2921939 := by
  have h := num_in hv
  obtain ⟨hy, hm, hd⟩ := valid_of hv
  have h1 := before_mono (a := 1) (b := y) (by omega) hy.1
  have h2 := before_mono (a := y + 1) (b := 10000) (by omega) (by omega)
  rw [before_1] at h1
  rw [before_10000] at h2
  omega
theorem year_ex (N : Int) (h0 : 0 ≤ N) : ∀ k : Nat, N < before ((k : Int) + 1) → ∃ y : Int, 1 ≤ y ∧ y ≤ k ∧ before y ≤ N ∧ N < before (y + 1)
  | 0, h => by rw [show (((0 : Nat) : Int) + 1) = 1 from rfl, before_1] at h; omega
  | k + 1, h => by
    by_cases e : N < before ((k : Int) + 1)
    · obtain ⟨y, h1, h2, h3⟩ := year_ex N h0 k e
      exact ⟨y, h1, by omega, h3⟩
    · exact ⟨(k : Int) + 1, by omega, by omega, by omega, by simpa using h⟩
theorem month_ex (y r : Int) (h0 : 0 ≤ r) : ∀ k : Nat, r < cum y k → ∃ j : Nat, j < k ∧ cum y j ≤ r ∧ r < cum y (j + 1)
  | 0, h => by simp [cum] at h; omega
  | k + 1, h => by
    by_cases e : r < cum y k
    · obtain ⟨j, h1, h2⟩ := month_ex y r h0 k e
      exact ⟨j, by omega, h2⟩
    · exact ⟨k, by omega, by omega, h⟩
/-- Every number in range is that of a date. -/
theorem date_ex (n : Int) (h1 : -730119 ≤ n) (h2 : n ≤ 2921939) : ∃ y m d : Int, validB y m d = true ∧ num y m d = n := by
  obtain ⟨y, hy1, hy2, hy3, hy4⟩ := year_ex (n + 730119) (by omega) 9999 (by rw [show (((9999 : Nat) : Int) + 1) = 10000 from rfl, before_10000]; omega)
  rw [year_len hy1] at hy4
  obtain ⟨j, hj, hj1, hj2⟩ := month_ex y (n + 730119 - before y) (by omega) 12 (by omega)
  refine ⟨y, (j : Int) + 1, n + 730119 - before y - cum y j + 1, valid_mk ⟨⟨hy1, by omega⟩, ⟨by omega, by omega⟩, by omega, ?_⟩, ?_⟩
  · simp only [cum] at hj2; omega
  · unfold num doy
    rw [show ((j : Int) + 1 - 1).toNat = j by omega]
    omega
def wd (y m d : Int) : Int := (num y m d + 5) % 7 + 1

theorem doy_inj {y m d m' d' : Int} (hm : 1 ≤ m) (hm' : 1 ≤ m') (hd : 1 ≤ d ∧ d ≤ dim y m) (hd' : 1 ≤ d' ∧ d' ≤ dim y m') (h : doy y m d = doy y m' d') : m = m' ∧ d = d' := by
  obtain ⟨j, hj⟩ : ∃ j : Nat, m = (j : Int) + 1 := ⟨(m - 1).toNat, by omega⟩
  obtain ⟨k, hk⟩ : ∃ k : Nat, m' = (k : Int) + 1 := ⟨(m' - 1).toNat, by omega⟩
  subst hj hk
  unfold doy at h
  rw [show ((j : Int) + 1 - 1).toNat = j by omega, show ((k : Int) + 1 - 1).toNat = k by omega] at h
  rcases Nat.lt_trichotomy j k with hlt | heq | hlt
  · have := cum_mono y (a := j + 1) (b := k) (by omega)
    simp only [cum] at this
    omega
  · subst heq; omega
  · have := cum_mono y (a := k + 1) (b := j) (by omega)
    simp only [cum] at this
    omega
theorem num_inj {y m d y' m' d' : Int} (hv : validB y m d = true) (hv' : validB y' m' d' = true) (h : num y m d = num y' m' d') : y = y' ∧ m = m' ∧ d = d' := by
  have h1 := num_in hv
  have h2 := num_in hv'
  obtain ⟨hy, hm, hd⟩ := valid_of hv
  obtain ⟨hy', hm', hd'⟩ := valid_of hv'
  have e : y = y' := by
    rcases Int.lt_trichotomy y y' with hlt | heq | hlt
    · have := before_mono (a := y + 1) (b := y') (by omega) (by omega); omega
    · exact heq
    · have := before_mono (a := y' + 1) (b := y) (by omega) (by omega); omega
  subst e
  have hdd : doy y m d = doy y m' d' := by unfold num at h; omega
  exact ⟨rfl, doy_inj hm.1 hm'.1 hd hd' hdd⟩
theorem doy_next (y m d : Int) (hm : 1 ≤ m) : doy y (m + 1) 1 = doy y m (dim y m) + 1 := by
  obtain ⟨j, hj⟩ : ∃ j : Nat, m = (j : Int) + 1 := ⟨(m - 1).toNat, by omega⟩
  subst hj
  unfold doy
  rw [show ((j : Int) + 1 + 1 - 1).toNat = j + 1 by omega, show ((j : Int) + 1 - 1).toNat = j by omega]
  simp only [cum]; omega
theorem next_day {y m d : Int} (hv : validB y m d = true) (h : d < dim y m) : validB y m (d + 1) = true ∧ num y m (d + 1) = num y m d + 1 ∧ doy y m (d + 1) = doy y m d + 1 := by
  obtain ⟨hy, hm, hd⟩ := valid_of hv
  exact ⟨valid_mk ⟨hy, hm, by omega, by omega⟩, by unfold num doy; omega, by unfold doy; omega⟩
theorem next_month {y m d : Int} (hv : validB y m d = true) (h : ¬ d < dim y m) (hm12 : m < 12) : validB y (m + 1) 1 = true ∧ num y (m + 1) 1 = num y m d + 1 ∧ doy y (m + 1) 1 = doy y m d + 1 := by
  obtain ⟨hy, hm, hd⟩ := valid_of hv
  have e : d = dim y m := by omega
  have := dim_bd y (m + 1)
  have hn := doy_next y m d hm.1
  rw [← e] at hn
  exact ⟨valid_mk ⟨hy, by omega, by omega, by omega⟩, by unfold num; omega, hn⟩
theorem next_year {y m d : Int} (hv : validB y m d = true) (h : ¬ d < dim y m) (hm12 : ¬ m < 12) (hy2 : y < 9999) :
    validB (y + 1) 1 1 = true ∧ num (y + 1) 1 1 = num y m d + 1 ∧ doy (y + 1) 1 1 = 1 ∧ doy y m d = if leapB y then 366 else 365 := by
  obtain ⟨hy, hm, hd⟩ := valid_of hv
  have e : d = dim y m := by omega
  obtain rfl : m = 12 := by omega
  have := dim_bd (y + 1) 1
  have hc := cum12 y
  have hl := year_len hy.1
  have hdoy : doy y 12 d = cum y 12 := by
    unfold doy; rw [e]
    rw [show ((12 : Int) - 1).toNat = 11 from rfl]
    simp only [cum]
    have : ((11 : Nat) : Int) + 1 = 12 := rfl
    rw [this]; omega
  refine ⟨valid_mk ⟨by omega, by omega, by omega, by omega⟩, ?_, by simp [doy, cum], by rw [hdoy, hc]⟩
  unfold num
  rw [hdoy, hl]
  simp [doy, cum]; omega
theorem last_num {y m d : Int} (hv : validB y m d = true) (h : num y m d = 2921939) : y = 9999 ∧ m = 12 ∧ d = 31 :=
  num_inj hv (y' := 9999) (m' := 12) (d' := 31) (by decide) (by rw [h]; decide)
theorem wd_next {y m d y' m' d' : Int} (h : num y' m' d' = num y m d + 1) (hb : -730119 ≤ num y m d) : wd y' m' d' = wd y m d % 7 + 1 := by unfold wd; rw [h]; omega
theorem wd_bd (y m d : Int) : 1 ≤ wd y m d ∧ wd y m d ≤ 7 := by unfold wd; omega
end Go.Proofs.YtpnfmbfehbnljaaGreatDoor
