/- Joined texts: TrF, TrG, TrA, TrM, GeH, GeI, GeJ, GeK, GeL, GeM, GeN, AsnP, TriQ, RfP. -/
import Derived.Test.YthilhhegchmjeaaGreatWt
import Derived.Test.YthilhhegchmjeaaGreatWs
import Derived.Test.YthilhhegchmjeaaGreatWc
/- The series against the polynomials that were looked at: the margin of every sine. -/
set_option linter.unusedVariables false
namespace Go.Proofs.YthilhhegchmjeaaGreat.TT
def rho : Rat := ((piN : Nat) : Rat) / ((halfN * W256 : Nat) : Rat)
def ka (o : Nat) : Nat → Rat
  | 0 => if o = 1 then rho else 1
  | i + 1 => ka o i * (rho * rho / (dd o i : Rat))
def pr (o : Nat) (n : Rat) : Nat → Rat
  | 0 => if o = 1 then n else 1
  | i + 1 => pr o n i * (n * n)
def kr (o : Nat) (y : Rat) : Nat → Nat → Rat
  | _, 0 => 0
  | k, m + 1 => ka o k - y * kr o y (k + 1) m
theorem xi_rho (n : Nat) : xi n = (n : Rat) * rho := by
  unfold xi rho
  rw [Rat.natCast_mul]
  generalize ((halfN * W256 : Nat) : Rat) = H
  grind
theorem tm_pr (o n : Nat) : ∀ i, tm o (xi n) i = ka o i * pr o (n : Rat) i
  | 0 => by
    unfold tm ka pr
    rw [xi_rho]
    split <;> grind
  | i + 1 => by
    unfold tm ka pr
    rw [tm_pr o n i, xi_rho]
    grind
theorem sa_pr (o n : Nat) : ∀ m k, sa o (xi n) k m = pr o (n : Rat) k * kr o ((n : Rat) * (n : Rat)) k m
  | 0, k => by simp only [sa, kr]; grind
  | m + 1, k => by
    simp only [sa, kr]
    rw [sa_pr o n m (k + 1), tm_pr]
    simp only [pr]
    grind
def ea : List Int → Int → Int
  | [], _ => 0
  | a :: r, y => a - y * ea r y
theorem ev_sg : ∀ (al : List Int) (s : Bool) (x : Int), ev (sg s al) x = cond s (-1) 1 * ea al (x * x)
  | [], s, x => by simp [sg, ev, ea]
  | a :: r, s, x => by
    have ih := ev_sg r (!s) x
    cases s
    · simp only [sg, ev, ea, cond_false, Bool.not_false, cond_true] at ih ⊢
      rw [ih]; grind
    · simp only [sg, ev, ea, cond_false, Bool.not_true, cond_true] at ih ⊢
      rw [ih]; grind
theorem ev_snoc : ∀ (p : List Int) (x : Int), ev (p ++ [0]) x = ev p x
  | [], x => by simp [ev]
  | c :: p, x => by
    show c + x * ev (p ++ [0]) x = c + x * ev p x
    rw [ev_snoc p x]
theorem evS (n : Int) : ev polS n = n * ea alS (n * n) := by
  have h : polS ++ [0] = 0 :: sg false alS := by decide +kernel
  rw [← ev_snoc, h]
  show 0 + n * ev (sg false alS) n = _
  rw [ev_sg]
  simp
theorem evC (n : Int) : ev polC n = ea alC (n * n) := by
  have h : polC ++ [0] = sg false alC := by decide +kernel
  rw [← ev_snoc, h, ev_sg]
  simp
abbrev p480 : Rat := ((2 ^ 480 : Nat) : Rat)
def near (o : Nat) : Nat → List Int → Bool
  | _, [] => true
  | k, a :: r => decide ((a : Rat) ≤ p480 * ka o k) && decide (p480 * ka o k ≤ (a : Rat) + 1) && near o (k + 1) r
theorem nearS : near 1 0 alS = true := by decide +kernel
theorem nearC : near 0 0 alC = true := by decide +kernel
def er (y : Rat) : Nat → Rat
  | 0 => 0
  | m + 1 => 1 + y * er y m
theorem ea_near {o : Nat} {y : Int} (hy : 0 ≤ y) : ∀ (al : List Int) (k : Nat), near o k al = true → (ea al y : Rat) - p480 * kr o (y : Rat) k al.length ≤ er (y : Rat) al.length ∧ p480 * kr o (y : Rat) k al.length - (ea al y : Rat) ≤ er (y : Rat) al.length
  | [], k, _ => by
    simp only [ea, kr, er, List.length_nil]
    have : ((0 : Int) : Rat) = 0 := rfl
    exact ⟨by grind, by grind⟩
  | a :: r, k, h => by
    simp only [near, Bool.and_eq_true, decide_eq_true_eq] at h
    obtain ⟨⟨h1, h2⟩, h3⟩ := h
    obtain ⟨i1, i2⟩ := ea_near (o := o) hy r (k + 1) h3
    have hyR : (0 : Rat) ≤ (y : Rat) := Rat.intCast_nonneg.2 hy
    have b1 := Rat.mul_le_mul_of_nonneg_left i1 hyR
    have b2 := Rat.mul_le_mul_of_nonneg_left i2 hyR
    simp only [ea, kr, er, List.length_cons, Rat.intCast_sub, Rat.intCast_mul]
    generalize p480 = S at *
    exact ⟨by grind, by grind⟩
theorem er_nn {y : Rat} (hy : 0 ≤ y) : ∀ m, 0 ≤ er y m
  | 0 => by unfold er; grind
  | m + 1 => by
    have := Rat.mul_nonneg hy (er_nn hy m)
    unfold er; grind
theorem er_mono {y z : Rat} (hy : 0 ≤ y) (h : y ≤ z) : ∀ m, er y m ≤ er z m
  | 0 => by unfold er; grind
  | m + 1 => by
    have ih := er_mono hy h m
    have a1 := Rat.mul_le_mul_of_nonneg_left ih hy
    have a2 := Rat.mul_le_mul_of_nonneg_right h (er_nn (Rat.le_trans hy h) m)
    unfold er; grind
theorem ypos {n : Nat} : (0 : Int) ≤ (n : Int) * n := Int.mul_nonneg (by omega) (by omega)
theorem ycast (n : Nat) : (((n : Int) * (n : Int) : Int) : Rat) = (n : Rat) * (n : Rat) := by
  rw [Rat.intCast_mul, Rat.intCast_natCast]
theorem yle {n : Nat} (h : n ≤ 2700000) : (n : Rat) * (n : Rat) ≤ 7290000000000 := by
  have h1 : (n : Rat) ≤ ((2700000 : Nat) : Rat) := natR h
  have := sq_le Rat.natCast_nonneg h1
  exact Rat.le_trans this (by decide +kernel)
abbrev uR : Rat := ((swU : Nat) : Rat)
theorem polS_near {n : Nat} (h : n ≤ 2700000) : (ev polS n : Rat) - p480 * sa 1 (xi n) 0 9 ≤ uR ∧ p480 * sa 1 (xi n) 0 9 - (ev polS n : Rat) ≤ uR := by
  obtain ⟨h1, h2⟩ := ea_near (o := 1) (y := (n : Int) * n) ypos alS 0 nearS
  rw [ycast] at h1 h2
  have hl : alS.length = 9 := by decide
  rw [hl] at h1 h2
  have hm := er_mono (Rat.mul_nonneg (Rat.natCast_nonneg (a := n)) Rat.natCast_nonneg) (yle h) 9
  have hn : (n : Rat) ≤ 2700000 := natR h
  have hn0 : (0 : Rat) ≤ (n : Rat) := Rat.natCast_nonneg
  have k1 := Rat.mul_le_mul_of_nonneg_left h1 hn0
  have k2 := Rat.mul_le_mul_of_nonneg_left h2 hn0
  have k3 := Rat.mul_le_mul_of_nonneg_left hm hn0
  have k4 := Rat.mul_le_mul_of_nonneg_right hn (er_nn (show (0 : Rat) ≤ 7290000000000 by decide +kernel) 9)
  have k5 : 2700000 * er 7290000000000 9 ≤ uR := by decide +kernel
  rw [evS, sa_pr, Rat.intCast_mul, Rat.intCast_natCast, show pr 1 (n : Rat) 0 = (n : Rat) from if_pos rfl]
  clear hm hn
  generalize er 7290000000000 9 = E at *
  generalize er ((n : Rat) * (n : Rat)) 9 = e at *
  generalize kr 1 ((n : Rat) * (n : Rat)) 0 9 = K at *
  generalize (ea alS ((n : Int) * n) : Rat) = A at *
  generalize p480 = S at *
  generalize uR = u at *
  exact ⟨by grind, by grind⟩
theorem polC_near {n : Nat} (h : n ≤ 2700000) : (ev polC n : Rat) - p480 * sa 0 (xi n) 0 10 ≤ uR ∧ p480 * sa 0 (xi n) 0 10 - (ev polC n : Rat) ≤ uR := by
  obtain ⟨h1, h2⟩ := ea_near (o := 0) (y := (n : Int) * n) ypos alC 0 nearC
  rw [ycast] at h1 h2
  have hl : alC.length = 10 := by decide
  rw [hl] at h1 h2
  have hm := er_mono (Rat.mul_nonneg (Rat.natCast_nonneg (a := n)) Rat.natCast_nonneg) (yle h) 10
  have k5 : er 7290000000000 10 ≤ uR := by decide +kernel
  rw [evC, sa_pr, show pr 0 (n : Rat) 0 = 1 from if_neg (by decide)]
  generalize er 7290000000000 10 = E at *
  generalize er ((n : Rat) * (n : Rat)) 10 = e at *
  generalize kr 0 ((n : Rat) * (n : Rat)) 0 10 = K at *
  generalize (ea alC ((n : Int) * n) : Rat) = A at *
  generalize p480 = S at *
  generalize uR = u at *
  exact ⟨by grind, by grind⟩
/-- A term against the one before. -/
theorem tm_step {o n : Nat} (h : n ≤ 2700000) (i : Nat) (b c : Rat) (hb : tm o (xi n) i ≤ b) (hc : b * (617 / 1000) ≤ c * (dd o i : Rat)) : tm o (xi n) (i + 1) ≤ c := by
  have x0 := xi_nn n
  have x2 := xi_sq h
  have xx := Rat.mul_nonneg x0 x0
  obtain ⟨r1, r2, r3⟩ := quo_bd xx (dd_geR o i)
  have hd0 : (0 : Rat) < (dd o i : Rat) := by have := dd_geR o i; grind
  have ht := tm_nn (o := o) x0 i
  refine Rat.le_of_mul_le_mul_right (c := (dd o i : Rat)) ?_ hd0
  have e : tm o (xi n) (i + 1) * (dd o i : Rat) = tm o (xi n) i * (xi n * xi n) := by
    show tm o (xi n) i * (xi n * xi n / (dd o i : Rat)) * (dd o i : Rat) = _
    grind
  rw [e]
  have a1 := Rat.mul_le_mul_of_nonneg_left x2 ht
  have a2 := Rat.mul_le_mul_of_nonneg_right hb (show (0 : Rat) ≤ 617 / 1000 by decide +kernel)
  grind
theorem tmS9 {n : Nat} (h : n ≤ 2700000) : tm 1 (xi n) 9 ≤ q62 := by
  have t0 : tm 1 (xi n) 0 ≤ 7854 / 10000 := by
    rw [show tm 1 (xi n) 0 = xi n from if_pos rfl]
    exact Rat.le_trans (xi_le h) (by decide +kernel)
  have t1 := tm_step h 0 _ (81 / 1000) t0 (by decide +kernel)
  have t2 := tm_step h 1 _ (25 / 10000) t1 (by decide +kernel)
  have t3 := tm_step h 2 _ (37 / 1000000) t2 (by decide +kernel)
  have t4 := tm_step h 3 _ (32 / 100000000) t3 (by decide +kernel)
  have t5 := tm_step h 4 _ (18 / 10000000000) t4 (by decide +kernel)
  have t6 := tm_step h 5 _ (72 / 10000000000000) t5 (by decide +kernel)
  have t7 := tm_step h 6 _ (22 / 1000000000000000) t6 (by decide +kernel)
  have t8 := tm_step h 7 _ (50 / 1000000000000000000) t7 (by decide +kernel)
  exact tm_step h 8 _ _ t8 (by decide +kernel)
theorem tmC10 {n : Nat} (h : n ≤ 2700000) : tm 0 (xi n) 10 ≤ q62 := by
  have t0 : tm 0 (xi n) 0 ≤ 1 := by
    rw [show tm 0 (xi n) 0 = 1 from if_neg (by decide)]
    decide +kernel
  have t1 := tm_step h 0 _ (31 / 100) t0 (by decide +kernel)
  have t2 := tm_step h 1 _ (16 / 1000) t1 (by decide +kernel)
  have t3 := tm_step h 2 _ (33 / 100000) t2 (by decide +kernel)
  have t4 := tm_step h 3 _ (37 / 10000000) t3 (by decide +kernel)
  have t5 := tm_step h 4 _ (26 / 1000000000) t4 (by decide +kernel)
  have t6 := tm_step h 5 _ (13 / 100000000000) t5 (by decide +kernel)
  have t7 := tm_step h 6 _ (5 / 10000000000000) t6 (by decide +kernel)
  have t8 := tm_step h 7 _ (2 / 1000000000000000) t7 (by decide +kernel)
  have t9 := tm_step h 8 _ (5 / 1000000000000000000) t8 (by decide +kernel)
  exact tm_step h 9 _ _ t9 (by decide +kernel)
/-- Out of the polynomial's margin. -/
theorem margin_of {P T A : Rat} {p q : Int} (h1 : (swU : Int) * (q * (swM : Int) + 8803909632) ≤ p) (h2 : p ≤ (swU : Int) * (q * (swM : Int) + (swM : Int) - 8803909632)) (hP : P = (p : Rat)) (n1 : P - p480 * A ≤ uR) (n2 : p480 * A - P ≤ uR) (t1 : T - A ≤ q62) (t2 : A - T ≤ q62) :
    ((q * 4294967296 + 1040 : Int) : Rat) * q62 ≤ T ∧ T ≤ ((q * 4294967296 + 4294967296 - 1040 : Int) : Rat) * q62 := by
  have g1 := Rat.intCast_le_intCast.2 h1
  have g2 := Rat.intCast_le_intCast.2 h2
  subst hP
  simp only [Rat.intCast_mul, Rat.intCast_add, Rat.intCast_sub, Rat.intCast_natCast] at g1 g2 ⊢
  have e1 : ((swM : Nat) : Rat) = 36028797018963968 := by decide +kernel
  have e2 : ((8803909632 : Int) : Rat) = 8803909632 := rfl
  have e3 : ((4294967296 : Int) : Rat) = 4294967296 := rfl
  have e4 : ((1040 : Int) : Rat) = 1040 := rfl
  have e5 : p480 = uR * 38685626227668133590597632 := by decide +kernel
  have e6 : (1 : Rat) = 4611686018427387904 * q62 := by decide +kernel
  have hu : (0 : Rat) < uR := by decide +kernel
  rw [e1, e2] at g1 g2
  rw [e3, e4]
  rw [e5] at n1 n2
  have f1 : uR * ((q : Rat) * 36028797018963968 + 8803909631) ≤ uR * (38685626227668133590597632 * A) := by grind
  have f2 : uR * (38685626227668133590597632 * A) ≤ uR * ((q : Rat) * 36028797018963968 + 36028797018963968 - 8803909631) := by grind
  have k1 := Rat.le_of_mul_le_mul_left f1 hu
  have k2 := Rat.le_of_mul_le_mul_left f2 hu
  have he : (0 : Rat) ≤ q62 := Rat.le_of_lt q62_pos
  have m1 := Rat.mul_le_mul_of_nonneg_right k1 he
  have m2 := Rat.mul_le_mul_of_nonneg_right k2 he
  clear g1 g2 f1 f2 n1 n2 e5 h1 h2 e1 e2 e3 e4 k1 k2 hu he
  generalize q62 = e at *
  generalize (q : Rat) = Q at *
  have m3 : 38685626227668133590597632 * A * e = 8388608 * A * (4611686018427387904 * e) := by grind
  rw [m3, ← e6] at m1 m2
  exact ⟨by grind, by grind⟩
end Go.Proofs.YthilhhegchmjeaaGreat.TT
/- Every sine of an eighth of a turn: the program's and the reference's, rounded down, are the same. -/
set_option linter.unusedVariables false
namespace Go.Proofs.YthilhhegchmjeaaGreat.TT
theorem allS {b : Nat} (h : b < 2701) : one 1 polS b = true := by
  rcases Nat.lt_or_ge b 100 with g | g
  · exact sweep_spec 100 swS0 b (by omega) (by omega)
  rcases Nat.lt_or_ge b 200 with g | g
  · exact sweep_spec 100 swS1 b (by omega) (by omega)
  rcases Nat.lt_or_ge b 300 with g | g
  · exact sweep_spec 100 swS2 b (by omega) (by omega)
  rcases Nat.lt_or_ge b 400 with g | g
  · exact sweep_spec 100 swS3 b (by omega) (by omega)
  rcases Nat.lt_or_ge b 500 with g | g
  · exact sweep_spec 100 swS4 b (by omega) (by omega)
  rcases Nat.lt_or_ge b 600 with g | g
  · exact sweep_spec 100 swS5 b (by omega) (by omega)
  rcases Nat.lt_or_ge b 700 with g | g
  · exact sweep_spec 100 swS6 b (by omega) (by omega)
  rcases Nat.lt_or_ge b 800 with g | g
  · exact sweep_spec 100 swS7 b (by omega) (by omega)
  rcases Nat.lt_or_ge b 900 with g | g
  · exact sweep_spec 100 swS8 b (by omega) (by omega)
  rcases Nat.lt_or_ge b 1000 with g | g
  · exact sweep_spec 100 swS9 b (by omega) (by omega)
  rcases Nat.lt_or_ge b 1100 with g | g
  · exact sweep_spec 100 swS10 b (by omega) (by omega)
  rcases Nat.lt_or_ge b 1200 with g | g
  · exact sweep_spec 100 swS11 b (by omega) (by omega)
  rcases Nat.lt_or_ge b 1300 with g | g
  · exact sweep_spec 100 swS12 b (by omega) (by omega)
  rcases Nat.lt_or_ge b 1400 with g | g
  · exact sweep_spec 100 swS13 b (by omega) (by omega)
  rcases Nat.lt_or_ge b 1500 with g | g
  · exact sweep_spec 100 swS14 b (by omega) (by omega)
  rcases Nat.lt_or_ge b 1600 with g | g
  · exact sweep_spec 100 swS15 b (by omega) (by omega)
  rcases Nat.lt_or_ge b 1700 with g | g
  · exact sweep_spec 100 swS16 b (by omega) (by omega)
  rcases Nat.lt_or_ge b 1800 with g | g
  · exact sweep_spec 100 swS17 b (by omega) (by omega)
  rcases Nat.lt_or_ge b 1900 with g | g
  · exact sweep_spec 100 swS18 b (by omega) (by omega)
  rcases Nat.lt_or_ge b 2000 with g | g
  · exact sweep_spec 100 swS19 b (by omega) (by omega)
  rcases Nat.lt_or_ge b 2100 with g | g
  · exact sweep_spec 100 swS20 b (by omega) (by omega)
  rcases Nat.lt_or_ge b 2200 with g | g
  · exact sweep_spec 100 swS21 b (by omega) (by omega)
  rcases Nat.lt_or_ge b 2300 with g | g
  · exact sweep_spec 100 swS22 b (by omega) (by omega)
  rcases Nat.lt_or_ge b 2400 with g | g
  · exact sweep_spec 100 swS23 b (by omega) (by omega)
  rcases Nat.lt_or_ge b 2500 with g | g
  · exact sweep_spec 100 swS24 b (by omega) (by omega)
  rcases Nat.lt_or_ge b 2600 with g | g
  · exact sweep_spec 100 swS25 b (by omega) (by omega)
  rcases Nat.lt_or_ge b 2700 with g | g
  · exact sweep_spec 100 swS26 b (by omega) (by omega)
  exact sweep_spec 1 swS27 b (by omega) (by omega)
theorem allC {b : Nat} (h : b < 2701) : one 0 polC b = true := by
  rcases Nat.lt_or_ge b 100 with g | g
  · exact sweep_spec 100 swC0 b (by omega) (by omega)
  rcases Nat.lt_or_ge b 200 with g | g
  · exact sweep_spec 100 swC1 b (by omega) (by omega)
  rcases Nat.lt_or_ge b 300 with g | g
  · exact sweep_spec 100 swC2 b (by omega) (by omega)
  rcases Nat.lt_or_ge b 400 with g | g
  · exact sweep_spec 100 swC3 b (by omega) (by omega)
  rcases Nat.lt_or_ge b 500 with g | g
  · exact sweep_spec 100 swC4 b (by omega) (by omega)
  rcases Nat.lt_or_ge b 600 with g | g
  · exact sweep_spec 100 swC5 b (by omega) (by omega)
  rcases Nat.lt_or_ge b 700 with g | g
  · exact sweep_spec 100 swC6 b (by omega) (by omega)
  rcases Nat.lt_or_ge b 800 with g | g
  · exact sweep_spec 100 swC7 b (by omega) (by omega)
  rcases Nat.lt_or_ge b 900 with g | g
  · exact sweep_spec 100 swC8 b (by omega) (by omega)
  rcases Nat.lt_or_ge b 1000 with g | g
  · exact sweep_spec 100 swC9 b (by omega) (by omega)
  rcases Nat.lt_or_ge b 1100 with g | g
  · exact sweep_spec 100 swC10 b (by omega) (by omega)
  rcases Nat.lt_or_ge b 1200 with g | g
  · exact sweep_spec 100 swC11 b (by omega) (by omega)
  rcases Nat.lt_or_ge b 1300 with g | g
  · exact sweep_spec 100 swC12 b (by omega) (by omega)
  rcases Nat.lt_or_ge b 1400 with g | g
  · exact sweep_spec 100 swC13 b (by omega) (by omega)
  rcases Nat.lt_or_ge b 1500 with g | g
  · exact sweep_spec 100 swC14 b (by omega) (by omega)
  rcases Nat.lt_or_ge b 1600 with g | g
  · exact sweep_spec 100 swC15 b (by omega) (by omega)
  rcases Nat.lt_or_ge b 1700 with g | g
  · exact sweep_spec 100 swC16 b (by omega) (by omega)
  rcases Nat.lt_or_ge b 1800 with g | g
  · exact sweep_spec 100 swC17 b (by omega) (by omega)
  rcases Nat.lt_or_ge b 1900 with g | g
  · exact sweep_spec 100 swC18 b (by omega) (by omega)
  rcases Nat.lt_or_ge b 2000 with g | g
  · exact sweep_spec 100 swC19 b (by omega) (by omega)
  rcases Nat.lt_or_ge b 2100 with g | g
  · exact sweep_spec 100 swC20 b (by omega) (by omega)
  rcases Nat.lt_or_ge b 2200 with g | g
  · exact sweep_spec 100 swC21 b (by omega) (by omega)
  rcases Nat.lt_or_ge b 2300 with g | g
  · exact sweep_spec 100 swC22 b (by omega) (by omega)
  rcases Nat.lt_or_ge b 2400 with g | g
  · exact sweep_spec 100 swC23 b (by omega) (by omega)
  rcases Nat.lt_or_ge b 2500 with g | g
  · exact sweep_spec 100 swC24 b (by omega) (by omega)
  rcases Nat.lt_or_ge b 2600 with g | g
  · exact sweep_spec 100 swC25 b (by omega) (by omega)
  rcases Nat.lt_or_ge b 2700 with g | g
  · exact sweep_spec 100 swC26 b (by omega) (by omega)
  exact sweep_spec 1 swC27 b (by omega) (by omega)
/-- The margin. -/
theorem margin {o n : Nat} (ho : o ≤ 1) (h0 : n ≠ 0) (h : n ≤ 2700000) (h1 : o = 1 → n ≠ 1800000) : ∃ q : Int, ((q * 4294967296 + 1040 : Int) : Rat) * q62 ≤ TT o n ∧ TT o n ≤ ((q * 4294967296 + 4294967296 - 1040 : Int) : Rat) * q62 := by
  match o, ho with
  | 0, _ =>
    obtain ⟨q, a1, a2⟩ := one_spec tailC (n := n) (by omega) (allC (by omega)) h0 h1
    obtain ⟨n1, n2⟩ := polC_near h
    obtain ⟨g1, g2⟩ := sa_more (o := 0) (xi_nn n) (xi_sq h) 25 10 0
    have ht := tmC10 h
    rw [Nat.zero_add] at g1 g2
    have eT : TT 0 n = sa 0 (xi n) 0 (10 + 25) := rfl
    have t1 : TT 0 n - sa 0 (xi n) 0 10 ≤ q62 := by rw [eT]; exact Rat.le_trans g1 ht
    have t2 : sa 0 (xi n) 0 10 - TT 0 n ≤ q62 := by rw [eT]; exact Rat.le_trans g2 ht
    exact ⟨q, margin_of (P := (ev polC n : Rat)) (A := sa 0 (xi n) 0 10) (T := TT 0 n) (p := ev polC n) (q := q) a1 a2 (Eq.refl _) n1 n2 t1 t2⟩
  | 1, _ =>
    obtain ⟨q, a1, a2⟩ := one_spec tailS (n := n) (by omega) (allS (by omega)) h0 h1
    obtain ⟨n1, n2⟩ := polS_near h
    obtain ⟨g1, g2⟩ := sa_more (o := 1) (xi_nn n) (xi_sq h) 26 9 0
    have ht := tmS9 h
    rw [Nat.zero_add] at g1 g2
    have eT : TT 1 n = sa 1 (xi n) 0 (9 + 26) := rfl
    have t1 : TT 1 n - sa 1 (xi n) 0 9 ≤ q62 := by rw [eT]; exact Rat.le_trans g1 ht
    have t2 : sa 1 (xi n) 0 9 - TT 1 n ≤ q62 := by rw [eT]; exact Rat.le_trans g2 ht
    exact ⟨q, margin_of (P := (ev polS n : Rat)) (A := sa 1 (xi n) 0 9) (T := TT 1 n) (p := ev polS n) (q := q) a1 a2 (Eq.refl _) n1 n2 t1 t2⟩
theorem lt_of_q {a b : Int} (h : (a : Rat) * q62 ≤ (b : Rat) * q62) : a ≤ b := Rat.intCast_le_intCast.1 (Rat.le_of_mul_le_mul_right h q62_pos)
/-- THE AGREEMENT: the quick sine is decided, and is what the program's digits say. -/
theorem sines {o n : Nat} (ho : o ≤ 1) (h0 : n ≠ 0) (h : n ≤ 2700000) (h1 : o = 1 → n ≠ 1800000) :
    (quickF o n - 256) / 4294967296 = (sinF o n / 2 ^ 226 : Nat) ∧ (quickF o n + 256) / 4294967296 = (sinF o n / 2 ^ 226 : Nat) ∧ quickF o n / 4294967296 = (sinF o n / 2 ^ 226 : Nat) ∧ sinF o n / 2 ^ 226 < 1073741824 ∧ 600 ≤ quickF o n % 4294967296 ∧ quickF o n % 4294967296 ≤ 4294966696 := by
  obtain ⟨q, m1, m2⟩ := margin ho h0 h h1
  obtain ⟨a1, a2⟩ := quickF_R ho h
  obtain ⟨b1, b2⟩ := sinF_R ho h
  have k1 : q * 4294967296 + 1040 ≤ quickF o n + 110 := lt_of_q (by
    rw [Rat.intCast_add (quickF o n)]
    have e : ((110 : Int) : Rat) = 110 := rfl
    rw [e]; grind)
  have k2 : quickF o n - 110 ≤ q * 4294967296 + 4294967296 - 1040 := lt_of_q (by
    rw [Rat.intCast_sub (quickF o n)]
    have e : ((110 : Int) : Rat) = 110 := rfl
    rw [e]; grind)
  -- the program's digits
  have eE : q62 = eR * 25108406941546723055343157692830665664409421777856138051584 := by decide +kernel
  have he := eR_pos
  have s1 : (q * 4294967296 + 1040) * 25108406941546723055343157692830665664409421777856138051584 ≤ (sinF o n : Int) + 11 := by
    refine Rat.intCast_le_intCast.1 (Rat.le_of_mul_le_mul_right (c := eR) ?_ he)
    rw [Rat.intCast_mul, Rat.intCast_add (sinF o n : Int), Rat.intCast_natCast]
    have e : ((11 : Int) : Rat) = 11 := rfl
    have e2 : ((25108406941546723055343157692830665664409421777856138051584 : Int) : Rat) = 25108406941546723055343157692830665664409421777856138051584 := rfl
    rw [e, e2]
    rw [eE] at m1
    grind
  have s2 : (sinF o n : Int) - 11 ≤ (q * 4294967296 + 4294967296 - 1040) * 25108406941546723055343157692830665664409421777856138051584 := by
    refine Rat.intCast_le_intCast.1 (Rat.le_of_mul_le_mul_right (c := eR) ?_ he)
    rw [Rat.intCast_mul, Rat.intCast_sub (sinF o n : Int), Rat.intCast_natCast]
    have e : ((11 : Int) : Rat) = 11 := rfl
    have e2 : ((25108406941546723055343157692830665664409421777856138051584 : Int) : Rat) = 25108406941546723055343157692830665664409421777856138051584 := rfl
    rw [e, e2]
    rw [eE] at m2
    grind
  have hs : (sinF o n : Int) / (2 ^ 226 : Nat) = q := by
    generalize (sinF o n : Int) = s at *
    omega
  have hS : ((sinF o n / 2 ^ 226 : Nat) : Int) = q := by rw [Int.natCast_ediv]; exact hs
  -- at most 1
  have hq : q ≤ 1073741823 := by
    have t1 : TT o n ≤ 1 := Rat.le_trans (sa_bd (xi_nn n) (xi_sq h) 0 35).2 (tm_le (xi_nn n) (xi_sq h) (Rat.le_trans (xi_le h) (by decide +kernel)) 0)
    have e6 : (1 : Rat) = ((4611686018427387904 : Int) : Rat) * q62 := by decide +kernel
    have := lt_of_q (Rat.le_trans m1 (by rw [← e6]; exact t1))
    omega
  refine ⟨?_, ?_, ?_, ?_, ?_, ?_⟩
  · rw [hS]; omega
  · rw [hS]; omega
  · rw [hS]; omega
  · omega
  · omega
  · omega
end Go.Proofs.YthilhhegchmjeaaGreat.TT
/- One times the sine of any angle, rounded down and up: as the program and as the reference reckon it. -/
set_option linter.unusedVariables false
namespace Go.Proofs.YthilhhegchmjeaaGreat.TT
def flS (o r : Nat) : Int := ((sinF o r / 2 ^ 226 : Nat) : Int)
/-- The program's sine of an angle from 0 to a quarter of a turn. -/
def sinB (r : Int) : Int × Bool :=
  if r = 0 then (0, true) else if r = 1800000 then (536870912, true) else if r = 5400000 then (1073741824, true) else if 2 * r ≤ 5400000 then (flS 1 r.toNat, false) else (flS 0 (5400000 - r).toNat, false)
def turnI (n : Int) : Int := n % 21600000
def hiB (x : Int × Bool) : Int := if x.2 = true then x.1 else x.1 + 1
/-- The place in the first quarter. -/
def foldI (m : Int) : Int := if (if 10800000 < m then m - 10800000 else m) > 5400000 then 10800000 - (if 10800000 < m then m - 10800000 else m) else (if 10800000 < m then m - 10800000 else m)
/-- The program's bounds. -/
def bnd (n : Int) : Int × Int := if 10800000 < turnI n then (-(hiB (sinB (foldI (turnI n)))), -(sinB (foldI (turnI n))).1) else ((sinB (foldI (turnI n))).1, hiB (sinB (foldI (turnI n))))
/-- The reference's exact values. -/
def exaI (n : Int) : Int × Bool :=
  if turnI n % 1800000 ≠ 0 then (0, false) else
  match (turnI n / 1800000).toNat with
  | 0 => (0, true) | 1 => (536870912, true) | 3 => (1073741824, true) | 5 => (536870912, true) | 6 => (0, true) | 7 => (-536870912, true) | 9 => (-1073741824, true) | 11 => (-536870912, true)
  | _ => (0, false)
/-- The reference's quick sine of any angle. -/
def quickI (n : Int) : Int :=
  let q := turnI n / 5400000
  let r := turnI n % 5400000
  let c := decide (q % 2 = 1)
  let v := if r > 2700000 then quickF (if c then 1 else 0) (5400000 - r).toNat else quickF (if c then 0 else 1) r.toNat
  if q ≥ 2 then 0 - v else v
def floI (n : Int) : Int × Bool := if (exaI n).2 = true then exaI n else (quickI n / 4294967296, false)
def endsI (n : Int) : Int × Int := if (floI n).2 = true then ((floI n).1, (floI n).1) else ((floI n).1, (floI n).1 + 1)
/-- Where it is not exact the quick sine is decided. -/
theorem half_same : flS 1 2700000 = flS 0 2700000 := by
  have h1 := (sines (o := 1) (n := 2700000) (by omega) (by omega) (by omega) (by omega)).2.2.1
  have h2 := (sines (o := 0) (n := 2700000) (by omega) (by omega) (by omega) (by omega)).2.2.1
  unfold flS
  rw [← h1, ← h2]
  decide +kernel
theorem flS_q {o n : Nat} (ho : o ≤ 1) (h0 : n ≠ 0) (h : n ≤ 2700000) (h1 : o = 1 → n ≠ 1800000) : quickF o n / 4294967296 = flS o n ∧ (quickF o n - 256) / 4294967296 = flS o n ∧ (quickF o n + 256) / 4294967296 = flS o n ∧ (0 - quickF o n) / 4294967296 = -(flS o n + 1) ∧ (0 - quickF o n - 256) / 4294967296 = -(flS o n + 1) ∧ (0 - quickF o n + 256) / 4294967296 = -(flS o n + 1) ∧ 0 ≤ flS o n ∧ flS o n ≤ 1073741823 := by
  obtain ⟨a1, a2, a3, a4, a5, a6⟩ := sines ho h0 h h1
  have e : flS o n = ((sinF o n / 2 ^ 226 : Nat) : Int) := rfl
  rw [← e] at a1 a2 a3
  have e0 : 0 ≤ flS o n := by rw [e]; omega
  have e1 : flS o n < 1073741824 := by rw [e]; omega
  clear e a4
  generalize quickF o n = v at *
  generalize flS o n = f at *
  exact ⟨a3, a1, a2, by omega, by omega, by omega, e0, by omega⟩
theorem sinB_lo {r : Int} (h0 : 0 < r) (h1 : r ≤ 2700000) (h2 : r ≠ 1800000) : sinB r = (flS 1 r.toNat, false) := by
  unfold sinB
  rw [if_neg (by omega), if_neg h2, if_neg (by omega), if_pos (by omega)]
theorem sinB_hi {r : Int} (h0 : 2700000 ≤ r) (h1 : r < 5400000) : sinB r = (flS 0 (5400000 - r).toNat, false) := by
  unfold sinB
  by_cases h : r = 2700000
  · subst h
    rw [if_neg (by omega), if_neg (by omega), if_neg (by omega), if_pos (by omega)]
    exact congrArg (·, false) half_same
  · rw [if_neg (by omega), if_neg (by omega), if_neg (by omega), if_neg (by omega)]
theorem turnI_bd (n : Int) : 0 ≤ turnI n ∧ turnI n < 21600000 := ⟨Int.emod_nonneg n (by decide), Int.emod_lt_of_pos n (by decide)⟩
/-- Where the sine is not exact: how the quick sine and the program's go. -/
theorem mid_c (n : Int) (h : turnI n % 5400000 ≠ 0) (hx : turnI n % 10800000 ≠ 1800000) (hx2 : turnI n % 10800000 ≠ 9000000) : ∃ o k : Nat, o ≤ 1 ∧ k ≠ 0 ∧ k ≤ 2700000 ∧ (o = 1 → k ≠ 1800000) ∧ quickI n = (if turnI n / 5400000 ≥ 2 then 0 - quickF o k else quickF o k) ∧ sinB (foldI (turnI n)) = (flS o k, false) ∧ (10800000 < turnI n ↔ turnI n / 5400000 ≥ 2) := by
  obtain ⟨m0, m1⟩ := turnI_bd n
  have hd := Int.emod_add_mul_ediv (turnI n) 5400000
  have hr0 := Int.emod_nonneg (turnI n) (show (5400000 : Int) ≠ 0 by decide)
  have hr1 := Int.emod_lt_of_pos (turnI n) (show (0 : Int) < 5400000 by decide)
  unfold quickI
  generalize turnI n = m at *
  generalize hq : m / 5400000 = q at *
  generalize hr : m % 5400000 = r at *
  dsimp only
  have hq4 : q = 0 ∨ q = 1 ∨ q = 2 ∨ q = 3 := by omega
  have hf : foldI m = if q % 2 = 1 then 5400000 - r else r := by
    unfold foldI
    rcases hq4 with rfl | rfl | rfl | rfl
    · rw [if_neg (show ¬ (10800000 < m) by omega), if_neg (show ¬ (m > 5400000) by omega), if_neg (by decide)]; omega
    · rw [if_neg (show ¬ (10800000 < m) by omega), if_pos (show m > 5400000 by omega), if_pos (by decide)]; omega
    · rw [if_pos (show 10800000 < m by omega), if_neg (show ¬ (m - 10800000 > 5400000) by omega), if_neg (by decide)]; omega
    · rw [if_pos (show 10800000 < m by omega), if_pos (show m - 10800000 > 5400000 by omega), if_pos (by decide)]; omega
  rw [hf]
  have hs : (10800000 < m ↔ q ≥ 2) := by omega
  by_cases hc : q % 2 = 1
  · have hcd : decide (q % 2 = 1) = true := by simpa using hc
    rw [hcd, if_pos hc]
    by_cases hg : r > 2700000
    · refine ⟨1, (5400000 - r).toNat, by omega, by omega, by omega, by omega, ?_, ?_, hs⟩
      · rw [if_pos hg]; rfl
      · exact sinB_lo (by omega) (by omega) (by omega)
    · refine ⟨0, r.toNat, by omega, by omega, by omega, by omega, ?_, ?_, hs⟩
      · rw [if_neg hg]; rfl
      · rw [sinB_hi (by omega) (by omega)]
        rw [show 5400000 - (5400000 - r) = r by omega]
  · have hcd : decide (q % 2 = 1) = false := by simpa using hc
    rw [hcd, if_neg hc]
    by_cases hg : r > 2700000
    · refine ⟨0, (5400000 - r).toNat, by omega, by omega, by omega, by omega, ?_, ?_, hs⟩
      · rw [if_pos hg]; rfl
      · exact sinB_hi (by omega) (by omega)
    · refine ⟨1, r.toNat, by omega, by omega, by omega, by omega, ?_, ?_, hs⟩
      · rw [if_neg hg]; rfl
      · exact sinB_lo (by omega) (by omega) (by omega)
/-- The multiples of 30 degrees. -/
theorem exa_no {n : Int} (h : (exaI n).2 = false) : turnI n % 5400000 ≠ 0 ∧ turnI n % 10800000 ≠ 1800000 ∧ turnI n % 10800000 ≠ 9000000 := by
  obtain ⟨m0, m1⟩ := turnI_bd n
  unfold exaI at h
  by_cases h3 : turnI n % 1800000 = 0
  · rw [if_neg (by omega)] at h
    generalize turnI n = m at *
    have hk : m = 1800000 * (m / 1800000) := by omega
    generalize m / 1800000 = k at *
    have : k = 0 ∨ k = 1 ∨ k = 2 ∨ k = 3 ∨ k = 4 ∨ k = 5 ∨ k = 6 ∨ k = 7 ∨ k = 8 ∨ k = 9 ∨ k = 10 ∨ k = 11 := by omega
    rcases this with rfl | rfl | rfl | rfl | rfl | rfl | rfl | rfl | rfl | rfl | rfl | rfl <;> first | (exfalso; revert h; decide) | (subst hk; decide)
  · omega
theorem exa_yes {n : Int} (h : (exaI n).2 = true) : bnd n = ((exaI n).1, (exaI n).1) := by
  obtain ⟨m0, m1⟩ := turnI_bd n
  unfold bnd
  unfold exaI at h ⊢
  by_cases h3 : turnI n % 1800000 = 0
  · generalize turnI n = m at *
    have hk : m = 1800000 * (m / 1800000) := by omega
    generalize m / 1800000 = k at *
    have : k = 0 ∨ k = 1 ∨ k = 2 ∨ k = 3 ∨ k = 4 ∨ k = 5 ∨ k = 6 ∨ k = 7 ∨ k = 8 ∨ k = 9 ∨ k = 10 ∨ k = 11 := by omega
    rcases this with rfl | rfl | rfl | rfl | rfl | rfl | rfl | rfl | rfl | rfl | rfl | rfl <;> subst hk <;> first | (exfalso; revert h; decide) | decide +kernel
  · have hne : turnI n % 1800000 ≠ 0 := h3
    simp only [if_pos hne] at h
    cases h
/-- THE AGREEMENT: the program's bounds and the reference's. -/
theorem ends_bnd (n : Int) : endsI n = bnd n := by
  unfold endsI floI
  cases hx : (exaI n).2 with
  | true =>
    rw [if_pos rfl, if_pos hx, exa_yes hx]
  | false =>
    have e0 : (if false = true then exaI n else (quickI n / 4294967296, false)) = (quickI n / 4294967296, false) := if_neg (by decide)
    rw [e0]
    obtain ⟨h1, h2, h3⟩ := exa_no hx
    obtain ⟨o, k, ho, k0, k1, k2, hv, hs, hq⟩ := mid_c n h1 h2 h3
    obtain ⟨a1, a2, a3, a4, a5, a6, a7, a8⟩ := flS_q ho k0 k1 k2
    unfold bnd hiB
    rw [hs, hv]
    dsimp only
    by_cases hg : turnI n / 5400000 ≥ 2
    · rw [if_pos hg, if_neg (by decide), if_pos (hq.2 hg), a4, if_neg (by decide)]
      exact Prod.ext rfl (by dsimp only; omega)
    · rw [if_neg hg, if_neg (by decide), if_neg (fun h => hg (hq.1 h)), a1, if_neg (by decide)]
/-- The quick sine is decided where it is asked. -/
theorem decided {n : Int} (h : (exaI n).2 = false) : (quickI n - 256) / 4294967296 = (quickI n + 256) / 4294967296 := by
  obtain ⟨h1, h2, h3⟩ := exa_no h
  obtain ⟨o, k, ho, k0, k1, k2, hv, hs, hq⟩ := mid_c n h1 h2 h3
  obtain ⟨a1, a2, a3, a4, a5, a6, a7, a8⟩ := flS_q ho k0 k1 k2
  rw [hv]
  split
  · rw [a5, a6]
  · rw [a2, a3]
theorem sinB_bd {r : Int} (h0 : 0 ≤ r) (h1 : r ≤ 5400000) : 0 ≤ (sinB r).1 ∧ hiB (sinB r) ≤ 1073741824 ∧ (sinB r).1 ≤ hiB (sinB r) := by
  by_cases e0 : r = 0
  · subst e0; decide
  by_cases e1 : r = 1800000
  · subst e1; decide
  by_cases e2 : r = 5400000
  · subst e2; decide
  by_cases hg : r ≤ 2700000
  · rw [sinB_lo (by omega) hg e1]
    obtain ⟨_, _, _, _, _, _, a7, a8⟩ := flS_q (o := 1) (n := r.toNat) (by omega) (by omega) (by omega) (by omega)
    unfold hiB
    dsimp only
    rw [if_neg (by decide)]
    omega
  · rw [sinB_hi (by omega) (by omega)]
    obtain ⟨_, _, _, _, _, _, a7, a8⟩ := flS_q (o := 0) (n := (5400000 - r).toNat) (by omega) (by omega) (by omega) (by omega)
    unfold hiB
    dsimp only
    rw [if_neg (by decide)]
    omega
theorem foldI_bd {m : Int} (h0 : 0 ≤ m) (h1 : m < 21600000) : 0 ≤ foldI m ∧ foldI m ≤ 5400000 := by unfold foldI; omega
theorem bnd_bd (n : Int) : -1073741824 ≤ (bnd n).1 ∧ (bnd n).1 ≤ (bnd n).2 ∧ (bnd n).2 ≤ 1073741824 := by
  obtain ⟨m0, m1⟩ := turnI_bd n
  obtain ⟨f0, f1⟩ := foldI_bd m0 m1
  obtain ⟨b0, b1, b2⟩ := sinB_bd f0 f1
  unfold bnd
  split
  · dsimp only; omega
  · dsimp only; omega
end Go.Proofs.YthilhhegchmjeaaGreat.TT
/- Sines grow from one angle of the first quarter to the next, as the program reckons them. -/
set_option linter.unusedVariables false
namespace Go.Proofs.YthilhhegchmjeaaGreat.TT
theorem hv_mono {o : Nat} {y y' : Rat} (hy : 0 ≤ y) (h : y ≤ y') (hy1 : y' ≤ 617 / 1000) : ∀ (m k : Nat), 0 ≤ hv o y' k m - hv o y k m ∧ 2 * (hv o y' k m - hv o y k m) ≤ y' - y
  | 0, k => by simp only [hv]; exact ⟨by grind, by grind⟩
  | m + 1, k => by
    obtain ⟨i1, i2⟩ := hv_mono (o := o) hy h hy1 m (k + 1)
    obtain ⟨v1, v2⟩ := hv_bd (o := o) (Rat.le_trans hy h) hy1 m (k + 1)
    obtain ⟨w1, w2⟩ := hv_bd (o := o) hy (Rat.le_trans h hy1) m (k + 1)
    have hd := dd_geR o k
    have hd0 : (0 : Rat) < (dd o k : Rat) := by grind
    obtain ⟨q1, q2, q3⟩ := quo_bd hy hd
    obtain ⟨p1, p2, p3⟩ := quo_bd (show 0 ≤ y' - y by grind) hd
    have e : y' / (dd o k : Rat) = y / (dd o k : Rat) + (y' - y) / (dd o k : Rat) := by
      rw [Rat.div_def, Rat.div_def, Rat.div_def]; grind
    simp only [hv]
    rw [e]
    generalize hv o y' (k + 1) m = H' at *
    generalize hv o y (k + 1) m = H at *
    generalize hq : y / (dd o k : Rat) = q at *
    generalize hp : (y' - y) / (dd o k : Rat) = p at *
    have a0 : 0 ≤ 1 - H' := by grind
    have a1 : 1 - H' ≤ 1 := by grind
    have b1 := mul_le_one p1 a1
    have b2 := Rat.mul_le_mul_of_nonneg_left (show (691 : Rat) / 1000 ≤ 1 - H' by grind) p1
    have b3 := Rat.mul_nonneg q1 i1
    -- q (H' - H) <= q (y' - y) / 2 = y p / 2
    have b4 := Rat.mul_le_mul_of_nonneg_left i2 q1
    have e2 : q * (y' - y) = y * p := by
      have : q * (y' - y) * (dd o k : Rat) = y * p * (dd o k : Rat) := by grind
      generalize (dd o k : Rat) = d at *
      have hne : d ≠ 0 := by grind
      grind
    have b5 := Rat.mul_le_mul_of_nonneg_right (show y ≤ 617 / 1000 by grind) p1
    exact ⟨by grind, by grind⟩
theorem xi_mono {n m : Nat} (h : n ≤ m) : xi n ≤ xi m := by
  refine Rat.le_of_mul_le_mul_right (c := ((halfN * W256 : Nat) : Rat)) ?_ (by decide +kernel)
  rw [xi_mul, xi_mul]
  exact natR (Nat.mul_le_mul_right piN h)
theorem TTc_mono {n m : Nat} (h : n ≤ m) (hm : m ≤ 2700000) : TT 0 m ≤ TT 0 n := by
  have e : ∀ k, TT 0 k = 1 - hv 0 (xi k * xi k) 0 34 := fun k => by
    have := sa_hv 0 (xi k) 34 0
    rw [show tm 0 (xi k) 0 = 1 from if_neg (by decide)] at this
    show sa 0 (xi k) 0 (34 + 1) = _
    rw [this]; grind
  have h1 := (hv_mono (o := 0) (Rat.mul_nonneg (xi_nn n) (xi_nn n)) (sq_le (xi_nn n) (xi_mono h)) (xi_sq hm) 34 0).1
  rw [e, e]; grind
theorem TTs_mono {n m : Nat} (h : n ≤ m) (hm : m ≤ 2700000) : TT 1 n ≤ TT 1 m := by
  have e : ∀ k, TT 1 k = xi k * (1 - hv 1 (xi k * xi k) 0 34) := fun k => by
    have := sa_hv 1 (xi k) 34 0
    rw [show tm 1 (xi k) 0 = xi k from if_pos rfl] at this
    exact this
  obtain ⟨h1, h2⟩ := hv_mono (o := 1) (Rat.mul_nonneg (xi_nn n) (xi_nn n)) (sq_le (xi_nn n) (xi_mono h)) (xi_sq hm) 34 0
  obtain ⟨v1, v2⟩ := hv_bd (o := 1) (Rat.mul_nonneg (xi_nn m) (xi_nn m)) (xi_sq hm) 34 0
  have x0 := xi_nn n
  have hx := xi_mono h
  have hxm := xi_le hm
  rw [e, e]
  generalize hv 1 (xi m * xi m) 0 34 = H' at *
  generalize hv 1 (xi n * xi n) 0 34 = H at *
  generalize xi n = x at *
  generalize xi m = z at *
  have d0 : 0 ≤ z - x := by grind
  have b1 := Rat.mul_le_mul_of_nonneg_left (show (691 : Rat) / 1000 ≤ 1 - H' by grind) d0
  have b2 := Rat.mul_le_mul_of_nonneg_left h2 x0
  -- x (z z - x x) <= (z - x) * 617/500
  have b3 : x * (z + x) ≤ 617 / 500 := by
    have c1 := Rat.mul_le_mul_of_nonneg_left (show z + x ≤ 2 * (7853982 / 10000000) by grind) x0
    have c2 := Rat.mul_le_mul_of_nonneg_right (show x ≤ 7853982 / 10000000 by grind) (show (0 : Rat) ≤ 2 * (7853982 / 10000000) by decide +kernel)
    have c3 : (7853982 / 10000000 : Rat) * (2 * (7853982 / 10000000)) ≤ 617 / 500 := by decide +kernel
    grind
  have b4 := Rat.mul_le_mul_of_nonneg_left b3 d0
  have e3 : x * (z * z - x * x) = (z - x) * (x * (z + x)) := by grind
  grind
/-- Rounded down, they do not fall. -/
theorem q_le {T T' : Rat} {q q' : Int} (h : T ≤ T') (h1 : ((q * 4294967296 + 1040 : Int) : Rat) * q62 ≤ T) (h2 : T' ≤ ((q' * 4294967296 + 4294967296 - 1040 : Int) : Rat) * q62) : q ≤ q' := by
  have := lt_of_q (Rat.le_trans h1 (Rat.le_trans h h2))
  omega
/-- The margin, with its floor named. -/
theorem margin_fl {o n : Nat} (ho : o ≤ 1) (h0 : n ≠ 0) (h : n ≤ 2700000) (h1 : o = 1 → n ≠ 1800000) : ((flS o n * 4294967296 + 1040 : Int) : Rat) * q62 ≤ TT o n ∧ TT o n ≤ ((flS o n * 4294967296 + 4294967296 - 1040 : Int) : Rat) * q62 := by
  obtain ⟨q, m1, m2⟩ := margin ho h0 h h1
  obtain ⟨a1, a2⟩ := quickF_R ho h
  have k1 : q * 4294967296 + 1040 ≤ quickF o n + 110 := lt_of_q (by
    rw [Rat.intCast_add (quickF o n)]
    have e : ((110 : Int) : Rat) = 110 := rfl
    rw [e]; grind)
  have k2 : quickF o n - 110 ≤ q * 4294967296 + 4294967296 - 1040 := lt_of_q (by
    rw [Rat.intCast_sub (quickF o n)]
    have e : ((110 : Int) : Rat) = 110 := rfl
    rw [e]; grind)
  have hf := (flS_q ho h0 h h1).1
  have : flS o n = q := by rw [← hf]; omega
  rw [this]
  exact ⟨m1, m2⟩
theorem T30 : TT 1 1800000 ≤ ((2305843009213693952 + 500 : Int) : Rat) * q62 ∧ ((2305843009213693952 - 500 : Int) : Rat) * q62 ≤ TT 1 1800000 := by
  obtain ⟨a1, a2⟩ := quickF_R (o := 1) (r := 1800000) (by omega) (by omega)
  have h1 : quickF 1 1800000 ≤ 2305843009213693952 + 300 := by decide +kernel
  have h2 : 2305843009213693952 - 300 ≤ quickF 1 1800000 := by decide +kernel
  have he := Rat.le_of_lt q62_pos
  have g1 := Rat.mul_le_mul_of_nonneg_right (Rat.intCast_le_intCast.2 h1) he
  have g2 := Rat.mul_le_mul_of_nonneg_right (Rat.intCast_le_intCast.2 h2) he
  have c1 : ((2305843009213693952 + 500 : Int) : Rat) * q62 = ((2305843009213693952 + 300 : Int) : Rat) * q62 + 200 * q62 := by decide +kernel
  have c2 : ((2305843009213693952 - 500 : Int) : Rat) * q62 = ((2305843009213693952 - 300 : Int) : Rat) * q62 - 200 * q62 := by decide +kernel
  rw [c1, c2]
  exact ⟨by grind, by grind⟩
theorem sinB_step {r : Int} (h0 : 0 ≤ r) (h1 : r < 5400000) : (sinB r).1 ≤ (sinB (r + 1)).1 ∧ hiB (sinB r) ≤ hiB (sinB (r + 1)) := by
  have hd : ∀ {r : Int} {f : Int}, hiB (f, false) = f + 1 := fun {r f} => if_neg (fun h => Bool.noConfusion h)
  by_cases e0 : r = 0
  · subst e0
    obtain ⟨b1, b2, b3⟩ := sinB_bd (r := 0 + 1) (by omega) (by omega)
    have e1 : sinB 0 = (0, true) := rfl
    rw [e1]
    have e2 : hiB ((0 : Int), true) = 0 := rfl
    rw [e2]
    exact ⟨b1, by omega⟩
  by_cases e9 : r = 5399999
  · subst e9
    obtain ⟨b1, b2, b3⟩ := sinB_bd (r := 5399999) (by omega) (by omega)
    have e1 : sinB (5399999 + 1) = (1073741824, true) := rfl
    rw [e1]
    have e2 : hiB ((1073741824 : Int), true) = 1073741824 := rfl
    rw [e2]
    exact ⟨by dsimp only; omega, b2⟩
  by_cases hg : r + 1 ≤ 2700000
  · by_cases x1 : r = 1800000
    · subst x1
      have e1 : sinB 1800000 = (536870912, true) := rfl
      have e2 : hiB ((536870912 : Int), true) = 536870912 := rfl
      rw [e1, e2, sinB_lo (by omega) (by omega) (by omega), hd (r := 0)]
      obtain ⟨m1, m2⟩ := margin_fl (o := 1) (n := (1800000 + 1 : Int).toNat) (by omega) (by omega) (by omega) (by omega)
      have := lt_of_q (Rat.le_trans T30.2 (Rat.le_trans (TTs_mono (n := 1800000) (m := (1800000 + 1 : Int).toNat) (by omega) (by omega)) m2))
      dsimp only
      generalize flS 1 (1800000 + 1 : Int).toNat = f at *
      omega
    by_cases x2 : r + 1 = 1800000
    · obtain rfl : r = 1799999 := by omega
      have e1 : sinB (1799999 + 1) = (536870912, true) := rfl
      have e2 : hiB ((536870912 : Int), true) = 536870912 := rfl
      rw [e1, e2, sinB_lo (by omega) (by omega) (by omega), hd (r := 0)]
      obtain ⟨m1, m2⟩ := margin_fl (o := 1) (n := (1799999 : Int).toNat) (by omega) (by omega) (by omega) (by omega)
      have := lt_of_q (Rat.le_trans m1 (Rat.le_trans (TTs_mono (n := (1799999 : Int).toNat) (m := 1800000) (by omega) (by omega)) T30.1))
      dsimp only
      generalize flS 1 (1799999 : Int).toNat = f at *
      omega
    rw [sinB_lo (by omega) (by omega) x1, sinB_lo (by omega) (by omega) x2, hd (r := 0), hd (r := 0)]
    have g1 := (margin_fl (o := 1) (n := r.toNat) (by omega) (by omega) (by omega) (by omega)).1
    have g2 := (margin_fl (o := 1) (n := (r + 1).toNat) (by omega) (by omega) (by omega) (by omega)).2
    have := q_le (TTs_mono (n := r.toNat) (m := (r + 1).toNat) (by omega) (by omega)) g1 g2
    dsimp only
    omega
  · rw [sinB_hi (by omega) (by omega), sinB_hi (by omega) (by omega), hd (r := 0), hd (r := 0)]
    have g1 := (margin_fl (o := 0) (n := (5400000 - r).toNat) (by omega) (by omega) (by omega) (by omega)).1
    have g2 := (margin_fl (o := 0) (n := (5400000 - (r + 1)).toNat) (by omega) (by omega) (by omega) (by omega)).2
    have := q_le (TTc_mono (n := (5400000 - (r + 1)).toNat) (m := (5400000 - r).toNat) (by omega) (by omega)) g1 g2
    dsimp only
    omega
theorem sinB_mono {r s : Int} (h0 : 0 ≤ r) (h : r ≤ s) (h1 : s ≤ 5400000) : (sinB r).1 ≤ (sinB s).1 ∧ hiB (sinB r) ≤ hiB (sinB s) := by
  obtain ⟨k, rfl⟩ : ∃ k : Nat, s = r + k := ⟨(s - r).toNat, by omega⟩
  clear h
  induction k with
  | zero => simp
  | succ k ih =>
    obtain ⟨a1, a2⟩ := ih (by omega)
    obtain ⟨b1, b2⟩ := sinB_step (r := r + k) (by omega) (by omega)
    rw [show r + ((k + 1 : Nat) : Int) = r + k + 1 by omega]
    omega
/-- From minus a quarter of a turn to a quarter. -/
theorem bnd_pos {n : Int} (h0 : 0 ≤ n) (h1 : n ≤ 5400000) : bnd n = ((sinB n).1, hiB (sinB n)) := by
  have e : turnI n = n := Int.emod_eq_of_lt h0 (by omega)
  have f : foldI n = n := by unfold foldI; omega
  unfold bnd
  rw [e, if_neg (by omega), f]
theorem bnd_neg {n : Int} (h0 : n < 0) (h1 : -5400000 ≤ n) : bnd n = (-(hiB (sinB (-n))), -(sinB (-n)).1) := by
  have e : turnI n = n + 21600000 := by unfold turnI; omega
  have f : foldI (n + 21600000) = -n := by unfold foldI; omega
  unfold bnd
  rw [e, if_pos (by omega), f]
theorem bnd_mono {n m : Int} (h0 : -5400000 ≤ n) (h : n ≤ m) (h1 : m ≤ 5400000) : (bnd n).2 ≤ (bnd m).2 ∧ (bnd n).1 ≤ (bnd m).1 := by
  by_cases hn : n < 0
  · rw [bnd_neg hn h0]
    obtain ⟨c0, c1, c2⟩ := sinB_bd (r := -n) (by omega) (by omega)
    by_cases hm : m < 0
    · rw [bnd_neg hm (by omega)]
      obtain ⟨a1, a2⟩ := sinB_mono (r := -m) (s := -n) (by omega) (by omega) (by omega)
      dsimp only; omega
    · rw [bnd_pos (by omega) h1]
      obtain ⟨d0, d1, d2⟩ := sinB_bd (r := m) (by omega) h1
      dsimp only; omega
  · rw [bnd_pos (by omega) (by omega), bnd_pos (by omega) h1]
    obtain ⟨a1, a2⟩ := sinB_mono (r := n) (s := m) (by omega) h h1
    dsimp only; omega
end Go.Proofs.YthilhhegchmjeaaGreat.TT
/- Sines and cosines that add up exactly: the powers of a point of the circle with rational coordinates; and how near they are to the series. -/
set_option linter.unusedVariables false
namespace Go.Proofs.YthilhhegchmjeaaGreat.TT
abbrev gN : Nat := 3121748550315926193951831940277315821210673593215258911583429951307027239011131789900149949103402095739306123185529139306124767889268813120015295
abbrev gM : Nat := 908079843706238644806034325650406515425330177812492484762442610479491082716054499456415604804744721835341976558232575606888922273617543168
abbrev gD : Nat := 3121748550316058268811362519309016790286522692114683390134883967943716238628399450340462257023581846580347739057284106484771183469307757492565057
def c1R : Rat := ((gN : Nat) : Rat) / ((gD : Nat) : Rat)
def s1R : Rat := ((gM : Nat) : Rat) / ((gD : Nat) : Rat)
theorem unit1 : c1R * c1R + s1R * s1R = 1 := by decide +kernel
def Zn : Nat → Rat × Rat
  | 0 => (1, 0)
  | n + 1 => ((Zn n).1 * c1R - (Zn n).2 * s1R, (Zn n).2 * c1R + (Zn n).1 * s1R)
def Cn (n : Nat) : Rat := (Zn n).1
def Sn (n : Nat) : Rat := (Zn n).2
theorem Cn_0 : Cn 0 = 1 := rfl
theorem Sn_0 : Sn 0 = 0 := rfl
theorem Cn_s (n : Nat) : Cn (n + 1) = Cn n * c1R - Sn n * s1R := rfl
theorem Sn_s (n : Nat) : Sn (n + 1) = Sn n * c1R + Cn n * s1R := rfl
theorem unitN_ : ∀ n, Cn n * Cn n + Sn n * Sn n = 1
  | 0 => by rw [Cn_0, Sn_0]; decide +kernel
  | n + 1 => by
    have ih := unitN_ n
    have u := unit1
    rw [Cn_s, Sn_s]
    generalize c1R = c at *
    generalize s1R = s at *
    generalize Cn n = a at *
    generalize Sn n = b at *
    have e : (a * c - b * s) * (a * c - b * s) + (b * c + a * s) * (b * c + a * s) = (a * a + b * b) * (c * c + s * s) := by grind
    rw [e, ih, u]; decide +kernel
theorem addN (m : Nat) : ∀ n, Cn (m + n) = Cn m * Cn n - Sn m * Sn n ∧ Sn (m + n) = Sn m * Cn n + Cn m * Sn n
  | 0 => by rw [Nat.add_zero, Cn_0, Sn_0]; exact ⟨by grind, by grind⟩
  | n + 1 => by
    obtain ⟨h1, h2⟩ := addN m n
    rw [← Nat.add_assoc, Cn_s, Sn_s, Cn_s, Sn_s, h1, h2]
    exact ⟨by grind, by grind⟩
/-- For all integers. -/
def C (n : Int) : Rat := Cn n.natAbs
def S (n : Int) : Rat := if 0 ≤ n then Sn n.natAbs else -(Sn n.natAbs)
theorem C_nat (n : Nat) : C n = Cn n := rfl
theorem S_nat (n : Nat) : S n = Sn n := if_pos (Int.natCast_nonneg n)
theorem C_neg (n : Int) : C (-n) = C n := by unfold C; rw [Int.natAbs_neg]
theorem S_neg (n : Int) : S (-n) = -(S n) := by
  unfold S
  rw [Int.natAbs_neg]
  by_cases h0 : n = 0
  · subst h0; rw [if_pos (by omega), if_pos (by omega)]
    have : Sn (Int.natAbs 0) = 0 := Sn_0
    rw [this]; decide +kernel
  by_cases h : 0 ≤ n
  · rw [if_pos h, if_neg (by omega)]
  · rw [if_neg h, if_pos (by omega)]; grind
theorem unit (n : Int) : C n * C n + S n * S n = 1 := by
  unfold C S
  split
  · exact unitN_ _
  · have := unitN_ n.natAbs
    grind
/-- A difference of natural numbers. -/
theorem subN (m n : Nat) : Cn m = Cn (m + n) * Cn n + Sn (m + n) * Sn n ∧ Sn m = Sn (m + n) * Cn n - Cn (m + n) * Sn n := by
  obtain ⟨h1, h2⟩ := addN m n
  have u := unitN_ n
  rw [h1, h2]
  generalize Cn n = a at *
  generalize Sn n = b at *
  constructor
  · have : (Cn m * a - Sn m * b) * a + (Sn m * a + Cn m * b) * b = Cn m * (a * a + b * b) := by grind
    rw [this, u]; grind
  · have : (Sn m * a + Cn m * b) * a - (Cn m * a - Sn m * b) * b = Sn m * (a * a + b * b) := by grind
    rw [this, u]; grind
theorem nat_of {n : Int} (h : 0 ≤ n) : ∃ k : Nat, n = k := ⟨n.toNat, by omega⟩
theorem add_pn (m k : Nat) : C ((m : Int) - k) = C m * C k + S m * S k ∧ S ((m : Int) - k) = S m * C k - C m * S k := by
  rw [C_nat, C_nat, S_nat, S_nat]
  rcases Nat.le_total k m with h | h
  · obtain ⟨d, rfl⟩ := Nat.exists_eq_add_of_le h
    rw [show ((k + d : Nat) : Int) - k = (d : Nat) by omega, C_nat, S_nat, Nat.add_comm k d]
    exact subN d k
  · obtain ⟨d, rfl⟩ := Nat.exists_eq_add_of_le h
    rw [show (m : Int) - (m + d : Nat) = -((d : Nat) : Int) by omega, C_neg, S_neg, C_nat, S_nat, Nat.add_comm m d]
    obtain ⟨h1, h2⟩ := subN d m
    rw [h1, h2]
    exact ⟨by grind, by grind⟩
theorem add_i (m n : Int) : C (m + n) = C m * C n - S m * S n ∧ S (m + n) = S m * C n + C m * S n := by
  rcases Int.le_total 0 m with hm | hm
  · obtain ⟨a, rfl⟩ := nat_of hm
    rcases Int.le_total 0 n with hn | hn
    · obtain ⟨b, rfl⟩ := nat_of hn
      rw [← Int.natCast_add, C_nat, C_nat, C_nat, S_nat, S_nat, S_nat]
      exact addN a b
    · obtain ⟨b, hb⟩ := nat_of (show 0 ≤ -n by omega)
      obtain rfl : n = -(b : Int) := by omega
      obtain ⟨h1, h2⟩ := add_pn a b
      rw [C_neg, S_neg, show (a : Int) + -b = a - b by omega, h1, h2]
      exact ⟨by grind, by grind⟩
  · obtain ⟨a, ha⟩ := nat_of (show 0 ≤ -m by omega)
    obtain rfl : m = -(a : Int) := by omega
    rcases Int.le_total 0 n with hn | hn
    · obtain ⟨b, rfl⟩ := nat_of hn
      obtain ⟨h1, h2⟩ := add_pn b a
      rw [C_neg, S_neg, show -(a : Int) + b = b - a by omega, h1, h2]
      exact ⟨by grind, by grind⟩
    · obtain ⟨b, hb⟩ := nat_of (show 0 ≤ -n by omega)
      obtain rfl : n = -(b : Int) := by omega
      rw [show -(a : Int) + -b = -((a + b : Nat) : Int) by omega, C_neg, S_neg, C_neg, S_neg, C_neg, S_neg, C_nat, C_nat, C_nat, S_nat, S_nat, S_nat]
      obtain ⟨h1, h2⟩ := addN a b
      rw [h1, h2]
      exact ⟨by grind, by grind⟩
theorem sub_i (m n : Int) : C (m - n) = C m * C n + S m * S n ∧ S (m - n) = S m * C n - C m * S n := by
  obtain ⟨h1, h2⟩ := add_i m (-n)
  rw [C_neg, S_neg] at h1 h2
  rw [Int.sub_eq_add_neg, h1, h2]
  exact ⟨by grind, by grind⟩
theorem sq_nn (a : Rat) : 0 ≤ a * a := by
  rcases Rat.nonneg_total a with h | h
  · exact Rat.mul_nonneg h h
  · have := Rat.mul_nonneg h h; grind
theorem abs1_of {a b : Rat} (h : a * a + b * b = 1) : -1 ≤ a ∧ a ≤ 1 := by
  have hb := sq_nn b
  constructor
  · refine Rat.not_lt.1 fun hlt => ?_
    have h1 : 1 < -a := by grind
    have h2 := Rat.mul_lt_mul_of_pos_left h1 (show 0 < -a by grind)
    grind
  · refine Rat.not_lt.1 fun hlt => ?_
    have h2 := Rat.mul_lt_mul_of_pos_left hlt (show 0 < a by grind)
    grind
theorem C_abs (n : Int) : -1 ≤ C n ∧ C n ≤ 1 := abs1_of (unit n)
theorem S_abs (n : Int) : -1 ≤ S n ∧ S n ≤ 1 := abs1_of (b := C n) (by have := unit n; grind)
/-! ### polynomials near the powers -/
def aS : List Int := [3951130259484604580091643310714979087940489674863369000099545099356012799334657191305792865370150916600492748764019062640873537066241977856366865418111443162548022600734248148955483892020397215326118771601841168159803823102756529530870262516270819019763543208457897703341944477393806892271144843994846736459918787269731357038, 55721440040990216189757584735348725117648686871912154331479230293571260554226563911837491001859059995482513158925700816546684366959420656374105265053695523414419970256407453696843905802786088830750975890752100712705354414207384031020785521186915861580322854894080575868840668787911628860068093336808203772746259, 235746129056753193169540765908655302910021419817863414859798361946957451396365267218369420088932950209203002251980705119086183426782905976705546077840774161088457499052852360883149802580192131977049714991241787549940268980160244067243121764851537396912533958413975428082917254581357078882444008481, 474949587023628103273603724570349647799572295058091843488079953834972175504620829809220319832647316669928995782463212567860469420970936742643980864047236398326569926467859370311080495396429669414465129202563289879998277567317014257859271271097259733121307835466700242229878632047278, 558170978888504665134040771649009975510057889231066840537763886300704322327063943223769136733829997755186967296883452091321844066117661621422796281647727771494669642200752052885673282586902944353902680646270677965448404587830582347638384248973431567142101615660733919, 429365160072822446616078428265522030035958904965233675227652461553767441661637832029772787257401310221483552801576211296046827545223623605420850806049753423076540934434701214396182125083613189714019889242628648306871381416868124076028052134869771817088, 232891928788622310225490703803765248420682997041030792506504480938087384482079128626125608701236456555640627491385779180618940936945776549823337006292630939878000441077843742540811660129478114164622389141885581499883654604088130069386651, 93839865657063502385138736810448464675790765958843024985319407887618888058615963232690465006560565553257097619004061546554551598945931743784717597676008779568067746398614406767481264511142518716029713453919483098298921233, 29192460937077259486944767637595479471540748509577879005992312160840970853534795356030483540540604063108141097272933377094873163640871249935030051020152223537671886919529126164588723509160083898381634453701, 7222654424851166539797721572027054227194642269294270919748950414218359120041627067148934351763821971302180335418746285282220599347320858751073911584802552771660099165607568191354745387889388, 1455123250601333436926298657805232554327398474003525755617064425354981146695253526439702308615898704231206875455192950631487105849283388718829663337644423918798121660534514094, 243333272985192338533346468355949159019803231403300890141252385354120564890522673807576280452530304329473873947349529794559233730621481632734027766484313001503, 34316460076390784142241528598762011772647751857974704149028008783940590711694312214261455159591880159732653636193545822513250246970767832739338, 4136353088273091857404076153225173082172877973538341657823024139505628452671083455236617433626750969160949088285055874906049352, 431036263367724737695418340764822437651531658908747274196498916597426538594499765751698212316660598497533453319, 39217788047067052724285285893126695841253779128551528073344667387673729626565148527695675733143, 3142471960395514316286375353128196140289661349537508642743397466062476252815446, 223448109320205766725928048542579917593799124080810840177959662, 14194650174620344160607564687002471488904398082, 810454661674876649458047968597, 41815482366787]
def aC : List Int := [13582985290493858492773514283592667786034938469317445497485196697278130927542418487205392083207560592298578262953847383475038725543234929971155548342800628721885763499406390331782864144164680730766837160526223176512798435772129956553355286032203080380775759732320198985094884004069116123084147875437183658467465148948790552744165376, 574668601693202186423853060606788552194706504643561752056451078738255663697311105674020776417897527019012946838202854849123500643446941546185684584311187665844960712968507062806269750358107513590527095614370338878395763104389262787219307357268043710287067908858068103665292126743735787721003046803907520324040804521713, 4052177469449514134263928470607484445593740704076304836964750056030017581662185645289919814379561602480852948201954889375763562789961991007694783077205786273973059793045962684653445958632536425044608995072684138970664958758095793441557199932008126653474997670310908011658996840526059436079012183974461846, 11429294863532825997023669627635646903141483151793425474399021439833466147342440203559436466418489727597615804338085197017258443882969928988424428846954190173192298491637104044195238412631130245322273151387620767830855432058633813975938956940353566100753368285999322973486618585270403440703, 17269654321978428723215733742002281966032552937692951781763467268316784804609915400564360938419783722381287359534176347314991557406356812918899504696598304979229698805055626175490172182423108720765401951269041267920441838445751578923033481115908720661440931649527760812179914, 16236535617806942883294839499665757602633195939143459182186462726414049470503959735031146949364470442220282980317792464776637482802981488181832348443986010418893655760635024549172295449104972854889875184501642428037356995776984083092992637599594944713376065226, 10408105189754510891241804929150975968473915156815688720101705392941363891468795682505613490046826711217221718126891191204545302047054645423896069233610577309133899082172944857713407220553284635585562369942814559645513585948506709285437740699308, 4838965427001938655346172276255939244875115178969490278233758659868366268442640728885442712817948833740620909808462128461053740088631840080138691900863655411179962052488585623659197503255957647371164167598574747241189113321064444, 1706056901400948118694321212539555200326225679826218157294713062381406048565045423048197305898024614197668771162272019788940948998850390072841040683986687478748066145550464733258651294744982531983170562808770377054, 471763481585025358911179225566963213045653573354739646791583248522849383723010460739619243475573081528549594796620022509611785450768392078513115357340620358329825175107993884043144301727575293632299, 105049250372825176682580854897111915051617306887458972762457805315991346553167166434380149054184255389838848154726393456080493508071586455770443685063004637803943023525587422515584577, 19239917988875626312227894799974659012413357003419092955695277010490940898653681252680206524944351553232792993970474627386856405734971542397270244274308930115773750584, 2949282495309567699181717224403031232218014644955548155831864755630187297104331748683529001365934838811275107909980824820504724309287782776296647235563, 383932830745002572433060627926955930139461351864340158656871217547761517669853236371442500544107881986337496766180480536652040874879322, 42972012152024467328612144038597135652864785350714320125353338176246082326583762841859800112998823293738668859513619598, 4179445550700121441162856926070669865447284563132635248659981474031645527180665987851689802836430651002, 356499753526352596222799515086972975193584115502873101380718405979857728377749042131910, 26885530568873811177835830779640718284402967454995416628550709544019340, 1805511673608249601900016330182259275412984218141342962, 108659377945575899060988880168917346670, 5893792618484707954062]
def pS : List Int := [0, 3951130259484604580091643310714979087940489674863369000099545099356012799334657191305792865370150916600492748764019062640873537066241977856366865418111443162548022600734248148955483892020397215326118771601841168159803823102756529530870262516270819019763543208457897703341944477393806892271144843994846736459918787269731357038, 0, -55721440040990216189757584735348725117648686871912154331479230293571260554226563911837491001859059995482513158925700816546684366959420656374105265053695523414419970256407453696843905802786088830750975890752100712705354414207384031020785521186915861580322854894080575868840668787911628860068093336808203772746259, 0, 235746129056753193169540765908655302910021419817863414859798361946957451396365267218369420088932950209203002251980705119086183426782905976705546077840774161088457499052852360883149802580192131977049714991241787549940268980160244067243121764851537396912533958413975428082917254581357078882444008481, 0, -474949587023628103273603724570349647799572295058091843488079953834972175504620829809220319832647316669928995782463212567860469420970936742643980864047236398326569926467859370311080495396429669414465129202563289879998277567317014257859271271097259733121307835466700242229878632047278, 0, 558170978888504665134040771649009975510057889231066840537763886300704322327063943223769136733829997755186967296883452091321844066117661621422796281647727771494669642200752052885673282586902944353902680646270677965448404587830582347638384248973431567142101615660733919, 0, -429365160072822446616078428265522030035958904965233675227652461553767441661637832029772787257401310221483552801576211296046827545223623605420850806049753423076540934434701214396182125083613189714019889242628648306871381416868124076028052134869771817088, 0, 232891928788622310225490703803765248420682997041030792506504480938087384482079128626125608701236456555640627491385779180618940936945776549823337006292630939878000441077843742540811660129478114164622389141885581499883654604088130069386651, 0, -93839865657063502385138736810448464675790765958843024985319407887618888058615963232690465006560565553257097619004061546554551598945931743784717597676008779568067746398614406767481264511142518716029713453919483098298921233, 0, 29192460937077259486944767637595479471540748509577879005992312160840970853534795356030483540540604063108141097272933377094873163640871249935030051020152223537671886919529126164588723509160083898381634453701, 0, -7222654424851166539797721572027054227194642269294270919748950414218359120041627067148934351763821971302180335418746285282220599347320858751073911584802552771660099165607568191354745387889388, 0, 1455123250601333436926298657805232554327398474003525755617064425354981146695253526439702308615898704231206875455192950631487105849283388718829663337644423918798121660534514094, 0, -243333272985192338533346468355949159019803231403300890141252385354120564890522673807576280452530304329473873947349529794559233730621481632734027766484313001503, 0, 34316460076390784142241528598762011772647751857974704149028008783940590711694312214261455159591880159732653636193545822513250246970767832739338, 0, -4136353088273091857404076153225173082172877973538341657823024139505628452671083455236617433626750969160949088285055874906049352, 0, 431036263367724737695418340764822437651531658908747274196498916597426538594499765751698212316660598497533453319, 0, -39217788047067052724285285893126695841253779128551528073344667387673729626565148527695675733143, 0, 3142471960395514316286375353128196140289661349537508642743397466062476252815446, 0, -223448109320205766725928048542579917593799124080810840177959662, 0, 14194650174620344160607564687002471488904398082, 0, -810454661674876649458047968597, 0, 41815482366787]
def pC : List Int := [13582985290493858492773514283592667786034938469317445497485196697278130927542418487205392083207560592298578262953847383475038725543234929971155548342800628721885763499406390331782864144164680730766837160526223176512798435772129956553355286032203080380775759732320198985094884004069116123084147875437183658467465148948790552744165376, 0, -574668601693202186423853060606788552194706504643561752056451078738255663697311105674020776417897527019012946838202854849123500643446941546185684584311187665844960712968507062806269750358107513590527095614370338878395763104389262787219307357268043710287067908858068103665292126743735787721003046803907520324040804521713, 0, 4052177469449514134263928470607484445593740704076304836964750056030017581662185645289919814379561602480852948201954889375763562789961991007694783077205786273973059793045962684653445958632536425044608995072684138970664958758095793441557199932008126653474997670310908011658996840526059436079012183974461846, 0, -11429294863532825997023669627635646903141483151793425474399021439833466147342440203559436466418489727597615804338085197017258443882969928988424428846954190173192298491637104044195238412631130245322273151387620767830855432058633813975938956940353566100753368285999322973486618585270403440703, 0, 17269654321978428723215733742002281966032552937692951781763467268316784804609915400564360938419783722381287359534176347314991557406356812918899504696598304979229698805055626175490172182423108720765401951269041267920441838445751578923033481115908720661440931649527760812179914, 0, -16236535617806942883294839499665757602633195939143459182186462726414049470503959735031146949364470442220282980317792464776637482802981488181832348443986010418893655760635024549172295449104972854889875184501642428037356995776984083092992637599594944713376065226, 0, 10408105189754510891241804929150975968473915156815688720101705392941363891468795682505613490046826711217221718126891191204545302047054645423896069233610577309133899082172944857713407220553284635585562369942814559645513585948506709285437740699308, 0, -4838965427001938655346172276255939244875115178969490278233758659868366268442640728885442712817948833740620909808462128461053740088631840080138691900863655411179962052488585623659197503255957647371164167598574747241189113321064444, 0, 1706056901400948118694321212539555200326225679826218157294713062381406048565045423048197305898024614197668771162272019788940948998850390072841040683986687478748066145550464733258651294744982531983170562808770377054, 0, -471763481585025358911179225566963213045653573354739646791583248522849383723010460739619243475573081528549594796620022509611785450768392078513115357340620358329825175107993884043144301727575293632299, 0, 105049250372825176682580854897111915051617306887458972762457805315991346553167166434380149054184255389838848154726393456080493508071586455770443685063004637803943023525587422515584577, 0, -19239917988875626312227894799974659012413357003419092955695277010490940898653681252680206524944351553232792993970474627386856405734971542397270244274308930115773750584, 0, 2949282495309567699181717224403031232218014644955548155831864755630187297104331748683529001365934838811275107909980824820504724309287782776296647235563, 0, -383932830745002572433060627926955930139461351864340158656871217547761517669853236371442500544107881986337496766180480536652040874879322, 0, 42972012152024467328612144038597135652864785350714320125353338176246082326583762841859800112998823293738668859513619598, 0, -4179445550700121441162856926070669865447284563132635248659981474031645527180665987851689802836430651002, 0, 356499753526352596222799515086972975193584115502873101380718405979857728377749042131910, 0, -26885530568873811177835830779640718284402967454995416628550709544019340, 0, 1805511673608249601900016330182259275412984218141342962, 0, -108659377945575899060988880168917346670, 0, 5893792618484707954062]
def addP : List Int → List Int → List Int
  | [], q => q
  | p, [] => p
  | a :: p, b :: q => (a + b) :: addP p q
def sclP (k : Int) (p : List Int) : List Int := p.map (k * ·)
def shiftP : List Int → List Int
  | [] => []
  | c :: p => addP (c :: shiftP p) (shiftP p)
theorem ev_addP : ∀ (p q : List Int) (x : Int), ev (addP p q) x = ev p x + ev q x
  | [], q, x => by simp [addP, ev]
  | a :: p, [], x => by simp [addP, ev]
  | a :: p, b :: q, x => by
    have := ev_addP p q x
    simp only [addP, ev]
    rw [this]; grind
theorem ev_sclP (k : Int) : ∀ (p : List Int) (x : Int), ev (sclP k p) x = k * ev p x
  | [], x => by simp [sclP, ev]
  | a :: p, x => by
    have := ev_sclP k p x
    show k * a + x * ev (sclP k p) x = k * (a + x * ev p x)
    rw [this]; grind
theorem ev_shiftP : ∀ (p : List Int) (x : Int), ev (shiftP p) x = ev p (x + 1)
  | [], x => rfl
  | c :: p, x => by
    have := ev_shiftP p x
    simp only [shiftP, ev_addP, ev]
    rw [this]; grind
def absB (B : Nat) : List Int → Nat
  | [] => 0
  | c :: p => c.natAbs + B * absB B p
theorem ev_abs {B : Nat} {x : Int} (h : -(B : Int) ≤ x ∧ x ≤ B) : ∀ p, -(absB B p : Int) ≤ ev p x ∧ ev p x ≤ (absB B p : Int)
  | [] => by simp [absB, ev]
  | c :: p => abs_add_le (abs_self c) (abs_mul_le h (ev_abs h p))
def rS : List Int := addP (sclP gD (shiftP pS)) (addP (sclP (-(gM : Int)) pC) (sclP (-(gN : Int)) pS))
def rC : List Int := addP (sclP gD (shiftP pC)) (addP (sclP (-(gN : Int)) pC) (sclP gM pS))
abbrev p900 : Nat := 2 ^ 900
theorem rS_small : absB 2700000 rS ≤ gD * p900 := by decide +kernel
theorem rC_small : absB 2700000 rC ≤ gD * p900 := by decide +kernel
end Go.Proofs.YthilhhegchmjeaaGreat.TT
/- The powers against the series. -/
set_option linter.unusedVariables false
namespace Go.Proofs.YthilhhegchmjeaaGreat.TT
abbrev p1100 : Rat := ((2 ^ 1100 : Nat) : Rat)
abbrev d200 : Rat := 1 / ((2 ^ 200 : Nat) : Rat)
def Ps (n : Nat) : Rat := (ev pS n : Rat) / p1100
def Pc (n : Nat) : Rat := (ev pC n : Rat) / p1100
theorem d200_pos : 0 < d200 := by decide +kernel
theorem Ps_mul (n : Nat) : Ps n * p1100 = (ev pS n : Rat) := Rat.div_mul_cancel (by decide +kernel)
theorem Pc_mul (n : Nat) : Pc n * p1100 = (ev pC n : Rat) := Rat.div_mul_cancel (by decide +kernel)
theorem p1100_pos : 0 < p1100 := by decide +kernel
theorem gD_pos : (0 : Rat) < ((gD : Nat) : Rat) := by decide +kernel
theorem c1_mul : c1R * ((gD : Nat) : Rat) = ((gN : Nat) : Rat) := Rat.div_mul_cancel (by decide +kernel)
theorem s1_mul : s1R * ((gD : Nat) : Rat) = ((gM : Nat) : Rat) := Rat.div_mul_cancel (by decide +kernel)
/-- Out of integers: a small rest is small. -/
theorem rest_small {r : Int} {x : Rat} (h : -((gD * p900 : Nat) : Int) ≤ r ∧ r ≤ ((gD * p900 : Nat) : Int)) (e : x * p1100 * ((gD : Nat) : Rat) = (r : Rat)) : -d200 ≤ x ∧ x ≤ d200 := by
  have g1 := Rat.intCast_le_intCast.2 h.1
  have g2 := Rat.intCast_le_intCast.2 h.2
  rw [← e] at g1 g2
  rw [Rat.intCast_neg] at g1
  rw [Rat.intCast_natCast] at g1 g2
  have ed : ((gD * p900 : Nat) : Rat) = d200 * p1100 * ((gD : Nat) : Rat) := by decide +kernel
  rw [ed] at g1 g2
  have hp := p1100_pos
  have hg := gD_pos
  have hpg := Rat.mul_pos hp hg
  generalize ((gD : Nat) : Rat) = D at *
  generalize p1100 = P at *
  generalize d200 = d at *
  exact ⟨Rat.le_of_mul_le_mul_right (c := P * D) (by grind) hpg, Rat.le_of_mul_le_mul_right (c := P * D) (by grind) hpg⟩
theorem abs_up {a b : Nat} {x : Int} (h : -(a : Int) ≤ x ∧ x ≤ a) (hab : a ≤ b) : -(b : Int) ≤ x ∧ x ≤ b := by omega
theorem rS_ev (x : Int) : ev rS x = gD * ev pS (x + 1) - gM * ev pC x - gN * ev pS x := by
  unfold rS
  rw [ev_addP, ev_addP, ev_sclP, ev_sclP, ev_sclP, ev_shiftP]
  generalize (gD : Int) = a
  generalize (gM : Int) = b
  generalize (gN : Int) = c
  grind
theorem rC_ev (x : Int) : ev rC x = gD * ev pC (x + 1) - gN * ev pC x + gM * ev pS x := by
  unfold rC
  rw [ev_addP, ev_addP, ev_sclP, ev_sclP, ev_sclP, ev_shiftP]
  generalize (gD : Int) = a
  generalize (gM : Int) = b
  generalize (gN : Int) = c
  grind
theorem Ps_step {n : Nat} (h : n ≤ 2700000) : -d200 ≤ Ps (n + 1) - (s1R * Pc n + c1R * Ps n) ∧ Ps (n + 1) - (s1R * Pc n + c1R * Ps n) ≤ d200 := by
  have hb := ev_abs (B := 2700000) (x := (n : Int)) (by omega) rS
  refine rest_small (r := ev rS n) (abs_up hb rS_small) ?_
  rw [rS_ev, Rat.intCast_sub, Rat.intCast_sub, Rat.intCast_mul, Rat.intCast_mul, Rat.intCast_mul, show (n : Int) + 1 = ((n + 1 : Nat) : Int) by omega, ← Ps_mul, ← Ps_mul, ← Pc_mul, Rat.intCast_natCast, Rat.intCast_natCast, Rat.intCast_natCast, ← c1_mul, ← s1_mul]
  generalize ((gD : Nat) : Rat) = D
  generalize p1100 = P
  grind
theorem Pc_step {n : Nat} (h : n ≤ 2700000) : -d200 ≤ Pc (n + 1) - (c1R * Pc n - s1R * Ps n) ∧ Pc (n + 1) - (c1R * Pc n - s1R * Ps n) ≤ d200 := by
  have hb := ev_abs (B := 2700000) (x := (n : Int)) (by omega) rC
  refine rest_small (r := ev rC n) (abs_up hb rC_small) ?_
  rw [rC_ev, Rat.intCast_add, Rat.intCast_sub, Rat.intCast_mul, Rat.intCast_mul, Rat.intCast_mul, show (n : Int) + 1 = ((n + 1 : Nat) : Int) by omega, ← Ps_mul, ← Pc_mul, ← Pc_mul, Rat.intCast_natCast, Rat.intCast_natCast, Rat.intCast_natCast, ← c1_mul, ← s1_mul]
  generalize ((gD : Nat) : Rat) = D
  generalize p1100 = P
  grind
/-- A product with a number of at most 1. -/
theorem mul_abs {a e d : Rat} (h1 : -1 ≤ a) (h2 : a ≤ 1) (h3 : -d ≤ e) (h4 : e ≤ d) : -d ≤ a * e ∧ a * e ≤ d := by
  have hd : 0 ≤ d := by grind
  rcases Rat.nonneg_total e with h | h
  · have b1 := Rat.mul_le_mul_of_nonneg_right h1 h
    have b2 := Rat.mul_le_mul_of_nonneg_right h2 h
    exact ⟨by grind, by grind⟩
  · have b1 := Rat.mul_le_mul_of_nonneg_right h1 h
    have b2 := Rat.mul_le_mul_of_nonneg_right h2 h
    exact ⟨by grind, by grind⟩
/-- Turned back they stay where they began. -/
theorem back (n : Nat) (h : n ≤ 2700000) : (-(2 * (n : Rat) * d200) ≤ Cn n * Pc n + Sn n * Ps n - 1 ∧ Cn n * Pc n + Sn n * Ps n - 1 ≤ 2 * (n : Rat) * d200) ∧ (-(2 * (n : Rat) * d200) ≤ Cn n * Ps n - Sn n * Pc n ∧ Cn n * Ps n - Sn n * Pc n ≤ 2 * (n : Rat) * d200) := by
  induction n with
  | zero =>
    have e1 : Ps 0 = 0 := by unfold Ps; decide +kernel
    have e2 : Pc 0 = 1 := by unfold Pc; decide +kernel
    have e3 : ((0 : Nat) : Rat) = 0 := rfl
    rw [Cn_0, Sn_0, e1, e2, e3]
    exact ⟨⟨by grind, by grind⟩, ⟨by grind, by grind⟩⟩
  | succ n ih =>
    obtain ⟨⟨x1, x2⟩, ⟨y1, y2⟩⟩ := ih (by omega)
    obtain ⟨s1, s2⟩ := Ps_step (n := n) (by omega)
    obtain ⟨k1, k2⟩ := Pc_step (n := n) (by omega)
    have cb := C_abs ((n + 1 : Nat) : Int)
    have sb := S_abs ((n + 1 : Nat) : Int)
    rw [C_nat] at cb
    rw [S_nat] at sb
    obtain ⟨es, hes⟩ : ∃ e, e = Ps (n + 1) - (s1R * Pc n + c1R * Ps n) := ⟨_, rfl⟩
    obtain ⟨ec, hec⟩ : ∃ e, e = Pc (n + 1) - (c1R * Pc n - s1R * Ps n) := ⟨_, rfl⟩
    rw [← hes] at s1 s2
    rw [← hec] at k1 k2
    have m1 := mul_abs cb.1 cb.2 k1 k2
    have m2 := mul_abs sb.1 sb.2 s1 s2
    have m3 := mul_abs cb.1 cb.2 s1 s2
    have m4 := mul_abs sb.1 sb.2 k1 k2
    have p1 : Ps (n + 1) = s1R * Pc n + c1R * Ps n + es := by rw [hes]; grind
    have p2 : Pc (n + 1) = c1R * Pc n - s1R * Ps n + ec := by rw [hec]; grind
    have u := unit1
    have e1 : ((n + 1 : Nat) : Rat) = (n : Rat) + 1 := by rw [Rat.natCast_add]; rfl
    have X : Cn (n + 1) * Pc (n + 1) + Sn (n + 1) * Ps (n + 1) = Cn n * Pc n + Sn n * Ps n + (Cn (n + 1) * ec + Sn (n + 1) * es) := by
      have a : Cn (n + 1) * (c1R * Pc n - s1R * Ps n) + Sn (n + 1) * (s1R * Pc n + c1R * Ps n) = (Cn n * Pc n + Sn n * Ps n) * (c1R * c1R + s1R * s1R) := by
        rw [Cn_s, Sn_s]; grind
      rw [u] at a
      rw [p1, p2]; grind
    have Y : Cn (n + 1) * Ps (n + 1) - Sn (n + 1) * Pc (n + 1) = Cn n * Ps n - Sn n * Pc n + (Cn (n + 1) * es - Sn (n + 1) * ec) := by
      have a : Cn (n + 1) * (s1R * Pc n + c1R * Ps n) - Sn (n + 1) * (c1R * Pc n - s1R * Ps n) = (Cn n * Ps n - Sn n * Pc n) * (c1R * c1R + s1R * s1R) := by
        rw [Cn_s, Sn_s]; grind
      rw [u] at a
      rw [p1, p2]; grind
    rw [X, Y, e1]
    generalize d200 = d at *
    generalize Cn (n + 1) * ec = z1 at *
    generalize Sn (n + 1) * es = z2 at *
    generalize Cn (n + 1) * es = z3 at *
    generalize Sn (n + 1) * ec = z4 at *
    exact ⟨⟨by grind, by grind⟩, ⟨by grind, by grind⟩⟩
abbrev d170 : Rat := 1 / ((2 ^ 170 : Nat) : Rat)
/-- The polynomials are near the powers. -/
theorem P_near (n : Nat) (h : n ≤ 2700000) : (-d170 ≤ Ps n - Sn n ∧ Ps n - Sn n ≤ d170) ∧ (-d170 ≤ Pc n - Cn n ∧ Pc n - Cn n ≤ d170) := by
  obtain ⟨x, y⟩ := back n h
  have u := unitN_ n
  have cb := C_abs (n : Int)
  have sb := S_abs (n : Int)
  rw [C_nat] at cb
  rw [S_nat] at sb
  obtain ⟨X, hX⟩ : ∃ e, e = Cn n * Pc n + Sn n * Ps n - 1 := ⟨_, rfl⟩
  obtain ⟨Y, hY⟩ : ∃ e, e = Cn n * Ps n - Sn n * Pc n := ⟨_, rfl⟩
  rw [← hX] at x
  rw [← hY] at y
  have m1 := mul_abs sb.1 sb.2 x.1 x.2
  have m2 := mul_abs cb.1 cb.2 y.1 y.2
  have m3 := mul_abs cb.1 cb.2 x.1 x.2
  have m4 := mul_abs sb.1 sb.2 y.1 y.2
  have e1 : Ps n - Sn n = Sn n * X + Cn n * Y := by
    rw [hX, hY]
    have : Ps n * (Cn n * Cn n + Sn n * Sn n) = Ps n := by rw [u]; grind
    grind
  have e2 : Pc n - Cn n = Cn n * X - Sn n * Y := by
    rw [hX, hY]
    have : Pc n * (Cn n * Cn n + Sn n * Sn n) = Pc n := by rw [u]; grind
    grind
  have hn : (n : Rat) ≤ 2700000 := natR h
  have hd := Rat.le_of_lt d200_pos
  have b := Rat.mul_le_mul_of_nonneg_right hn hd
  have c : 4 * (2700000 * d200) ≤ d170 := by decide +kernel
  rw [e1, e2]
  generalize d200 = d at *
  generalize d170 = D at *
  generalize Sn n * X = z1 at *
  generalize Cn n * Y = z2 at *
  generalize Cn n * X = z3 at *
  generalize Sn n * Y = z4 at *
  exact ⟨⟨by grind, by grind⟩, ⟨by grind, by grind⟩⟩
end Go.Proofs.YthilhhegchmjeaaGreat.TT
/- The sums of the series against the powers; the quarter turns. -/
set_option linter.unusedVariables false
namespace Go.Proofs.YthilhhegchmjeaaGreat.TT
theorem ev_sg2 {p al : List Int} {n : Int} (h : p ++ [0] = sg false al) : ev p n = ea al (n * n) := by
  rw [← ev_snoc, h, ev_sg]; simp
theorem ev_sg3 {p al : List Int} {n : Int} (h : p ++ [0] = 0 :: sg false al) : ev p n = n * ea al (n * n) := by
  rw [← ev_snoc, h]
  show 0 + n * ev (sg false al) n = _
  rw [ev_sg]; simp
def near2 (o : Nat) : Nat → List Int → Bool
  | _, [] => true
  | k, a :: r => decide ((a : Rat) ≤ p1100 * ka o k) && decide (p1100 * ka o k ≤ (a : Rat) + 1) && near2 o (k + 1) r
theorem near2S : near2 1 0 aS = true := by decide +kernel
theorem near2C : near2 0 0 aC = true := by decide +kernel
theorem ea_near2 {o : Nat} {y : Int} (hy : 0 ≤ y) : ∀ (al : List Int) (k : Nat), near2 o k al = true → (ea al y : Rat) - p1100 * kr o (y : Rat) k al.length ≤ er (y : Rat) al.length ∧ p1100 * kr o (y : Rat) k al.length - (ea al y : Rat) ≤ er (y : Rat) al.length
  | [], k, _ => by
    simp only [ea, kr, er, List.length_nil]
    have : ((0 : Int) : Rat) = 0 := rfl
    exact ⟨by grind, by grind⟩
  | a :: r, k, h => by
    simp only [near2, Bool.and_eq_true, decide_eq_true_eq] at h
    obtain ⟨⟨h1, h2⟩, h3⟩ := h
    obtain ⟨i1, i2⟩ := ea_near2 (o := o) hy r (k + 1) h3
    have hyR : (0 : Rat) ≤ (y : Rat) := Rat.intCast_nonneg.2 hy
    have b1 := Rat.mul_le_mul_of_nonneg_left i1 hyR
    have b2 := Rat.mul_le_mul_of_nonneg_left i2 hyR
    simp only [ea, kr, er, List.length_cons, Rat.intCast_sub, Rat.intCast_mul]
    generalize p1100 = S at *
    exact ⟨by grind, by grind⟩
abbrev u900 : Rat := ((2 ^ 900 : Nat) : Rat)
theorem Ps_sa {n : Nat} (h : n ≤ 2700000) : Ps n - sa 1 (xi n) 0 21 ≤ d200 ∧ sa 1 (xi n) 0 21 - Ps n ≤ d200 := by
  obtain ⟨h1, h2⟩ := ea_near2 (o := 1) (y := (n : Int) * n) ypos aS 0 near2S
  rw [ycast] at h1 h2
  have hl : aS.length = 21 := by decide
  rw [hl] at h1 h2
  have hm := er_mono (Rat.mul_nonneg (Rat.natCast_nonneg (a := n)) Rat.natCast_nonneg) (yle h) 21
  have hn : (n : Rat) ≤ 2700000 := natR h
  have hn0 : (0 : Rat) ≤ (n : Rat) := Rat.natCast_nonneg
  have k1 := Rat.mul_le_mul_of_nonneg_left h1 hn0
  have k2 := Rat.mul_le_mul_of_nonneg_left h2 hn0
  have k3 := Rat.mul_le_mul_of_nonneg_left hm hn0
  have k4 := Rat.mul_le_mul_of_nonneg_right hn (er_nn (show (0 : Rat) ≤ 7290000000000 by decide +kernel) 21)
  have k5 : 2700000 * er 7290000000000 21 ≤ d200 * p1100 := by decide +kernel
  have hp := p1100_pos
  have hev : (ev pS n : Rat) = (n : Rat) * (ea aS ((n : Int) * n) : Rat) := by
    rw [ev_sg3 (p := pS) (al := aS) (by decide +kernel), Rat.intCast_mul, Rat.intCast_natCast]
  have hP := Ps_mul n
  rw [hev] at hP
  rw [sa_pr, show pr 1 (n : Rat) 0 = (n : Rat) from if_pos rfl]
  clear hm hn hev
  generalize er 7290000000000 21 = E at *
  generalize er ((n : Rat) * (n : Rat)) 21 = e at *
  generalize kr 1 ((n : Rat) * (n : Rat)) 0 21 = K at *
  generalize (ea aS ((n : Int) * n) : Rat) = A at *
  generalize p1100 = S at *
  generalize d200 = d at *
  generalize Ps n = X at *
  exact ⟨Rat.le_of_mul_le_mul_right (c := S) (by grind) hp, Rat.le_of_mul_le_mul_right (c := S) (by grind) hp⟩
theorem Pc_sa {n : Nat} (h : n ≤ 2700000) : Pc n - sa 0 (xi n) 0 21 ≤ d200 ∧ sa 0 (xi n) 0 21 - Pc n ≤ d200 := by
  obtain ⟨h1, h2⟩ := ea_near2 (o := 0) (y := (n : Int) * n) ypos aC 0 near2C
  rw [ycast] at h1 h2
  have hl : aC.length = 21 := by decide
  rw [hl] at h1 h2
  have hm := er_mono (Rat.mul_nonneg (Rat.natCast_nonneg (a := n)) Rat.natCast_nonneg) (yle h) 21
  have k5 : er 7290000000000 21 ≤ d200 * p1100 := by decide +kernel
  have hp := p1100_pos
  have hev : (ev pC n : Rat) = (ea aC ((n : Int) * n) : Rat) := by
    rw [ev_sg2 (p := pC) (al := aC) (by decide +kernel)]
  have hP := Pc_mul n
  rw [hev] at hP
  rw [sa_pr, show pr 0 (n : Rat) 0 = 1 from if_neg (by decide)]
  clear hev
  generalize er 7290000000000 21 = E at *
  generalize er ((n : Rat) * (n : Rat)) 21 = e at *
  generalize kr 0 ((n : Rat) * (n : Rat)) 0 21 = K at *
  generalize (ea aC ((n : Int) * n) : Rat) = A at *
  generalize p1100 = S at *
  generalize d200 = d at *
  generalize Pc n = X at *
  exact ⟨Rat.le_of_mul_le_mul_right (c := S) (by grind) hp, Rat.le_of_mul_le_mul_right (c := S) (by grind) hp⟩
/-- The 21st term. -/
def cap (o : Nat) : Nat → Rat
  | 0 => 1
  | i + 1 => cap o i * (617 / 1000) / (dd o i : Rat)
theorem tm_cap {o n : Nat} (h : n ≤ 2700000) : ∀ i, tm o (xi n) i ≤ cap o i
  | 0 => tm_le (xi_nn n) (xi_sq h) (Rat.le_trans (xi_le h) (by decide +kernel)) 0
  | i + 1 => by
    have hd := dd_geR o i
    refine tm_step h i _ _ (tm_cap h i) ?_
    rw [show cap o (i + 1) = cap o i * (617 / 1000) / (dd o i : Rat) from rfl, Rat.div_mul_cancel (by grind)]
    exact Rat.le_refl
abbrev d160 : Rat := 1 / ((2 ^ 160 : Nat) : Rat)
theorem cap21 (o : Nat) (ho : o ≤ 1) : cap o 21 ≤ d170 := by
  match o, ho with
  | 0, _ => decide +kernel
  | 1, _ => decide +kernel
theorem T_near {o n : Nat} (ho : o ≤ 1) (h : n ≤ 2700000) : TT o n - sa o (xi n) 0 21 ≤ d170 ∧ sa o (xi n) 0 21 - TT o n ≤ d170 := by
  obtain ⟨g1, g2⟩ := sa_more (o := o) (xi_nn n) (xi_sq h) 14 21 0
  have ht := Rat.le_trans (tm_cap (o := o) h 21) (cap21 o ho)
  have eT : TT o n = sa o (xi n) 0 (21 + 14) := rfl
  rw [eT]
  rw [Nat.zero_add] at g1 g2
  exact ⟨Rat.le_trans g1 ht, Rat.le_trans g2 ht⟩
theorem d_sum : d170 + d200 + d170 ≤ d160 := by decide +kernel
/-- The powers are near the sums. -/
theorem S_T {n : Nat} (h : n ≤ 2700000) : Sn n - TT 1 n ≤ d160 ∧ TT 1 n - Sn n ≤ d160 := by
  obtain ⟨⟨a1, a2⟩, _⟩ := P_near n h
  obtain ⟨b1, b2⟩ := Ps_sa h
  obtain ⟨c1, c2⟩ := T_near (o := 1) (by omega) h
  have e := d_sum
  generalize TT 1 n = T at *
  generalize sa 1 (xi n) 0 21 = A at *
  generalize d170 = x at *
  generalize d200 = y at *
  generalize d160 = z at *
  exact ⟨by grind, by grind⟩
theorem C_T {n : Nat} (h : n ≤ 2700000) : Cn n - TT 0 n ≤ d160 ∧ TT 0 n - Cn n ≤ d160 := by
  obtain ⟨_, ⟨a1, a2⟩⟩ := P_near n h
  obtain ⟨b1, b2⟩ := Pc_sa h
  obtain ⟨c1, c2⟩ := T_near (o := 0) (by omega) h
  have e := d_sum
  generalize TT 0 n = T at *
  generalize sa 0 (xi n) 0 21 = A at *
  generalize d170 = x at *
  generalize d200 = y at *
  generalize d160 = z at *
  exact ⟨by grind, by grind⟩
/-! the quarter of a turn -/
abbrev d150 : Rat := 1 / ((2 ^ 150 : Nat) : Rat)
theorem half_near : (-d160 ≤ Sn 2700000 - Cn 2700000 ∧ Sn 2700000 - Cn 2700000 ≤ d160) := by
  obtain ⟨⟨a1, a2⟩, ⟨b1, b2⟩⟩ := P_near 2700000 (Nat.le_refl _)
  have e1 : Ps 2700000 - Pc 2700000 ≤ d170 := by unfold Ps Pc; decide +kernel
  have e2 : -d170 ≤ Ps 2700000 - Pc 2700000 := by unfold Ps Pc; decide +kernel
  have e : d170 + d170 + d170 ≤ d160 := by decide +kernel
  generalize d170 = x at *
  generalize d160 = z at *
  generalize Sn 2700000 = s at *
  generalize Cn 2700000 = c at *
  generalize Ps 2700000 = p at *
  generalize Pc 2700000 = q at *
  exact ⟨by grind, by grind⟩
theorem quarter : (-d150 ≤ C 5400000 ∧ C 5400000 ≤ d150) ∧ (1 - d150 ≤ S 5400000 ∧ S 5400000 ≤ 1) := by
  obtain ⟨h1, h2⟩ := half_near
  obtain ⟨a1, a2⟩ := addN 2700000 2700000
  have u := unitN_ 2700000
  have e54 : (5400000 : Int) = ((2700000 + 2700000 : Nat) : Int) := by omega
  have ec : C 5400000 = Cn (2700000 + 2700000) := by rw [e54, C_nat]
  have es : S 5400000 = Sn (2700000 + 2700000) := by rw [e54, S_nat]
  have hs := S_abs 5400000
  have cb := C_abs ((2700000 : Nat) : Int)
  have sb := S_abs ((2700000 : Nat) : Int)
  rw [C_nat] at cb
  rw [S_nat] at sb
  rw [a1] at ec
  rw [a2] at es
  have e : d160 + d160 ≤ d150 := by decide +kernel
  have hd : 0 ≤ d160 ∧ d160 ≤ 1 := by decide +kernel
  rw [ec, es]
  rw [es] at hs
  generalize Sn 2700000 = s at *
  generalize Cn 2700000 = c at *
  have m1 := mul_abs cb.1 cb.2 h1 h2
  have m2 := mul_abs sb.1 sb.2 h1 h2
  have dd' := mul_abs (a := s - c) (e := s - c) (d := d160) (by grind) (by grind) h1 h2
  generalize d160 = x at *
  generalize d150 = z at *
  refine ⟨⟨by grind, by grind⟩, by grind, hs.2⟩
end Go.Proofs.YthilhhegchmjeaaGreat.TT
/- The program's bounds hold the true sines. -/
set_option linter.unusedVariables false
namespace Go.Proofs.YthilhhegchmjeaaGreat.TT
abbrev oR : Rat := 1073741824
abbrev d100 : Rat := 1 / ((2 ^ 100 : Nat) : Rat)
abbrev d110 : Rat := 1 / ((2 ^ 110 : Nat) : Rat)
abbrev d140 : Rat := 1 / ((2 ^ 140 : Nat) : Rat)
def Near (x y d : Rat) : Prop := x - y ≤ d ∧ y - x ≤ d
theorem Near.symm {x y d : Rat} (h : Near x y d) : Near y x d := ⟨h.2, h.1⟩
theorem Near.trans {x y z d e : Rat} (h : Near x y d) (h' : Near y z e) : Near x z (d + e) := by
  obtain ⟨a, b⟩ := h
  obtain ⟨c, f⟩ := h'
  exact ⟨by grind, by grind⟩
theorem Near.mono {x y d e : Rat} (h : Near x y d) (hde : d ≤ e) : Near x y e := ⟨Rat.le_trans h.1 hde, Rat.le_trans h.2 hde⟩
theorem Near.neg {x y d : Rat} (h : Near x y d) : Near (-x) (-y) d := by
  obtain ⟨a, b⟩ := h
  exact ⟨by grind, by grind⟩
/-- a c' + b s' with c' near k and s' near 0 is near a k. -/
theorem near_rot {a b c s k d : Rat} (ha : -1 ≤ a ∧ a ≤ 1) (hb : -1 ≤ b ∧ b ≤ 1) (hc : Near c k d) (hs : Near s 0 d) : Near (a * c + b * s) (a * k) (d + d) := by
  obtain ⟨c1, c2⟩ := hc
  obtain ⟨s1, s2⟩ := hs
  have m1 := mul_abs (d := d) ha.1 ha.2 (e := c - k) (by grind) (by grind)
  have m2 := mul_abs (d := d) hb.1 hb.2 (e := s) (by grind) (by grind)
  exact ⟨by grind, by grind⟩
theorem Cq : Near (C 5400000) 0 d150 := by
  obtain ⟨⟨h1, h2⟩, _⟩ := quarter
  exact ⟨by grind, by grind⟩
theorem Sq : Near (S 5400000) 1 d150 := by
  obtain ⟨_, h1, h2⟩ := quarter
  have : (0 : Rat) ≤ d150 := by decide +kernel
  generalize d150 = d at *
  exact ⟨by grind, by grind⟩
abbrev d148 : Rat := 1 / ((2 ^ 148 : Nat) : Rat)
abbrev d146 : Rat := 1 / ((2 ^ 146 : Nat) : Rat)
theorem e148 : d150 + d150 ≤ d148 := by decide +kernel
theorem e146 : d148 + d148 ≤ d146 := by decide +kernel
/-- A quarter less an angle. -/
theorem S_co (k : Int) : Near (S (5400000 - k)) (C k) d148 := by
  obtain ⟨_, h⟩ := sub_i 5400000 k
  have := near_rot (a := C k) (b := -(S k)) (c := S 5400000) (s := C 5400000) (k := 1) (C_abs k) (by have := S_abs k; exact ⟨by grind, by grind⟩) Sq Cq
  rw [h]
  have e : S 5400000 * C k - C 5400000 * S k = C k * S 5400000 + -(S k) * C 5400000 := by grind
  have e1 : C k * 1 = C k := Rat.mul_one _
  rw [e1] at this
  rw [e]
  exact this.mono e148
theorem C_co (k : Int) : Near (C (5400000 - k)) (S k) d148 := by
  obtain ⟨h, _⟩ := sub_i 5400000 k
  have := near_rot (a := S k) (b := C k) (c := S 5400000) (s := C 5400000) (k := 1) (S_abs k) (C_abs k) Sq Cq
  rw [h]
  have e : C 5400000 * C k + S 5400000 * S k = S k * S 5400000 + C k * C 5400000 := by grind
  have e1 : S k * 1 = S k := Rat.mul_one _
  rw [e1] at this
  rw [e]
  exact this.mono e148
/-- Half a turn further. -/
theorem S_half (n : Int) : Near (S (n + 10800000)) (-(S n)) d146 := by
  have h1 := S_co (5400000 - (n + 10800000))
  rw [show 5400000 - (5400000 - (n + 10800000)) = n + 10800000 by omega, show 5400000 - (n + 10800000) = -(5400000 - (-n)) by omega, C_neg] at h1
  have h2 := C_co (-n)
  rw [S_neg] at h2
  exact (h1.trans h2).mono e146
theorem C_half (n : Int) : Near (C (n + 10800000)) (-(C n)) d146 := by
  have h1 := C_co (5400000 - (n + 10800000))
  rw [show 5400000 - (5400000 - (n + 10800000)) = n + 10800000 by omega, show 5400000 - (n + 10800000) = -(5400000 - (-n)) by omega, S_neg] at h1
  have h2 := (S_co (-n)).neg
  rw [C_neg] at h2
  exact (h1.trans h2).mono e146
abbrev d144 : Rat := 1 / ((2 ^ 144 : Nat) : Rat)
theorem e144 : d146 + d146 ≤ d144 := by decide +kernel
theorem S_turn (n : Int) : Near (S (n + 21600000)) (S n) d144 := by
  have h1 := S_half (n + 10800000)
  rw [show n + 10800000 + 10800000 = n + 21600000 by omega] at h1
  have h2 := (S_half n).neg
  have e : - -(S n) = S n := Rat.neg_neg _
  rw [e] at h2
  exact (h1.trans h2).mono e144
theorem S_turns (n : Int) : ∀ k : Nat, Near (S (n + 21600000 * k)) (S n) ((k : Rat) * d144)
  | 0 => by
    rw [show n + 21600000 * ((0 : Nat) : Int) = n by omega]
    have : ((0 : Nat) : Rat) = 0 := rfl
    rw [this]
    exact ⟨by grind, by grind⟩
  | k + 1 => by
    have h1 := S_turn (n + 21600000 * k)
    rw [show n + 21600000 * (k : Int) + 21600000 = n + 21600000 * ((k + 1 : Nat) : Int) by omega] at h1
    have := h1.trans (S_turns n k)
    have e : d144 + (k : Rat) * d144 = ((k + 1 : Nat) : Rat) * d144 := by
      rw [Rat.natCast_add, show ((1 : Nat) : Rat) = 1 from rfl]; grind
    rwa [e] at this
/-- The angle's place in the turn has its sine. -/
theorem S_fold {n : Int} (h0 : -108000000 ≤ n) (h1 : n ≤ 108000000) : Near (S n) (S (turnI n)) d140 := by
  have hd := Int.emod_add_mul_ediv n 21600000
  have e : (5 : Rat) * d144 ≤ d140 := by decide +kernel
  have hd0 : (0 : Rat) ≤ d144 := by decide +kernel
  unfold turnI
  generalize hm : n % 21600000 = m at *
  generalize hq : n / 21600000 = q at *
  have hm0 : 0 ≤ m := by omega
  have hm1 : m < 21600000 := by omega
  rcases Int.le_total 0 q with hq0 | hq0
  · obtain ⟨k, rfl⟩ := nat_of hq0
    have := S_turns m k
    rw [show m + 21600000 * (k : Int) = n by omega] at this
    refine this.mono (Rat.le_trans (Rat.mul_le_mul_of_nonneg_right (natR (show k ≤ 5 by omega)) hd0) ?_)
    exact e
  · obtain ⟨k, hk⟩ := nat_of (show 0 ≤ -q by omega)
    have := S_turns n k
    rw [show n + 21600000 * (k : Int) = m by omega] at this
    refine this.symm.mono (Rat.le_trans (Rat.mul_le_mul_of_nonneg_right (natR (show k ≤ 5 by omega)) hd0) ?_)
    exact e
/-- Holding: the integers around One times a number. -/
def Holds (lo hi : Int) (x d : Rat) : Prop := (lo : Rat) ≤ oR * x + d ∧ oR * x ≤ (hi : Rat) + d
theorem Holds.near {lo hi : Int} {x y d e f : Rat} (h : Holds lo hi x d) (hn : Near x y e) (hf : d + oR * e ≤ f) : Holds lo hi y f := by
  obtain ⟨h1, h2⟩ := h
  obtain ⟨n1, n2⟩ := hn
  exact ⟨by grind, by grind⟩
theorem Holds.neg {lo hi : Int} {x d : Rat} (h : Holds lo hi x d) : Holds (-hi) (-lo) (-x) d := by
  obtain ⟨h1, h2⟩ := h
  unfold Holds
  rw [Rat.intCast_neg, Rat.intCast_neg]
  exact ⟨by grind, by grind⟩
theorem fl_holds {o n : Nat} (ho : o ≤ 1) (h0 : n ≠ 0) (h : n ≤ 2700000) (h1 : o = 1 → n ≠ 1800000) : Holds (flS o n) (flS o n + 1) (TT o n) 0 := by
  obtain ⟨m1, m2⟩ := margin_fl ho h0 h h1
  unfold Holds
  generalize TT o n = T at *
  generalize flS o n = f at *
  rw [Rat.intCast_add, Rat.intCast_mul] at m1
  rw [Rat.intCast_sub, Rat.intCast_add, Rat.intCast_mul] at m2
  rw [Rat.intCast_add]
  have e1 : ((4294967296 : Int) : Rat) = 4294967296 := rfl
  have e2 : ((1040 : Int) : Rat) = 1040 := rfl
  have e3 : ((1 : Int) : Rat) = 1 := rfl
  have e4 : oR * (4294967296 * q62) = 1 := by decide +kernel
  have e5 : (0 : Rat) ≤ q62 := Rat.le_of_lt q62_pos
  rw [e1, e2] at m1 m2
  rw [e3]
  generalize q62 = q at *
  generalize (f : Rat) = F at *
  have a1 : F * (oR * (4294967296 * q)) = F := by rw [e4]; exact Rat.mul_one _
  exact ⟨by grind, by grind⟩
theorem e110 : (0 : Rat) + oR * (d148 + d160) ≤ d110 := by decide +kernel
theorem S30 : Near (S 1800000) (1 / 2) d160 := by
  obtain ⟨⟨a1, a2⟩, _⟩ := P_near 1800000 (by omega)
  have e1 : Ps 1800000 - 1 / 2 ≤ d170 := by unfold Ps; decide +kernel
  have e2 : -d170 ≤ Ps 1800000 - 1 / 2 := by unfold Ps; decide +kernel
  have e : d170 + d170 ≤ d160 := by decide +kernel
  have es : S 1800000 = Sn 1800000 := S_nat 1800000
  rw [es]
  generalize Sn 1800000 = s at *
  generalize Ps 1800000 = p at *
  generalize d170 = x at *
  generalize d160 = y at *
  exact ⟨by grind, by grind⟩
/-- The first quarter. -/
theorem base_holds {r : Int} (h0 : 0 ≤ r) (h1 : r ≤ 5400000) : Holds (sinB r).1 (hiB (sinB r)) (S r) d110 := by
  have hd : ∀ f : Int, hiB (f, false) = f + 1 := fun f => if_neg (fun h => Bool.noConfusion h)
  have ht : ∀ f : Int, hiB (f, true) = f := fun f => if_pos rfl
  by_cases e0 : r = 0
  · subst e0
    rw [show sinB 0 = (0, true) from rfl, ht, show S 0 = 0 from Sn_0]
    exact ⟨by decide +kernel, by decide +kernel⟩
  by_cases e1 : r = 1800000
  · subst e1
    rw [show sinB 1800000 = (536870912, true) from rfl, ht]
    have : Holds 536870912 536870912 (1 / 2) 0 := ⟨by decide +kernel, by decide +kernel⟩
    exact this.near S30.symm (by decide +kernel)
  by_cases e2 : r = 5400000
  · subst e2
    rw [show sinB 5400000 = (1073741824, true) from rfl, ht]
    have : Holds 1073741824 1073741824 1 0 := ⟨by decide +kernel, by decide +kernel⟩
    exact this.near Sq.symm (by decide +kernel)
  by_cases hg : r ≤ 2700000
  · rw [sinB_lo (by omega) hg e1, hd]
    obtain ⟨k, rfl⟩ := nat_of h0
    have hf := fl_holds (o := 1) (n := k) (by omega) (by omega) (by omega) (by omega)
    have hn : Near (TT 1 k) (S k) d160 := by
      rw [S_nat]
      exact ⟨(S_T (n := k) (by omega)).2, (S_T (n := k) (by omega)).1⟩
    exact hf.near hn (by decide +kernel)
  · rw [sinB_hi (by omega) (by omega), hd]
    obtain ⟨k, hk⟩ := nat_of (show 0 ≤ 5400000 - r by omega)
    have hf := fl_holds (o := 0) (n := k) (by omega) (by omega) (by omega) (by omega)
    have hn : Near (TT 0 k) (C k) d160 := by
      rw [C_nat]
      exact ⟨(C_T (n := k) (by omega)).2, (C_T (n := k) (by omega)).1⟩
    have h2 := S_co k
    rw [show 5400000 - (k : Int) = r by omega] at h2
    rw [hk, Int.toNat_natCast]
    exact hf.near (hn.trans h2.symm) (by decide +kernel)
theorem fold_eq {m : Int} (h0 : 0 ≤ m) (h1 : m < 21600000) : (m ≤ 5400000 ∧ foldI m = m) ∨ (5400000 < m ∧ m ≤ 10800000 ∧ foldI m = 10800000 - m) ∨ (10800000 < m ∧ m ≤ 16200000 ∧ foldI m = m - 10800000) ∨ (16200000 < m ∧ foldI m = 21600000 - m) := by
  unfold foldI; omega
/-- THE BOUNDS HOLD. -/
theorem bnd_holds {n : Int} (h0 : -108000000 ≤ n) (h1 : n ≤ 108000000) : Holds (bnd n).1 (bnd n).2 (S n) d100 := by
  obtain ⟨m0, m1⟩ := turnI_bd n
  have hf := S_fold h0 h1
  have key : Holds (bnd n).1 (bnd n).2 (S (turnI n)) d100 → True := fun _ => trivial
  have e1 : d110 + oR * (d148 + d148 + d140) ≤ d100 := by decide +kernel
  have e2 : d110 + oR * (d146 + d140) ≤ d100 := by decide +kernel
  have e3 : d110 + oR * d140 ≤ d100 := by decide +kernel
  have e4 : d110 + oR * (d148 + d148 + d146 + d140) ≤ d100 := by decide +kernel
  unfold bnd
  rcases fold_eq m0 m1 with ⟨g1, g⟩ | ⟨g1, g2, g⟩ | ⟨g1, g2, g⟩ | ⟨g1, g⟩
  · rw [if_neg (by omega), g]
    exact (base_holds m0 g1).near hf.symm e3
  · rw [if_neg (by omega), g]
    have hb := base_holds (r := 10800000 - turnI n) (by omega) (by omega)
    -- the sine of half a turn less m
    have a1 := S_co (5400000 - (10800000 - turnI n))
    rw [show 5400000 - (5400000 - (10800000 - turnI n)) = 10800000 - turnI n by omega, show 5400000 - (10800000 - turnI n) = -(5400000 - turnI n) by omega, C_neg] at a1
    have a2 := C_co (turnI n)
    exact hb.near ((a1.trans a2).trans hf.symm) e1
  · rw [if_pos (by omega), g]
    have hb := (base_holds (r := turnI n - 10800000) (by omega) (by omega)).neg
    have a1 := S_half (turnI n - 10800000)
    rw [show turnI n - 10800000 + 10800000 = turnI n by omega] at a1
    exact hb.near (a1.symm.trans hf.symm) e2
  · rw [if_pos (by omega), g]
    have hb := (base_holds (r := 21600000 - turnI n) (by omega) (by omega)).neg
    have a1 := S_turn (-(21600000 - turnI n))
    rw [show -(21600000 - turnI n) + 21600000 = turnI n by omega, S_neg] at a1
    have e5 : d110 + oR * (d144 + d140) ≤ d100 := by decide +kernel
    exact hb.near (a1.symm.trans hf.symm) e5
end Go.Proofs.YthilhhegchmjeaaGreat.TT
/- The triangle inequality on the sphere, for integer angles. -/
set_option linter.unusedVariables false
namespace Go.Proofs.YthilhhegchmjeaaGreat.TT
abbrev d95 : Rat := 1 / ((2 ^ 95 : Nat) : Rat)
abbrev d90 : Rat := 1 / ((2 ^ 90 : Nat) : Rat)
abbrev g45 : Rat := 1 / ((2 ^ 45 : Nat) : Rat)
/-- The product of two directions. -/
def dot (d e w : Int) : Rat := S d * S e + C d * C e * C w
/-- Gram's determinant, as a sum of squares. -/
theorem gram (d1 d2 d3 s1 s2 s3 : Int) (p q r : Rat) : 0 ≤ p * p + q * q + r * r + 2 * (p * q) * dot d1 d2 (s1 - s2) + 2 * (q * r) * dot d2 d3 (s2 - s3) + 2 * (p * r) * dot d1 d3 (s1 - s3) := by
  have u1 := unit d1; have u2 := unit d2; have u3 := unit d3
  have v1 := unit s1; have v2 := unit s2; have v3 := unit s3
  unfold dot
  rw [(sub_i s1 s2).1, (sub_i s2 s3).1, (sub_i s1 s3).1]
  have h1 := sq_nn (p * (C d1 * C s1) + q * (C d2 * C s2) + r * (C d3 * C s3))
  have h2 := sq_nn (p * (C d1 * S s1) + q * (C d2 * S s2) + r * (C d3 * S s3))
  have h3 := sq_nn (p * S d1 + q * S d2 + r * S d3)
  generalize C d1 = a1 at *; generalize S d1 = b1 at *; generalize C s1 = c1 at *; generalize S s1 = e1 at *
  generalize C d2 = a2 at *; generalize S d2 = b2 at *; generalize C s2 = c2 at *; generalize S s2 = e2 at *
  generalize C d3 = a3 at *; generalize S d3 = b3 at *; generalize C s3 = c3 at *; generalize S s3 = e3 at *
  have f1 : a1 * a1 * (c1 * c1 + e1 * e1) + b1 * b1 = 1 := by rw [v1]; grind
  have f2 : a2 * a2 * (c2 * c2 + e2 * e2) + b2 * b2 = 1 := by rw [v2]; grind
  have f3 : a3 * a3 * (c3 * c3 + e3 * e3) + b3 * b3 = 1 := by rw [v3]; grind
  have e : (p * (a1 * c1) + q * (a2 * c2) + r * (a3 * c3)) * (p * (a1 * c1) + q * (a2 * c2) + r * (a3 * c3)) + (p * (a1 * e1) + q * (a2 * e2) + r * (a3 * e3)) * (p * (a1 * e1) + q * (a2 * e2) + r * (a3 * e3)) + (p * b1 + q * b2 + r * b3) * (p * b1 + q * b2 + r * b3)
    = p * p * (a1 * a1 * (c1 * c1 + e1 * e1) + b1 * b1) + q * q * (a2 * a2 * (c2 * c2 + e2 * e2) + b2 * b2) + r * r * (a3 * a3 * (c3 * c3 + e3 * e3) + b3 * b3) + 2 * (p * q) * (b1 * b2 + a1 * a2 * (c1 * c2 + e1 * e2)) + 2 * (q * r) * (b2 * b3 + a2 * a3 * (c2 * c3 + e2 * e3)) + 2 * (p * r) * (b1 * b3 + a1 * a3 * (c1 * c3 + e1 * e3)) := by grind
  rw [f1, f2, f3] at e
  have h := Rat.add_nonneg (Rat.add_nonneg h1 h2) h3
  rw [e] at h
  grind
/-- The triangle: two sides within x and y leave the third within x + y. -/
theorem tri {sx cx sy cy AB BC AC t : Rat} (ux : cx * cx + sx * sx = 1) (uy : cy * cy + sy * sy = 1) (hx : 0 ≤ sx) (hy : 0 ≤ sy) (hx1 : sx ≤ 1) (hy1 : sy ≤ 1) (hxy : 0 ≤ sx * cy + cx * sy) (hxy1 : sx * cy + cx * sy ≤ 1) (ht : 0 ≤ t) (h1 : cx - t ≤ AB) (h2 : cy - t ≤ BC)
    (hg : 0 ≤ sy * sy + (sx * cy + cx * sy) * (sx * cy + cx * sy) + sx * sx - 2 * (sx * cy + cx * sy) * (sy * AB + sx * BC) + 2 * (sx * sy) * AC) : sx * sy * (cx * cy - sx * sy) - 2 * t ≤ sx * sy * AC := by
  have e : (sx * cy + cx * sy) * (sx * cy + cx * sy) = sx * sx + sy * sy + 2 * (sx * sy) * (cx * cy - sx * sy) := by
    have a : sx * sx * (cy * cy + sy * sy) + sy * sy * (cx * cx + sx * sx) = sx * sx + sy * sy := by rw [ux, uy]; grind
    grind
  generalize hs : sx * cy + cx * sy = s at *
  have b1 := Rat.mul_le_mul_of_nonneg_left h1 hy
  have b2 := Rat.mul_le_mul_of_nonneg_left h2 hx
  have b3 := Rat.mul_le_mul_of_nonneg_right hx1 ht
  have b4 := Rat.mul_le_mul_of_nonneg_right hy1 ht
  have b5 : s - 2 * t ≤ sy * AB + sx * BC := by grind
  have b6 := Rat.mul_le_mul_of_nonneg_left b5 hxy
  have b7 := Rat.mul_le_mul_of_nonneg_right hxy1 ht
  grind
theorem sin1 : (311 : Int) ≤ (sinB 1).1 := by
  have e : sinB 1 = (flS 1 1, false) := sinB_lo (r := 1) (by omega) (by omega) (by omega)
  rw [e]
  have h := (flS_q (o := 1) (n := 1) (by omega) (by omega) (by omega) (by omega)).1
  show 311 ≤ flS 1 1
  rw [← h]
  decide +kernel
abbrev m30 : Rat := 310 / 1073741824
/-- Between the ends of half a turn sines are not too small. -/
theorem S_pos {x : Int} (h0 : 1 ≤ x) (h1 : x ≤ 10799999) : m30 ≤ S x := by
  have hb := (bnd_holds (n := x) (by omega) (by omega)).1
  have hlo : (311 : Int) ≤ (bnd x).1 := by
    have s1 := sin1
    by_cases hq : x ≤ 5400000
    · rw [bnd_pos (by omega) hq]
      have := (sinB_mono (r := 1) (s := x) (by omega) (by omega) hq).1
      dsimp only; omega
    · have e : turnI x = x := Int.emod_eq_of_lt (by omega) (by omega)
      have f : foldI x = 10800000 - x := by unfold foldI; omega
      unfold bnd
      rw [e, if_neg (by omega), f]
      have := (sinB_mono (r := 1) (s := 10800000 - x) (by omega) (by omega) (by omega)).1
      dsimp only; omega
  have h2 := Rat.intCast_le_intCast.2 hlo
  have e3 : ((311 : Int) : Rat) = 311 := rfl
  rw [e3] at h2
  have hd : d100 ≤ 1 := by decide +kernel
  have em : oR * m30 = 310 := by decide +kernel
  have ho : (0 : Rat) < oR := by decide +kernel
  refine Rat.le_of_mul_le_mul_left (c := oR) ?_ ho
  rw [em]
  generalize oR * S x = z at *
  generalize d100 = d at *
  generalize ((bnd x).1 : Rat) = b at *
  grind
theorem S_0 : S 0 = 0 := Sn_0
theorem C_0 : C 0 = 1 := Cn_0
theorem S_nn {x : Int} (h0 : 0 ≤ x) (h1 : x ≤ 10799999) : 0 ≤ S x := by
  by_cases h : x = 0
  · subst h; rw [S_0]; decide +kernel
  · exact Rat.le_trans (by decide +kernel) (S_pos (by omega) h1)
/-- Cosines fall from one angle to the next. -/
theorem C_step {m : Int} (h0 : 0 ≤ m) (h1 : m ≤ 10799999) : g45 ≤ C m - C (m + 1) := by
  have e1 : C 1 = c1R := by
    show Cn 1 = c1R
    rw [show (1 : Nat) = 0 + 1 from rfl, Cn_s, Cn_0, Sn_0]; grind
  have e2 : S 1 = s1R := by
    rw [show (1 : Int) = ((0 + 1 : Nat) : Int) from rfl, S_nat, Sn_s, Cn_0, Sn_0]; grind
  have hc := (add_i m 1).1
  rw [hc, e1, e2]
  have k1 : g45 ≤ 1 - c1R := by decide +kernel
  have k2 : g45 + (1 - c1R) ≤ m30 * s1R := by decide +kernel
  have k3 : (0 : Rat) ≤ 1 - c1R := by decide +kernel
  have k4 : (0 : Rat) ≤ s1R := by decide +kernel
  by_cases h : m = 0
  · subst h
    rw [C_0, S_0]
    generalize c1R = c at *
    generalize s1R = s at *
    generalize g45 = g at *
    grind
  · have hs := S_pos (x := m) (by omega) h1
    obtain ⟨c1, c2⟩ := C_abs m
    have b1 := Rat.mul_le_mul_of_nonneg_right hs k4
    have b2 := Rat.mul_le_mul_of_nonneg_right c1 k3
    generalize c1R = c at *
    generalize s1R = s at *
    generalize g45 = g at *
    generalize C m = x at *
    generalize S m = y at *
    generalize m30 = z at *
    grind
theorem C_fall {m : Int} (h0 : 0 ≤ m) : ∀ k : Nat, m + (k + 1) ≤ 10800000 → g45 ≤ C m - C (m + (k + 1))
  | 0, h => by
    have := C_step h0 (by omega)
    rw [show m + (((0 : Nat) : Int) + 1) = m + 1 by omega]; exact this
  | k + 1, h => by
    have ih := C_fall h0 k (by omega)
    have := C_step (m := m + (k + 1)) (by omega) (by omega)
    rw [show m + (((k + 1 : Nat) : Int) + 1) = m + (k + 1) + 1 by omega]
    have hg : (0 : Rat) ≤ g45 := by decide +kernel
    generalize g45 = g at *
    grind
/-- Angles are compared by their cosines. -/
theorem C_lt {m n : Int} (h0 : 0 ≤ m) (h : m < n) (h1 : n ≤ 10800000) : g45 ≤ C m - C n := by
  obtain ⟨k, hk⟩ := nat_of (show 0 ≤ n - m - 1 by omega)
  have := C_fall h0 k (by omega)
  rwa [show m + ((k : Int) + 1) = n by omega] at this
/-- THE TRIANGLE INEQUALITY, with room for errors. -/
theorem triangle {d1 d2 d3 s1 s2 s3 x y z : Int} (hx : 1 ≤ x) (hy : 1 ≤ y) (hz : z ≤ 10800000) (hx2 : x ≤ 10800000) (hy2 : y ≤ 10800000) (h1 : C x - d95 ≤ dot d1 d2 (s1 - s2)) (h2 : C y - d95 ≤ dot d2 d3 (s2 - s3)) (h3 : dot d1 d3 (s1 - s3) ≤ C z + d95) : z ≤ x + y := by
  refine Int.not_lt.1 fun hlt => ?_
  have hxy : x + y ≤ 10799999 := by omega
  have px := S_pos hx (by omega)
  have py := S_pos hy (by omega)
  obtain ⟨ac, as⟩ := add_i x y
  have pxy := S_nn (x := x + y) (by omega) hxy
  have hm : (0 : Rat) ≤ m30 := by decide +kernel
  have ht : (0 : Rat) ≤ d95 := by decide +kernel
  have hg := gram d1 d2 d3 s1 s2 s3 (S y) (-(S (x + y))) (S x)
  have hfall := C_lt (m := x + y) (n := z) (by omega) hlt hz
  rw [as] at pxy hg
  have sx1 := (S_abs x).2
  have sy1 := (S_abs y).2
  have sxy1 := (S_abs (x + y)).2
  rw [as] at sxy1
  rw [ac] at hfall
  have t1 := tri (AB := dot d1 d2 (s1 - s2)) (BC := dot d2 d3 (s2 - s3)) (AC := dot d1 d3 (s1 - s3)) (unit x) (unit y) (by grind) (by grind) sx1 sy1 pxy sxy1 ht h1 h2 (by grind)
  have pp : m30 * m30 ≤ S x * S y := Rat.le_trans (Rat.mul_le_mul_of_nonneg_right px hm) (Rat.mul_le_mul_of_nonneg_left py (Rat.le_trans hm px))
  have k : 2 * d95 < m30 * m30 * (g45 - d95) := by decide +kernel
  have kg : (0 : Rat) ≤ g45 - d95 := by decide +kernel
  have b1 := Rat.mul_le_mul_of_nonneg_right pp kg
  have pnn : 0 ≤ S x * S y := Rat.mul_nonneg (Rat.le_trans hm px) (Rat.le_trans hm py)
  -- AC <= C z + d95 <= C (x + y) - g45 + d95
  have b2 : dot d1 d3 (s1 - s3) ≤ C x * C y - S x * S y - (g45 - d95) := by
    generalize g45 = g at *
    generalize d95 = d at *
    generalize C x * C y - S x * S y = w at *
    generalize dot d1 d3 (s1 - s3) = v at *
    grind
  have b3 := Rat.mul_le_mul_of_nonneg_left b2 pnn
  clear h1 h2 h3 hg hfall px py
  generalize dot d1 d3 (s1 - s3) = v at *
  generalize C x * C y - S x * S y = w at *
  generalize S x * S y = u at *
  generalize g45 - d95 = e at *
  generalize d95 = d at *
  generalize m30 * m30 = mm at *
  grind
end Go.Proofs.YthilhhegchmjeaaGreat.TT
/- Distances as the program reckons them: enclosures, products, arcs; what they enclose. -/
set_option linter.unusedVariables false
namespace Go.Proofs.YthilhhegchmjeaaGreat.TT
def meetsI (lo hi n : Int) : Bool := decide (turnI (n - lo) ≤ hi - lo)
/-- The least enclosure of the sine over an arc. -/
def encl (lo hi : Int) : Int × Int := (if meetsI lo hi 16200000 = true then -1073741824 else min (bnd lo).1 (bnd hi).1, if meetsI lo hi 5400000 = true then 1073741824 else max (bnd lo).2 (bnd hi).2)
def cosE (lo hi : Int) : Int × Int := encl (lo + 5400000) (hi + 5400000)
def havE (lo hi : Int) : Int × Int := ((1073741824 - (cosE lo hi).2) / 2, (1073741824 - (cosE lo hi).1 + 1) / 2)
def mulE (x y : Int × Int) : Int × Int := (min (min (x.1 * y.1) (x.1 * y.2)) (min (x.2 * y.1) (x.2 * y.2)) / 1073741824, -(-(max (max (x.1 * y.1) (x.1 * y.2)) (max (x.2 * y.1) (x.2 * y.2))) / 1073741824))
def addE (x y : Int × Int) : Int × Int := (x.1 + y.1, x.2 + y.2)
/-- The greatest angle whose sine is at most a number. -/
def IsAsin (v n : Int) : Prop := -5400000 ≤ n ∧ n ≤ 5400000 ∧ (bnd n).2 ≤ v ∧ ∀ m, n < m → m ≤ 5400000 → v < (bnd m).2
theorem asin_uniq {v n m : Int} (h : IsAsin v n) (h' : IsAsin v m) : n = m := by
  obtain ⟨a1, a2, a3, a4⟩ := h
  obtain ⟨b1, b2, b3, b4⟩ := h'
  rcases Int.lt_trichotomy n m with g | g | g
  · have := a4 m g b2; omega
  · exact g
  · have := b4 n g a2; omega
/-- The sum for the haversine of a distance, of two stars' numbers in units. -/
def havS (s d t e : Int) : Int × Int := addE (havE (d - e - 100) (d - e + 100)) (mulE (mulE (cosE (d - 50) (d + 50)) (cosE (e - 50) (e + 50))) (havE (s - t - 100) (s - t + 100)))
def clamp (p : Int × Int) : Int × Int := (max p.1 0, min p.2 1073741824)
/-- The arc of a distance. -/
def IsDist (s d t e : Int) (a : Int × Int) : Prop := ∃ n0 n1, IsAsin (1073741824 - 2 * (clamp (havS s d t e)).2) n1 ∧ IsAsin (-(1073741824 - 2 * (clamp (havS s d t e)).1)) n0 ∧ a = (5400000 + n0, 5400000 - n1)
/-! ### turned angles -/
theorem turn_add (n : Int) (k : Int) : turnI (n + 21600000 * k) = turnI n := by unfold turnI; omega
theorem bnd_turn (n k : Int) : bnd (n + 21600000 * k) = bnd n := by unfold bnd; rw [turn_add]
theorem bnd_half {n : Int} (h0 : 5400000 ≤ n) (h1 : n ≤ 16200000) : bnd n = bnd (10800000 - n) := by
  have e1 : turnI n = n := Int.emod_eq_of_lt (by omega) (by omega)
  by_cases hn : n ≤ 10800000
  · rw [bnd_pos (n := 10800000 - n) (by omega) (by omega)]
    unfold bnd
    have f : foldI n = 10800000 - n := by unfold foldI; omega
    rw [e1, if_neg (by omega), f]
  · rw [bnd_neg (n := 10800000 - n) (by omega) (by omega)]
    unfold bnd
    have f : foldI n = -(10800000 - n) := by unfold foldI; omega
    rw [e1, if_pos (by omega), f]
theorem bnd_dec {n m : Int} (h0 : 5400000 ≤ n) (h : n ≤ m) (h1 : m ≤ 16200000) : (bnd m).2 ≤ (bnd n).2 ∧ (bnd m).1 ≤ (bnd n).1 := by
  rw [bnd_half h0 (by omega), bnd_half (n := m) (by omega) h1]
  exact bnd_mono (by omega) (by omega) (by omega)
theorem bnd_inc2 {n m : Int} (h0 : 16200000 ≤ n) (h : n ≤ m) (h1 : m ≤ 27000000) : (bnd n).2 ≤ (bnd m).2 ∧ (bnd n).1 ≤ (bnd m).1 := by
  have e : ∀ x, bnd x = bnd (x - 21600000) := fun x => by
    have := bnd_turn (x - 21600000) 1
    rwa [show x - 21600000 + 21600000 * 1 = x by omega] at this
  rw [e n, e m]
  exact bnd_mono (by omega) (by omega) (by omega)
theorem meets_turn (lo hi n k : Int) : meetsI (lo + 21600000 * k) (hi + 21600000 * k) n = meetsI lo hi n := by
  unfold meetsI
  have := turn_add (n - lo) (-k)
  rw [show n - (lo + 21600000 * k) = n - lo + 21600000 * -k by omega, this, show hi + 21600000 * k - (lo + 21600000 * k) = hi - lo by omega]
theorem encl_turn (lo hi k : Int) : encl (lo + 21600000 * k) (hi + 21600000 * k) = encl lo hi := by
  unfold encl
  rw [meets_turn, meets_turn, bnd_turn, bnd_turn]
/-- An enclosure holds what lies in its arc. -/
theorem encl_in {lo hi n : Int} (h0 : lo ≤ n) (h1 : n ≤ hi) (hw : hi - lo ≤ 1000) : (encl lo hi).1 ≤ (bnd n).1 ∧ (bnd n).2 ≤ (encl lo hi).2 := by
  obtain ⟨k, hk⟩ : ∃ k, -5400000 ≤ lo + 21600000 * k ∧ lo + 21600000 * k < 16200000 := ⟨-((lo + 5400000) / 21600000), by omega⟩
  rw [← encl_turn lo hi k, ← bnd_turn n k]
  generalize hl : lo + 21600000 * k = l at *
  generalize hh : hi + 21600000 * k = h at *
  generalize hn : n + 21600000 * k = m at *
  have g0 : l ≤ m := by omega
  have g1 : m ≤ h := by omega
  have gw : h - l ≤ 1000 := by omega
  clear hl hh hn h0 h1 hw
  have bb := bnd_bd m
  unfold encl
  dsimp only
  have mt : ∀ x : Int, l ≤ x → x ≤ h → meetsI l h x = true := fun x a b => by
    unfold meetsI
    have : turnI (x - l) = x - l := Int.emod_eq_of_lt (by omega) (by omega)
    rw [this]
    exact decide_eq_true (by omega)
  by_cases hq : h ≤ 5400000
  · have a := bnd_mono hk.1 g0 (by omega)
    have b := bnd_mono (n := m) (m := h) (by omega) g1 hq
    constructor
    · split <;> omega
    · split <;> omega
  by_cases hq1 : l ≤ 5400000
  · rw [if_pos (mt 5400000 hq1 (by omega))]
    refine ⟨?_, by omega⟩
    by_cases hm : m ≤ 5400000
    · have a := bnd_mono hk.1 g0 hm
      split <;> omega
    · have a := bnd_dec (n := m) (m := h) (by omega) g1 (by omega)
      split <;> omega
  by_cases hq2 : h ≤ 16200000
  · have a := bnd_dec (n := l) (m := m) (by omega) g0 (by omega)
    have b := bnd_dec (n := m) (m := h) (by omega) g1 hq2
    constructor
    · split <;> omega
    · split <;> omega
  · rw [if_pos (mt 16200000 (by omega) (by omega))]
    refine ⟨by omega, ?_⟩
    by_cases hm : m ≤ 16200000
    · have a := bnd_dec (n := l) (m := m) (by omega) g0 hm
      split <;> omega
    · have a := bnd_inc2 (n := m) (m := h) (by omega) g1 (by omega)
      split <;> omega
theorem encl_bd (lo hi : Int) : -1073741824 ≤ (encl lo hi).1 ∧ (encl lo hi).2 ≤ 1073741824 := by
  have a := bnd_bd lo
  have b := bnd_bd hi
  unfold encl
  dsimp only
  constructor
  · split <;> omega
  · split <;> omega
/-! ### what is enclosed, up to a little -/
def Enc (p : Int × Int) (x d : Rat) : Prop := ∃ x' : Rat, (p.1 : Rat) ≤ oR * x' ∧ oR * x' ≤ (p.2 : Rat) ∧ Near x x' d
theorem oR_pos : (0 : Rat) < oR := by decide +kernel
theorem Enc.of {lo hi : Int} {x d : Rat} (h : Holds lo hi x d) (hle : lo ≤ hi) (hd : 0 ≤ d) : Enc (lo, hi) x d := by
  obtain ⟨h1, h2⟩ := h
  have hleR : (lo : Rat) ≤ (hi : Rat) := Rat.intCast_le_intCast.2 hle
  have inv : ∀ q : Rat, oR * (q / oR) = q := fun q => by rw [Rat.mul_comm]; exact Rat.div_mul_cancel (by decide +kernel)
  rcases Rat.le_total (a := oR * x) (b := (lo : Rat)) with g | g
  · refine ⟨(lo : Rat) / oR, by rw [inv]; exact Rat.le_refl, by rw [inv]; exact hleR, ?_⟩
    have e := inv (lo : Rat)
    generalize (lo : Rat) / oR = y at *
    exact ⟨by grind, by grind⟩
  rcases Rat.le_total (a := oR * x) (b := (hi : Rat)) with g' | g'
  · exact ⟨x, g, g', by exact ⟨by grind, by grind⟩⟩
  · refine ⟨(hi : Rat) / oR, by rw [inv]; exact hleR, by rw [inv]; exact Rat.le_refl, ?_⟩
    have e := inv (hi : Rat)
    generalize (hi : Rat) / oR = y at *
    exact ⟨by grind, by grind⟩
theorem Enc.wide {p q : Int × Int} {x d : Rat} (h : Enc p x d) (h1 : q.1 ≤ p.1) (h2 : p.2 ≤ q.2) : Enc q x d := by
  obtain ⟨y, a, b, c⟩ := h
  exact ⟨y, Rat.le_trans (Rat.intCast_le_intCast.2 h1) a, Rat.le_trans b (Rat.intCast_le_intCast.2 h2), c⟩
theorem Enc.near {p : Int × Int} {x y d e : Rat} (h : Enc p x d) (hn : Near y x e) : Enc p y (e + d) := by
  obtain ⟨z, a, b, c⟩ := h
  exact ⟨z, a, b, hn.trans c⟩
theorem Enc.mono {p : Int × Int} {x d e : Rat} (h : Enc p x d) (hde : d ≤ e) : Enc p x e := by
  obtain ⟨z, a, b, c⟩ := h
  exact ⟨z, a, b, c.mono hde⟩
theorem cos_enc {lo hi n : Int} (h0 : lo ≤ n) (h1 : n ≤ hi) (hw : hi - lo ≤ 1000) (hb : -100000000 ≤ n ∧ n ≤ 100000000) : Enc (cosE lo hi) (C n) (d100 + d100) := by
  have hh := bnd_holds (n := n + 5400000) (by omega) (by omega)
  have he := Enc.of hh (bnd_bd _).2.1 (by decide +kernel)
  obtain ⟨e1, e2⟩ := encl_in (lo := lo + 5400000) (hi := hi + 5400000) (n := n + 5400000) (by omega) (by omega) (by omega)
  have h3 := S_co (-n)
  rw [C_neg, show 5400000 - -n = n + 5400000 by omega] at h3
  exact ((he.wide (q := cosE lo hi) e1 e2).near h3.symm).mono (by decide +kernel)
theorem hav_enc {lo hi n : Int} (h0 : lo ≤ n) (h1 : n ≤ hi) (hw : hi - lo ≤ 1000) (hb : -100000000 ≤ n ∧ n ≤ 100000000) : Enc (havE lo hi) ((1 - C n) / 2) (d100 + d100) := by
  obtain ⟨y, a, b, c1, c2⟩ := cos_enc h0 h1 hw hb
  have f1 : (havE lo hi).1 * 2 ≤ 1073741824 - (cosE lo hi).2 := by unfold havE; dsimp only; omega
  have f2 : 1073741824 - (cosE lo hi).1 ≤ (havE lo hi).2 * 2 := by unfold havE; dsimp only; omega
  have g1 := Rat.intCast_le_intCast.2 f1
  have g2 := Rat.intCast_le_intCast.2 f2
  rw [Rat.intCast_mul, Rat.intCast_sub] at g1 g2
  have e1 : ((2 : Int) : Rat) = 2 := rfl
  have e2 : ((1073741824 : Int) : Rat) = 1073741824 := rfl
  rw [e1, e2] at g1 g2
  generalize d100 = d at *
  exact ⟨(1 - y) / 2, by grind, by grind, by grind, by grind⟩
theorem floor_le_R {m : Int} {x : Rat} (h : (m : Rat) ≤ oR * x) : ((m / 1073741824 : Int) : Rat) ≤ x := by
  have h1 : m / 1073741824 * 1073741824 ≤ m := Int.ediv_mul_le m (by decide)
  have g := Rat.le_trans (Rat.intCast_le_intCast.2 h1) h
  rw [Rat.intCast_mul] at g
  have e2 : ((1073741824 : Int) : Rat) = 1073741824 := rfl
  rw [e2] at g
  refine Rat.le_of_mul_le_mul_left (c := oR) ?_ oR_pos
  grind
/-- A product of two factors lies between the products of the ends. -/
theorem corner {a b c e x y : Rat} (ha : a ≤ x) (hb : x ≤ b) (hc : c ≤ y) (he : y ≤ e) (m M : Rat) (h1 : m ≤ a * c ∧ m ≤ a * e ∧ m ≤ b * c ∧ m ≤ b * e) (h2 : a * c ≤ M ∧ a * e ≤ M ∧ b * c ≤ M ∧ b * e ≤ M) : m ≤ x * y ∧ x * y ≤ M := by
  obtain ⟨m1, m2, m3, m4⟩ := h1
  obtain ⟨M1, M2, M3, M4⟩ := h2
  -- between a y and b y
  have ay : m ≤ a * y ∧ a * y ≤ M := by
    rcases Rat.nonneg_total a with g | g
    · have p1 := Rat.mul_le_mul_of_nonneg_left hc g
      have p2 := Rat.mul_le_mul_of_nonneg_left he g
      exact ⟨by grind, by grind⟩
    · have p1 := Rat.mul_le_mul_of_nonneg_left hc g
      have p2 := Rat.mul_le_mul_of_nonneg_left he g
      exact ⟨by grind, by grind⟩
  have bY : m ≤ b * y ∧ b * y ≤ M := by
    rcases Rat.nonneg_total b with g | g
    · have p1 := Rat.mul_le_mul_of_nonneg_left hc g
      have p2 := Rat.mul_le_mul_of_nonneg_left he g
      exact ⟨by grind, by grind⟩
    · have p1 := Rat.mul_le_mul_of_nonneg_left hc g
      have p2 := Rat.mul_le_mul_of_nonneg_left he g
      exact ⟨by grind, by grind⟩
  rcases Rat.nonneg_total y with g | g
  · have p1 := Rat.mul_le_mul_of_nonneg_right ha g
    have p2 := Rat.mul_le_mul_of_nonneg_right hb g
    exact ⟨by grind, by grind⟩
  · have p1 := Rat.mul_le_mul_of_nonneg_right ha g
    have p2 := Rat.mul_le_mul_of_nonneg_right hb g
    exact ⟨by grind, by grind⟩
theorem mul_enc {p q : Int × Int} {x y d e : Rat} (hp : Enc p x d) (hq : Enc q y e) (hd : 0 ≤ d) (he : 0 ≤ e) (bp : -1073741824 ≤ p.1 ∧ p.2 ≤ 1073741824) (hy : -1 ≤ y ∧ y ≤ 1) : Enc (mulE p q) (x * y) (d + e) := by
  obtain ⟨x', a1, a2, n1, n2⟩ := hp
  obtain ⟨y', b1, b2, k1, k2⟩ := hq
  have e2 : ((1073741824 : Int) : Rat) = 1073741824 := rfl
  refine ⟨x' * y', ?_, ?_, ?_⟩
  · have h := (corner a1 a2 b1 b2 ((min (min (p.1 * q.1) (p.1 * q.2)) (min (p.2 * q.1) (p.2 * q.2)) : Int) : Rat) ((max (max (p.1 * q.1) (p.1 * q.2)) (max (p.2 * q.1) (p.2 * q.2)) : Int) : Rat)
      (by rw [← Rat.intCast_mul, ← Rat.intCast_mul, ← Rat.intCast_mul, ← Rat.intCast_mul]; exact ⟨Rat.intCast_le_intCast.2 (by omega), Rat.intCast_le_intCast.2 (by omega), Rat.intCast_le_intCast.2 (by omega), Rat.intCast_le_intCast.2 (by omega)⟩)
      (by rw [← Rat.intCast_mul, ← Rat.intCast_mul, ← Rat.intCast_mul, ← Rat.intCast_mul]; exact ⟨Rat.intCast_le_intCast.2 (by omega), Rat.intCast_le_intCast.2 (by omega), Rat.intCast_le_intCast.2 (by omega), Rat.intCast_le_intCast.2 (by omega)⟩)).1
    have e : oR * x' * (oR * y') = oR * (oR * (x' * y')) := by grind
    rw [e] at h
    exact floor_le_R h
  · have h := (corner a1 a2 b1 b2 ((min (min (p.1 * q.1) (p.1 * q.2)) (min (p.2 * q.1) (p.2 * q.2)) : Int) : Rat) ((max (max (p.1 * q.1) (p.1 * q.2)) (max (p.2 * q.1) (p.2 * q.2)) : Int) : Rat)
      (by rw [← Rat.intCast_mul, ← Rat.intCast_mul, ← Rat.intCast_mul, ← Rat.intCast_mul]; exact ⟨Rat.intCast_le_intCast.2 (by omega), Rat.intCast_le_intCast.2 (by omega), Rat.intCast_le_intCast.2 (by omega), Rat.intCast_le_intCast.2 (by omega)⟩)
      (by rw [← Rat.intCast_mul, ← Rat.intCast_mul, ← Rat.intCast_mul, ← Rat.intCast_mul]; exact ⟨Rat.intCast_le_intCast.2 (by omega), Rat.intCast_le_intCast.2 (by omega), Rat.intCast_le_intCast.2 (by omega), Rat.intCast_le_intCast.2 (by omega)⟩)).2
    have e : oR * x' * (oR * y') = oR * (oR * (x' * y')) := by grind
    rw [e] at h
    have h2 := floor_le_R (m := -(max (max (p.1 * q.1) (p.1 * q.2)) (max (p.2 * q.1) (p.2 * q.2)))) (x := -(oR * (x' * y'))) (by rw [Rat.intCast_neg]; grind)
    show oR * (x' * y') ≤ ((-(-(max (max (p.1 * q.1) (p.1 * q.2)) (max (p.2 * q.1) (p.2 * q.2))) / 1073741824) : Int) : Rat)
    rw [Rat.intCast_neg]
    grind
  · have l1 := Rat.intCast_le_intCast.2 bp.1
    have l2 := Rat.intCast_le_intCast.2 bp.2
    rw [Rat.intCast_neg, e2] at l1
    rw [e2] at l2
    have x1 : -1 ≤ x' := by refine Rat.le_of_mul_le_mul_left (c := oR) ?_ oR_pos; grind
    have x2 : x' ≤ 1 := by refine Rat.le_of_mul_le_mul_left (c := oR) ?_ oR_pos; grind
    have m1 := mul_abs (d := d) hy.1 hy.2 (e := x - x') (by grind) (by grind)
    have m2 := mul_abs (d := e) x1 x2 (e := y - y') (by grind) (by grind)
    exact ⟨by grind, by grind⟩
theorem add_enc {p q : Int × Int} {x y d e : Rat} (hp : Enc p x d) (hq : Enc q y e) : Enc (addE p q) (x + y) (d + e) := by
  obtain ⟨x', a1, a2, n1, n2⟩ := hp
  obtain ⟨y', b1, b2, k1, k2⟩ := hq
  refine ⟨x' + y', ?_, ?_, by grind, by grind⟩
  · show ((p.1 + q.1 : Int) : Rat) ≤ _
    rw [Rat.intCast_add]; grind
  · show _ ≤ ((p.2 + q.2 : Int) : Rat)
    rw [Rat.intCast_add]; grind
end Go.Proofs.YthilhhegchmjeaaGreat.TT
/- Distances: what the law of triangles says of them. -/
set_option linter.unusedVariables false
namespace Go.Proofs.YthilhhegchmjeaaGreat.TT
abbrev d98 : Rat := 1 / ((2 ^ 97 : Nat) : Rat)
/-- The true haversine of a distance. -/
def havT (s d t e : Int) : Rat := (1 - dot d e (s - t)) / 2
theorem havT_eq (s d t e : Int) : havT s d t e = (1 - C (d - e)) / 2 + C d * C e * ((1 - C (s - t)) / 2) := by
  unfold havT dot
  rw [(sub_i d e).1]; grind
theorem dot_abs (d e w : Int) : -1 ≤ dot d e w ∧ dot d e w ≤ 1 := by
  have h1 := gram d e 0 w 0 0 1 1 0
  have h2 := gram d e 0 w 0 0 1 (-1) 0
  rw [show w - 0 = w by omega] at h1 h2
  generalize dot d e w = x at *
  exact ⟨by grind, by grind⟩
theorem prod_abs (d e : Int) : -1 ≤ C d * C e ∧ C d * C e ≤ 1 := by
  have h := mul_abs (d := 1) (C_abs d).1 (C_abs d).2 (C_abs e).1 (C_abs e).2
  exact h
theorem hav_abs (n : Int) : -1 ≤ (1 - C n) / 2 ∧ (1 - C n) / 2 ≤ 1 := by
  have := C_abs n
  exact ⟨by grind, by grind⟩
/-- The numbers of a star, in units. -/
def okS (s d : Int) : Prop := 0 ≤ s ∧ s ≤ 21599900 ∧ -5400000 ≤ d ∧ d ≤ 5400000
theorem mulE_bd {p q : Int × Int} (hp : -1073741824 ≤ p.1 ∧ p.1 ≤ p.2 ∧ p.2 ≤ 1073741824) (hq : -1073741824 ≤ q.1 ∧ q.1 ≤ q.2 ∧ q.2 ≤ 1073741824) : -1073741824 ≤ (mulE p q).1 ∧ (mulE p q).1 ≤ (mulE p q).2 ∧ (mulE p q).2 ≤ 1073741824 := by
  have h1 := abs_mul_le (A := 1073741824) (u := 1073741824) (a := p.1) (t := q.1) (by omega) (by omega)
  have h2 := abs_mul_le (A := 1073741824) (u := 1073741824) (a := p.1) (t := q.2) (by omega) (by omega)
  have h3 := abs_mul_le (A := 1073741824) (u := 1073741824) (a := p.2) (t := q.1) (by omega) (by omega)
  have h4 := abs_mul_le (A := 1073741824) (u := 1073741824) (a := p.2) (t := q.2) (by omega) (by omega)
  unfold mulE
  dsimp only
  generalize p.1 * q.1 = a at *
  generalize p.1 * q.2 = b at *
  generalize p.2 * q.1 = c at *
  generalize p.2 * q.2 = e at *
  omega
theorem encl_le (lo hi : Int) (h : lo ≤ hi) (hw : hi - lo ≤ 1000) : -1073741824 ≤ (encl lo hi).1 ∧ (encl lo hi).1 ≤ (encl lo hi).2 ∧ (encl lo hi).2 ≤ 1073741824 := by
  obtain ⟨a, b⟩ := encl_in (n := lo) (Int.le_refl _) h hw
  have c := encl_bd lo hi
  have e := bnd_bd lo
  omega
theorem cosE_bd {lo hi : Int} (h : lo ≤ hi) (hw : hi - lo ≤ 1000) : -1073741824 ≤ (cosE lo hi).1 ∧ (cosE lo hi).1 ≤ (cosE lo hi).2 ∧ (cosE lo hi).2 ≤ 1073741824 := encl_le _ _ (by omega) (by omega)
theorem havE_bd {lo hi : Int} (h : lo ≤ hi) (hw : hi - lo ≤ 1000) : 0 ≤ (havE lo hi).1 ∧ (havE lo hi).1 ≤ (havE lo hi).2 ∧ (havE lo hi).2 ≤ 1073741824 := by
  have := cosE_bd h hw
  unfold havE
  dsimp only
  omega
theorem havS_enc {s d t e : Int} (h1 : okS s d) (h2 : okS t e) : Enc (havS s d t e) (havT s d t e) d98 := by
  obtain ⟨a1, a2, a3, a4⟩ := h1
  obtain ⟨b1, b2, b3, b4⟩ := h2
  rw [havT_eq]
  have k1 := hav_enc (lo := d - e - 100) (hi := d - e + 100) (n := d - e) (by omega) (by omega) (by omega) (by omega)
  have k2 := cos_enc (lo := d - 50) (hi := d + 50) (n := d) (by omega) (by omega) (by omega) (by omega)
  have k3 := cos_enc (lo := e - 50) (hi := e + 50) (n := e) (by omega) (by omega) (by omega) (by omega)
  have k4 := hav_enc (lo := s - t - 100) (hi := s - t + 100) (n := s - t) (by omega) (by omega) (by omega) (by omega)
  have c1 := cosE_bd (lo := d - 50) (hi := d + 50) (by omega) (by omega)
  have c2 := cosE_bd (lo := e - 50) (hi := e + 50) (by omega) (by omega)
  have m1 := mul_enc k2 k3 (by decide +kernel) (by decide +kernel) ⟨c1.1, c1.2.2⟩ (C_abs e)
  have mb := mulE_bd c1 c2
  have m2 := mul_enc m1 k4 (by decide +kernel) (by decide +kernel) ⟨mb.1, mb.2.2⟩ (hav_abs (s - t))
  exact (add_enc k1 m2).mono (by decide +kernel)
theorem havS_bd {s d t e : Int} : -1073741824 ≤ (havS s d t e).1 ∧ (havS s d t e).1 ≤ (havS s d t e).2 ∧ (havS s d t e).2 ≤ 2147483648 := by
  have c1 := cosE_bd (lo := d - 50) (hi := d + 50) (by omega) (by omega)
  have c2 := cosE_bd (lo := e - 50) (hi := e + 50) (by omega) (by omega)
  have c3 := havE_bd (lo := s - t - 100) (hi := s - t + 100) (by omega) (by omega)
  have c4 := havE_bd (lo := d - e - 100) (hi := d - e + 100) (by omega) (by omega)
  have m1 := mulE_bd c1 c2
  have m2 := mulE_bd m1 ⟨by omega, c3.2⟩
  unfold havS addE
  dsimp only
  omega
/-- The clamped sum. -/
theorem clamp_enc {s d t e : Int} (h1 : okS s d) (h2 : okS t e) : (((clamp (havS s d t e)).1 : Rat) ≤ oR * havT s d t e + oR * d98 ∧ oR * havT s d t e - oR * d98 ≤ ((clamp (havS s d t e)).2 : Rat)) ∧ 0 ≤ (clamp (havS s d t e)).1 ∧ (clamp (havS s d t e)).2 ≤ 1073741824 ∧ (clamp (havS s d t e)).1 ≤ (clamp (havS s d t e)).2 := by
  obtain ⟨y, a, b, n1, n2⟩ := havS_enc h1 h2
  have hd := dot_abs d e (s - t)
  have t0 : 0 ≤ havT s d t e ∧ havT s d t e ≤ 1 := by unfold havT; exact ⟨by grind, by grind⟩
  have hb := havS_bd (s := s) (d := d) (t := t) (e := e)
  have e2 : ((1073741824 : Int) : Rat) = 1073741824 := rfl
  have dd' : 0 ≤ oR * d98 ∧ oR * d98 < 1 := by decide +kernel
  have lo1 : (havS s d t e).1 ≤ 1073741824 := by
    have : ((havS s d t e).1 : Rat) < ((1073741825 : Int) : Rat) := by
      have e3 : ((1073741825 : Int) : Rat) = 1073741825 := rfl
      rw [e3]; generalize d98 = x at *; grind
    have := Rat.intCast_lt_intCast.1 this
    omega
  have hi0 : 0 ≤ (havS s d t e).2 := by
    have : ((-1 : Int) : Rat) < ((havS s d t e).2 : Rat) := by
      have e3 : ((-1 : Int) : Rat) = -1 := rfl
      rw [e3]; generalize d98 = x at *; grind
    have := Rat.intCast_lt_intCast.1 this
    omega
  refine ⟨⟨?_, ?_⟩, ?_⟩
  · unfold clamp
    dsimp only
    rcases Int.le_total (havS s d t e).1 0 with g | g
    · rw [Int.max_eq_right g]
      have : ((0 : Int) : Rat) = 0 := rfl
      rw [this]; generalize d98 = x at *; grind
    · rw [Int.max_eq_left g]; generalize d98 = x at *; grind
  · unfold clamp
    dsimp only
    rcases Int.le_total (havS s d t e).2 1073741824 with g | g
    · rw [Int.min_eq_left g]; generalize d98 = x at *; grind
    · rw [Int.min_eq_right g, e2]; generalize d98 = x at *; grind
  · unfold clamp
    dsimp only
    omega
/-- What an arc of a distance encloses. -/
theorem dist_enc {s d t e : Int} {a : Int × Int} (h1 : okS s d) (h2 : okS t e) (h : IsDist s d t e a) : 0 ≤ a.1 ∧ a.1 ≤ 10800000 ∧ 0 ≤ a.2 ∧ a.2 ≤ 10800000 ∧ dot d e (s - t) ≤ C a.1 + d95 ∧ C a.2 - d95 ≤ dot d e (s - t) := by
  obtain ⟨n0, n1, ⟨p1, p2, p3, p4⟩, ⟨q1, q2, q3, q4⟩, rfl⟩ := h
  obtain ⟨⟨c1, c2⟩, c3, c4, c5⟩ := clamp_enc h1 h2
  generalize (clamp (havS s d t e)).1 = lo at *
  generalize (clamp (havS s d t e)).2 = hi at *
  have b0 := (bnd_holds (n := n0) (by omega) (by omega)).2
  have b1 := (bnd_holds (n := n1) (by omega) (by omega)).2
  have g0 := Rat.intCast_le_intCast.2 q3
  have g1 := Rat.intCast_le_intCast.2 p3
  rw [Rat.intCast_neg, Rat.intCast_sub, Rat.intCast_mul] at g0
  rw [Rat.intCast_sub, Rat.intCast_mul] at g1
  have e1 : ((2 : Int) : Rat) = 2 := rfl
  have e2 : ((1073741824 : Int) : Rat) = 1073741824 := rfl
  rw [e1, e2] at g0 g1
  have s0 := S_co (-n0)
  rw [C_neg] at s0
  have k0 := C_co (-n0)
  rw [show 5400000 - -n0 = 5400000 + n0 by omega, S_neg] at k0
  have k1 := C_co n1
  obtain ⟨k01, k02⟩ := k0
  obtain ⟨k11, k12⟩ := k1
  have hT : havT s d t e = (1 - dot d e (s - t)) / 2 := rfl
  rw [hT] at c1 c2
  have hs : 2 * d98 + d100 + d148 ≤ d95 := by decide +kernel
  have ho : d100 ≤ oR * d100 := by decide +kernel
  dsimp only
  refine ⟨by omega, by omega, by omega, by omega, ?_, ?_⟩
  · refine Rat.le_of_mul_le_mul_left (c := oR) ?_ oR_pos
    clear g1 b1 k11 k12 c2
    generalize d98 = x at *
    generalize d100 = y at *
    generalize d148 = z at *
    generalize d95 = w at *
    grind
  · refine Rat.le_of_mul_le_mul_left (c := oR) ?_ oR_pos
    clear g0 b0 k01 k02 c1
    generalize d98 = x at *
    generalize d100 = y at *
    generalize d148 = z at *
    generalize d95 = w at *
    grind
theorem bnd_lt {m : Int} (h : turnI m ≠ 5400000) : (bnd m).1 < 1073741824 := by
  obtain ⟨m0, m1⟩ := turnI_bd m
  obtain ⟨f0, f1⟩ := foldI_bd m0 m1
  have hb := sinB_bd f0 f1
  unfold bnd
  split
  · dsimp only; omega
  · rename_i hg
    dsimp only
    have hf : foldI (turnI m) ≠ 5400000 := by unfold foldI; omega
    by_cases e0 : foldI (turnI m) = 0
    · rw [e0]; decide
    by_cases e1 : foldI (turnI m) = 1800000
    · rw [e1]; decide
    by_cases hg : foldI (turnI m) ≤ 2700000
    · rw [sinB_lo (by omega) hg e1] at hb ⊢
      have : hiB (flS 1 (foldI (turnI m)).toNat, false) = flS 1 (foldI (turnI m)).toNat + 1 := if_neg (fun h => Bool.noConfusion h)
      dsimp only; omega
    · rw [sinB_hi (by omega) (by omega)] at hb ⊢
      have : hiB (flS 0 (5400000 - foldI (turnI m)).toNat, false) = flS 0 (5400000 - foldI (turnI m)).toNat + 1 := if_neg (fun h => Bool.noConfusion h)
      dsimp only; omega
/-- The far end of a distance is not 0. -/
theorem dist_pos {s d t e : Int} {a : Int × Int} (h1 : okS s d) (h2 : okS t e) (h : IsDist s d t e a) : 1 ≤ a.2 := by
  obtain ⟨n0, n1, ⟨p1, p2, p3, p4⟩, ⟨q1, q2, q3, q4⟩, rfl⟩ := h
  obtain ⟨a1, a2, a3, a4⟩ := h1
  obtain ⟨b1, b2, b3, b4⟩ := h2
  have c1 := cosE_bd (lo := d - 50) (hi := d + 50) (by omega) (by omega)
  have c2 := cosE_bd (lo := e - 50) (hi := e + 50) (by omega) (by omega)
  have c3 := havE_bd (lo := s - t - 100) (hi := s - t + 100) (by omega) (by omega)
  have pos : ∀ x, -5400000 ≤ x → x ≤ 5400000 → 0 ≤ (cosE (x - 50) (x + 50)).2 := fun x g1 g2 => by
    have := (encl_in (lo := x - 50 + 5400000) (hi := x + 50 + 5400000) (n := x + 5400000) (by omega) (by omega) (by omega)).2
    have hb : 0 ≤ (bnd (x + 5400000)).2 := by
      by_cases hx : x ≤ 0
      · rw [bnd_pos (by omega) (by omega)]
        have := sinB_bd (r := x + 5400000) (by omega) (by omega)
        dsimp only; omega
      · rw [bnd_half (by omega) (by omega), bnd_pos (by omega) (by omega)]
        have := sinB_bd (r := 10800000 - (x + 5400000)) (by omega) (by omega)
        dsimp only; omega
    show 0 ≤ (encl (x - 50 + 5400000) (x + 50 + 5400000)).2
    omega
  have z1 := pos d a3 a4
  have z2 := pos e b3 b4
  -- the first haversine's far end
  have hav1 : 1 ≤ (havE (d - e - 100) (d - e + 100)).2 := by
    have : (cosE (d - e - 100) (d - e + 100)).1 < 1073741824 := by
      have i1 := (encl_in (lo := d - e - 100 + 5400000) (hi := d - e + 100 + 5400000) (n := d - e - 100 + 5400000) (by omega) (by omega) (by omega)).1
      have i2 := (encl_in (lo := d - e - 100 + 5400000) (hi := d - e + 100 + 5400000) (n := d - e + 100 + 5400000) (by omega) (by omega) (by omega)).1
      show (encl (d - e - 100 + 5400000) (d - e + 100 + 5400000)).1 < 1073741824
      by_cases g : d - e = -100
      · have := bnd_lt (m := d - e - 100 + 5400000) (by unfold turnI; omega)
        omega
      · have := bnd_lt (m := d - e + 100 + 5400000) (by unfold turnI; omega)
        omega
    unfold havE
    dsimp only
    omega
  have m1 : 0 ≤ (mulE (cosE (d - 50) (d + 50)) (cosE (e - 50) (e + 50))).2 := by
    have := Int.mul_nonneg z1 z2
    unfold mulE
    dsimp only
    omega
  have m2 : 0 ≤ (mulE (mulE (cosE (d - 50) (d + 50)) (cosE (e - 50) (e + 50))) (havE (s - t - 100) (s - t + 100))).2 := by
    have := Int.mul_nonneg m1 (show 0 ≤ (havE (s - t - 100) (s - t + 100)).2 by omega)
    generalize mulE (cosE (d - 50) (d + 50)) (cosE (e - 50) (e + 50)) = q at *
    unfold mulE
    dsimp only
    omega
  have hs : 1 ≤ (havS s d t e).2 := by unfold havS addE; dsimp only; omega
  have hc : 1 ≤ (clamp (havS s d t e)).2 := by unfold clamp; dsimp only; omega
  dsimp only
  refine Int.not_lt.1 fun hlt => ?_
  obtain rfl : n1 = 5400000 := by omega
  have : bnd 5400000 = (1073741824, 1073741824) := by
    rw [bnd_pos (by omega) (by omega)]; rfl
  rw [this] at p3
  dsimp only at p3
  omega
/-- THE LAW: of the arcs of three stars' distances. -/
theorem law_tri {s1 d1 s2 d2 s3 d3 : Int} {ab bc ac : Int × Int} (o1 : okS s1 d1) (o2 : okS s2 d2) (o3 : okS s3 d3) (hab : IsDist s1 d1 s2 d2 ab) (hbc : IsDist s2 d2 s3 d3 bc) (hac : IsDist s1 d1 s3 d3 ac) : ac.1 ≤ ab.2 + bc.2 := by
  obtain ⟨a1, a2, a3, a4, a5, a6⟩ := dist_enc o1 o2 hab
  obtain ⟨b1, b2, b3, b4, b5, b6⟩ := dist_enc o2 o3 hbc
  obtain ⟨c1, c2, c3, c4, c5, c6⟩ := dist_enc o1 o3 hac
  exact triangle (dist_pos o1 o2 hab) (dist_pos o2 o3 hbc) c2 a4 b4 a6 b6 c5
theorem dot_sym (d e s t : Int) : dot d e (s - t) = dot e d (t - s) := by
  unfold dot
  rw [show t - s = -(s - t) by omega, C_neg]; grind
theorem law_bd {s d t e : Int} {a : Int × Int} (h1 : okS s d) (h2 : okS t e) (h : IsDist s d t e a) : 0 ≤ a.1 ∧ a.2 ≤ 10800000 ∧ a.1 ≤ a.2 := by
  obtain ⟨a1, a2, a3, a4, a5, a6⟩ := dist_enc h1 h2 h
  refine ⟨a1, a4, Int.not_lt.1 fun hlt => ?_⟩
  have := C_lt a3 hlt a2
  have k : 2 * d95 < g45 := by decide +kernel
  generalize g45 = g at *
  generalize d95 = x at *
  grind
/-- Stars of one hour angle are as far apart as their declinations. -/
theorem law_same {s d e : Int} {a : Int × Int} (h1 : okS s d) (h2 : okS s e) (h : IsDist s d s e a) : a.1 ≤ (if d - e < 0 then -(d - e) else d - e) ∧ (if d - e < 0 then -(d - e) else d - e) ≤ a.2 := by
  obtain ⟨a1, a2, a3, a4, a5, a6⟩ := dist_enc h1 h2 h
  have k : d95 < g45 := by decide +kernel
  obtain ⟨b1, b2, b3, b4⟩ := h1
  obtain ⟨e1, e2, e3, e4⟩ := h2
  have hdot : dot d e (s - s) = C (if d - e < 0 then -(d - e) else d - e) := by
    have : C (if d - e < 0 then -(d - e) else d - e) = C (d - e) := by split; exact C_neg _; rfl
    rw [this, (sub_i d e).1]
    unfold dot
    rw [show s - s = 0 by omega, C_0]; grind
  rw [hdot] at a5 a6
  generalize hm : (if d - e < 0 then -(d - e) else d - e) = m at *
  have m0 : 0 ≤ m ∧ m ≤ 10800000 := by subst hm; split <;> omega
  constructor
  · refine Int.not_lt.1 fun hlt => ?_
    have := C_lt m0.1 hlt a2
    generalize g45 = g at *
    generalize d95 = x at *
    grind
  · refine Int.not_lt.1 fun hlt => ?_
    have := C_lt a3 hlt m0.2
    generalize g45 = g at *
    generalize d95 = x at *
    grind
/-- Distances do not depend on the order. -/
theorem bnd_sym (x : Int) : bnd (x + 5400000) = bnd (-x + 5400000) := by
  obtain ⟨k, hk⟩ : ∃ k, -10800000 ≤ x + 21600000 * k ∧ x + 21600000 * k < 10800000 := ⟨-((x + 10800000) / 21600000), by omega⟩
  rw [← bnd_turn (x + 5400000) k, ← bnd_turn (-x + 5400000) (-k)]
  generalize hy : x + 21600000 * k = y at *
  rw [show x + 5400000 + 21600000 * k = y + 5400000 by omega, show -x + 5400000 + 21600000 * -k = -y + 5400000 by omega]
  by_cases g : 0 ≤ y
  · rw [bnd_half (n := y + 5400000) (by omega) (by omega), show 10800000 - (y + 5400000) = -y + 5400000 by omega]
  · rw [bnd_half (n := -y + 5400000) (by omega) (by omega), show 10800000 - (-y + 5400000) = y + 5400000 by omega]
theorem cosE_sym {lo hi : Int} (h : lo ≤ hi) : cosE lo hi = cosE (-hi) (-lo) := by
  unfold cosE encl
  rw [← bnd_sym lo, ← bnd_sym hi]
  have e1 : meetsI (lo + 5400000) (hi + 5400000) 16200000 = meetsI (-hi + 5400000) (-lo + 5400000) 16200000 := by
    unfold meetsI turnI
    exact decide_eq_decide.2 (by omega)
  have e2 : meetsI (lo + 5400000) (hi + 5400000) 5400000 = meetsI (-hi + 5400000) (-lo + 5400000) 5400000 := by
    unfold meetsI turnI
    exact decide_eq_decide.2 (by omega)
  rw [e1, e2, Int.min_comm, Int.max_comm]
theorem mulE_comm (p q : Int × Int) : mulE p q = mulE q p := by
  unfold mulE
  rw [Int.mul_comm q.1 p.1, Int.mul_comm q.1 p.2, Int.mul_comm q.2 p.1, Int.mul_comm q.2 p.2]
  have e1 : ∀ a b c d : Int, min (min a b) (min c d) = min (min a c) (min b d) := fun a b c d => by omega
  have e2 : ∀ a b c d : Int, max (max a b) (max c d) = max (max a c) (max b d) := fun a b c d => by omega
  rw [e1, e2]
theorem havE_sym {lo hi : Int} (h : lo ≤ hi) : havE lo hi = havE (-hi) (-lo) := by unfold havE; rw [cosE_sym h]
theorem havS_sym (s d t e : Int) : havS s d t e = havS t e s d := by
  unfold havS
  rw [havE_sym (lo := d - e - 100) (hi := d - e + 100) (by omega), havE_sym (lo := s - t - 100) (hi := s - t + 100) (by omega), mulE_comm (cosE (d - 50) (d + 50)),
    show -(d - e + 100) = e - d - 100 by omega, show -(d - e - 100) = e - d + 100 by omega, show -(s - t + 100) = t - s - 100 by omega, show -(s - t - 100) = t - s + 100 by omega]
theorem law_sym {s d t e : Int} {a b : Int × Int} (h : IsDist s d t e a) (h' : IsDist t e s d b) : a = b := by
  obtain ⟨n0, n1, p, q, rfl⟩ := h
  obtain ⟨m0, m1, p', q', rfl⟩ := h'
  rw [havS_sym t e s d] at p' q'
  rw [asin_uniq p p', asin_uniq q q']
end Go.Proofs.YthilhhegchmjeaaGreat.TT
/- There is a greatest angle whose sine is at most a number; how it is found. -/
set_option linter.unusedVariables false
namespace Go.Proofs.YthilhhegchmjeaaGreat.TT
theorem bnd_south : (bnd (-5400000)).2 = -1073741824 := by decide +kernel
theorem asin_upto {v : Int} (h : -1073741824 ≤ v) : ∀ k : Nat, k ≤ 10800000 → ∃ n : Int, -5400000 ≤ n ∧ n ≤ -5400000 + k ∧ (bnd n).2 ≤ v ∧ ∀ m : Int, n < m → m ≤ -5400000 + k → v < (bnd m).2
  | 0, _ => ⟨-5400000, by omega, by omega, by rw [bnd_south]; exact h, fun m a b => by omega⟩
  | k + 1, hk => by
    obtain ⟨n, a, b, c, d⟩ := asin_upto h k (by omega)
    by_cases hc : (bnd (-5400000 + (k + 1 : Nat))).2 ≤ v
    · exact ⟨-5400000 + (k + 1 : Nat), by omega, by omega, hc, fun m x y => by omega⟩
    · refine ⟨n, a, by omega, c, fun m x y => ?_⟩
      by_cases hm : m ≤ -5400000 + (k : Int)
      · exact d m x hm
      · rw [show m = -5400000 + ((k + 1 : Nat) : Int) by omega]; omega
theorem asin_ex {v : Int} (h : -1073741824 ≤ v) : ∃ n, IsAsin v n := by
  obtain ⟨n, a, b, c, d⟩ := asin_upto h 10800000 (by omega)
  exact ⟨n, a, by omega, c, fun m x y => d m x (by omega)⟩
theorem asin_iff {v n m : Int} (h : IsAsin v n) (h0 : -5400000 ≤ m) (h1 : m ≤ 5400000) : (bnd m).2 ≤ v ↔ m ≤ n := by
  obtain ⟨a, b, c, d⟩ := h
  constructor
  · intro g
    exact Int.not_lt.1 fun hlt => by have := d m hlt h1; omega
  · intro g
    have := (bnd_mono h0 g b).1
    omega
end Go.Proofs.YthilhhegchmjeaaGreat.TT
/- What the law of triangles says, of three stars and one of the first one's hour angle. -/
set_option linter.unusedVariables false
namespace Go.Proofs.YthilhhegchmjeaaGreat.TT
theorem dist_ex {s d t e : Int} (h1 : okS s d) (h2 : okS t e) : ∃ a, IsDist s d t e a := by
  obtain ⟨_, c1, c2, c3⟩ := clamp_enc h1 h2
  obtain ⟨n1, p1⟩ := asin_ex (v := 1073741824 - 2 * (clamp (havS s d t e)).2) (by omega)
  obtain ⟨n0, p0⟩ := asin_ex (v := -(1073741824 - 2 * (clamp (havS s d t e)).1)) (by omega)
  exact ⟨_, n0, n1, p1, p0, rfl⟩
structure TriL (s1 d1 s2 d2 s3 d3 : Int) (ab bc ac ad : Int × Int) : Prop where
  hab : IsDist s1 d1 s2 d2 ab
  hba : IsDist s2 d2 s1 d1 ab
  hbc : IsDist s2 d2 s3 d3 bc
  hac : IsDist s1 d1 s3 d3 ac
  had : IsDist s1 d1 s1 d2 ad
  t1 : ac.1 ≤ ab.2 + bc.2
  t2 : ab.1 ≤ ac.2 + bc.2
  t3 : bc.1 ≤ ab.2 + ac.2
  b1 : 0 ≤ ab.1 ∧ ab.2 ≤ 10800000 ∧ ab.1 ≤ ab.2
  b2 : 0 ≤ bc.1 ∧ bc.2 ≤ 10800000 ∧ bc.1 ≤ bc.2
  b3 : 0 ≤ ac.1 ∧ ac.2 ≤ 10800000 ∧ ac.1 ≤ ac.2
  b4 : 0 ≤ ad.1 ∧ ad.2 ≤ 10800000 ∧ ad.1 ≤ ad.2
  e1 : ad.1 ≤ (if d1 - d2 < 0 then -(d1 - d2) else d1 - d2) ∧ (if d1 - d2 < 0 then -(d1 - d2) else d1 - d2) ≤ ad.2
theorem tri_ex {s1 d1 s2 d2 s3 d3 : Int} (h1 : okS s1 d1) (h2 : okS s2 d2) (h3 : okS s3 d3) : ∃ ab bc ac ad, TriL s1 d1 s2 d2 s3 d3 ab bc ac ad := by
  obtain ⟨ab, hab⟩ := dist_ex h1 h2
  obtain ⟨ba, hba⟩ := dist_ex h2 h1
  obtain ⟨bc, hbc⟩ := dist_ex h2 h3
  obtain ⟨cb, hcb⟩ := dist_ex h3 h2
  obtain ⟨ac, hac⟩ := dist_ex h1 h3
  have h4 : okS s1 d2 := ⟨h1.1, h1.2.1, h2.2.2.1, h2.2.2.2⟩
  obtain ⟨ad, had⟩ := dist_ex h1 h4
  have e := law_sym hab hba
  have e2 := law_sym hbc hcb
  subst e e2
  exact ⟨ab, bc, ac, ad, hab, hba, hbc, hac, had, law_tri h1 h2 h3 hab hbc hac, law_tri h1 h3 h2 hac hcb hab, law_tri h2 h1 h3 hba hac hbc, law_bd h1 h2 hab, law_bd h2 h3 hbc, law_bd h1 h3 hac, law_bd h1 h4 had, law_same h1 h4 had⟩
end Go.Proofs.YthilhhegchmjeaaGreat.TT
/- The reference's answers on sines, in the program's bounds. -/
set_option linter.unusedVariables false
namespace Go.Proofs.YthilhhegchmjeaaGreat.TT
theorem exa_even (n : Int) : (exaI n).1 % 2 = 0 := by
  unfold exaI
  split
  · rfl
  · split <;> rfl
/-- What the reference's Below answers. -/
def rbelI (n v : Int) : Int := if (floI n).2 = true ∧ (floI n).1 = v then 0 else if v ≤ (floI n).1 then 1 else -1
theorem rbel_le (n v : Int) : rbelI n v ≤ 0 ↔ (bnd n).2 ≤ v := by
  rw [← ends_bnd]
  unfold rbelI endsI
  cases h : (floI n).2 with
  | true =>
    by_cases e : (floI n).1 = v
    · rw [if_pos ⟨rfl, e⟩, if_pos rfl]; dsimp only; omega
    · rw [if_neg (fun g => e g.2), if_pos rfl]; dsimp only
      split <;> omega
  | false =>
    rw [if_neg (c := false = true ∧ (floI n).1 = v) (fun g => by cases g.1), if_neg (c := false = true) (by decide)]
    dsimp only
    split <;> omega
/-- The reference's haversine of an angle. -/
def rhavI (n : Int) : Int × Int := if (floI (n + 5400000)).2 = true then ((1073741824 - (floI (n + 5400000)).1) / 2, (1073741824 - (floI (n + 5400000)).1) / 2) else ((1073741824 - (floI (n + 5400000)).1 - 1) / 2, (1073741824 - (floI (n + 5400000)).1 - 1) / 2 + 1)
theorem rhav_eq (n : Int) : rhavI n = ((1073741824 - (bnd (n + 5400000)).2) / 2, (1073741824 - (bnd (n + 5400000)).1 + 1) / 2) := by
  rw [← ends_bnd]
  unfold rhavI endsI
  have he := exa_even (n + 5400000)
  cases h : (exaI (n + 5400000)).2 with
  | true =>
    have e : floI (n + 5400000) = exaI (n + 5400000) := by unfold floI; rw [if_pos h]
    rw [e, h, if_pos rfl, if_pos rfl]
    exact Prod.ext rfl (by dsimp only; omega)
  | false =>
    have e : floI (n + 5400000) = (quickI (n + 5400000) / 4294967296, false) := by unfold floI; rw [if_neg (by rw [h]; decide)]
    rw [e]
    show ((1073741824 - quickI (n + 5400000) / 4294967296 - 1) / 2, (1073741824 - quickI (n + 5400000) / 4294967296 - 1) / 2 + 1) = ((1073741824 - (quickI (n + 5400000) / 4294967296 + 1)) / 2, (1073741824 - quickI (n + 5400000) / 4294967296 + 1) / 2)
    exact Prod.ext (by dsimp only; omega) (by dsimp only; omega)
/-- Has an arc an angle, but for whole turns? -/
def hasI (lo hi n : Int) : Bool := decide (lo + turnI (n - lo) ≤ hi)
theorem has_meets (lo hi n : Int) : TT.hasI lo hi n = meetsI lo hi n := by
  unfold TT.hasI meetsI
  exact decide_eq_decide.2 (by omega)
theorem has_south (lo hi : Int) : TT.hasI lo hi (-5400000) = meetsI lo hi 16200000 := by
  rw [has_meets]
  unfold meetsI
  have := turn_add (-5400000 - lo) 1
  rw [show -5400000 - lo + 21600000 * 1 = 16200000 - lo by omega] at this
  rw [this]
def rsinE (lo hi : Int) : Int × Int := (if TT.hasI lo hi (-5400000) = true then -1073741824 else min (endsI lo).1 (endsI hi).1, if TT.hasI lo hi 5400000 = true then 1073741824 else max (endsI lo).2 (endsI hi).2)
theorem rsin_eq (lo hi : Int) : rsinE lo hi = encl lo hi := by
  unfold rsinE encl
  rw [has_south, has_meets, ends_bnd, ends_bnd]
def rhavE (lo hi : Int) : Int × Int := (if TT.hasI lo hi 0 = true then 0 else min (rhavI lo).1 (rhavI hi).1, if TT.hasI lo hi 10800000 = true then 1073741824 else max (rhavI lo).2 (rhavI hi).2)
theorem rhavE_eq (lo hi : Int) : rhavE lo hi = havE lo hi := by
  unfold rhavE havE cosE encl
  rw [has_meets, has_meets, rhav_eq, rhav_eq]
  have e1 : meetsI (lo + 5400000) (hi + 5400000) 5400000 = meetsI lo hi 0 := by
    unfold meetsI
    rw [show (5400000 : Int) - (lo + 5400000) = 0 - lo by omega, show hi + 5400000 - (lo + 5400000) = hi - lo by omega]
  have e2 : meetsI (lo + 5400000) (hi + 5400000) 16200000 = meetsI lo hi 10800000 := by
    unfold meetsI
    rw [show (16200000 : Int) - (lo + 5400000) = 10800000 - lo by omega, show hi + 5400000 - (lo + 5400000) = hi - lo by omega]
  rw [e1, e2]
  dsimp only
  generalize bnd (lo + 5400000) = x
  generalize bnd (hi + 5400000) = y
  refine Prod.ext ?_ ?_
  · dsimp only
    split <;> omega
  · dsimp only
    split <;> omega
end Go.Proofs.YthilhhegchmjeaaGreat.TT
