/- Joined texts: Gcd, Gce, Gcf, Gcg, DivPlain, NumP, AsnP, TriQ. -/
import Derived.Test.YtjmdeplmenbmmaaGreatDoorV07
import Derived.Test.YtjmdeplmenbmmaaGreatDoorV01
import Derived.Test.YtjmdeplmenbmmaaGreatDoorV05
set_option linter.unusedVariables false
namespace Go.Proofs.YtjmdeplmenbmmaaGreatDoor.TT
theorem cosE_all : cosE 0 21600000 = (-1073741824, 1073741824) := by
  have m1 : meetsI 5400000 27000000 16200000 = true := by decide
  have m2 : meetsI 5400000 27000000 5400000 = true := by decide
  unfold cosE encl
  rw [show (0 : Int) + 5400000 = 5400000 by omega, show (21600000 : Int) + 5400000 = 27000000 by omega, if_pos m1, if_pos m2]
theorem encl_all : encl 0 21600000 = (-1073741824, 1073741824) := by
  have m1 : meetsI 0 21600000 16200000 = true := by decide
  have m2 : meetsI 0 21600000 5400000 = true := by decide
  unfold encl
  rw [if_pos m1, if_pos m2]
theorem S_11 (a b w : Int) : (-1 ≤ tX a b w ∧ tX a b w ≤ 1) ∧ (-1 ≤ tY a b w ∧ tY a b w ≤ 1) := by
  have h := t_unit a b w
  have d0 := sq_nn (dot a b w)
  have x0 := sq_nn (tX a b w)
  have y0 := sq_nn (tY a b w)
  generalize tX a b w = x at *
  generalize tY a b w = y at *
  generalize dot a b w * dot a b w = k at *
  refine ⟨⟨?_, ?_⟩, ⟨?_, ?_⟩⟩
  · have := le_of_sq (x := -x) (y := 1) (by decide +kernel) (by grind)
    grind
  · exact le_of_sq (by decide +kernel) (by grind)
  · have := le_of_sq (x := -y) (y := 1) (by decide +kernel) (by grind)
    grind
  · exact le_of_sq (by decide +kernel) (by grind)
structure GcP (a b w : Int) (D K : Int × Int) : Prop where
  cos : Enc (mulE (mulE (cosE a a) (encl D.1 D.2)) (cosE K.1 K.2)) (C a * tX a b w) (6 * dH)
  sin : Enc (mulE (mulE (encl K.1 K.2) (encl D.1 D.2)) (cosE a a)) (C a * tY a b w) (6 * dH)
theorem small_int {n : Int} {x : Rat} (h : (n : Rat) ≤ oR * x) (hx : x ≤ 1 / 2147483648) : n ≤ 0 := by
  have : (n : Rat) < ((1 : Int) : Rat) := by
    have e : ((1 : Int) : Rat) = 1 := rfl
    rw [e]
    have := Rat.mul_le_mul_of_nonneg_left hx (show (0 : Rat) ≤ oR by decide +kernel)
    have e2 : oR * (1 / 2147483648) < 1 := by decide +kernel
    grind
  have := Rat.intCast_lt_intCast.1 this
  omega
theorem pos_int {n : Int} {x : Rat} (h : (n : Rat) ≤ oR * x) (hn : 0 < n) : 1 / 1073741824 ≤ x := by
  have : ((1 : Int) : Rat) ≤ (n : Rat) := Rat.intCast_le_intCast.2 (by omega)
  have e : ((1 : Int) : Rat) = 1 := rfl
  rw [e] at this
  have e2 : oR * (1 / 1073741824) = 1 := by decide +kernel
  refine Rat.le_of_mul_le_mul_left (c := oR) ?_ oR_pos
  grind
theorem gcX_ord (a b w : Int) : (gcX a b w).1 ≤ (gcX a b w).2 ∧ -2147483648 ≤ (gcX a b w).1 ∧ (gcX a b w).2 ≤ 2147483648 := by
  have c1 := cosE_ord (lo := a) (hi := a) (Int.le_refl _)
  have c2 := encl_ord (lo := b) (hi := b) (Int.le_refl _)
  have c3 := encl_ord (lo := a) (hi := a) (Int.le_refl _)
  have c4 := cosE_ord (lo := b) (hi := b) (Int.le_refl _)
  have c5 := cosE_ord (lo := w) (hi := w) (Int.le_refl _)
  have m1 := mulE_bd c1 c2
  have m2 := mulE_bd (mulE_bd c3 c4) c5
  unfold gcX subE
  dsimp only
  omega
theorem gcY_ord (a b w : Int) : (gcY a b w).1 ≤ (gcY a b w).2 ∧ -1073741824 ≤ (gcY a b w).1 ∧ (gcY a b w).2 ≤ 1073741824 := by
  have c1 := encl_ord (lo := w) (hi := w) (Int.le_refl _)
  have c2 := cosE_ord (lo := b) (hi := b) (Int.le_refl _)
  have m1 := mulE_bd c1 c2
  unfold gcY
  omega
theorem gc_all {a b w : Int} {D : Int × Int} (hd : D.1 ≤ D.2) {u : Int} (hu : D.1 ≤ u ∧ u ≤ D.2) (h8 : ok8 u ∧ ok8 a) (hx : tX a b w ≤ S u + 3 * dH ∧ -(tX a b w) ≤ S u + 3 * dH) (hy : tY a b w ≤ S u + 3 * dH ∧ -(tY a b w) ≤ S u + 3 * dH) (hca : 0 ≤ C a) : GcP a b w D (0, 21600000) := by
  have su := sin_encA hu.1 hu.2 h8.1
  have ca := cos_encA (lo := a) (hi := a) (n := a) (Int.le_refl _) (Int.le_refl _) h8.2
  have o1 := cosE_ord (lo := a) (hi := a) (Int.le_refl _)
  have o2 := encl_ord hd
  have m := mul_enc ca su dB_nn dB_nn ⟨o1.1, o1.2.2⟩ (S_abs u)
  have hH : 0 ≤ dH := by decide +kernel
  have c1 := (C_abs a).2
  have e1 : dB + dB + 3 * dH ≤ 6 * dH := by decide +kernel
  have e0 : 0 ≤ dB + dB + 3 * dH := by decide +kernel
  have e2 : dB + 3 * dH + dB ≤ 6 * dH := by decide +kernel
  have e3 : 0 ≤ dB + 3 * dH := by decide +kernel
  have p1 := Rat.mul_le_mul_of_nonneg_left hx.1 hca
  have p2 := Rat.mul_le_mul_of_nonneg_left hx.2 hca
  have p3 := Rat.mul_le_mul_of_nonneg_right c1 (show 0 ≤ 3 * dH by grind)
  constructor
  · show Enc (mulE (mulE (cosE a a) (encl D.1 D.2)) (cosE 0 21600000)) _ _
    rw [cosE_all]
    exact (all_enc m (e := 3 * dH) (by grind) (by grind) e0).mono e1
  · show Enc (mulE (mulE (encl 0 21600000) (encl D.1 D.2)) (cosE a a)) _ _
    rw [encl_all, mulE_comm (-1073741824, 1073741824)]
    have q := all_enc su (e := 3 * dH) hy.1 hy.2 e3
    have o3 := mulE_bd o2 (show -1073741824 ≤ ((-1073741824 : Int), (1073741824 : Int)).1 ∧ ((-1073741824 : Int), (1073741824 : Int)).1 ≤ ((-1073741824 : Int), (1073741824 : Int)).2 ∧ ((-1073741824 : Int), (1073741824 : Int)).2 ≤ 1073741824 by decide)
    have := mul_enc q ca e3 dB_nn ⟨o3.1, o3.2.2⟩ (C_abs a)
    rw [Rat.mul_comm (tY a b w)] at this
    exact this.mono e2
theorem abs_le_root {x y g : Rat} (hg : 0 ≤ g) (h : x * x + y * y ≤ g * g) : (x ≤ g ∧ -x ≤ g) ∧ (y ≤ g ∧ -y ≤ g) := by
  have a := sq_nn x
  have b := sq_nn y
  exact ⟨⟨le_of_sq hg (by grind), le_of_sq hg (by grind)⟩, ⟨le_of_sq hg (by grind), le_of_sq hg (by grind)⟩⟩
theorem C_nn {a : Int} (ha : -5400000 < a ∧ a < 5400000) : u7 / 2 ≤ C a := by
  by_cases h : 0 ≤ a
  · exact C_low h (by omega)
  · have := C_low (k := -a) (by omega) (by omega)
    rwa [C_neg] at this
theorem anti_far {a b w : Int} (ha : -5400000 < a ∧ a < 5400000) (hb : -5400000 < b ∧ b < 5400000) (hw : lon8 w) (hn : a + b ≠ 0 ∨ turnI w ≠ 10800000) : 1 / ((2 ^ 96 : Nat) : Rat) ≤ 1 + dot a b w := by
  have ca := C_nn ha
  have cb := C_nn hb
  have hu : (0 : Rat) < u7 / 2 := by decide +kernel
  have e : 1 + dot a b w = (1 - C (a + b)) + C a * C b * (1 + C w) := by
    rw [(add_i a b).1]; unfold dot; grind
  have pp := Rat.mul_le_mul_of_nonneg_right ca (show 0 ≤ C b by grind)
  have pp2 := Rat.mul_le_mul_of_nonneg_left cb (Rat.le_of_lt hu)
  have cw := (C_abs w).1
  have cab := (C_abs (a + b)).2
  rw [e]
  rcases hn with hn | hn
  · have h1 : g45 ≤ 1 - C (a + b) := by
      by_cases h : 0 ≤ a + b
      · have := C_lt (m := 0) (n := a + b) (by omega) (by omega) (by omega)
        rw [show C 0 = 1 from Cn_0] at this
        exact this
      · have := C_lt (m := 0) (n := -(a + b)) (by omega) (by omega) (by omega)
        rw [show C 0 = 1 from Cn_0, C_neg] at this
        exact this
    have h2 := Rat.mul_nonneg (show 0 ≤ C a * C b by grind) (show 0 ≤ 1 + C w by grind)
    have e3 : 1 / ((2 ^ 96 : Nat) : Rat) ≤ g45 := by decide +kernel
    generalize C a * C b * (1 + C w) = z at *
    generalize g45 = g at *
    generalize (1 / ((2 ^ 96 : Nat) : Rat)) = q at *
    grind
  · have h1 : g45 / 2 ≤ 1 + C w := by
      obtain ⟨t0, t1⟩ := turnI_bd w
      have h2 := (near_turns (t := w) (by omega) (by omega)).1
      have e4 : d140 + d146 ≤ g45 / 2 := by decide +kernel
      -- half a turn back
      have h3 := C_half (turnI w - 10800000)
      rw [show turnI w - 10800000 + 10800000 = turnI w by omega] at h3
      have h4 : g45 ≤ 1 - C (turnI w - 10800000) := by
        by_cases h : 0 ≤ turnI w - 10800000
        · have := C_lt (m := 0) (n := turnI w - 10800000) (by omega) (by omega) (by omega)
          rw [show C 0 = 1 from Cn_0] at this
          exact this
        · have := C_lt (m := 0) (n := -(turnI w - 10800000)) (by omega) (by omega) (by omega)
          rw [show C 0 = 1 from Cn_0, C_neg] at this
          exact this
      obtain ⟨h21, h22⟩ := h2
      obtain ⟨h31, h32⟩ := h3
      generalize C w = x at *
      generalize C (turnI w) = y at *
      generalize C (turnI w - 10800000) = z at *
      generalize g45 = g at *
      generalize d140 = p at *
      generalize d146 = q at *
      grind
    have h2 := Rat.mul_le_mul_of_nonneg_right (show u7 / 2 * (u7 / 2) ≤ C a * C b by grind) (show 0 ≤ 1 + C w by grind)
    have h3 := Rat.mul_le_mul_of_nonneg_left h1 (show 0 ≤ u7 / 2 * (u7 / 2) by grind)
    have e3 : 1 / ((2 ^ 96 : Nat) : Rat) ≤ u7 / 2 * (u7 / 2) * (g45 / 2) := by decide +kernel
    generalize C a * C b * (1 + C w) = z at *
    generalize (1 / ((2 ^ 96 : Nat) : Rat)) = q at *
    generalize C (a + b) = y at *
    grind
theorem tX_anti {a b w : Int} (hw : lon8 w) (h1 : a + b = 0) (h2 : turnI w = 10800000) : Near (tX a b w) 0 dF ∧ Near (tY a b w) 0 dF := by
  obtain ⟨c1, s1⟩ := near_turns (t := w) (by omega) (by omega)
  rw [h2] at c1 s1
  have c2 := C_half 0
  have s2 := S_half 0
  rw [show (0 : Int) + 10800000 = 10800000 by omega] at c2 s2
  rw [show C 0 = 1 from Cn_0] at c2
  rw [show S 0 = 0 from Sn_0] at s2
  have cc := c1.trans c2
  have ss := s1.trans s2
  have e4 : d140 + d146 ≤ dF := by decide +kernel
  have hb : b = -a := by omega
  subst hb
  obtain ⟨k1, k2⟩ := cc.mono e4
  obtain ⟨l1, l2⟩ := ss.mono e4
  have e : tX a (-a) w = -(S a * C a) * (1 + C w) := by unfold tX; rw [S_neg, C_neg]; grind
  have p := mul11 (S_abs a) (C_abs a)
  have m1 := mul_abs (a := -(S a * C a)) (d := dF) (by grind) (by grind) (e := 1 + C w) (by grind) (by grind)
  have m2 := mul_abs (d := dF) (C_abs (-a)).1 (C_abs (-a)).2 (e := S w) (by grind) (by grind)
  rw [e]
  unfold tY
  exact ⟨⟨by grind, by grind⟩, ⟨by grind, by grind⟩⟩
theorem not_far {a b w : Int} {D : Int × Int} (ha : -5400000 < a ∧ a < 5400000) (hb : -5400000 < b ∧ b < 5400000) (hw : lon8 w) (h : IsGc a b w D) (hn : a + b ≠ 0 ∨ turnI w ≠ 10800000) : D.1 < 10800000 := by
  obtain ⟨d, k1, k2⟩ := gc_D ⟨by omega, by omega⟩ ⟨by omega, by omega⟩ hw h
  have f := anti_far ha hb hw hn
  refine Int.not_le.1 fun hle => ?_
  have e : D.1 = 10800000 := by omega
  rw [e] at k1
  have c2 := C_half 0
  rw [show (0 : Int) + 10800000 = 10800000 by omega, show C 0 = 1 from Cn_0] at c2
  obtain ⟨c3, c4⟩ := c2
  have e4 : d146 + dG < 1 / ((2 ^ 96 : Nat) : Rat) := by decide +kernel
  generalize (1 / ((2 ^ 96 : Nat) : Rat)) = q at *
  generalize d146 = x at *
  generalize dG = y at *
  generalize C 10800000 = c at *
  grind
theorem gc_prod {a b w : Int} {D : Int × Int} (ha : -5400000 < a ∧ a < 5400000) (hb : -5400000 < b ∧ b < 5400000) (hw : lon8 w) (hne : a ≠ b ∨ turnI w ≠ 0) (h : IsGc a b w D) : GcP a b w D (gcK a b w) := by
  obtain ⟨d, k1, k2⟩ := gc_D ⟨by omega, by omega⟩ ⟨by omega, by omega⟩ hw h
  obtain ⟨x', ax1, ax2, nx⟩ := gcX_enc (a := a) (b := b) (w := w) ⟨by omega, by omega⟩ ⟨by omega, by omega⟩ ⟨by omega, by omega⟩
  have hdCF : dC ≤ dF := by decide +kernel
  obtain ⟨y', ay1, ay2, ny⟩ := (gcY_enc (a := a) (b := b) (w := w) ⟨by omega, by omega⟩ ⟨by omega, by omega⟩ ⟨by omega, by omega⟩).mono hdCF
  have cn := C_nn ha
  have hu : (0 : Rat) < u7 := by decide +kernel
  have hca : 0 ≤ C a := by grind
  have hH : 0 ≤ dH := by decide +kernel
  have hF : 0 ≤ dF ∧ dF ≤ 1 ∧ dF ≤ dH ∧ dF + dF ≤ 1 / 2147483648 := by decide +kernel
  have e6H : e6 ≤ dH := by decide +kernel
  by_cases hanti : a + b = 0 ∧ turnI w = 10800000
  · -- opposite points: all courses
    obtain ⟨z1, z2⟩ := tX_anti (a := a) (b := b) hw hanti.1 hanti.2
    have bx := nx.symm.trans z1
    have by_ := ny.symm.trans z2
    obtain ⟨bx1, bx2⟩ := bx
    obtain ⟨by1, by2⟩ := by_
    have hz : (gcX a b w).1 ≤ 0 ∧ 0 ≤ (gcX a b w).2 ∧ (gcY a b w).1 ≤ 0 ∧ 0 ≤ (gcY a b w).2 := by
      refine ⟨small_int ax1 (by grind), ?_, small_int ay1 (by grind), ?_⟩
      · have := small_int (n := -(gcX a b w).2) (x := -x') (by rw [Rat.intCast_neg]; grind) (by grind)
        omega
      · have := small_int (n := -(gcY a b w).2) (x := -y') (by rw [Rat.intCast_neg]; grind) (by grind)
        omega
    have eK : gcK a b w = (0, 21600000) := if_pos hz
    rw [eK]
    have s0 := S_ge0 (x := D.2) (by omega) d.2.2
    obtain ⟨z11, z12⟩ := z1
    obtain ⟨z21, z22⟩ := z2
    obtain ⟨hF0, hF1, hF2, hF3⟩ := hF
    refine gc_all d.2.1 (u := D.2) ⟨d.2.1, Int.le_refl _⟩ ⟨⟨by omega, by omega⟩, ⟨by omega, by omega⟩⟩ ⟨?_, ?_⟩ ⟨?_, ?_⟩ hca
    all_goals
      generalize e6 = e at *
      generalize dF = f at *
      generalize dH = g at *
      grind
  have p2 := not_far ha hb hw h (by omega)
  have p1 := gc_pos ha hb hne h
  have t11 := S_11 a b w
  have hu1 := t_unit a b w
  have q1 := sq_sub t11.1 nx hF.1 hF.2.1
  have q2 := sq_sub t11.2 ny hF.1 hF.2.1
  have e6F : 6 * dF ≤ eta := by decide +kernel
  have hr0 : 0 ≤ x' * x' + y' * y' := by
    have := sq_nn x'
    have := sq_nn y'
    grind
  have hrk : Near (x' * x' + y' * y') (1 - dot a b w * dot a b w) eta := by
    obtain ⟨q11, q12⟩ := q1
    obtain ⟨q21, q22⟩ := q2
    rw [← hu1]
    generalize tX a b w * tX a b w = X at *
    generalize tY a b w * tY a b w = Y at *
    generalize dF = f at *
    generalize eta = t at *
    exact ⟨by grind, by grind⟩
  obtain ⟨f, g, f0, f1, g1, fg⟩ := root_R hr0 (2 ^ 200) (by decide)
  have hfg : g - f = 1 / ((2 ^ 200 : Nat) : Rat) := by
    have : (g - f) * ((2 ^ 200 : Nat) : Rat) = 1 / ((2 ^ 200 : Nat) : Rat) * ((2 ^ 200 : Nat) : Rat) := by
      rw [fg, Rat.div_mul_cancel (by decide +kernel)]
    have hp : (0 : Rat) < ((2 ^ 200 : Nat) : Rat) := by decide +kernel
    generalize ((2 ^ 200 : Nat) : Rat) = m at *
    refine Rat.le_antisymm (Rat.le_of_mul_le_mul_right (c := m) ?_ hp) (Rat.le_of_mul_le_mul_right (c := m) ?_ hp)
    · rw [this]; exact Rat.le_refl
    · rw [this]; exact Rat.le_refl
  have h200 : 1 / ((2 ^ 200 : Nat) : Rat) ≤ dH := by decide +kernel
  have h200p : (0 : Rat) < 1 / ((2 ^ 200 : Nat) : Rat) := by decide +kernel
  have g0 : 0 < g := by
    generalize (1 / ((2 ^ 200 : Nat) : Rat)) = m at *
    grind
  obtain ⟨hrk1, hrk2⟩ := hrk
  obtain ⟨u2, v1, v2, v3⟩ := sd_up d k1 k2 (dot_abs a b w) (by grind) f1 p1 p2
  have hab := abs_le_root (Rat.le_of_lt g0) g1
  have gS : g ≤ S u2 + 2 * dH := by
    generalize (1 / ((2 ^ 200 : Nat) : Rat)) = m at *
    generalize dH = z at *
    grind
  by_cases hz : (gcX a b w).1 ≤ 0 ∧ 0 ≤ (gcX a b w).2 ∧ (gcY a b w).1 ≤ 0 ∧ 0 ≤ (gcY a b w).2
  · have eK : gcK a b w = (0, 21600000) := if_pos hz
    rw [eK]
    obtain ⟨nx1, nx2⟩ := nx
    obtain ⟨ny1, ny2⟩ := ny
    obtain ⟨hF0, hF1, hF2, hF3⟩ := hF
    refine gc_all d.2.1 (u := u2) ⟨v1, v2⟩ ⟨⟨by omega, by omega⟩, ⟨by omega, by omega⟩⟩ ⟨?_, ?_⟩ ⟨?_, ?_⟩ hca
    all_goals
      clear q1 q2 hu1 hrk1 hrk2 f1 g1 hr0 fg t11 k1 k2
      generalize dF = f at *
      generalize dH = z at *
      grind
  · -- a course
    have hg0 : 1 / 1073741824 ≤ g := by
      by_cases z1 : 0 < (gcX a b w).1
      · have := pos_int ax1 z1; grind
      by_cases z2 : (gcX a b w).2 < 0
      · have := pos_int (n := -(gcX a b w).2) (x := -x') (by rw [Rat.intCast_neg]; grind) (by omega); grind
      by_cases z3 : 0 < (gcY a b w).1
      · have := pos_int ay1 z3; grind
      · have := pos_int (n := -(gcY a b w).2) (x := -y') (by rw [Rat.intCast_neg]; grind) (by omega); grind
    obtain ⟨u1, w1, w2, w3⟩ := sd_lo d k1 k2 (r := x' * x' + y' * y') (by grind) g1 (Rat.le_trans (by decide +kernel) hg0)
    have sd : Enc (encl D.1 D.2) g (dB + 2 * dH) := by
      have e1 := sin_encA w1 w2 (⟨by omega, by omega⟩ : ok8 u1)
      have e2 := sin_encA v1 v2 (⟨by omega, by omega⟩ : ok8 u2)
      exact e1.between e2 (by grind) dB_nn (by grind) gS
    have oo := oR_pos
    rcases brg_in (x := gcX a b w) (y := gcY a b w) (vx := oR * x') (vy := oR * y') ⟨ax1, ax2⟩ ⟨ay1, ay2⟩ (gcX_ord a b w).1 (gcY_ord a b w).1 with ⟨_, hz'⟩ | hin
    · exact absurd hz' hz
    have kb := brgI_bd (gcY a b w) (gcX a b w)
    change InArc (gcK a b w) (oR * x') (oR * y') at hin
    change 0 ≤ (gcK a b w).1 ∧ (gcK a b w).1 ≤ (gcK a b w).2 ∧ (gcK a b w).1 ≤ 21600000 ∧ (gcK a b w).2 ≤ 43200000 at kb
    generalize gcK a b w = K at *
    have og : 0 < oR * g := Rat.mul_pos oo g0
    have hsc : ∀ p q : Rat, oR * p * (oR * p) + oR * q * (oR * q) = oR * oR * (p * p + q * q) := fun p q => by grind
    have hsc2 : ∀ p : Rat, oR * p * (oR * p) = oR * oR * (p * p) := fun p => by grind
    have ooo := Rat.mul_pos oo oo
    have ht : oR * g - oR * f ≤ d142 * (oR * g) := by
      have t1 := Rat.mul_le_mul_of_nonneg_left hg0 (show (0 : Rat) ≤ d142 by decide +kernel)
      have t2 : 1 / ((2 ^ 200 : Nat) : Rat) ≤ d142 * (1 / 1073741824) := by decide +kernel
      have t3 : g - f ≤ d142 * g := by rw [hfg]; exact Rat.le_trans t2 t1
      have t4 := Rat.mul_le_mul_of_nonneg_left t3 (Rat.le_of_lt oo)
      generalize d142 = z at *
      generalize oR = o at *
      grind
    obtain ⟨eC, eS⟩ := arc_enc kb.1 kb.2.2.2 hin og (Rat.mul_nonneg (Rat.le_of_lt oo) f0) (by rw [hsc, hsc2]; exact Rat.mul_le_mul_of_nonneg_left f1 (Rat.le_of_lt ooo)) (by rw [hsc, hsc2]; exact Rat.mul_le_mul_of_nonneg_left g1 (Rat.le_of_lt ooo)) ht
    -- the quotients
    have cx : oR * x' / (oR * g) * g = x' := by
      have : oR * x' / (oR * g) * (oR * g) = oR * x' := Rat.div_mul_cancel (by grind)
      generalize oR * x' / (oR * g) = q at *
      generalize oR = o at *
      have hne' : o ≠ 0 := by grind
      grind
    have cy : oR * y' / (oR * g) * g = y' := by
      have : oR * y' / (oR * g) * (oR * g) = oR * y' := Rat.div_mul_cancel (by grind)
      generalize oR * y' / (oR * g) = q at *
      generalize oR = o at *
      have hne' : o ≠ 0 := by grind
      grind
    have c1 : -1 ≤ oR * x' / (oR * g) ∧ oR * x' / (oR * g) ≤ 1 := by
      refine ⟨le_div og ?_, div_le og ?_⟩
      · have := Rat.mul_le_mul_of_nonneg_left hab.1.2 (Rat.le_of_lt oo)
        generalize oR = o at *
        grind
      · have := Rat.mul_le_mul_of_nonneg_left hab.1.1 (Rat.le_of_lt oo)
        generalize oR = o at *
        grind
    have g2 : -2 ≤ g ∧ g ≤ 2 := by
      have := (S_abs u2).2
      have hH2 : 2 * dH ≤ 1 := by decide +kernel
      generalize dH = z at *
      exact ⟨by grind, by grind⟩
    have ca := cos_encA (lo := a) (hi := a) (n := a) (Int.le_refl _) (Int.le_refl _) ⟨by omega, by omega⟩
    have o1 := cosE_ord (lo := a) (hi := a) (Int.le_refl _)
    have o2 := encl_ord d.2.1
    have o3 := cosE_ord kb.2.1
    have o4 := encl_ord kb.2.1
    have eH : 0 ≤ dB + 2 * dH := by decide +kernel
    have eE : (0 : Rat) ≤ dE := by decide +kernel
    have m1 := mul_enc2 ca sd dB_nn eH ⟨o1.1, o1.2.2⟩ g2
    have b1 := mulE_bd o1 o2
    have m2 := mul_enc m1 eC (by decide +kernel) eE ⟨b1.1, b1.2.2⟩ c1
    have n1 := mul_enc2 eS sd eE eH ⟨o4.1, o4.2.2⟩ g2
    have b2 := mulE_bd o4 o2
    have n2 := mul_enc n1 ca (by decide +kernel) dB_nn ⟨b2.1, b2.2.2⟩ (C_abs a)
    have v1' : C a * g * (oR * x' / (oR * g)) = C a * x' := by
      have : C a * g * (oR * x' / (oR * g)) = C a * (oR * x' / (oR * g) * g) := by grind
      rw [this, cx]
    have v2' : oR * y' / (oR * g) * g * C a = C a * y' := by rw [cy]; grind
    rw [v1'] at m2
    rw [v2'] at n2
    have cab := C_abs a
    have nX : Near (C a * tX a b w) (C a * x') dF := by
      obtain ⟨n11, n12⟩ := nx
      have := mul_abs (d := dF) cab.1 cab.2 (e := tX a b w - x') (by grind) (by grind)
      generalize dF = z at *
      exact ⟨by grind, by grind⟩
    have nY : Near (C a * tY a b w) (C a * y') dF := by
      obtain ⟨n11, n12⟩ := ny
      have := mul_abs (d := dF) cab.1 cab.2 (e := tY a b w - y') (by grind) (by grind)
      generalize dF = z at *
      exact ⟨by grind, by grind⟩
    exact ⟨(m2.near nX).mono (by decide +kernel), (n2.near nY).mono (by decide +kernel)⟩
theorem meet_enc {p : Int × Int} {x d : Rat} (hp : p.1 ≤ p.2) (he : Enc p x d) (hx : -1 ≤ x ∧ x ≤ 1) (hd0 : 0 ≤ d) (hd : oR * d < 1) : ((meetO p).1 ≤ (meetO p).2 ∧ -1073741824 ≤ (meetO p).1 ∧ (meetO p).2 ≤ 1073741824) ∧ Enc (meetO p) x d := by
  obtain ⟨y, a, b, n1, n2⟩ := he
  have e2 : ((1073741824 : Int) : Rat) = 1073741824 := rfl
  have e4 : ((-1073741824 : Int) : Rat) = -1073741824 := rfl
  have g := oR_pos
  have y1 : oR * y ≤ oR * x + oR * d := by have := Rat.mul_le_mul_of_nonneg_left n2 (Rat.le_of_lt g); grind
  have y2 : oR * x - oR * d ≤ oR * y := by have := Rat.mul_le_mul_of_nonneg_left n1 (Rat.le_of_lt g); grind
  have lo1 : p.1 ≤ 1073741824 := by
    have : (p.1 : Rat) < ((1073741825 : Int) : Rat) := by
      have e3 : ((1073741825 : Int) : Rat) = 1073741825 := rfl
      rw [e3]; grind
    have := Rat.intCast_lt_intCast.1 this
    omega
  have hi0 : -1073741824 ≤ p.2 := by
    have : ((-1073741825 : Int) : Rat) < (p.2 : Rat) := by
      have e3 : ((-1073741825 : Int) : Rat) = -1073741825 := rfl
      rw [e3]; grind
    have := Rat.intCast_lt_intCast.1 this
    omega
  refine ⟨by unfold meetO; dsimp only; omega, ?_⟩
  have l1 := Rat.intCast_le_intCast.2 lo1
  have h1 := Rat.intCast_le_intCast.2 hi0
  rw [e2] at l1
  rw [e4] at h1
  have m1 : ((meetO p).1 : Rat) ≤ oR * y ∨ ((meetO p).1 : Rat) = -1073741824 := by
    unfold meetO
    dsimp only
    rcases Int.le_total p.1 (-1073741824) with h | h
    · rw [Int.max_eq_right h]; exact Or.inr e4
    · rw [Int.max_eq_left h]; exact Or.inl a
  have m2 : oR * y ≤ ((meetO p).2 : Rat) ∨ ((meetO p).2 : Rat) = 1073741824 := by
    unfold meetO
    dsimp only
    rcases Int.le_total p.2 1073741824 with h | h
    · rw [Int.min_eq_left h]; exact Or.inl b
    · rw [Int.min_eq_right h]; exact Or.inr e2
  have m3 : ((meetO p).1 : Rat) ≤ 1073741824 := by
    have : (meetO p).1 ≤ 1073741824 := by unfold meetO; dsimp only; omega
    have := Rat.intCast_le_intCast.2 this
    rwa [e2] at this
  have m4 : -1073741824 ≤ ((meetO p).2 : Rat) := by
    have : -1073741824 ≤ (meetO p).2 := by unfold meetO; dsimp only; omega
    have := Rat.intCast_le_intCast.2 this
    rwa [e4] at this
  have m5 : -1073741824 ≤ ((meetO p).1 : Rat) := by
    have : -1073741824 ≤ (meetO p).1 := by unfold meetO; dsimp only; omega
    have := Rat.intCast_le_intCast.2 this
    rwa [e4] at this
  have m6 : ((meetO p).2 : Rat) ≤ 1073741824 := by
    have : (meetO p).2 ≤ 1073741824 := by unfold meetO; dsimp only; omega
    have := Rat.intCast_le_intCast.2 this
    rwa [e2] at this
  rcases Rat.le_total (a := y) (b := -1) with k | k
  · have := Rat.mul_le_mul_of_nonneg_left k (Rat.le_of_lt g)
    exact ⟨-1, by grind, by grind, by grind, by grind⟩
  rcases Rat.le_total (a := 1) (b := y) with k' | k'
  · have := Rat.mul_le_mul_of_nonneg_left k' (Rat.le_of_lt g)
    exact ⟨1, by grind, by grind, by grind, by grind⟩
  · have q1 := Rat.mul_le_mul_of_nonneg_left k (Rat.le_of_lt g)
    have q2 := Rat.mul_le_mul_of_nonneg_left k' (Rat.le_of_lt g)
    exact ⟨y, by rcases m1 with m | m <;> grind, by rcases m2 with m | m <;> grind, by grind, by grind⟩
theorem asin_le {v n b : Int} {d : Rat} (hb : lat8 b) (h : IsAsin v n) (hv : (v : Rat) ≤ oR * S b + oR * d) (hd : d ≤ 1 / ((2 ^ 60 : Nat) : Rat)) : n ≤ b := by
  obtain ⟨n0, n1, n2, n3⟩ := h
  refine Int.not_lt.1 fun hlt => ?_
  have hh := (bnd_holds (n := n) (by omega) (by omega)).2
  have g := Rat.intCast_le_intCast.2 n2
  have cl := C_lt (m := 5400000 - n) (n := 5400000 - b) (by omega) (by omega) (by omega)
  obtain ⟨k1, k2⟩ := C_co n
  obtain ⟨l1, l2⟩ := C_co b
  have hs : d100 + oR * (1 / ((2 ^ 60 : Nat) : Rat)) + oR * (d148 + d148) < oR * g45 := by decide +kernel
  have hd' := Rat.mul_le_mul_of_nonneg_left hd (Rat.le_of_lt oR_pos)
  have cl' := Rat.mul_le_mul_of_nonneg_left cl (Rat.le_of_lt oR_pos)
  generalize (1 / ((2 ^ 60 : Nat) : Rat)) = q at *
  generalize d100 = x at *
  generalize d148 = z at *
  generalize g45 = w at *
  generalize C (5400000 - n) = c1 at *
  generalize C (5400000 - b) = c2 at *
  generalize S n = s1 at *
  generalize S b = s2 at *
  clear n3
  grind
theorem gc_back {a b w n m : Int} {D : Int × Int} (ha : -5400000 < a ∧ a < 5400000) (hb : -5400000 < b ∧ b < 5400000) (hw : lon8 w) (hne : a ≠ b ∨ turnI w ≠ 0) (h : IsGc a b w D)
    (h1 : IsAsin (meetO (gdS a D (gcK a b w))).1 n) (h2 : IsAsin (-(meetO (gdS a D (gcK a b w))).2) m) :
    (n ≤ b ∧ b ≤ -m) ∧ (gdE a D (gcK a b w) = (0, 21600000) ∨ ∃ k : Int, (gdE a D (gcK a b w)).1 ≤ w + 21600000 * k ∧ w + 21600000 * k ≤ (gdE a D (gcK a b w)).2) := by
  obtain ⟨pc, ps⟩ := gc_prod ha hb hw hne h
  obtain ⟨d, _, _⟩ := gc_D ⟨by omega, by omega⟩ ⟨by omega, by omega⟩ hw h
  have cd := gc_cos ⟨by omega, by omega⟩ ⟨by omega, by omega⟩ hw h
  have sa := sin_encA (lo := a) (hi := a) (n := a) (Int.le_refl _) (Int.le_refl _) ⟨by omega, by omega⟩
  have kb := brgI_bd (gcY a b w) (gcX a b w)
  change 0 ≤ (gcK a b w).1 ∧ (gcK a b w).1 ≤ (gcK a b w).2 ∧ (gcK a b w).1 ≤ 21600000 ∧ (gcK a b w).2 ≤ 43200000 at kb
  unfold gdE gdS at *
  generalize gcK a b w = K at *
  have o1 := encl_ord (lo := a) (hi := a) (Int.le_refl _)
  have o2 := cosE_ord d.2.1
  have o3 := cosE_ord (lo := a) (hi := a) (Int.le_refl _)
  have o4 := encl_ord d.2.1
  have o5 := cosE_ord kb.2.1
  have o6 := encl_ord kb.2.1
  have b1 := mulE_bd o1 o2
  have b2 := mulE_bd (mulE_bd o3 o4) o5
  have b3 := mulE_bd (mulE_bd o6 o4) o3
  have m1 := mul_enc sa cd dB_nn (by decide +kernel) ⟨o1.1, o1.2.2⟩ (dot_abs a b w)
  have s0 := (add_enc m1 pc).mono (e := 7 * dH) (by decide +kernel)
  rw [t_back] at s0
  have h7 : 0 ≤ 7 * dH ∧ oR * (7 * dH) < 1 ∧ 7 * dH ≤ 1 / ((2 ^ 60 : Nat) : Rat) := by decide +kernel
  have ord : (addE (mulE (encl a a) (cosE D.1 D.2)) (mulE (mulE (cosE a a) (encl D.1 D.2)) (cosE K.1 K.2))).1 ≤ (addE (mulE (encl a a) (cosE D.1 D.2)) (mulE (mulE (cosE a a) (encl D.1 D.2)) (cosE K.1 K.2))).2 := by
    unfold addE; dsimp only; omega
  obtain ⟨mo, me⟩ := meet_enc ord s0 (S_abs b) h7.1 h7.2.1
  generalize meetO (addE (mulE (encl a a) (cosE D.1 D.2)) (mulE (mulE (cosE a a) (encl D.1 D.2)) (cosE K.1 K.2))) = s at *
  have og := oR_pos
  refine ⟨⟨?_, ?_⟩, ?_⟩
  · obtain ⟨y, a1, a2, n1, n2⟩ := me
    refine asin_le ⟨by omega, by omega⟩ h1 (d := 7 * dH) ?_ h7.2.2
    have := Rat.mul_le_mul_of_nonneg_left n2 (Rat.le_of_lt og)
    grind
  · obtain ⟨y, a1, a2, n1, n2⟩ := me
    have : m ≤ -b := by
      refine asin_le ⟨by omega, by omega⟩ h2 (d := 7 * dH) ?_ h7.2.2
      have := Rat.mul_le_mul_of_nonneg_left n1 (Rat.le_of_lt og)
      rw [Rat.intCast_neg, S_neg]
      grind
    omega
  · have m2 := mul_enc sa me dB_nn h7.1 ⟨o1.1, o1.2.2⟩ (S_abs b)
    have x0 := (sub_enc cd m2).mono (e := 8 * dH) (by decide +kernel)
    rw [t_east] at x0
    have b4 := mulE_bd o1 ⟨mo.2.1, mo.1, mo.2.2⟩
    obtain ⟨x', a1, a2, nx⟩ := x0
    obtain ⟨y', c1, c2, ny⟩ := ps
    have hxo : (subE (cosE D.1 D.2) (mulE (encl a a) s)).1 ≤ (subE (cosE D.1 D.2) (mulE (encl a a) s)).2 := by unfold subE; dsimp only; omega
    rcases brg_in (x := subE (cosE D.1 D.2) (mulE (encl a a) s)) (y := mulE (mulE (encl K.1 K.2) (encl D.1 D.2)) (cosE a a)) (vx := oR * x') (vy := oR * y') ⟨a1, a2⟩ ⟨c1, c2⟩ hxo b3.2.1 with ⟨e, _⟩ | hin
    · exact Or.inl e
    · right
      have ca := C_nn ha
      have cb := C_nn hb
      have hu : (0 : Rat) < u7 := by decide +kernel
      have pp := Rat.mul_le_mul_of_nonneg_right ca (show 0 ≤ C b by grind)
      have pp2 := Rat.mul_le_mul_of_nonneg_left cb (show 0 ≤ u7 / 2 by grind)
      have hp : u7 / 2 * (u7 / 2) ≤ C a * C b := by grind
      have hp0 : 0 < u7 / 2 * (u7 / 2) := by decide +kernel
      have hpp : 0 < C a * C b := by grind
      have hz : 8 * dH ≤ u7 / 2 * (u7 / 2) * (u7 / 100) := by decide +kernel
      have hz2 : 8 * dH ≤ C a * C b * (u7 / 100) := Rat.le_trans hz (Rat.mul_le_mul_of_nonneg_right hp (by decide +kernel))
      have sc : ∀ {u v d : Rat}, Near u v d → Near (oR * v) (oR * u) (oR * d) := fun {u v d} h => by
        obtain ⟨h1, h2⟩ := h
        have a1 := Rat.mul_le_mul_of_nonneg_left h1 (Rat.le_of_lt og)
        have a2 := Rat.mul_le_mul_of_nonneg_left h2 (Rat.le_of_lt og)
        generalize oR = o at *
        exact ⟨by grind, by grind⟩
      have ny' := ny.mono (show 6 * dH ≤ 8 * dH by decide +kernel)
      have eX : oR * (C a * C b * C w) = oR * (C a * C b) * C w := by grind
      have eY : oR * (C a * tY a b w) = oR * (C a * C b) * S w := by unfold tY; grind
      have sx := sc nx
      have sy := sc ny'
      rw [eX] at sx
      rw [eY] at sy
      refine arc_dir hin hw (p := oR * (C a * C b)) (z := oR * (8 * dH)) (Rat.mul_pos og hpp) sx sy (by decide +kernel) ?_
      have := Rat.mul_le_mul_of_nonneg_left hz2 (Rat.le_of_lt og)
      generalize oR = o at *
      grind
theorem gc_meet {a b w : Int} {D : Int × Int} (ha : -5400000 < a ∧ a < 5400000) (hb : -5400000 < b ∧ b < 5400000) (hw : lon8 w) (hne : a ≠ b ∨ turnI w ≠ 0) (h : IsGc a b w D) :
    (meetO (gdS a D (gcK a b w))).1 ≤ (meetO (gdS a D (gcK a b w))).2 ∧ -1073741824 ≤ (meetO (gdS a D (gcK a b w))).1 ∧ (meetO (gdS a D (gcK a b w))).2 ≤ 1073741824 := by
  obtain ⟨pc, ps⟩ := gc_prod ha hb hw hne h
  obtain ⟨d, _, _⟩ := gc_D ⟨by omega, by omega⟩ ⟨by omega, by omega⟩ hw h
  have cd := gc_cos ⟨by omega, by omega⟩ ⟨by omega, by omega⟩ hw h
  have sa := sin_encA (lo := a) (hi := a) (n := a) (Int.le_refl _) (Int.le_refl _) ⟨by omega, by omega⟩
  have kb := brgI_bd (gcY a b w) (gcX a b w)
  change 0 ≤ (gcK a b w).1 ∧ (gcK a b w).1 ≤ (gcK a b w).2 ∧ (gcK a b w).1 ≤ 21600000 ∧ (gcK a b w).2 ≤ 43200000 at kb
  unfold gdS at *
  generalize gcK a b w = K at *
  have o1 := encl_ord (lo := a) (hi := a) (Int.le_refl _)
  have o2 := cosE_ord d.2.1
  have o3 := cosE_ord (lo := a) (hi := a) (Int.le_refl _)
  have o4 := encl_ord d.2.1
  have o5 := cosE_ord kb.2.1
  have o6 := encl_ord kb.2.1
  have b1 := mulE_bd o1 o2
  have b2 := mulE_bd (mulE_bd o3 o4) o5
  have b3 := mulE_bd (mulE_bd o6 o4) o3
  have m1 := mul_enc sa cd dB_nn (by decide +kernel) ⟨o1.1, o1.2.2⟩ (dot_abs a b w)
  have s0 := (add_enc m1 pc).mono (e := 7 * dH) (by decide +kernel)
  rw [t_back] at s0
  have h7 : 0 ≤ 7 * dH ∧ oR * (7 * dH) < 1 ∧ 7 * dH ≤ 1 / ((2 ^ 60 : Nat) : Rat) := by decide +kernel
  have ord : (addE (mulE (encl a a) (cosE D.1 D.2)) (mulE (mulE (cosE a a) (encl D.1 D.2)) (cosE K.1 K.2))).1 ≤ (addE (mulE (encl a a) (cosE D.1 D.2)) (mulE (mulE (cosE a a) (encl D.1 D.2)) (cosE K.1 K.2))).2 := by
    unfold addE; dsimp only; omega
  exact (meet_enc ord s0 (S_abs b) h7.1 h7.2.1).1
end Go.Proofs.YtjmdeplmenbmmaaGreatDoor.TT
set_option linter.unusedVariables false
namespace Go.Proofs.YtjmdeplmenbmmaaGreatDoor
theorem digit_ge {u d y1 y0 : Int} (hu : 0 ≤ u) (hd0 : 0 ≤ d) (hd : d < 4294967296) (h1 : 0 < y1) (h0 : 0 ≤ y0) : (u * 4294967296 + d) / (y1 * 4294967296 + y0) ≤ u / y1 := by
  have hy : 0 < y1 * 4294967296 + y0 := by omega
  have h2 : (u * 4294967296 + d) / (y1 * 4294967296 + y0) ≤ (u * 4294967296 + d) / (y1 * 4294967296) := by
    have hq := Int.ediv_nonneg (a := u * 4294967296 + d) (b := y1 * 4294967296 + y0) (by omega) (by omega)
    refine Int.le_ediv_of_mul_le (by omega) ?_
    have h3 := Int.ediv_mul_le (u * 4294967296 + d) (show y1 * 4294967296 + y0 ≠ 0 by omega)
    have h4 := Int.mul_nonneg hq h0
    rw [Int.mul_add] at h3
    omega
  have h5 : (u * 4294967296 + d) / (y1 * 4294967296) = u / y1 := by
    rw [Int.mul_comm y1, ← Int.ediv_ediv_of_nonneg (by omega : (0 : Int) ≤ 4294967296)]
    congr 1
    omega
  omega
theorem digit_le {u y y1 y0 : Int} (hu : 0 ≤ u) (huy : u < y) (hy : y = y1 * 4294967296 + y0) (h1 : 2147483648 ≤ y1) (h0 : 0 ≤ y0) (h0' : y0 < 4294967296) : u / y1 ≤ 4294967297 := by
  have h2 : u < y1 * 4294967298 := by omega
  have := Int.ediv_lt_of_lt_mul (show 0 < y1 by omega) (show u < 4294967298 * y1 by omega)
  omega
theorem digit_test {u d y1 y0 q r : Int} (hy : 0 < y1 * 4294967296 + y0) (hr : r = u - q * y1) : (q * y0 > 4294967296 * r + d) ↔ (u * 4294967296 + d) / (y1 * 4294967296 + y0) < q := by
  have e : q * (y1 * 4294967296 + y0) = q * y1 * 4294967296 + q * y0 := by rw [Int.mul_add, Int.mul_assoc]
  constructor
  · intro h
    refine Int.ediv_lt_of_lt_mul hy ?_
    rw [e]; omega
  · intro h
    have h2 := Int.lt_mul_of_ediv_lt hy h
    rw [e] at h2
    omega
theorem digit_lt {u d y : Int} (hy : 0 < y) (hd : d < 4294967296) (hu : u < y) : (u * 4294967296 + d) / y < 4294967296 := by
  refine Int.ediv_lt_of_lt_mul hy ?_
  omega
theorem digit_stop {u d y1 y0 q r : Int} (hy : 0 < y1 * 4294967296 + y0) (hr : r = u - q * y1) (hd : 0 ≤ d) (h0 : 0 ≤ y0) (h0' : y0 < 4294967296) (hq0 : 0 ≤ q) (hq : q ≤ 4294967296) (hb : 4294967296 ≤ r) : q ≤ (u * 4294967296 + d) / (y1 * 4294967296 + y0) := by
  have h1 := (digit_test (u := u) (d := d) (y1 := y1) (y0 := y0) (q := q) (r := r) hy hr)
  have h2 : q * y0 ≤ 4294967296 * y0 := Int.mul_le_mul_of_nonneg_right hq h0
  have h3 : ¬ q * y0 > 4294967296 * r + d := by omega
  have := mt h1.2 h3
  omega
theorem div_whole {hi lo y p r u32 u10 un1 un0 q1 q0 u21 R : Int} (hp : 0 < p) (hpr : p * r = 18446744073709551616) (hr : 0 < r) (hy : 0 < y) (hyb : y * p ≤ 18446744073709551615) (hi0 : 0 ≤ hi) (hlt : hi < y) (hlo : 0 ≤ lo)
    (e32 : u32 = hi * p + lo / r) (e10 : u10 = (lo * p) % 18446744073709551616) (e1 : u10 = un1 * 4294967296 + un0)
    (eq1 : u21 = u32 * 4294967296 + un1 - q1 * (y * p)) (hR : R = u21 * 4294967296 + un0 - q0 * (y * p)) (hR0 : 0 ≤ R) (hRy : R < y * p) :
    (hi * 18446744073709551616 + lo) / y = q1 * 4294967296 + q0 ∧ (hi * 18446744073709551616 + lo) % y = R / p := by
  have e2 : lo * p = lo / r * 18446744073709551616 + u10 := by
    have h1 := Int.emod_add_mul_ediv (lo * p) 18446744073709551616
    have h2 : lo * p / 18446744073709551616 = lo / r := by
      rw [← hpr, Int.mul_comm lo p]
      exact Int.mul_ediv_mul_of_pos _ _ hp
    rw [h2] at h1
    omega
  have e3 : (hi * 18446744073709551616 + lo) * p = (q1 * 4294967296 + q0) * (y * p) + R := by
    rw [Int.add_mul, e2, hR, eq1, e32, e1]
    grind
  have e4 : R = (hi * 18446744073709551616 + lo - (q1 * 4294967296 + q0) * y) * p := by
    rw [Int.sub_mul, e3, Int.mul_assoc]; omega
  generalize hD : hi * 18446744073709551616 + lo - (q1 * 4294967296 + q0) * y = Dd at *
  have h0 : 0 ≤ Dd := by
    rcases Int.lt_or_le Dd 0 with h | h
    · have := Int.mul_neg_of_neg_of_pos h hp; omega
    · exact h
  have h1 : Dd < y := by
    rw [e4] at hRy
    exact Int.lt_of_mul_lt_mul_right hRy (by omega)
  have h2 : R / p = Dd := by rw [e4]; exact Int.mul_ediv_cancel _ (by omega)
  rw [h2]
  exact (Int.ediv_emod_unique hy).2 ⟨by rw [Int.mul_comm y]; omega, h0, h1⟩
end Go.Proofs.YtjmdeplmenbmmaaGreatDoor
namespace Go.Proofs.YtjmdeplmenbmmaaGreatDoor.TT
theorem lb_digits {x0 x1 x2 x3 : Nat} (h0 : x0 < cW) (h1 : x1 < cW) (h2 : x2 < cW) (h3 : x3 < cW) : lb (x0 * cW ^ 3 + x1 * cW ^ 2 + x2 * cW + x3) 0 = x0 ∧ lb (x0 * cW ^ 3 + x1 * cW ^ 2 + x2 * cW + x3) 1 = x1 ∧ lb (x0 * cW ^ 3 + x1 * cW ^ 2 + x2 * cW + x3) 2 = x2 ∧ lb (x0 * cW ^ 3 + x1 * cW ^ 2 + x2 * cW + x3) 3 = x3 := by
  unfold lb
  simp only [cW, Nat.sub_zero, Nat.reduceSub, Nat.reducePow, Nat.pow_one, Nat.pow_zero, Nat.div_one] at *
  omega
theorem digits_lt {x0 x1 x2 x3 : Nat} (h0 : x0 < cW) (h1 : x1 < cW) (h2 : x2 < cW) (h3 : x3 < cW) : x0 * cW ^ 3 + x1 * cW ^ 2 + x2 * cW + x3 < W256 := by
  simp only [cW, W256, Nat.reducePow] at *
  omega
theorem lb_eq {x x0 x1 x2 x3 : Nat} (h0 : x0 < cW) (h1 : x1 < cW) (h2 : x2 < cW) (h3 : x3 < cW) (h : x = x0 * cW ^ 3 + x1 * cW ^ 2 + x2 * cW + x3) : lb x 0 = x0 ∧ lb x 1 = x1 ∧ lb x 2 = x2 ∧ lb x 3 = x3 := by
  subst h; exact lb_digits h0 h1 h2 h3
theorem add_words {a b : Nat} (ha : a < W256) (hb : b < W256) {s3 c3 s2 c2 s1 c1 s0 c0 : Nat} (e3 : lb a 3 + lb b 3 = s3 + cW * c3) (e2 : lb a 2 + lb b 2 + c3 = s2 + cW * c2) (e1 : lb a 1 + lb b 1 + c2 = s1 + cW * c1) (e0 : lb a 0 + lb b 0 + c1 = s0 + cW * c0)
    (h3 : s3 < cW) (h2 : s2 < cW) (h1 : s1 < cW) (h0 : s0 < cW) : lb ((a + b) % W256) 0 = s0 ∧ lb ((a + b) % W256) 1 = s1 ∧ lb ((a + b) % W256) 2 = s2 ∧ lb ((a + b) % W256) 3 = s3 := by
  refine lb_eq h0 h1 h2 h3 ?_
  have ea := lb_sum ha
  have eb := lb_sum hb
  have hx := digits_lt h0 h1 h2 h3
  have e : a + b = s0 * cW ^ 3 + s1 * cW ^ 2 + s2 * cW + s3 + W256 * c0 := by
    generalize lb a 0 = x0 at *; generalize lb a 1 = x1 at *; generalize lb a 2 = x2 at *; generalize lb a 3 = x3 at *
    generalize lb b 0 = y0 at *; generalize lb b 1 = y1 at *; generalize lb b 2 = y2 at *; generalize lb b 3 = y3 at *
    simp only [cW, W256, Nat.reducePow] at *
    omega
  rw [e, Nat.add_mul_mod_self_left]
  exact Nat.mod_eq_of_lt hx
theorem mod_sub {a b s W c : Nat} (e : a + W * c = s + b) (hs : s < W) (hb : b < W) (k : c ≤ 1) : (a + W - b) % W = s := by
  rcases Nat.le_one_iff_eq_zero_or_eq_one.1 k with rfl | rfl
  · rw [show a + W - b = s + W * 1 by omega, Nat.add_mul_mod_self_left]
    exact Nat.mod_eq_of_lt hs
  · rw [show a + W - b = s by omega]
    exact Nat.mod_eq_of_lt hs
theorem sub_words {a b : Nat} (ha : a < W256) (hb : b < W256) {s3 c3 s2 c2 s1 c1 s0 c0 : Nat} (e3 : lb a 3 + cW * c3 = s3 + lb b 3) (e2 : lb a 2 + cW * c2 = s2 + lb b 2 + c3) (e1 : lb a 1 + cW * c1 = s1 + lb b 1 + c2) (e0 : lb a 0 + cW * c0 = s0 + lb b 0 + c1)
    (h3 : s3 < cW) (h2 : s2 < cW) (h1 : s1 < cW) (h0 : s0 < cW) (k0 : c0 ≤ 1) : lb ((a + W256 - b) % W256) 0 = s0 ∧ lb ((a + W256 - b) % W256) 1 = s1 ∧ lb ((a + W256 - b) % W256) 2 = s2 ∧ lb ((a + W256 - b) % W256) 3 = s3 := by
  refine lb_eq h0 h1 h2 h3 ?_
  have ea := lb_sum ha
  have eb := lb_sum hb
  have hx := digits_lt h0 h1 h2 h3
  have e : a + W256 * c0 = s0 * cW ^ 3 + s1 * cW ^ 2 + s2 * cW + s3 + b := by
    generalize lb a 0 = x0 at *; generalize lb a 1 = x1 at *; generalize lb a 2 = x2 at *; generalize lb a 3 = x3 at *
    generalize lb b 0 = y0 at *; generalize lb b 1 = y1 at *; generalize lb b 2 = y2 at *; generalize lb b 3 = y3 at *
    rw [ea, eb]
    have hW : W256 = cW * cW * cW * cW := rfl
    rw [hW]
    clear hW hx ea eb ha hb h0 h1 h2 h3 k0
    generalize cW = c at *
    grind
  exact mod_sub e hx hb k0
theorem div_words {a t d : Nat} (ha : a < W256) (hd : 0 < d) (ht : t < d) {q0 t0 q1 t1 q2 t2 q3 t3 : Nat} (e0 : t * cW + lb a 0 = q0 * d + t0) (e1 : t0 * cW + lb a 1 = q1 * d + t1) (e2 : t1 * cW + lb a 2 = q2 * d + t2) (e3 : t2 * cW + lb a 3 = q3 * d + t3)
    (r0 : t0 < d) (r1 : t1 < d) (r2 : t2 < d) (r3 : t3 < d) : (lb ((t * W256 + a) / d) 0 = q0 ∧ lb ((t * W256 + a) / d) 1 = q1 ∧ lb ((t * W256 + a) / d) 2 = q2 ∧ lb ((t * W256 + a) / d) 3 = q3) ∧ (t * W256 + a) / d < W256 := by
  have lt : ∀ {x y l q r : Nat}, l < cW → x < d → x * cW + l = q * d + r → q < cW := fun {x y l q r} hl hx e => by
    refine Nat.lt_of_not_le fun hge => ?_
    have h1 : cW * d ≤ q * d := Nat.mul_le_mul_right d hge
    have h2 : (x + 1) * cW ≤ d * cW := Nat.mul_le_mul_right cW hx
    rw [Nat.mul_comm cW d] at h1
    rw [Nat.succ_mul] at h2
    omega
  have l0 := lt (y := 0) (lb_lt a 0) ht e0
  have l1 := lt (y := 0) (lb_lt a 1) r0 e1
  have l2 := lt (y := 0) (lb_lt a 2) r1 e2
  have l3 := lt (y := 0) (lb_lt a 3) r2 e3
  have ea := lb_sum ha
  have hx := digits_lt l0 l1 l2 l3
  have e : t * W256 + a = (q0 * cW ^ 3 + q1 * cW ^ 2 + q2 * cW + q3) * d + t3 := by
    have hW : W256 = cW * cW * cW * cW := rfl
    generalize lb a 0 = x0 at *; generalize lb a 1 = x1 at *; generalize lb a 2 = x2 at *; generalize lb a 3 = x3 at *
    rw [hW]
    clear hW hx l0 l1 l2 l3 lt ha r0 r1 r2 r3 ht hd
    generalize cW = c at *
    have s1 : t * (c * c * c * c) + a = (t * c + x0) * (c * c * c) + x1 * (c * c) + x2 * c + x3 := by rw [ea]; grind
    have s2 : (q0 * d + t0) * (c * c * c) + x1 * (c * c) + x2 * c + x3 = q0 * d * (c * c * c) + (t0 * c + x1) * (c * c) + x2 * c + x3 := by grind
    have s3 : q0 * d * (c * c * c) + (q1 * d + t1) * (c * c) + x2 * c + x3 = q0 * d * (c * c * c) + q1 * d * (c * c) + (t1 * c + x2) * c + x3 := by grind
    have s4 : q0 * d * (c * c * c) + q1 * d * (c * c) + (q2 * d + t2) * c + x3 = q0 * d * (c * c * c) + q1 * d * (c * c) + q2 * d * c + (t2 * c + x3) := by grind
    rw [s1, e0, s2, e1, s3, e2, s4, e3]
    clear s1 s2 s3 s4 e0 e1 e2 e3 ea
    grind
  have e2' : (t * W256 + a) / d = q0 * cW ^ 3 + q1 * cW ^ 2 + q2 * cW + q3 := by
    rw [e, Nat.mul_comm, Nat.mul_add_div hd, Nat.div_eq_of_lt r3, Nat.add_zero]
  exact ⟨lb_eq l0 l1 l2 l3 e2', by rw [e2']; exact hx⟩
theorem bnd_south : (bnd (-5400000)).2 = -1073741824 := by decide +kernel
theorem asin_upto {v : Int} (h : -1073741824 ≤ v) : ∀ k : Nat, k ≤ 10800000 → ∃ n : Int, -5400000 ≤ n ∧ n ≤ -5400000 + k ∧ (bnd n).2 ≤ v ∧ ∀ m : Int, n < m → m ≤ -5400000 + k → v < (bnd m).2
  | 0, _ => ⟨-5400000, by omega, by omega, by rw [bnd_south]; exact h, fun m a b => by omega⟩
  | k + 1, hk => by
    obtain ⟨n, a, b, c, d⟩ := asin_upto h k (by omega)
    by_cases hc : (bnd (-5400000 + (k + 1 : Nat))).2 ≤ v
    · exact ⟨-5400000 + (k + 1 : Nat), by omega, by omega, hc, fun m x y => by omega⟩
    · refine ⟨n, a, by omega, c, fun m x y => ?_⟩
      by_cases hm : m ≤ -5400000 + (k : Int)
      · exact d m x hm
      · rw [show m = -5400000 + ((k + 1 : Nat) : Int) by omega]; omega
theorem asin_ex {v : Int} (h : -1073741824 ≤ v) : ∃ n, IsAsin v n := by
  obtain ⟨n, a, b, c, d⟩ := asin_upto h 10800000 (by omega)
  exact ⟨n, a, by omega, c, fun m x y => d m x (by omega)⟩
theorem asin_iff {v n m : Int} (h : IsAsin v n) (h0 : -5400000 ≤ m) (h1 : m ≤ 5400000) : (bnd m).2 ≤ v ↔ m ≤ n := by
  obtain ⟨a, b, c, d⟩ := h
  constructor
  · intro g
    exact Int.not_lt.1 fun hlt => by have := d m hlt h1; omega
  · intro g
    have := (bnd_mono h0 g b).1
    omega
end Go.Proofs.YtjmdeplmenbmmaaGreatDoor.TT
