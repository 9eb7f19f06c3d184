/- Joined texts: GeJ, GeK, Crc, GeL. -/
import Derived.Test.YtjmdeplmenbmmaaGreatDoorV03
set_option linter.unusedVariables false
namespace Go.Proofs.YtjmdeplmenbmmaaGreatDoor.TT
theorem ev_sg2 {p al : List Int} {n : Int} (h : p ++ [0] = sg false al) : ev p n = ea al (n * n) := by
  rw [← ev_snoc, h, ev_sg]; simp
theorem ev_sg3 {p al : List Int} {n : Int} (h : p ++ [0] = 0 :: sg false al) : ev p n = n * ea al (n * n) := by
  rw [← ev_snoc, h]
  show 0 + n * ev (sg false al) n = _
  rw [ev_sg]; simp
def near2 (o : Nat) : Nat → List Int → Bool
  | _, [] => true
  | k, a :: r => decide ((a : Rat) ≤ p1100 * ka o k) && decide (p1100 * ka o k ≤ (a : Rat) + 1) && near2 o (k + 1) r
theorem near2S : near2 1 0 aS = true := by decide +kernel
theorem near2C : near2 0 0 aC = true := by decide +kernel
theorem ea_near2 {o : Nat} {y : Int} (hy : 0 ≤ y) : ∀ (al : List Int) (k : Nat), near2 o k al = true → (ea al y : Rat) - p1100 * kr o (y : Rat) k al.length ≤ er (y : Rat) al.length ∧ p1100 * kr o (y : Rat) k al.length - (ea al y : Rat) ≤ er (y : Rat) al.length
  | [], k, _ => by
    simp only [ea, kr, er, List.length_nil]
    have : ((0 : Int) : Rat) = 0 := rfl
    exact ⟨by grind, by grind⟩
  | a :: r, k, h => by
    simp only [near2, Bool.and_eq_true, decide_eq_true_eq] at h
    obtain ⟨⟨h1, h2⟩, h3⟩ := h
    obtain ⟨i1, i2⟩ := ea_near2 (o := o) hy r (k + 1) h3
    have hyR : (0 : Rat) ≤ (y : Rat) := Rat.intCast_nonneg.2 hy
    have b1 := Rat.mul_le_mul_of_nonneg_left i1 hyR
    have b2 := Rat.mul_le_mul_of_nonneg_left i2 hyR
    simp only [ea, kr, er, List.length_cons, Rat.intCast_sub, Rat.intCast_mul]
    generalize p1100 = S at *
    exact ⟨by grind, by grind⟩
theorem Ps_sa {n : Nat} (h : n ≤ 2700000) : Ps n - sa 1 (xi n) 0 21 ≤ d200 ∧ sa 1 (xi n) 0 21 - Ps n ≤ d200 := by
  obtain ⟨h1, h2⟩ := ea_near2 (o := 1) (y := (n : Int) * n) ypos aS 0 near2S
  rw [ycast] at h1 h2
  have hl : aS.length = 21 := by decide
  rw [hl] at h1 h2
  have hm := er_mono (Rat.mul_nonneg (Rat.natCast_nonneg (a := n)) Rat.natCast_nonneg) (yle h) 21
  have hn : (n : Rat) ≤ 2700000 := natR h
  have hn0 : (0 : Rat) ≤ (n : Rat) := Rat.natCast_nonneg
  have k1 := Rat.mul_le_mul_of_nonneg_left h1 hn0
  have k2 := Rat.mul_le_mul_of_nonneg_left h2 hn0
  have k3 := Rat.mul_le_mul_of_nonneg_left hm hn0
  have k4 := Rat.mul_le_mul_of_nonneg_right hn (er_nn (show (0 : Rat) ≤ 7290000000000 by decide +kernel) 21)
  have k5 : 2700000 * er 7290000000000 21 ≤ d200 * p1100 := by decide +kernel
  have hp := p1100_pos
  have hev : (ev pS n : Rat) = (n : Rat) * (ea aS ((n : Int) * n) : Rat) := by
    rw [ev_sg3 (p := pS) (al := aS) (by decide +kernel), Rat.intCast_mul, Rat.intCast_natCast]
  have hP := Ps_mul n
  rw [hev] at hP
  rw [sa_pr, show pr 1 (n : Rat) 0 = (n : Rat) from if_pos rfl]
  clear hm hn hev
  generalize er 7290000000000 21 = E at *
  generalize er ((n : Rat) * (n : Rat)) 21 = e at *
  generalize kr 1 ((n : Rat) * (n : Rat)) 0 21 = K at *
  generalize (ea aS ((n : Int) * n) : Rat) = A at *
  generalize p1100 = S at *
  generalize d200 = d at *
  generalize Ps n = X at *
  exact ⟨Rat.le_of_mul_le_mul_right (c := S) (by grind) hp, Rat.le_of_mul_le_mul_right (c := S) (by grind) hp⟩
theorem Pc_sa {n : Nat} (h : n ≤ 2700000) : Pc n - sa 0 (xi n) 0 21 ≤ d200 ∧ sa 0 (xi n) 0 21 - Pc n ≤ d200 := by
  obtain ⟨h1, h2⟩ := ea_near2 (o := 0) (y := (n : Int) * n) ypos aC 0 near2C
  rw [ycast] at h1 h2
  have hl : aC.length = 21 := by decide
  rw [hl] at h1 h2
  have hm := er_mono (Rat.mul_nonneg (Rat.natCast_nonneg (a := n)) Rat.natCast_nonneg) (yle h) 21
  have k5 : er 7290000000000 21 ≤ d200 * p1100 := by decide +kernel
  have hp := p1100_pos
  have hev : (ev pC n : Rat) = (ea aC ((n : Int) * n) : Rat) := by
    rw [ev_sg2 (p := pC) (al := aC) (by decide +kernel)]
  have hP := Pc_mul n
  rw [hev] at hP
  rw [sa_pr, show pr 0 (n : Rat) 0 = 1 from if_neg (by decide)]
  clear hev
  generalize er 7290000000000 21 = E at *
  generalize er ((n : Rat) * (n : Rat)) 21 = e at *
  generalize kr 0 ((n : Rat) * (n : Rat)) 0 21 = K at *
  generalize (ea aC ((n : Int) * n) : Rat) = A at *
  generalize p1100 = S at *
  generalize d200 = d at *
  generalize Pc n = X at *
  exact ⟨Rat.le_of_mul_le_mul_right (c := S) (by grind) hp, Rat.le_of_mul_le_mul_right (c := S) (by grind) hp⟩
def cap (o : Nat) : Nat → Rat
  | 0 => 1
  | i + 1 => cap o i * (617 / 1000) / (dd o i : Rat)
theorem tm_cap {o n : Nat} (h : n ≤ 2700000) : ∀ i, tm o (xi n) i ≤ cap o i
  | 0 => tm_le (xi_nn n) (xi_sq h) (Rat.le_trans (xi_le h) (by decide +kernel)) 0
  | i + 1 => by
    have hd := dd_geR o i
    refine tm_step h i _ _ (tm_cap h i) ?_
    rw [show cap o (i + 1) = cap o i * (617 / 1000) / (dd o i : Rat) from rfl, Rat.div_mul_cancel (by grind)]
    exact Rat.le_refl
abbrev d160 : Rat := 1 / ((2 ^ 160 : Nat) : Rat)
theorem cap21 (o : Nat) (ho : o ≤ 1) : cap o 21 ≤ d170 := by
  match o, ho with
  | 0, _ => decide +kernel
  | 1, _ => decide +kernel
theorem T_near {o n : Nat} (ho : o ≤ 1) (h : n ≤ 2700000) : TT o n - sa o (xi n) 0 21 ≤ d170 ∧ sa o (xi n) 0 21 - TT o n ≤ d170 := by
  obtain ⟨g1, g2⟩ := sa_more (o := o) (xi_nn n) (xi_sq h) 14 21 0
  have ht := Rat.le_trans (tm_cap (o := o) h 21) (cap21 o ho)
  have eT : TT o n = sa o (xi n) 0 (21 + 14) := rfl
  rw [eT]
  rw [Nat.zero_add] at g1 g2
  exact ⟨Rat.le_trans g1 ht, Rat.le_trans g2 ht⟩
theorem d_sum : d170 + d200 + d170 ≤ d160 := by decide +kernel
theorem S_T {n : Nat} (h : n ≤ 2700000) : Sn n - TT 1 n ≤ d160 ∧ TT 1 n - Sn n ≤ d160 := by
  obtain ⟨⟨a1, a2⟩, _⟩ := P_near n h
  obtain ⟨b1, b2⟩ := Ps_sa h
  obtain ⟨c1, c2⟩ := T_near (o := 1) (by omega) h
  have e := d_sum
  generalize TT 1 n = T at *
  generalize sa 1 (xi n) 0 21 = A at *
  generalize d170 = x at *
  generalize d200 = y at *
  generalize d160 = z at *
  exact ⟨by grind, by grind⟩
theorem C_T {n : Nat} (h : n ≤ 2700000) : Cn n - TT 0 n ≤ d160 ∧ TT 0 n - Cn n ≤ d160 := by
  obtain ⟨_, ⟨a1, a2⟩⟩ := P_near n h
  obtain ⟨b1, b2⟩ := Pc_sa h
  obtain ⟨c1, c2⟩ := T_near (o := 0) (by omega) h
  have e := d_sum
  generalize TT 0 n = T at *
  generalize sa 0 (xi n) 0 21 = A at *
  generalize d170 = x at *
  generalize d200 = y at *
  generalize d160 = z at *
  exact ⟨by grind, by grind⟩
/-! the quarter of a turn -/
abbrev d150 : Rat := 1 / ((2 ^ 150 : Nat) : Rat)
theorem half_near : (-d160 ≤ Sn 2700000 - Cn 2700000 ∧ Sn 2700000 - Cn 2700000 ≤ d160) := by
  obtain ⟨⟨a1, a2⟩, ⟨b1, b2⟩⟩ := P_near 2700000 (Nat.le_refl _)
  have e1 : Ps 2700000 - Pc 2700000 ≤ d170 := by unfold Ps Pc; decide +kernel
  have e2 : -d170 ≤ Ps 2700000 - Pc 2700000 := by unfold Ps Pc; decide +kernel
  have e : d170 + d170 + d170 ≤ d160 := by decide +kernel
  generalize d170 = x at *
  generalize d160 = z at *
  generalize Sn 2700000 = s at *
  generalize Cn 2700000 = c at *
  generalize Ps 2700000 = p at *
  generalize Pc 2700000 = q at *
  exact ⟨by grind, by grind⟩
theorem quarter : (-d150 ≤ C 5400000 ∧ C 5400000 ≤ d150) ∧ (1 - d150 ≤ S 5400000 ∧ S 5400000 ≤ 1) := by
  obtain ⟨h1, h2⟩ := half_near
  obtain ⟨a1, a2⟩ := addN 2700000 2700000
  have u := unitN_ 2700000
  have e54 : (5400000 : Int) = ((2700000 + 2700000 : Nat) : Int) := by omega
  have ec : C 5400000 = Cn (2700000 + 2700000) := by rw [e54, C_nat]
  have es : S 5400000 = Sn (2700000 + 2700000) := by rw [e54, S_nat]
  have hs := S_abs 5400000
  have cb := C_abs ((2700000 : Nat) : Int)
  have sb := S_abs ((2700000 : Nat) : Int)
  rw [C_nat] at cb
  rw [S_nat] at sb
  rw [a1] at ec
  rw [a2] at es
  have e : d160 + d160 ≤ d150 := by decide +kernel
  have hd : 0 ≤ d160 ∧ d160 ≤ 1 := by decide +kernel
  rw [ec, es]
  rw [es] at hs
  generalize Sn 2700000 = s at *
  generalize Cn 2700000 = c at *
  have m1 := mul_abs cb.1 cb.2 h1 h2
  have m2 := mul_abs sb.1 sb.2 h1 h2
  have dd' := mul_abs (a := s - c) (e := s - c) (d := d160) (by grind) (by grind) h1 h2
  generalize d160 = x at *
  generalize d150 = z at *
  refine ⟨⟨by grind, by grind⟩, by grind, hs.2⟩
abbrev oR : Rat := 1073741824
abbrev d100 : Rat := 1 / ((2 ^ 100 : Nat) : Rat)
abbrev d110 : Rat := 1 / ((2 ^ 110 : Nat) : Rat)
abbrev d140 : Rat := 1 / ((2 ^ 140 : Nat) : Rat)
def Near (x y d : Rat) : Prop := x - y ≤ d ∧ y - x ≤ d
theorem Near.symm {x y d : Rat} (h : Near x y d) : Near y x d := ⟨h.2, h.1⟩
theorem Near.trans {x y z d e : Rat} (h : Near x y d) (h' : Near y z e) : Near x z (d + e) := by
  obtain ⟨a, b⟩ := h
  obtain ⟨c, f⟩ := h'
  exact ⟨by grind, by grind⟩
theorem Near.mono {x y d e : Rat} (h : Near x y d) (hde : d ≤ e) : Near x y e := ⟨Rat.le_trans h.1 hde, Rat.le_trans h.2 hde⟩
theorem Near.neg {x y d : Rat} (h : Near x y d) : Near (-x) (-y) d := by
  obtain ⟨a, b⟩ := h
  exact ⟨by grind, by grind⟩
theorem near_rot {a b c s k d : Rat} (ha : -1 ≤ a ∧ a ≤ 1) (hb : -1 ≤ b ∧ b ≤ 1) (hc : Near c k d) (hs : Near s 0 d) : Near (a * c + b * s) (a * k) (d + d) := by
  obtain ⟨c1, c2⟩ := hc
  obtain ⟨s1, s2⟩ := hs
  have m1 := mul_abs (d := d) ha.1 ha.2 (e := c - k) (by grind) (by grind)
  have m2 := mul_abs (d := d) hb.1 hb.2 (e := s) (by grind) (by grind)
  exact ⟨by grind, by grind⟩
theorem Cq : Near (C 5400000) 0 d150 := by
  obtain ⟨⟨h1, h2⟩, _⟩ := quarter
  exact ⟨by grind, by grind⟩
theorem Sq : Near (S 5400000) 1 d150 := by
  obtain ⟨_, h1, h2⟩ := quarter
  have : (0 : Rat) ≤ d150 := by decide +kernel
  generalize d150 = d at *
  exact ⟨by grind, by grind⟩
abbrev d148 : Rat := 1 / ((2 ^ 148 : Nat) : Rat)
abbrev d146 : Rat := 1 / ((2 ^ 146 : Nat) : Rat)
theorem e148 : d150 + d150 ≤ d148 := by decide +kernel
theorem e146 : d148 + d148 ≤ d146 := by decide +kernel
theorem S_co (k : Int) : Near (S (5400000 - k)) (C k) d148 := by
  obtain ⟨_, h⟩ := sub_i 5400000 k
  have := near_rot (a := C k) (b := -(S k)) (c := S 5400000) (s := C 5400000) (k := 1) (C_abs k) (by have := S_abs k; exact ⟨by grind, by grind⟩) Sq Cq
  rw [h]
  have e : S 5400000 * C k - C 5400000 * S k = C k * S 5400000 + -(S k) * C 5400000 := by grind
  have e1 : C k * 1 = C k := Rat.mul_one _
  rw [e1] at this
  rw [e]
  exact this.mono e148
theorem C_co (k : Int) : Near (C (5400000 - k)) (S k) d148 := by
  obtain ⟨h, _⟩ := sub_i 5400000 k
  have := near_rot (a := S k) (b := C k) (c := S 5400000) (s := C 5400000) (k := 1) (S_abs k) (C_abs k) Sq Cq
  rw [h]
  have e : C 5400000 * C k + S 5400000 * S k = S k * S 5400000 + C k * C 5400000 := by grind
  have e1 : S k * 1 = S k := Rat.mul_one _
  rw [e1] at this
  rw [e]
  exact this.mono e148
theorem S_half (n : Int) : Near (S (n + 10800000)) (-(S n)) d146 := by
  have h1 := S_co (5400000 - (n + 10800000))
  rw [show 5400000 - (5400000 - (n + 10800000)) = n + 10800000 by omega, show 5400000 - (n + 10800000) = -(5400000 - (-n)) by omega, C_neg] at h1
  have h2 := C_co (-n)
  rw [S_neg] at h2
  exact (h1.trans h2).mono e146
theorem C_half (n : Int) : Near (C (n + 10800000)) (-(C n)) d146 := by
  have h1 := C_co (5400000 - (n + 10800000))
  rw [show 5400000 - (5400000 - (n + 10800000)) = n + 10800000 by omega, show 5400000 - (n + 10800000) = -(5400000 - (-n)) by omega, S_neg] at h1
  have h2 := (S_co (-n)).neg
  rw [C_neg] at h2
  exact (h1.trans h2).mono e146
abbrev d144 : Rat := 1 / ((2 ^ 144 : Nat) : Rat)
theorem e144 : d146 + d146 ≤ d144 := by decide +kernel
theorem S_turn (n : Int) : Near (S (n + 21600000)) (S n) d144 := by
  have h1 := S_half (n + 10800000)
  rw [show n + 10800000 + 10800000 = n + 21600000 by omega] at h1
  have h2 := (S_half n).neg
  have e : - -(S n) = S n := Rat.neg_neg _
  rw [e] at h2
  exact (h1.trans h2).mono e144
theorem S_turns (n : Int) : ∀ k : Nat, Near (S (n + 21600000 * k)) (S n) ((k : Rat) * d144)
  | 0 => by
    rw [show n + 21600000 * ((0 : Nat) : Int) = n by omega]
    have : ((0 : Nat) : Rat) = 0 := rfl
    rw [this]
    exact ⟨by grind, by grind⟩
  | k + 1 => by
    have h1 := S_turn (n + 21600000 * k)
    rw [show n + 21600000 * (k : Int) + 21600000 = n + 21600000 * ((k + 1 : Nat) : Int) by omega] at h1
    have := h1.trans (S_turns n k)
    have e : d144 + (k : Rat) * d144 = ((k + 1 : Nat) : Rat) * d144 := by
      rw [Rat.natCast_add, show ((1 : Nat) : Rat) = 1 from rfl]; grind
    rwa [e] at this
theorem S_fold {n : Int} (h0 : -108000000 ≤ n) (h1 : n ≤ 108000000) : Near (S n) (S (turnI n)) d140 := by
  have hd := Int.emod_add_mul_ediv n 21600000
  have e : (5 : Rat) * d144 ≤ d140 := by decide +kernel
  have hd0 : (0 : Rat) ≤ d144 := by decide +kernel
  unfold turnI
  generalize hm : n % 21600000 = m at *
  generalize hq : n / 21600000 = q at *
  have hm0 : 0 ≤ m := by omega
  have hm1 : m < 21600000 := by omega
  rcases Int.le_total 0 q with hq0 | hq0
  · obtain ⟨k, rfl⟩ := nat_of hq0
    have := S_turns m k
    rw [show m + 21600000 * (k : Int) = n by omega] at this
    refine this.mono (Rat.le_trans (Rat.mul_le_mul_of_nonneg_right (natR (show k ≤ 5 by omega)) hd0) ?_)
    exact e
  · obtain ⟨k, hk⟩ := nat_of (show 0 ≤ -q by omega)
    have := S_turns n k
    rw [show n + 21600000 * (k : Int) = m by omega] at this
    refine this.symm.mono (Rat.le_trans (Rat.mul_le_mul_of_nonneg_right (natR (show k ≤ 5 by omega)) hd0) ?_)
    exact e
def Holds (lo hi : Int) (x d : Rat) : Prop := (lo : Rat) ≤ oR * x + d ∧ oR * x ≤ (hi : Rat) + d
theorem Holds.near {lo hi : Int} {x y d e f : Rat} (h : Holds lo hi x d) (hn : Near x y e) (hf : d + oR * e ≤ f) : Holds lo hi y f := by
  obtain ⟨h1, h2⟩ := h
  obtain ⟨n1, n2⟩ := hn
  exact ⟨by grind, by grind⟩
theorem Holds.neg {lo hi : Int} {x d : Rat} (h : Holds lo hi x d) : Holds (-hi) (-lo) (-x) d := by
  obtain ⟨h1, h2⟩ := h
  unfold Holds
  rw [Rat.intCast_neg, Rat.intCast_neg]
  exact ⟨by grind, by grind⟩
theorem fl_holds {o n : Nat} (ho : o ≤ 1) (h0 : n ≠ 0) (h : n ≤ 2700000) (h1 : o = 1 → n ≠ 1800000) : Holds (flS o n) (flS o n + 1) (TT o n) 0 := by
  obtain ⟨m1, m2⟩ := margin_fl ho h0 h h1
  unfold Holds
  generalize TT o n = T at *
  generalize flS o n = f at *
  rw [Rat.intCast_add, Rat.intCast_mul] at m1
  rw [Rat.intCast_sub, Rat.intCast_add, Rat.intCast_mul] at m2
  rw [Rat.intCast_add]
  have e1 : ((4294967296 : Int) : Rat) = 4294967296 := rfl
  have e2 : ((1040 : Int) : Rat) = 1040 := rfl
  have e3 : ((1 : Int) : Rat) = 1 := rfl
  have e4 : oR * (4294967296 * q62) = 1 := by decide +kernel
  have e5 : (0 : Rat) ≤ q62 := Rat.le_of_lt q62_pos
  rw [e1, e2] at m1 m2
  rw [e3]
  generalize q62 = q at *
  generalize (f : Rat) = F at *
  have a1 : F * (oR * (4294967296 * q)) = F := by rw [e4]; exact Rat.mul_one _
  exact ⟨by grind, by grind⟩
theorem S30 : Near (S 1800000) (1 / 2) d160 := by
  obtain ⟨⟨a1, a2⟩, _⟩ := P_near 1800000 (by omega)
  have e1 : Ps 1800000 - 1 / 2 ≤ d170 := by unfold Ps; decide +kernel
  have e2 : -d170 ≤ Ps 1800000 - 1 / 2 := by unfold Ps; decide +kernel
  have e : d170 + d170 ≤ d160 := by decide +kernel
  have es : S 1800000 = Sn 1800000 := S_nat 1800000
  rw [es]
  generalize Sn 1800000 = s at *
  generalize Ps 1800000 = p at *
  generalize d170 = x at *
  generalize d160 = y at *
  exact ⟨by grind, by grind⟩
theorem base_holds {r : Int} (h0 : 0 ≤ r) (h1 : r ≤ 5400000) : Holds (sinB r).1 (hiB (sinB r)) (S r) d110 := by
  have hd : ∀ f : Int, hiB (f, false) = f + 1 := fun f => if_neg (fun h => Bool.noConfusion h)
  have ht : ∀ f : Int, hiB (f, true) = f := fun f => if_pos rfl
  by_cases e0 : r = 0
  · subst e0
    rw [show sinB 0 = (0, true) from rfl, ht, show S 0 = 0 from Sn_0]
    exact ⟨by decide +kernel, by decide +kernel⟩
  by_cases e1 : r = 1800000
  · subst e1
    rw [show sinB 1800000 = (536870912, true) from rfl, ht]
    have : Holds 536870912 536870912 (1 / 2) 0 := ⟨by decide +kernel, by decide +kernel⟩
    exact this.near S30.symm (by decide +kernel)
  by_cases e2 : r = 5400000
  · subst e2
    rw [show sinB 5400000 = (1073741824, true) from rfl, ht]
    have : Holds 1073741824 1073741824 1 0 := ⟨by decide +kernel, by decide +kernel⟩
    exact this.near Sq.symm (by decide +kernel)
  by_cases hg : r ≤ 2700000
  · rw [sinB_lo (by omega) hg e1, hd]
    obtain ⟨k, rfl⟩ := nat_of h0
    have hf := fl_holds (o := 1) (n := k) (by omega) (by omega) (by omega) (by omega)
    have hn : Near (TT 1 k) (S k) d160 := by
      rw [S_nat]
      exact ⟨(S_T (n := k) (by omega)).2, (S_T (n := k) (by omega)).1⟩
    exact hf.near hn (by decide +kernel)
  · rw [sinB_hi (by omega) (by omega), hd]
    obtain ⟨k, hk⟩ := nat_of (show 0 ≤ 5400000 - r by omega)
    have hf := fl_holds (o := 0) (n := k) (by omega) (by omega) (by omega) (by omega)
    have hn : Near (TT 0 k) (C k) d160 := by
      rw [C_nat]
      exact ⟨(C_T (n := k) (by omega)).2, (C_T (n := k) (by omega)).1⟩
    have h2 := S_co k
    rw [show 5400000 - (k : Int) = r by omega] at h2
    rw [hk, Int.toNat_natCast]
    exact hf.near (hn.trans h2.symm) (by decide +kernel)
theorem fold_eq {m : Int} (h0 : 0 ≤ m) (h1 : m < 21600000) : (m ≤ 5400000 ∧ foldI m = m) ∨ (5400000 < m ∧ m ≤ 10800000 ∧ foldI m = 10800000 - m) ∨ (10800000 < m ∧ m ≤ 16200000 ∧ foldI m = m - 10800000) ∨ (16200000 < m ∧ foldI m = 21600000 - m) := by
  unfold foldI; omega
theorem bnd_holds {n : Int} (h0 : -108000000 ≤ n) (h1 : n ≤ 108000000) : Holds (bnd n).1 (bnd n).2 (S n) d100 := by
  obtain ⟨m0, m1⟩ := turnI_bd n
  have hf := S_fold h0 h1
  have key : Holds (bnd n).1 (bnd n).2 (S (turnI n)) d100 → True := fun _ => trivial
  have e1 : d110 + oR * (d148 + d148 + d140) ≤ d100 := by decide +kernel
  have e2 : d110 + oR * (d146 + d140) ≤ d100 := by decide +kernel
  have e3 : d110 + oR * d140 ≤ d100 := by decide +kernel
  have e4 : d110 + oR * (d148 + d148 + d146 + d140) ≤ d100 := by decide +kernel
  unfold bnd
  rcases fold_eq m0 m1 with ⟨g1, g⟩ | ⟨g1, g2, g⟩ | ⟨g1, g2, g⟩ | ⟨g1, g⟩
  · rw [if_neg (by omega), g]
    exact (base_holds m0 g1).near hf.symm e3
  · rw [if_neg (by omega), g]
    have hb := base_holds (r := 10800000 - turnI n) (by omega) (by omega)
    -- the sine of half a turn less m
    have a1 := S_co (5400000 - (10800000 - turnI n))
    rw [show 5400000 - (5400000 - (10800000 - turnI n)) = 10800000 - turnI n by omega, show 5400000 - (10800000 - turnI n) = -(5400000 - turnI n) by omega, C_neg] at a1
    have a2 := C_co (turnI n)
    exact hb.near ((a1.trans a2).trans hf.symm) e1
  · rw [if_pos (by omega), g]
    have hb := (base_holds (r := turnI n - 10800000) (by omega) (by omega)).neg
    have a1 := S_half (turnI n - 10800000)
    rw [show turnI n - 10800000 + 10800000 = turnI n by omega] at a1
    exact hb.near (a1.symm.trans hf.symm) e2
  · rw [if_pos (by omega), g]
    have hb := (base_holds (r := 21600000 - turnI n) (by omega) (by omega)).neg
    have a1 := S_turn (-(21600000 - turnI n))
    rw [show -(21600000 - turnI n) + 21600000 = turnI n by omega, S_neg] at a1
    have e5 : d110 + oR * (d144 + d140) ≤ d100 := by decide +kernel
    exact hb.near (a1.symm.trans hf.symm) e5
abbrev W192 : Nat := 6277101735386680763835789423207666416102355444464034512896
abbrev pi4 : Nat := 3 * W192 + 0x243F6A8885A308D313198A2E03707344A4093822299F31D0
def rad4 (k : Nat) : Nat := pi4 * k / 10800000
def mul4 (a b : Nat) : Nat := a * b / W192
def nx4 (o k q t : Nat) : Nat := mul4 t q / dd o k
def alt4 (o q : Nat) : Nat → Nat → Nat → Int
  | 0, _, _ => 0
  | f + 1, k, t => if t = 0 then 0 else (nx4 o k q t : Int) - alt4 o q f (k + 1) (nx4 o k q t)
theorem nx4_half {o k q t : Nat} (hq : q < W192) : 2 * nx4 o k q t ≤ t := by
  have h1 : mul4 t q ≤ t := by
    unfold mul4
    refine Nat.div_le_of_le_mul ?_
    rw [Nat.mul_comm W192]
    exact Nat.mul_le_mul_left t (Nat.le_of_lt hq)
  have h2 := dd_ge o k
  have h3 : nx4 o k q t * dd o k ≤ mul4 t q := Nat.div_mul_le_self _ _
  have h4 : nx4 o k q t * 2 ≤ nx4 o k q t * dd o k := Nat.mul_le_mul_left _ h2
  omega
theorem alt4_bd {o q : Nat} (hq : q < W192) : ∀ (f k t : Nat), 0 ≤ alt4 o q f k t ∧ 2 * alt4 o q f k t ≤ t
  | 0, k, t => by unfold alt4; omega
  | f + 1, k, t => by
    obtain ⟨h1, h2⟩ := alt4_bd (o := o) hq f (k + 1) (nx4 o k q t)
    have h3 := nx4_half (o := o) (k := k) (t := t) hq
    unfold alt4
    split <;> omega
abbrev wQ : Rat := ((W192 : Nat) : Rat)
theorem wQ_pos : 0 < wQ := by decide +kernel
theorem nx4_R (o k q t : Nat) : (nx4 o k q t : Rat) ≤ (t : Rat) * ((q : Rat) / wQ / (dd o k : Rat)) ∧ (t : Rat) * ((q : Rat) / wQ / (dd o k : Rat)) ≤ (nx4 o k q t : Rat) + 1 := by
  have hd := dd_geR o k
  have hw := wQ_pos
  have e : nx4 o k q t = t * q / (W192 * dd o k) := by unfold nx4 mul4; rw [Nat.div_div_eq_div_mul]
  have hp : 0 < W192 * dd o k := Nat.mul_pos (by decide) (by have := dd_ge o k; omega)
  have h1 : nx4 o k q t * (W192 * dd o k) ≤ t * q := by rw [e]; exact Nat.div_mul_le_self _ _
  have h2 : t * q ≤ (nx4 o k q t + 1) * (W192 * dd o k) := by
    have := Nat.lt_div_mul_add (a := t * q) (b := W192 * dd o k) hp
    rw [← e] at this
    rw [Nat.succ_mul]
    exact Nat.le_of_lt this
  have g1 := natR h1
  have g2 := natR h2
  rw [Rat.natCast_mul, Rat.natCast_mul, Rat.natCast_mul] at g1 g2
  rw [Rat.natCast_add, show ((1 : Nat) : Rat) = 1 from rfl] at g2
  have e1 : (q : Rat) / wQ * wQ = (q : Rat) := Rat.div_mul_cancel (by grind)
  have e2 : (q : Rat) / wQ / (dd o k : Rat) * (dd o k : Rat) = (q : Rat) / wQ := Rat.div_mul_cancel (by grind)
  generalize (q : Rat) / wQ / (dd o k : Rat) = z at *
  generalize (q : Rat) / wQ = y at *
  rw [← e1, ← e2] at g1 g2
  change _ * (wQ * _) ≤ _ at g1
  change _ ≤ _ * (wQ * _) at g2
  have hpR : 0 < wQ * (dd o k : Rat) := Rat.mul_pos hw (by grind)
  generalize wQ = w at *
  generalize (dd o k : Rat) = d at *
  generalize (nx4 o k q t : Rat) = n at *
  generalize (t : Rat) = T at *
  exact ⟨Rat.le_of_mul_le_mul_right (c := w * d) (by grind) hpR, Rat.le_of_mul_le_mul_right (c := w * d) (by grind) hpR⟩
theorem alt4_err {o q : Nat} (hq : q < W192) (hy : (q : Rat) / wQ ≤ 617 / 1000) : ∀ (f m k t : Nat), t < 2 ^ f → f ≤ m → (alt4 o q f k t : Rat) - (t : Rat) * hv o ((q : Rat) / wQ) k m ≤ (f : Rat) ∧ (t : Rat) * hv o ((q : Rat) / wQ) k m - (alt4 o q f k t : Rat) ≤ (f : Rat)
  | 0, m, k, t, h, _ => by
    have h0 : t = 0 := by have : 2 ^ 0 = 1 := rfl; omega
    subst h0
    have e1 : ((alt4 o q 0 k 0 : Int) : Rat) = 0 := rfl
    have e2 : ((0 : Nat) : Rat) = 0 := rfl
    rw [e1, e2]
    exact ⟨by grind, by grind⟩
  | f + 1, 0, k, t, _, h => by omega
  | f + 1, m + 1, k, t, h, hm => by
    have e : 2 ^ (f + 1) = 2 * 2 ^ f := by rw [Nat.pow_succ, Nat.mul_comm]
    rw [e] at h
    have h3 := nx4_half (o := o) (k := k) (t := t) hq
    obtain ⟨i1, i2⟩ := alt4_err (o := o) hq hy f m (k + 1) (nx4 o k q t) (by omega) (by omega)
    obtain ⟨r1, r2⟩ := nx4_R o k q t
    have hy0 : 0 ≤ (q : Rat) / wQ := by
      rw [Rat.div_def]
      exact Rat.mul_nonneg Rat.natCast_nonneg (Rat.le_of_lt (Rat.inv_pos.2 wQ_pos))
    obtain ⟨v1, v2⟩ := hv_bd (o := o) hy0 hy m (k + 1)
    have ef : ((f + 1 : Nat) : Rat) = (f : Rat) + 1 := by rw [Rat.natCast_add]; rfl
    have hf : (0 : Rat) ≤ (f : Rat) := Rat.natCast_nonneg
    have eh : hv o ((q : Rat) / wQ) k (m + 1) = (q : Rat) / wQ / (dd o k : Rat) * (1 - hv o ((q : Rat) / wQ) (k + 1) m) := rfl
    rw [ef, eh]
    unfold alt4
    by_cases h0 : t = 0
    · subst h0
      rw [if_pos rfl]
      have e1 : ((0 : Int) : Rat) = 0 := rfl
      have e2 : ((0 : Nat) : Rat) = 0 := rfl
      rw [e1, e2]
      exact ⟨by grind, by grind⟩
    rw [if_neg h0, Rat.intCast_sub, Rat.intCast_natCast]
    generalize (alt4 o q f (k + 1) (nx4 o k q t) : Rat) = A at *
    generalize (nx4 o k q t : Rat) = N at *
    generalize hv o ((q : Rat) / wQ) (k + 1) m = H at *
    generalize (q : Rat) / wQ / (dd o k : Rat) = z at *
    generalize (t : Rat) = T at *
    have b1 := Rat.mul_le_mul_of_nonneg_right r1 (show 0 ≤ 1 - H by grind)
    have b2 := Rat.mul_le_mul_of_nonneg_right r2 (show 0 ≤ 1 - H by grind)
    exact ⟨by grind, by grind⟩
/-! ### sines and cosines of the first eighth -/
def sq4 (n : Nat) : Nat := mul4 (rad4 n) (rad4 n)
def ser4 (o first q : Nat) : Int := (first : Int) - alt4 o q 200 0 first
theorem div_up (p d : Nat) (hd : 0 < d) : p ≤ (p / d + 1) * d := by
  have h := Nat.lt_div_mul_add (a := p) (b := d) hd
  rw [Nat.succ_mul]
  exact Nat.le_of_lt h
theorem rad_lo {r h p P n c : Nat} (h1 : r * h ≤ p * n) (h2 : p * c ≤ P) : r * (h * c) ≤ n * P := by
  have a := Nat.mul_le_mul_right c h1
  have b := Nat.mul_le_mul_left n h2
  have e : n * (p * c) = p * n * c := by rw [Nat.mul_comm p n, Nat.mul_assoc]
  rw [← Nat.mul_assoc]
  rw [e] at b
  exact Nat.le_trans a b
theorem rad_hi {r h p P n c : Nat} (h1 : p * n ≤ (r + 1) * h) (h2 : P ≤ (p + 1) * c) (hn : n ≤ h) : n * P ≤ (r + 2) * (h * c) := by
  have a := Nat.mul_le_mul_right c h1
  have b := Nat.mul_le_mul_left n h2
  have d := Nat.mul_le_mul_right c hn
  have e : n * ((p + 1) * c) = p * n * c + n * c := by grind
  have f : (r + 2) * (h * c) = (r + 1) * h * c + h * c := by grind
  rw [e] at b
  rw [f]
  exact Nat.le_trans b (Nat.add_le_add a d)
theorem rad_fin {r c m : Nat} {x w : Rat} (k1 : r * c ≤ m) (k2 : m ≤ (r + 2) * c) (hx : x * (w * (c : Rat)) = (m : Rat)) (hc : (0 : Rat) < (c : Rat)) : (r : Rat) ≤ x * w ∧ x * w ≤ (r : Rat) + 2 := by
  have g1 := natR k1
  have g2 := natR k2
  have m1 : ((r * c : Nat) : Rat) = (r : Rat) * (c : Rat) := Rat.natCast_mul _ _
  have m2 : (((r + 2) * c : Nat) : Rat) = ((r : Rat) + 2) * (c : Rat) := by rw [Rat.natCast_mul, Rat.natCast_add]; rfl
  rw [← hx, m1] at g1
  rw [← hx, m2] at g2
  generalize (c : Rat) = cR at *
  generalize (r : Rat) = r at *
  exact ⟨Rat.le_of_mul_le_mul_right (c := cR) (by grind) hc, Rat.le_of_mul_le_mul_right (c := cR) (by grind) hc⟩
theorem rad_e : ((halfN * W256 : Nat) : Rat) = wQ * ((10800000 * 18446744073709551616 : Nat) : Rat) := by decide +kernel
theorem rad_c : (0 : Rat) < ((10800000 * 18446744073709551616 : Nat) : Rat) := by decide +kernel
theorem rad4_R {n : Nat} (hn : n ≤ 10800000) : (rad4 n : Rat) ≤ xi n * wQ ∧ xi n * wQ ≤ (rad4 n : Rat) + 2 := by
  have h1 : rad4 n * 10800000 ≤ pi4 * n := Nat.div_mul_le_self _ _
  have h2 : pi4 * n ≤ (rad4 n + 1) * 10800000 := div_up _ _ (by decide)
  exact rad_fin (rad_lo h1 (by decide)) (rad_hi h2 (by decide) hn) ((congrArg (xi n * ·) rad_e).symm.trans (xi_mul n)) rad_c
theorem rad4_lt {n : Nat} (h : n ≤ 2700000) : rad4 n < W192 := by
  obtain ⟨h1, _⟩ := rad4_R (n := n) (by omega)
  have h2 := xi_le h
  have h3 := Rat.mul_le_mul_of_nonneg_right h2 (Rat.le_of_lt wQ_pos)
  have h4 : (7853982 / 10000000 : Rat) * wQ < wQ := by decide +kernel
  have : (rad4 n : Rat) < ((W192 : Nat) : Rat) := by
    have := Rat.le_trans h1 h3
    change (rad4 n : Rat) < wQ
    grind
  exact Rat.natCast_lt_natCast.1 this
theorem sq4_R {n : Nat} (hn : n ≤ 2700000) : (sq4 n : Rat) ≤ xi n * xi n * wQ ∧ xi n * xi n * wQ ≤ (sq4 n : Rat) + 5 := by
  obtain ⟨r1, r2⟩ := rad4_R (n := n) (by omega)
  have hx0 := xi_nn n
  have hx1 := xi_le hn
  have hw := wQ_pos
  have h1 : sq4 n * W192 ≤ rad4 n * rad4 n := Nat.div_mul_le_self _ _
  have h2 : rad4 n * rad4 n ≤ (sq4 n + 1) * W192 := div_up _ _ (by decide)
  have g1 := natR h1
  have g2 := natR h2
  rw [Rat.natCast_mul, Rat.natCast_mul] at g1 g2
  rw [Rat.natCast_add, show ((1 : Nat) : Rat) = 1 from rfl] at g2
  change _ * wQ ≤ _ at g1
  change _ ≤ _ * wQ at g2
  have hr0 : (0 : Rat) ≤ (rad4 n : Rat) := Rat.natCast_nonneg
  have hw3 : (3 : Rat) ≤ wQ := by decide +kernel
  have hxw : xi n * wQ ≤ 7853982 / 10000000 * wQ := Rat.mul_le_mul_of_nonneg_right hx1 (Rat.le_of_lt hw)
  generalize (sq4 n : Rat) = s at *
  generalize (rad4 n : Rat) = r at *
  generalize wQ = w at *
  have a1 := Rat.mul_le_mul_of_nonneg_left r1 hr0
  have a2 := Rat.mul_le_mul_of_nonneg_right r1 (show 0 ≤ xi n * w by exact Rat.mul_nonneg hx0 (Rat.le_of_lt hw))
  have b1 := Rat.mul_le_mul_of_nonneg_left r2 (show 0 ≤ xi n * w by exact Rat.mul_nonneg hx0 (Rat.le_of_lt hw))
  have b2 := Rat.mul_le_mul_of_nonneg_left r2 hr0
  generalize xi n = x at *
  refine ⟨Rat.le_of_mul_le_mul_right (c := w) (by grind) hw, Rat.le_of_mul_le_mul_right (c := w) ?_ hw⟩
  -- x x w w <= (r + 2)^2 <= (s + 1) w + 4 r + 4
  have c1 : x * w * (x * w) ≤ r * r + 4 * r + 4 := by grind
  have c2 : r ≤ 7853982 / 10000000 * w := by grind
  grind
theorem y4 {n : Nat} (hn : n ≤ 2700000) : 0 ≤ (sq4 n : Rat) / wQ ∧ (sq4 n : Rat) / wQ ≤ xi n * xi n ∧ xi n * xi n ≤ (sq4 n : Rat) / wQ + 5 / wQ := by
  obtain ⟨h1, h2⟩ := sq4_R hn
  have hw := wQ_pos
  have e1 : (sq4 n : Rat) / wQ * wQ = (sq4 n : Rat) := Rat.div_mul_cancel (by grind)
  have e2 : 5 / wQ * wQ = 5 := Rat.div_mul_cancel (by grind)
  have h0 : 0 ≤ (sq4 n : Rat) / wQ := by
    rw [Rat.div_def]
    exact Rat.mul_nonneg Rat.natCast_nonneg (Rat.le_of_lt (Rat.inv_pos.2 hw))
  refine ⟨h0, Rat.le_of_mul_le_mul_right (c := wQ) (by rw [e1]; exact h1) hw, Rat.le_of_mul_le_mul_right (c := wQ) ?_ hw⟩
  generalize 5 / wQ = f at *
  generalize (sq4 n : Rat) / wQ = y at *
  grind
theorem sq4_lt {n : Nat} (hn : n ≤ 2700000) : sq4 n < W192 := by
  obtain ⟨h1, _⟩ := sq4_R hn
  have h2 := xi_sq hn
  have h3 := Rat.mul_le_mul_of_nonneg_right h2 (Rat.le_of_lt wQ_pos)
  have h4 : (617 / 1000 : Rat) * wQ < wQ := by decide +kernel
  have : (sq4 n : Rat) < ((W192 : Nat) : Rat) := by
    have := Rat.le_trans h1 h3
    change (sq4 n : Rat) < wQ
    grind
  exact Rat.natCast_lt_natCast.1 this
theorem sa_long {o n : Nat} (ho : o ≤ 1) (h : n ≤ 2700000) : sa o (xi n) 0 201 - sa o (xi n) 0 21 ≤ d170 ∧ sa o (xi n) 0 21 - sa o (xi n) 0 201 ≤ d170 := by
  obtain ⟨g1, g2⟩ := sa_more (o := o) (xi_nn n) (xi_sq h) 180 21 0
  have ht := Rat.le_trans (tm_cap (o := o) h 21) (cap21 o ho)
  rw [Nat.zero_add] at g1 g2
  exact ⟨Rat.le_trans g1 ht, Rat.le_trans g2 ht⟩
theorem ser4_err {o n first : Nat} (ho : o ≤ 1) (h : n ≤ 2700000) (hf : first < 2 ^ 200) (hle : (first : Rat) ≤ wQ) (h1 : (first : Rat) ≤ tm o (xi n) 0 * wQ) (h2 : tm o (xi n) 0 * wQ ≤ (first : Rat) + 2) : (ser4 o first (sq4 n) : Rat) - sa o (xi n) 0 201 * wQ ≤ 220 ∧ sa o (xi n) 0 201 * wQ - (ser4 o first (sq4 n) : Rat) ≤ 220 := by
  obtain ⟨y0, y1, y2⟩ := y4 h
  have yx := xi_sq h
  obtain ⟨a1, a2⟩ := alt4_err (o := o) (sq4_lt h) (Rat.le_trans y1 yx) 200 200 0 first hf (Nat.le_refl _)
  obtain ⟨m1, m2⟩ := hv_mono (o := o) y0 y1 yx 200 0
  have e := sa_hv o (xi n) 200 0
  have hw := wQ_pos
  have e5 : 5 / wQ * wQ = 5 := Rat.div_mul_cancel (by grind)
  obtain ⟨b1, b2⟩ := hv_bd (o := o) y0 (Rat.le_trans y1 yx) 200 0
  obtain ⟨c1, c2⟩ := hv_bd (o := o) (Rat.mul_nonneg (xi_nn n) (xi_nn n)) yx 200 0
  have hf0 : (0 : Rat) ≤ (first : Rat) := Rat.natCast_nonneg
  rw [show (201 : Nat) = 200 + 1 from rfl, e]
  unfold ser4
  rw [Rat.intCast_sub, Rat.intCast_natCast]
  have e200 : ((200 : Nat) : Rat) = 200 := rfl
  rw [e200] at a1 a2
  generalize (alt4 o (sq4 n) 200 0 first : Rat) = A at *
  generalize hv o ((sq4 n : Rat) / wQ) 0 200 = H at *
  generalize hv o (xi n * xi n) 0 200 = K at *
  generalize (sq4 n : Rat) / wQ = y at *
  generalize xi n * xi n = z at *
  generalize tm o (xi n) 0 = t at *
  generalize (first : Rat) = F at *
  generalize 5 / wQ = f at *
  generalize wQ = w at *
  -- F H against t K w
  have k1 : 2 * (K - H) ≤ f := by grind
  have k2 := Rat.mul_le_mul_of_nonneg_left k1 hf0
  have k3 := Rat.mul_le_mul_of_nonneg_right hle (show 0 ≤ f by grind)
  have k4 := Rat.mul_nonneg hf0 m1
  have k5 := Rat.mul_le_mul_of_nonneg_right h1 (show 0 ≤ 1 - K by grind)
  have k6 := Rat.mul_le_mul_of_nonneg_right h2 (show 0 ≤ 1 - K by grind)
  exact ⟨by grind, by grind⟩
def sin4 (k : Nat) : Int := if 2700000 < k then ser4 0 W192 (sq4 (5400000 - k)) else ser4 1 (rad4 k) (sq4 k)
def cos4 (k : Nat) : Int := if 2700000 < k then ser4 1 (rad4 (5400000 - k)) (sq4 (5400000 - k)) else ser4 0 W192 (sq4 k)
theorem d4 : 220 + (d170 + d170 + d200) * wQ ≤ d160 * wQ := by decide +kernel
theorem sin_base {n : Nat} (h : n ≤ 2700000) : Near ((ser4 1 (rad4 n) (sq4 n) : Rat)) (S n * wQ) (d160 * wQ) := by
  obtain ⟨r1, r2⟩ := rad4_R (n := n) (by omega)
  have hl := rad4_lt h
  obtain ⟨a1, a2⟩ := ser4_err (o := 1) (by omega) h (Nat.lt_trans hl (by decide)) (Rat.le_of_lt (natRlt hl)) (by rw [show tm 1 (xi n) 0 = xi n from if_pos rfl]; exact r1) (by rw [show tm 1 (xi n) 0 = xi n from if_pos rfl]; exact r2)
  obtain ⟨b1, b2⟩ := sa_long (o := 1) (by omega) h
  obtain ⟨c1, c2⟩ := Ps_sa h
  obtain ⟨⟨p1, p2⟩, _⟩ := P_near n h
  have hd := d4
  have hw := Rat.le_of_lt wQ_pos
  rw [S_nat]
  generalize sa 1 (xi n) 0 201 = A at *
  generalize sa 1 (xi n) 0 21 = B at *
  generalize Ps n = P at *
  generalize Sn n = Z at *
  generalize d170 = x at *
  generalize d200 = y at *
  generalize d160 = z at *
  have q1 := Rat.mul_le_mul_of_nonneg_right (show A - Z ≤ x + x + y by grind) hw
  have q2 := Rat.mul_le_mul_of_nonneg_right (show Z - A ≤ x + x + y by grind) hw
  generalize wQ = w at *
  exact ⟨by grind, by grind⟩
theorem cos_base {n : Nat} (h : n ≤ 2700000) : Near ((ser4 0 W192 (sq4 n) : Rat)) (C n * wQ) (d160 * wQ) := by
  obtain ⟨a1, a2⟩ := ser4_err (o := 0) (first := W192) (by omega) h (by decide) Rat.le_refl (by rw [show tm 0 (xi n) 0 = 1 from if_neg (by decide)]; show wQ ≤ _; grind) (by rw [show tm 0 (xi n) 0 = 1 from if_neg (by decide)]; show _ ≤ wQ + 2; grind)
  obtain ⟨b1, b2⟩ := sa_long (o := 0) (by omega) h
  obtain ⟨c1, c2⟩ := Pc_sa h
  obtain ⟨_, ⟨p1, p2⟩⟩ := P_near n h
  have hd := d4
  have hw := Rat.le_of_lt wQ_pos
  rw [C_nat]
  generalize sa 0 (xi n) 0 201 = A at *
  generalize sa 0 (xi n) 0 21 = B at *
  generalize Pc n = P at *
  generalize Cn n = Z at *
  generalize d170 = x at *
  generalize d200 = y at *
  generalize d160 = z at *
  have q1 := Rat.mul_le_mul_of_nonneg_right (show A - Z ≤ x + x + y by grind) hw
  have q2 := Rat.mul_le_mul_of_nonneg_right (show Z - A ≤ x + x + y by grind) hw
  generalize wQ = w at *
  exact ⟨by grind, by grind⟩
theorem d4b : d160 * wQ + d148 * wQ ≤ d146 * wQ := by decide +kernel
theorem circ_near {k : Nat} (h : k ≤ 5400000) : Near (sin4 k : Rat) (S k * wQ) (d146 * wQ) ∧ Near (cos4 k : Rat) (C k * wQ) (d146 * wQ) := by
  have hw := Rat.le_of_lt wQ_pos
  have e1 : d160 * wQ ≤ d146 * wQ := by decide +kernel
  unfold sin4 cos4
  by_cases g : 2700000 < k
  · rw [if_pos g, if_pos g]
    have a := S_co ((5400000 - k : Nat) : Int)
    have b := C_co ((5400000 - k : Nat) : Int)
    rw [show 5400000 - ((5400000 - k : Nat) : Int) = k by omega] at a b
    have ca := cos_base (n := 5400000 - k) (by omega)
    have sa' := sin_base (n := 5400000 - k) (by omega)
    have hd := d4b
    obtain ⟨a1, a2⟩ := a
    obtain ⟨b1, b2⟩ := b
    have a3 := Rat.mul_le_mul_of_nonneg_right a1 hw
    have a4 := Rat.mul_le_mul_of_nonneg_right a2 hw
    have b3 := Rat.mul_le_mul_of_nonneg_right b1 hw
    have b4 := Rat.mul_le_mul_of_nonneg_right b2 hw
    exact ⟨(ca.trans (z := S k * wQ) (e := d148 * wQ) ⟨by grind, by grind⟩).mono hd, (sa'.trans (z := C k * wQ) (e := d148 * wQ) ⟨by grind, by grind⟩).mono hd⟩
  · rw [if_neg g, if_neg g]
    exact ⟨(sin_base (by omega)).mono e1, (cos_base (by omega)).mono e1⟩
abbrev g45 : Rat := 1 / ((2 ^ 45 : Nat) : Rat)
def dot (d e w : Int) : Rat := S d * S e + C d * C e * C w
theorem gram (d1 d2 d3 s1 s2 s3 : Int) (p q r : Rat) : 0 ≤ p * p + q * q + r * r + 2 * (p * q) * dot d1 d2 (s1 - s2) + 2 * (q * r) * dot d2 d3 (s2 - s3) + 2 * (p * r) * dot d1 d3 (s1 - s3) := by
  have u1 := unit d1; have u2 := unit d2; have u3 := unit d3
  have v1 := unit s1; have v2 := unit s2; have v3 := unit s3
  unfold dot
  rw [(sub_i s1 s2).1, (sub_i s2 s3).1, (sub_i s1 s3).1]
  have h1 := sq_nn (p * (C d1 * C s1) + q * (C d2 * C s2) + r * (C d3 * C s3))
  have h2 := sq_nn (p * (C d1 * S s1) + q * (C d2 * S s2) + r * (C d3 * S s3))
  have h3 := sq_nn (p * S d1 + q * S d2 + r * S d3)
  generalize C d1 = a1 at *; generalize S d1 = b1 at *; generalize C s1 = c1 at *; generalize S s1 = e1 at *
  generalize C d2 = a2 at *; generalize S d2 = b2 at *; generalize C s2 = c2 at *; generalize S s2 = e2 at *
  generalize C d3 = a3 at *; generalize S d3 = b3 at *; generalize C s3 = c3 at *; generalize S s3 = e3 at *
  have f1 : a1 * a1 * (c1 * c1 + e1 * e1) + b1 * b1 = 1 := by rw [v1]; grind
  have f2 : a2 * a2 * (c2 * c2 + e2 * e2) + b2 * b2 = 1 := by rw [v2]; grind
  have f3 : a3 * a3 * (c3 * c3 + e3 * e3) + b3 * b3 = 1 := by rw [v3]; grind
  have e : (p * (a1 * c1) + q * (a2 * c2) + r * (a3 * c3)) * (p * (a1 * c1) + q * (a2 * c2) + r * (a3 * c3)) + (p * (a1 * e1) + q * (a2 * e2) + r * (a3 * e3)) * (p * (a1 * e1) + q * (a2 * e2) + r * (a3 * e3)) + (p * b1 + q * b2 + r * b3) * (p * b1 + q * b2 + r * b3)
    = p * p * (a1 * a1 * (c1 * c1 + e1 * e1) + b1 * b1) + q * q * (a2 * a2 * (c2 * c2 + e2 * e2) + b2 * b2) + r * r * (a3 * a3 * (c3 * c3 + e3 * e3) + b3 * b3) + 2 * (p * q) * (b1 * b2 + a1 * a2 * (c1 * c2 + e1 * e2)) + 2 * (q * r) * (b2 * b3 + a2 * a3 * (c2 * c3 + e2 * e3)) + 2 * (p * r) * (b1 * b3 + a1 * a3 * (c1 * c3 + e1 * e3)) := by grind
  rw [f1, f2, f3] at e
  have h := Rat.add_nonneg (Rat.add_nonneg h1 h2) h3
  rw [e] at h
  grind
theorem sin1 : (311 : Int) ≤ (sinB 1).1 := by
  have e : sinB 1 = (flS 1 1, false) := sinB_lo (r := 1) (by omega) (by omega) (by omega)
  rw [e]
  have h := (flS_q (o := 1) (n := 1) (by omega) (by omega) (by omega) (by omega)).1
  show 311 ≤ flS 1 1
  rw [← h]
  decide +kernel
abbrev m30 : Rat := 310 / 1073741824
theorem S_pos {x : Int} (h0 : 1 ≤ x) (h1 : x ≤ 10799999) : m30 ≤ S x := by
  have hb := (bnd_holds (n := x) (by omega) (by omega)).1
  have hlo : (311 : Int) ≤ (bnd x).1 := by
    have s1 := sin1
    by_cases hq : x ≤ 5400000
    · rw [bnd_pos (by omega) hq]
      have := (sinB_mono (r := 1) (s := x) (by omega) (by omega) hq).1
      dsimp only; omega
    · have e : turnI x = x := Int.emod_eq_of_lt (by omega) (by omega)
      have f : foldI x = 10800000 - x := by unfold foldI; omega
      unfold bnd
      rw [e, if_neg (by omega), f]
      have := (sinB_mono (r := 1) (s := 10800000 - x) (by omega) (by omega) (by omega)).1
      dsimp only; omega
  have h2 := Rat.intCast_le_intCast.2 hlo
  have e3 : ((311 : Int) : Rat) = 311 := rfl
  rw [e3] at h2
  have hd : d100 ≤ 1 := by decide +kernel
  have em : oR * m30 = 310 := by decide +kernel
  have ho : (0 : Rat) < oR := by decide +kernel
  refine Rat.le_of_mul_le_mul_left (c := oR) ?_ ho
  rw [em]
  generalize oR * S x = z at *
  generalize d100 = d at *
  generalize ((bnd x).1 : Rat) = b at *
  grind
theorem S_0 : S 0 = 0 := Sn_0
theorem C_0 : C 0 = 1 := Cn_0
theorem C_step {m : Int} (h0 : 0 ≤ m) (h1 : m ≤ 10799999) : g45 ≤ C m - C (m + 1) := by
  have e1 : C 1 = c1R := by
    show Cn 1 = c1R
    rw [show (1 : Nat) = 0 + 1 from rfl, Cn_s, Cn_0, Sn_0]; grind
  have e2 : S 1 = s1R := by
    rw [show (1 : Int) = ((0 + 1 : Nat) : Int) from rfl, S_nat, Sn_s, Cn_0, Sn_0]; grind
  have hc := (add_i m 1).1
  rw [hc, e1, e2]
  have k1 : g45 ≤ 1 - c1R := by decide +kernel
  have k2 : g45 + (1 - c1R) ≤ m30 * s1R := by decide +kernel
  have k3 : (0 : Rat) ≤ 1 - c1R := by decide +kernel
  have k4 : (0 : Rat) ≤ s1R := by decide +kernel
  by_cases h : m = 0
  · subst h
    rw [C_0, S_0]
    generalize c1R = c at *
    generalize s1R = s at *
    generalize g45 = g at *
    grind
  · have hs := S_pos (x := m) (by omega) h1
    obtain ⟨c1, c2⟩ := C_abs m
    have b1 := Rat.mul_le_mul_of_nonneg_right hs k4
    have b2 := Rat.mul_le_mul_of_nonneg_right c1 k3
    generalize c1R = c at *
    generalize s1R = s at *
    generalize g45 = g at *
    generalize C m = x at *
    generalize S m = y at *
    generalize m30 = z at *
    grind
theorem C_fall {m : Int} (h0 : 0 ≤ m) : ∀ k : Nat, m + (k + 1) ≤ 10800000 → g45 ≤ C m - C (m + (k + 1))
  | 0, h => by
    have := C_step h0 (by omega)
    rw [show m + (((0 : Nat) : Int) + 1) = m + 1 by omega]; exact this
  | k + 1, h => by
    have ih := C_fall h0 k (by omega)
    have := C_step (m := m + (k + 1)) (by omega) (by omega)
    rw [show m + (((k + 1 : Nat) : Int) + 1) = m + (k + 1) + 1 by omega]
    have hg : (0 : Rat) ≤ g45 := by decide +kernel
    generalize g45 = g at *
    grind
theorem C_lt {m n : Int} (h0 : 0 ≤ m) (h : m < n) (h1 : n ≤ 10800000) : g45 ≤ C m - C n := by
  obtain ⟨k, hk⟩ := nat_of (show 0 ≤ n - m - 1 by omega)
  have := C_fall h0 k (by omega)
  rwa [show m + ((k : Int) + 1) = n by omega] at this
end Go.Proofs.YtjmdeplmenbmmaaGreatDoor.TT
