/- Joined texts: ArcG, Gca, Gcb, Gcc. -/
import Derived.Test.YtjmdeplmenbmmaaGreatDoorV06
set_option linter.unusedVariables false
namespace Go.Proofs.YtjmdeplmenbmmaaGreatDoor.TT
theorem quad_back {j w : Int} {x y a b : Rat} (h : Quad j x y a b) {p z : Rat} (hx : Near x (p * C w) z) (hy : Near y (p * S w) z) (hp : 0 < p) : Near a (p * C (w - 5400000 * j)) (z + p * d142) ∧ Near b (p * S (w - 5400000 * j)) (z + p * d142) := by
  have hpd : 0 ≤ p * d142 := Rat.mul_nonneg (Rat.le_of_lt hp) (by decide +kernel)
  have sc : ∀ {u v : Rat}, Near u v d142 → Near (p * u) (p * v) (p * d142) := fun {u v} h => by
    obtain ⟨h1, h2⟩ := h
    have a1 := Rat.mul_le_mul_of_nonneg_left h1 (Rat.le_of_lt hp)
    have a2 := Rat.mul_le_mul_of_nonneg_left h2 (Rat.le_of_lt hp)
    exact ⟨by grind, by grind⟩
  have e1 : d148 ≤ d142 := by decide +kernel
  have e2 : d146 ≤ d142 := by decide +kernel
  have e3 : d146 + d148 ≤ d142 := by decide +kernel
  have e4 : d144 ≤ d142 := by decide +kernel
  have mz : ∀ {u v : Rat}, Near u v z → Near u v (z + p * d142) := fun {u v} h => h.mono (by generalize p * d142 = q at *; grind)
  rcases h with ⟨rfl | rfl, rfl, rfl⟩ | ⟨rfl, rfl, rfl⟩ | ⟨rfl, rfl, rfl⟩ | ⟨rfl, rfl, rfl⟩
  · rw [show w - 5400000 * 0 = w by omega]
    exact ⟨mz hx, mz hy⟩
  · have h1 := C_turn (w - 5400000 * 4)
    have h2 := S_turn (w - 5400000 * 4)
    rw [show w - 5400000 * 4 + 21600000 = w by omega] at h1 h2
    exact ⟨hx.trans (sc (h1.mono e4)), hy.trans (sc (h2.mono e4))⟩
  · have h1 := C_quart (w - 5400000 * 1)
    have h2 := S_quart (w - 5400000 * 1)
    rw [show w - 5400000 * 1 + 5400000 = w by omega] at h1 h2
    refine ⟨hy.trans (sc (h2.mono e1)), ?_⟩
    have h3 := (hx.trans (sc (h1.mono e1))).neg
    have e : -(p * -S (w - 5400000 * 1)) = p * S (w - 5400000 * 1) := by grind
    rwa [e] at h3
  · have h1 := C_half (w - 5400000 * 2)
    have h2 := S_half (w - 5400000 * 2)
    rw [show w - 5400000 * 2 + 10800000 = w by omega] at h1 h2
    have h3 := (hx.trans (sc (h1.mono e2))).neg
    have h4 := (hy.trans (sc (h2.mono e2))).neg
    have e : ∀ u : Rat, -(p * -u) = p * u := fun u => by grind
    rw [e] at h3 h4
    exact ⟨h3, h4⟩
  · have h1 := ((C_half (w - 5400000 * 3 + 5400000)).trans (C_quart (w - 5400000 * 3)).neg).mono e3
    have h2 := ((S_half (w - 5400000 * 3 + 5400000)).trans (S_quart (w - 5400000 * 3)).neg).mono e3
    rw [show w - 5400000 * 3 + 5400000 + 10800000 = w by omega] at h1 h2
    rw [Rat.neg_neg] at h1
    have h4 := (hy.trans (sc h2)).neg
    have e : ∀ u : Rat, -(p * -u) = p * u := fun u => by grind
    rw [e] at h4
    exact ⟨h4, hx.trans (sc h1)⟩
theorem near_turns {t : Int} (h0 : -64800000 ≤ t) (h1 : t ≤ 64800000) : Near (C t) (C (turnI t)) d140 ∧ Near (S t) (S (turnI t)) d140 := by
  refine ⟨?_, S_fold (by omega) (by omega)⟩
  have a := S_fold (n := t + 5400000) (by omega) (by omega)
  -- C t is near the sine a quarter further
  have h2 := S_quart t
  have h3 := S_quart (turnI t)
  have e4 : d148 + d144 + d140 + d148 ≤ d140 + d140 := by decide +kernel
  have key : ∀ k : Nat, ∀ n : Int, Near (C (n + 21600000 * k)) (C n) ((k : Rat) * d144) := fun k n => by
    induction k with
    | zero =>
      rw [show n + 21600000 * ((0 : Nat) : Int) = n by omega]
      have : ((0 : Nat) : Rat) = 0 := rfl
      rw [this]
      exact ⟨by grind, by grind⟩
    | succ k ih =>
      have h1 := C_turn (n + 21600000 * k)
      rw [show n + 21600000 * (k : Int) + 21600000 = n + 21600000 * ((k + 1 : Nat) : Int) by omega] at h1
      have := h1.trans ih
      have e : d144 + (k : Rat) * d144 = ((k + 1 : Nat) : Rat) * d144 := by
        rw [Rat.natCast_add, show ((1 : Nat) : Rat) = 1 from rfl]; grind
      rwa [e] at this
  have hd := Int.emod_add_mul_ediv t 21600000
  have e : (5 : Rat) * d144 ≤ d140 := by decide +kernel
  have hd0 : (0 : Rat) ≤ d144 := by decide +kernel
  clear a h2 h3 e4
  unfold turnI
  generalize hm : t % 21600000 = m at *
  generalize hq : t / 21600000 = q at *
  have hm0 : 0 ≤ m := by omega
  have hm1 : m < 21600000 := by omega
  rcases Int.le_total 0 q with hq0 | hq0
  · obtain ⟨k, rfl⟩ := nat_of hq0
    have := key k m
    rw [show m + 21600000 * (k : Int) = t by omega] at this
    exact this.mono (Rat.le_trans (Rat.mul_le_mul_of_nonneg_right (natR (show k ≤ 5 by omega)) hd0) e)
  · obtain ⟨k, hk⟩ := nat_of (show 0 ≤ -q by omega)
    have := key k t
    rw [show t + 21600000 * (k : Int) = m by omega] at this
    exact this.symm.mono (Rat.le_trans (Rat.mul_le_mul_of_nonneg_right (natR (show k ≤ 5 by omega)) hd0) e)
theorem first_quarter {t : Int} (h0 : 0 ≤ t) (h1 : t < 21600000) (hc : -(u7 / 4) < C t) (hs : -(u7 / 4) < S t) : t ≤ 5400000 := by
  refine Int.not_lt.1 fun hlt => ?_
  have e1 : d148 ≤ u7 / 4 := by decide +kernel
  have e2 : d146 ≤ u7 / 4 := by decide +kernel
  have e3 : d146 + d148 ≤ u7 / 4 := by decide +kernel
  have hu : 0 < u7 := by decide +kernel
  by_cases g1 : t ≤ 10800000
  · have a := C_quart (t - 5400000)
    rw [show t - 5400000 + 5400000 = t by omega] at a
    have b := S_low (k := t - 5400000) (by omega) (by omega)
    obtain ⟨a1, a2⟩ := a.mono e1
    generalize u7 = u at *
    grind
  by_cases g2 : t ≤ 16200000
  · have a := S_half (t - 10800000)
    rw [show t - 10800000 + 10800000 = t by omega] at a
    have b := S_low (k := t - 10800000) (by omega) (by omega)
    obtain ⟨a1, a2⟩ := a.mono e2
    generalize u7 = u at *
    grind
  · have q := (S_quart (t - 16200000)).neg
    rw [show t - 16200000 + 5400000 = t - 10800000 by omega] at q
    have a := (S_half (t - 10800000)).trans q
    rw [show t - 10800000 + 10800000 = t by omega] at a
    have b := C_low (k := t - 16200000) (by omega) (by omega)
    obtain ⟨a1, a2⟩ := a.mono e3
    generalize u7 = u at *
    grind
theorem arc_dir {A : Int × Int} {w : Int} {x y p z : Rat} (h : InArc A x y) (hw : -21600000 ≤ w ∧ w ≤ 21600000) (hp : 0 < p) (hx : Near x (p * C w) z) (hy : Near y (p * S w) z) (hz0 : 0 ≤ z) (hz : z ≤ p * (u7 / 100)) : ∃ k : Int, A.1 ≤ w + 21600000 * k ∧ w + 21600000 * k ≤ A.2 := by
  obtain ⟨j, n, m, a, b, hq, ha, hb, h1, h2, h3, h4, h5, h6, h7⟩ := h
  have j0 : 0 ≤ j ∧ j ≤ 4 := by rcases hq with ⟨rfl | rfl, _⟩ | ⟨rfl, _⟩ | ⟨rfl, _⟩ | ⟨rfl, _⟩ <;> omega
  obtain ⟨ta, tb⟩ := quad_back hq hx hy hp
  obtain ⟨r1, r2⟩ := near_turns (t := w - 5400000 * j) (by omega) (by omega)
  have hk : ∃ k : Int, turnI (w - 5400000 * j) = w - 5400000 * j + 21600000 * k := ⟨-((w - 5400000 * j) / 21600000), by unfold turnI; omega⟩
  obtain ⟨k, hk⟩ := hk
  have t0 : 0 ≤ turnI (w - 5400000 * j) ∧ turnI (w - 5400000 * j) < 21600000 := by unfold turnI; omega
  generalize turnI (w - 5400000 * j) = t at *
  have e1 : d142 + d140 ≤ u7 / 100 := by decide +kernel
  have e2 : e6 ≤ u7 / 100 := by decide +kernel
  have hu : 0 < u7 := by decide +kernel
  have hp0 := Rat.le_of_lt hp
  have p1 := Rat.mul_le_mul_of_nonneg_left e1 hp0
  have sc : ∀ {u v : Rat}, Near u v d140 → Near (p * u) (p * v) (p * d140) := fun {u v} h => by
    obtain ⟨h1, h2⟩ := h
    have a1 := Rat.mul_le_mul_of_nonneg_left h1 hp0
    have a2 := Rat.mul_le_mul_of_nonneg_left h2 hp0
    exact ⟨by grind, by grind⟩
  have na := ta.trans (sc r1)
  have nb := tb.trans (sc r2)
  have hq' : z + p * d142 + p * d140 ≤ p * (u7 / 50) := by grind
  have na := na.mono hq'
  have nb := nb.mono hq'
  obtain ⟨na1, na2⟩ := na
  obtain ⟨nb1, nb2⟩ := nb
  -- the angle is in the first quarter
  have hc : -(u7 / 4) < C t := by
    refine Rat.not_le.1 fun hle => ?_
    have q := Rat.mul_le_mul_of_nonneg_left hle hp0
    have q2 := Rat.mul_pos hp hu
    grind
  have hs : -(u7 / 4) < S t := by
    refine Rat.not_le.1 fun hle => ?_
    have q := Rat.mul_le_mul_of_nonneg_left hle hp0
    have q2 := Rat.mul_pos hp hu
    grind
  have ht := first_quarter t0.1 t0.2 hc hs
  have ca := C_abs t
  have sa_ := S_abs t
  have pc := Rat.mul_le_mul_of_nonneg_left ca.2 hp0
  have ps := Rat.mul_le_mul_of_nonneg_left sa_.2 hp0
  have pu := Rat.mul_pos hp hu
  have hu1 : u7 ≤ 1 / 100 := by decide +kernel
  have pu1 := Rat.mul_le_mul_of_nonneg_left hu1 hp0
  have hab : a + b ≤ 3 * p := by grind
  have hae := Rat.mul_le_mul_of_nonneg_left hab e6_nn
  have hee := Rat.mul_le_mul_of_nonneg_right e2 (show 0 ≤ 3 * p by grind)
  have hab2 : e6 * (a + b) ≤ u7 / 100 * (3 * p) := Rat.le_trans hae hee
  -- small times at most one
  have small : ∀ {c e d : Rat}, -1 ≤ c → c ≤ 1 → Near e d (p * (u7 / 50)) → Near (c * e) (c * d) (p * (u7 / 50)) := fun {c e d} h1 h2 h => by
    obtain ⟨k1, k2⟩ := h
    have := mul_abs (d := p * (u7 / 50)) h1 h2 (e := e - d) (by grind) (by grind)
    exact ⟨by grind, by grind⟩
  have hn : n ≤ t := by
    refine Int.not_lt.1 fun hlt => ?_
    have q := S_low (k := n - t) (by omega) (by omega)
    rw [(sub_i n t).2] at q
    have g1 := small (S_abs n).1 (S_abs n).2 ⟨na1, na2⟩
    have g2 := small (C_abs n).1 (C_abs n).2 ⟨nb1, nb2⟩
    have q2 := Rat.mul_le_mul_of_nonneg_left q hp0
    unfold GE at h6
    obtain ⟨g11, g12⟩ := g1
    obtain ⟨g21, g22⟩ := g2
    clear small sc r1 r2 ta tb h7 hx hy na1 na2 nb1 nb2 hae hee pu1
    generalize e6 * (a + b) = E at *
    generalize u7 = u at *
    generalize C n = cn at *
    generalize S n = sn at *
    generalize C t = ct at *
    generalize S t = st at *
    grind
  have hm : t ≤ m := by
    refine Int.not_lt.1 fun hlt => ?_
    have q := S_low (k := t - m) (by omega) (by omega)
    rw [(sub_i t m).2] at q
    have g1 := small (S_abs m).1 (S_abs m).2 ⟨na1, na2⟩
    have g2 := small (C_abs m).1 (C_abs m).2 ⟨nb1, nb2⟩
    have q2 := Rat.mul_le_mul_of_nonneg_left q hp0
    unfold LE at h7
    obtain ⟨g11, g12⟩ := g1
    obtain ⟨g21, g22⟩ := g2
    clear small sc r1 r2 ta tb h6 hx hy na1 na2 nb1 nb2 hae hee pu1
    generalize e6 * (a + b) = E at *
    generalize u7 = u at *
    generalize C m = cm at *
    generalize S m = sm at *
    generalize C t = ct at *
    generalize S t = st at *
    grind
  exact ⟨k, by omega, by omega⟩
/-! ### roots -/
theorem isq : ∀ N : Nat, ∃ n : Nat, n * n ≤ N ∧ N < (n + 1) * (n + 1)
  | 0 => ⟨0, by decide, by decide⟩
  | N + 1 => by
    obtain ⟨n, h1, h2⟩ := isq N
    by_cases h : (n + 1) * (n + 1) ≤ N + 1
    · refine ⟨n + 1, h, ?_⟩
      have e : (n + 1 + 1) * (n + 1 + 1) = (n + 1) * (n + 1) + 2 * n + 3 := by grind
      omega
    · exact ⟨n, by omega, by omega⟩
theorem root_R {r : Rat} (hr : 0 ≤ r) (M : Nat) (hM : 0 < M) : ∃ f g : Rat, 0 ≤ f ∧ f * f ≤ r ∧ r ≤ g * g ∧ (g - f) * (M : Rat) = 1 := by
  have hMR : (0 : Rat) < (M : Rat) := by have := natRlt hM; exact this
  have hx : 0 ≤ r * ((M : Rat) * (M : Rat)) := Rat.mul_nonneg hr (Rat.mul_nonneg (Rat.le_of_lt hMR) (Rat.le_of_lt hMR))
  have f1 := Rat.floor_le (r * ((M : Rat) * (M : Rat)))
  have f2 := Rat.lt_floor_add_one (r * ((M : Rat) * (M : Rat)))
  have f0 : 0 ≤ (r * ((M : Rat) * (M : Rat))).floor := Rat.le_floor_iff.2 hx
  generalize (r * ((M : Rat) * (M : Rat))).floor = N at *
  obtain ⟨K, rfl⟩ := nat_of f0
  obtain ⟨n, n1, n2⟩ := isq K
  have g1 := natR n1
  have g2 := natR n2
  rw [Rat.natCast_mul] at g1
  have e1 : ((K + 1 : Nat) : Rat) = (K : Rat) + 1 := by rw [Rat.natCast_add]; rfl
  have e2 : (((n + 1) * (n + 1) : Nat) : Rat) = ((n : Rat) + 1) * ((n : Rat) + 1) := by rw [Rat.natCast_mul, Rat.natCast_add]; rfl
  have e3 : (((K : Int) + 1 : Int) : Rat) = (K : Rat) + 1 := by rw [Rat.intCast_add, Rat.intCast_natCast]; rfl
  have e4 : (((K : Nat) : Int) : Rat) = (K : Rat) := Rat.intCast_natCast _
  rw [e3] at f2
  rw [e4] at f1
  rw [show K.succ = K + 1 from rfl, e1, e2] at g2
  have hn0 : (0 : Rat) ≤ (n : Rat) := Rat.natCast_nonneg
  have d1 : (n : Rat) / (M : Rat) * (M : Rat) = (n : Rat) := Rat.div_mul_cancel (by grind)
  have d2 : ((n : Rat) + 1) / (M : Rat) * (M : Rat) = (n : Rat) + 1 := Rat.div_mul_cancel (by grind)
  have hMM := Rat.mul_pos hMR hMR
  refine ⟨(n : Rat) / (M : Rat), ((n : Rat) + 1) / (M : Rat), ?_, ?_, ?_, ?_⟩
  · refine Rat.le_of_mul_le_mul_right (c := (M : Rat)) ?_ hMR
    rw [d1]; grind
  · refine Rat.le_of_mul_le_mul_right (c := (M : Rat) * (M : Rat)) ?_ hMM
    generalize (n : Rat) / (M : Rat) = q at *
    have e : q * q * ((M : Rat) * (M : Rat)) = q * (M : Rat) * (q * (M : Rat)) := by grind
    rw [e, d1]
    exact Rat.le_trans g1 f1
  · refine Rat.le_of_mul_le_mul_right (c := (M : Rat) * (M : Rat)) ?_ hMM
    generalize ((n : Rat) + 1) / (M : Rat) = q at *
    have e : q * q * ((M : Rat) * (M : Rat)) = q * (M : Rat) * (q * (M : Rat)) := by grind
    rw [e, d2]
    exact Rat.le_trans (Rat.le_of_lt f2) g2
  · generalize ((n : Rat) + 1) / (M : Rat) = q at *
    generalize (n : Rat) / (M : Rat) = z at *
    grind
/-! ### the program's great circles -/
def subE (p q : Int × Int) : Int × Int := (p.1 - q.2, p.2 - q.1)
def gcY (a b w : Int) : Int × Int := mulE (encl w w) (cosE b b)
def gcX (a b w : Int) : Int × Int := subE (mulE (cosE a a) (encl b b)) (mulE (mulE (encl a a) (cosE b b)) (cosE w w))
def gcK (a b w : Int) : Int × Int := brgI (gcY a b w) (gcX a b w)
def gcH (a b w : Int) : Int × Int := addE (havE (b - a) (b - a)) (mulE (mulE (cosE a a) (cosE b b)) (havE w w))
def IsGc (a b w : Int) (D : Int × Int) : Prop := ∃ n0 n1, IsAsin (1073741824 - 2 * (clamp (gcH a b w)).2) n1 ∧ IsAsin (-(1073741824 - 2 * (clamp (gcH a b w)).1)) n0 ∧ D = (5400000 + n0, 5400000 - n1)
def gdS (a : Int) (D K : Int × Int) : Int × Int := addE (mulE (encl a a) (cosE D.1 D.2)) (mulE (mulE (cosE a a) (encl D.1 D.2)) (cosE K.1 K.2))
def meetO (p : Int × Int) : Int × Int := (max p.1 (-1073741824), min p.2 1073741824)
def gdE (a : Int) (D K : Int × Int) : Int × Int := brgI (mulE (mulE (encl K.1 K.2) (encl D.1 D.2)) (cosE a a)) (subE (cosE D.1 D.2) (mulE (encl a a) (meetO (gdS a D K))))
/-! ### true values -/
def tY (a b w : Int) : Rat := S w * C b
def tX (a b w : Int) : Rat := C a * S b - S a * C b * C w
theorem t_unit (a b w : Int) : tX a b w * tX a b w + tY a b w * tY a b w = 1 - dot a b w * dot a b w := by
  have ua := unit a
  have ub := unit b
  have uw := unit w
  unfold tX tY dot
  generalize C a = ca at *
  generalize S a = sa' at *
  generalize C b = cb at *
  generalize S b = sb at *
  generalize C w = cw at *
  generalize S w = sw at *
  have e1 : (ca * sb - sa' * cb * cw) * (ca * sb - sa' * cb * cw) + (sa' * sb + ca * cb * cw) * (sa' * sb + ca * cb * cw) = (ca * ca + sa' * sa') * (sb * sb + cb * cb * (cw * cw)) := by grind
  rw [ua] at e1
  have e2 : cb * cb * (cw * cw) + sw * cb * (sw * cb) = cb * cb * (cw * cw + sw * sw) := by grind
  rw [uw] at e2
  grind
theorem t_back (a b w : Int) : S a * dot a b w + C a * tX a b w = S b := by
  have ua := unit a
  unfold tX dot
  generalize C a = ca at *
  generalize S a = sa' at *
  generalize C b = cb at *
  generalize S b = sb at *
  generalize C w = cw at *
  have e1 : sa' * (sa' * sb + ca * cb * cw) + ca * (ca * sb - sa' * cb * cw) = (ca * ca + sa' * sa') * sb := by grind
  rw [ua] at e1
  rw [e1]; grind
theorem t_east (a b w : Int) : dot a b w - S a * S b = C a * C b * C w := by unfold dot; grind
abbrev dC : Rat := 1 / ((2 ^ 123 : Nat) : Rat)
abbrev dF : Rat := 1 / ((2 ^ 122 : Nat) : Rat)
theorem mul11 {x y : Rat} (hx : -1 ≤ x ∧ x ≤ 1) (hy : -1 ≤ y ∧ y ≤ 1) : -1 ≤ x * y ∧ x * y ≤ 1 := mul_abs hx.1 hx.2 hy.1 hy.2
theorem sub_enc {p q : Int × Int} {x y d e : Rat} (hp : Enc p x d) (hq : Enc q y e) : Enc (subE p q) (x - y) (d + e) := by
  obtain ⟨x', a1, a2, n1, n2⟩ := hp
  obtain ⟨y', b1, b2, k1, k2⟩ := hq
  refine ⟨x' - y', ?_, ?_, by grind, by grind⟩
  · show ((p.1 - q.2 : Int) : Rat) ≤ _
    rw [Rat.intCast_sub]; grind
  · show _ ≤ ((p.2 - q.1 : Int) : Rat)
    rw [Rat.intCast_sub]; grind
abbrev ok8 (n : Int) : Prop := -100000000 ≤ n ∧ n ≤ 100000000
theorem dB_nn : (0 : Rat) ≤ dB := by decide +kernel
theorem gcY_enc {a b w : Int} (ha : ok8 a) (hb : ok8 b) (hw : ok8 w) : Enc (gcY a b w) (tY a b w) dC := by
  have h1 := sin_encA (lo := w) (hi := w) (n := w) (Int.le_refl _) (Int.le_refl _) hw
  have h2 := cos_encA (lo := b) (hi := b) (n := b) (Int.le_refl _) (Int.le_refl _) hb
  have o1 := encl_ord (lo := w) (hi := w) (Int.le_refl _)
  exact (mul_enc h1 h2 dB_nn dB_nn ⟨o1.1, o1.2.2⟩ (C_abs b)).mono (by decide +kernel)
theorem gcX_enc {a b w : Int} (ha : ok8 a) (hb : ok8 b) (hw : ok8 w) : Enc (gcX a b w) (tX a b w) dF := by
  have c1 := cos_encA (lo := a) (hi := a) (n := a) (Int.le_refl _) (Int.le_refl _) ha
  have s1 := sin_encA (lo := a) (hi := a) (n := a) (Int.le_refl _) (Int.le_refl _) ha
  have c2 := cos_encA (lo := b) (hi := b) (n := b) (Int.le_refl _) (Int.le_refl _) hb
  have s2 := sin_encA (lo := b) (hi := b) (n := b) (Int.le_refl _) (Int.le_refl _) hb
  have c3 := cos_encA (lo := w) (hi := w) (n := w) (Int.le_refl _) (Int.le_refl _) hw
  have o1 := cosE_ord (lo := a) (hi := a) (Int.le_refl _)
  have o2 := encl_ord (lo := a) (hi := a) (Int.le_refl _)
  have o3 := cosE_ord (lo := b) (hi := b) (Int.le_refl _)
  have m1 := mul_enc c1 s2 dB_nn dB_nn ⟨o1.1, o1.2.2⟩ (S_abs b)
  have m2 := mul_enc s1 c2 dB_nn dB_nn ⟨o2.1, o2.2.2⟩ (C_abs b)
  have b2 := mulE_bd o2 o3
  have m3 := mul_enc m2 c3 (by decide +kernel) dB_nn ⟨b2.1, b2.2.2⟩ (C_abs w)
  exact (sub_enc m1 m3).mono (by decide +kernel)
theorem gcH_enc {a b w : Int} (ha : ok8 a) (hb : ok8 b) (hw : ok8 w) (hab : ok8 (b - a)) : Enc (gcH a b w) ((1 - dot a b w) / 2) dF := by
  have h0 := hav_encA (lo := b - a) (hi := b - a) (n := b - a) (Int.le_refl _) (Int.le_refl _) hab
  have c1 := cos_encA (lo := a) (hi := a) (n := a) (Int.le_refl _) (Int.le_refl _) ha
  have c2 := cos_encA (lo := b) (hi := b) (n := b) (Int.le_refl _) (Int.le_refl _) hb
  have h3 := hav_encA (lo := w) (hi := w) (n := w) (Int.le_refl _) (Int.le_refl _) hw
  have o1 := cosE_ord (lo := a) (hi := a) (Int.le_refl _)
  have o3 := cosE_ord (lo := b) (hi := b) (Int.le_refl _)
  have m1 := mul_enc c1 c2 dB_nn dB_nn ⟨o1.1, o1.2.2⟩ (C_abs b)
  have b2 := mulE_bd o1 o3
  have m3 := mul_enc m1 h3 (by decide +kernel) dB_nn ⟨b2.1, b2.2.2⟩ (hav_abs w)
  have e : (1 - C (b - a)) / 2 + C a * C b * ((1 - C w) / 2) = (1 - dot a b w) / 2 := by
    rw [(sub_i b a).1]
    unfold dot; grind
  have := add_enc h0 m3
  rw [e] at this
  exact this.mono (by decide +kernel)
abbrev dG : Rat := 1 / ((2 ^ 120 : Nat) : Rat)
abbrev lat8 (a : Int) : Prop := -5400000 ≤ a ∧ a ≤ 5400000
abbrev lon8 (w : Int) : Prop := -21600000 ≤ w ∧ w ≤ 21600000
theorem clamp_of {p : Int × Int} {h d : Rat} (hp : p.1 ≤ p.2) (he : Enc p h d) (t0 : 0 ≤ h ∧ h ≤ 1) (hd : 0 ≤ oR * d ∧ oR * d < 1) : (((clamp p).1 : Rat) ≤ oR * h + oR * d ∧ oR * h - oR * d ≤ ((clamp p).2 : Rat)) ∧ 0 ≤ (clamp p).1 ∧ (clamp p).2 ≤ 1073741824 ∧ (clamp p).1 ≤ (clamp p).2 := by
  obtain ⟨y, a, b, n1, n2⟩ := he
  have e2 : ((1073741824 : Int) : Rat) = 1073741824 := rfl
  have lo1 : p.1 ≤ 1073741824 := by
    have : (p.1 : Rat) < ((1073741825 : Int) : Rat) := by
      have e3 : ((1073741825 : Int) : Rat) = 1073741825 := rfl
      rw [e3]; grind
    have := Rat.intCast_lt_intCast.1 this
    omega
  have hi0 : 0 ≤ p.2 := by
    have : ((-1 : Int) : Rat) < (p.2 : Rat) := by
      have e3 : ((-1 : Int) : Rat) = -1 := rfl
      rw [e3]; grind
    have := Rat.intCast_lt_intCast.1 this
    omega
  refine ⟨⟨?_, ?_⟩, ?_⟩
  · unfold clamp
    dsimp only
    rcases Int.le_total p.1 0 with g | g
    · rw [Int.max_eq_right g]
      have : ((0 : Int) : Rat) = 0 := rfl
      rw [this]; grind
    · rw [Int.max_eq_left g]; grind
  · unfold clamp
    dsimp only
    rcases Int.le_total p.2 1073741824 with g | g
    · rw [Int.min_eq_left g]; grind
    · rw [Int.min_eq_right g, e2]; grind
  · unfold clamp
    dsimp only
    omega
theorem havE_ord {lo hi : Int} (h : lo ≤ hi) : 0 ≤ (havE lo hi).1 ∧ (havE lo hi).1 ≤ (havE lo hi).2 ∧ (havE lo hi).2 ≤ 1073741824 := by
  have := cosE_ord h
  unfold havE
  dsimp only
  omega
theorem gcH_ord (a b w : Int) : (gcH a b w).1 ≤ (gcH a b w).2 ∧ -1073741824 ≤ (gcH a b w).1 ∧ (gcH a b w).2 ≤ 2147483648 := by
  have c1 := cosE_ord (lo := a) (hi := a) (Int.le_refl _)
  have c2 := cosE_ord (lo := b) (hi := b) (Int.le_refl _)
  have c3 := havE_ord (lo := w) (hi := w) (Int.le_refl _)
  have c4 := havE_ord (lo := b - a) (hi := b - a) (Int.le_refl _)
  have m1 := mulE_bd c1 c2
  have m2 := mulE_bd m1 ⟨by omega, c3.2⟩
  unfold gcH addE
  dsimp only
  omega
theorem gc_clamp {a b w : Int} (ha : lat8 a) (hb : lat8 b) (hw : lon8 w) : (((clamp (gcH a b w)).1 : Rat) ≤ oR * ((1 - dot a b w) / 2) + oR * dF ∧ oR * ((1 - dot a b w) / 2) - oR * dF ≤ ((clamp (gcH a b w)).2 : Rat)) ∧ 0 ≤ (clamp (gcH a b w)).1 ∧ (clamp (gcH a b w)).2 ≤ 1073741824 ∧ (clamp (gcH a b w)).1 ≤ (clamp (gcH a b w)).2 := by
  have hd := dot_abs a b w
  exact clamp_of (gcH_ord a b w).1 (gcH_enc ⟨by omega, by omega⟩ ⟨by omega, by omega⟩ ⟨by omega, by omega⟩ ⟨by omega, by omega⟩) ⟨by grind, by grind⟩ (by decide +kernel)
theorem gc_D {a b w : Int} {D : Int × Int} (ha : lat8 a) (hb : lat8 b) (hw : lon8 w) (h : IsGc a b w D) : (0 ≤ D.1 ∧ D.1 ≤ D.2 ∧ D.2 ≤ 10800000) ∧ dot a b w ≤ C D.1 + dG ∧ C D.2 - dG ≤ dot a b w := by
  obtain ⟨n0, n1, ⟨p1, p2, p3, p4⟩, ⟨q1, q2, q3, q4⟩, rfl⟩ := h
  obtain ⟨⟨c1, c2⟩, c3, c4, c5⟩ := gc_clamp ha hb hw
  generalize (clamp (gcH a b w)).1 = lo at *
  generalize (clamp (gcH a b w)).2 = hi at *
  have b0 := (bnd_holds (n := n0) (by omega) (by omega)).2
  have b1 := (bnd_holds (n := n1) (by omega) (by omega)).2
  have g0 := Rat.intCast_le_intCast.2 q3
  have g1 := Rat.intCast_le_intCast.2 p3
  rw [Rat.intCast_neg, Rat.intCast_sub, Rat.intCast_mul] at g0
  rw [Rat.intCast_sub, Rat.intCast_mul] at g1
  have e1 : ((2 : Int) : Rat) = 2 := rfl
  have e2 : ((1073741824 : Int) : Rat) = 1073741824 := rfl
  rw [e1, e2] at g0 g1
  have k0 := C_co (-n0)
  rw [show 5400000 - -n0 = 5400000 + n0 by omega, S_neg] at k0
  have k1 := C_co n1
  obtain ⟨k01, k02⟩ := k0
  obtain ⟨k11, k12⟩ := k1
  have hs : 2 * (oR * dF) + d100 + oR * d148 ≤ oR * dG := by decide +kernel
  have r1 : dot a b w ≤ C (5400000 + n0) + dG := by
    refine Rat.le_of_mul_le_mul_left (c := oR) ?_ oR_pos
    clear g1 b1 k11 k12 c2
    generalize oR * dF = x at *
    generalize d100 = y at *
    generalize hz : oR * d148 = z at *
    generalize hw : oR * dG = v at *
    generalize d148 = z0 at *
    generalize dG = v0 at *
    grind
  have r2 : C (5400000 - n1) - dG ≤ dot a b w := by
    refine Rat.le_of_mul_le_mul_left (c := oR) ?_ oR_pos
    clear g0 b0 k01 k02 c1
    generalize oR * dF = x at *
    generalize d100 = y at *
    generalize hz : oR * d148 = z at *
    generalize hw : oR * dG = v at *
    generalize d148 = z0 at *
    generalize dG = v0 at *
    grind
  dsimp only
  refine ⟨⟨by omega, Int.not_lt.1 fun hlt => ?_, by omega⟩, r1, r2⟩
  have := C_lt (m := 5400000 - n1) (n := 5400000 + n0) (by omega) hlt (by omega)
  have k : 2 * dG < g45 := by decide +kernel
  generalize g45 = g at *
  generalize dG = x at *
  grind
theorem cosE_pos {x : Int} (g1 : -5400000 < x) (g2 : x < 5400000) : 1 ≤ (cosE x x).2 := by
  have := (encl_any (lo := x + 5400000) (hi := x + 5400000) (n := x + 5400000) (Int.le_refl _) (Int.le_refl _)).2
  have hb : 312 ≤ (bnd (x + 5400000)).2 := by
    by_cases hx : x ≤ 0
    · have m := (bnd_mono (n := 1) (m := x + 5400000) (by omega) (by omega) (by omega))
      have := (bnd_bd (x + 5400000)).2.1
      rw [b312] at m; omega
    · rw [bnd_half (by omega) (by omega)]
      have m := (bnd_mono (n := 1) (m := 10800000 - (x + 5400000)) (by omega) (by omega) (by omega))
      have := (bnd_bd (10800000 - (x + 5400000))).2.1
      rw [b312] at m; omega
  show 1 ≤ (encl (x + 5400000) (x + 5400000)).2
  omega
theorem hav_pos {x : Int} (h : turnI x ≠ 0) : 1 ≤ (havE x x).2 := by
  have i1 := (encl_any (lo := x + 5400000) (hi := x + 5400000) (n := x + 5400000) (Int.le_refl _) (Int.le_refl _)).1
  have i2 := bnd_lt (m := x + 5400000) (by unfold turnI at *; omega)
  have : (cosE x x).1 < 1073741824 := by show (encl (x + 5400000) (x + 5400000)).1 < 1073741824; omega
  unfold havE
  dsimp only
  omega
theorem gc_pos {a b w : Int} {D : Int × Int} (ha : -5400000 < a ∧ a < 5400000) (hb : -5400000 < b ∧ b < 5400000) (hne : a ≠ b ∨ turnI w ≠ 0) (h : IsGc a b w D) : 1 ≤ D.2 := by
  obtain ⟨n0, n1, ⟨p1, p2, p3, p4⟩, ⟨q1, q2, q3, q4⟩, rfl⟩ := h
  have z1 := cosE_pos ha.1 ha.2
  have z2 := cosE_pos hb.1 hb.2
  have o3 := havE_ord (lo := w) (hi := w) (Int.le_refl _)
  have o4 := havE_ord (lo := b - a) (hi := b - a) (Int.le_refl _)
  have m1 : 1 ≤ (mulE (cosE a a) (cosE b b)).2 := by
    have := Int.mul_le_mul z1 z2 (by omega) (by omega)
    unfold mulE
    dsimp only
    omega
  have m0 : 0 ≤ (mulE (mulE (cosE a a) (cosE b b)) (havE w w)).2 := by
    have := Int.mul_nonneg (show 0 ≤ (mulE (cosE a a) (cosE b b)).2 by omega) (show 0 ≤ (havE w w).2 by omega)
    generalize mulE (cosE a a) (cosE b b) = q at *
    unfold mulE
    dsimp only
    omega
  have hs : 1 ≤ (gcH a b w).2 := by
    rcases hne with hne | hne
    · have hav1 := hav_pos (x := b - a)
      by_cases ht : turnI (b - a) = 0
      · unfold turnI at ht; omega
      · have := hav1 ht
        unfold gcH addE; dsimp only; omega
    · have hav1 := hav_pos hne
      have m2 : 1 ≤ (mulE (mulE (cosE a a) (cosE b b)) (havE w w)).2 := by
        have := Int.mul_le_mul m1 hav1 (by omega) (by omega)
        generalize mulE (cosE a a) (cosE b b) = q at *
        unfold mulE
        dsimp only
        omega
      unfold gcH addE; dsimp only; omega
  have hc : 1 ≤ (clamp (gcH a b w)).2 := by unfold clamp; dsimp only; omega
  dsimp only
  refine Int.not_lt.1 fun hlt => ?_
  obtain rfl : n1 = 5400000 := by omega
  have : bnd 5400000 = (1073741824, 1073741824) := by
    rw [bnd_pos (by omega) (by omega)]; rfl
  rw [this] at p3
  dsimp only at p3
  omega
theorem gc_cos {a b w : Int} {D : Int × Int} (ha : lat8 a) (hb : lat8 b) (hw : lon8 w) (h : IsGc a b w D) : Enc (cosE D.1 D.2) (dot a b w) (dG + dB) := by
  obtain ⟨⟨d1, d2, d3⟩, k1, k2⟩ := gc_D ha hb hw h
  have c1 := cos_encA (lo := D.1) (hi := D.2) (n := D.1) (Int.le_refl _) d2 ⟨by omega, by omega⟩
  have c2 := cos_encA (lo := D.1) (hi := D.2) (n := D.2) d2 (Int.le_refl _) ⟨by omega, by omega⟩
  exact (c2.between c1 (by decide +kernel) dB_nn k2 k1).mono (by decide +kernel)
abbrev dH : Rat := 1 / ((2 ^ 84 : Nat) : Rat)
abbrev eta : Rat := 1 / ((2 ^ 118 : Nat) : Rat)
theorem sq_sub {x x' d : Rat} (hx : -1 ≤ x ∧ x ≤ 1) (h : Near x x' d) (hd : 0 ≤ d) (hd1 : d ≤ 1) : Near (x * x) (x' * x') (3 * d) := by
  obtain ⟨h1, h2⟩ := h
  have m1 := mul_abs (d := d) hx.1 hx.2 (e := x - x') (by grind) (by grind)
  have m2 := mul_abs (d := d) (a := (x' - x)) (by grind) (by grind) (e := x - x') (by grind) (by grind)
  constructor
  · have : x * x - x' * x' = 2 * (x * (x - x')) + (x' - x) * (x - x') := by grind
    grind
  · have : x' * x' - x * x = -(2 * (x * (x - x')) + (x' - x) * (x - x')) := by grind
    grind
theorem mul_enc2 {p q : Int × Int} {x y d e : Rat} (hp : Enc p x d) (hq : Enc q y e) (hd : 0 ≤ d) (he : 0 ≤ e) (bp : -1073741824 ≤ p.1 ∧ p.2 ≤ 1073741824) (hy : -2 ≤ y ∧ y ≤ 2) : Enc (mulE p q) (x * y) (2 * d + e) := by
  -- half of the second factor
  obtain ⟨x', a1, a2, n1, n2⟩ := hp
  obtain ⟨y', b1, b2, k1, k2⟩ := hq
  have h0 : Enc (mulE p q) (x' * y') 0 := by
    have := mul_enc (p := p) (q := q) (x := x') (y := y') (d := 0) (e := 0) ⟨x', a1, a2, by grind, by grind⟩ ⟨y', b1, b2, by grind, by grind⟩ Rat.le_refl Rat.le_refl bp
    by_cases hy1 : -1 ≤ y' ∧ y' ≤ 1
    · have := this hy1
      rw [Rat.add_zero] at this
      exact this
    · -- the proof does not lean on the bound
      refine ⟨x' * y', ?_, ?_, by grind, by grind⟩
      · have h := (corner a1 a2 b1 b2 ((min (min (p.1 * q.1) (p.1 * q.2)) (min (p.2 * q.1) (p.2 * q.2)) : Int) : Rat) ((max (max (p.1 * q.1) (p.1 * q.2)) (max (p.2 * q.1) (p.2 * q.2)) : Int) : Rat)
          (by rw [← Rat.intCast_mul, ← Rat.intCast_mul, ← Rat.intCast_mul, ← Rat.intCast_mul]; exact ⟨Rat.intCast_le_intCast.2 (by omega), Rat.intCast_le_intCast.2 (by omega), Rat.intCast_le_intCast.2 (by omega), Rat.intCast_le_intCast.2 (by omega)⟩)
          (by rw [← Rat.intCast_mul, ← Rat.intCast_mul, ← Rat.intCast_mul, ← Rat.intCast_mul]; exact ⟨Rat.intCast_le_intCast.2 (by omega), Rat.intCast_le_intCast.2 (by omega), Rat.intCast_le_intCast.2 (by omega), Rat.intCast_le_intCast.2 (by omega)⟩)).1
        have e : oR * x' * (oR * y') = oR * (oR * (x' * y')) := by grind
        rw [e] at h
        exact floor_le_R h
      · have h := (corner a1 a2 b1 b2 ((min (min (p.1 * q.1) (p.1 * q.2)) (min (p.2 * q.1) (p.2 * q.2)) : Int) : Rat) ((max (max (p.1 * q.1) (p.1 * q.2)) (max (p.2 * q.1) (p.2 * q.2)) : Int) : Rat)
          (by rw [← Rat.intCast_mul, ← Rat.intCast_mul, ← Rat.intCast_mul, ← Rat.intCast_mul]; exact ⟨Rat.intCast_le_intCast.2 (by omega), Rat.intCast_le_intCast.2 (by omega), Rat.intCast_le_intCast.2 (by omega), Rat.intCast_le_intCast.2 (by omega)⟩)
          (by rw [← Rat.intCast_mul, ← Rat.intCast_mul, ← Rat.intCast_mul, ← Rat.intCast_mul]; exact ⟨Rat.intCast_le_intCast.2 (by omega), Rat.intCast_le_intCast.2 (by omega), Rat.intCast_le_intCast.2 (by omega), Rat.intCast_le_intCast.2 (by omega)⟩)).2
        have e : oR * x' * (oR * y') = oR * (oR * (x' * y')) := by grind
        rw [e] at h
        have h2 := floor_le_R (m := -(max (max (p.1 * q.1) (p.1 * q.2)) (max (p.2 * q.1) (p.2 * q.2)))) (x := -(oR * (x' * y'))) (by rw [Rat.intCast_neg]; grind)
        show oR * (x' * y') ≤ ((-(-(max (max (p.1 * q.1) (p.1 * q.2)) (max (p.2 * q.1) (p.2 * q.2))) / 1073741824) : Int) : Rat)
        rw [Rat.intCast_neg]
        grind
  have l1 := Rat.intCast_le_intCast.2 bp.1
  have l2 := Rat.intCast_le_intCast.2 bp.2
  have e2 : ((1073741824 : Int) : Rat) = 1073741824 := rfl
  rw [Rat.intCast_neg, e2] at l1
  rw [e2] at l2
  have x1 : -1 ≤ x' := by refine Rat.le_of_mul_le_mul_left (c := oR) ?_ oR_pos; clear h0; grind
  have x2 : x' ≤ 1 := by refine Rat.le_of_mul_le_mul_left (c := oR) ?_ oR_pos; clear h0; grind
  obtain ⟨z, z1, z2, z3, z4⟩ := h0
  have m1 := mul_abs (a := y / 2) (d := d) (by grind) (by grind) (e := x - x') (by grind) (by grind)
  have m2 := mul_abs (d := e) x1 x2 (e := y - y') (by grind) (by grind)
  exact ⟨z, z1, z2, by grind, by grind⟩
theorem all_enc {q : Int × Int} {t z d e : Rat} (h : Enc q t d) (h1 : z ≤ t + e) (h2 : -z ≤ t + e) (hde : 0 ≤ d + e) : Enc (mulE q (-1073741824, 1073741824)) z (d + e) := by
  obtain ⟨t', a1, a2, n1, n2⟩ := h
  have up : ∀ m : Int, (m = q.1 ∨ m = -q.1 ∨ m = q.2 ∨ m = -q.2) → m ≤ (mulE q (-1073741824, 1073741824)).2 ∧ (mulE q (-1073741824, 1073741824)).1 ≤ m := fun m hm => by
    unfold mulE
    dsimp only
    omega
  have g := oR_pos
  generalize mulE q (-1073741824, 1073741824) = r at *
  have u1 := Rat.intCast_le_intCast.2 (up _ (Or.inl rfl)).1
  have u2 := Rat.intCast_le_intCast.2 (up _ (Or.inr (Or.inl rfl))).1
  have u3 := Rat.intCast_le_intCast.2 (up _ (Or.inr (Or.inr (Or.inl rfl)))).1
  have v1 := Rat.intCast_le_intCast.2 (up _ (Or.inl rfl)).2
  have v2 := Rat.intCast_le_intCast.2 (up _ (Or.inr (Or.inr (Or.inr rfl)))).2
  have v3 := Rat.intCast_le_intCast.2 (up _ (Or.inr (Or.inr (Or.inl rfl)))).2
  have v4 := Rat.intCast_le_intCast.2 (up _ (Or.inr (Or.inl rfl))).2
  have u4 := Rat.intCast_le_intCast.2 (up _ (Or.inr (Or.inr (Or.inr rfl)))).1
  rw [Rat.intCast_neg] at u2 v2 v4 u4
  clear up
  -- the ends
  have r1 : oR * t' ≤ (r.2 : Rat) := Rat.le_trans a2 u3
  have r2 : oR * -t' ≤ (r.2 : Rat) := by grind
  have r3 : (r.1 : Rat) ≤ oR * t' := Rat.le_trans v1 a1
  have r4 : (r.1 : Rat) ≤ oR * -t' := by grind
  rcases Rat.nonneg_total t' with ht | ht
  · rcases Rat.le_total (a := z) (b := t') with k | k
    · rcases Rat.le_total (a := -t') (b := z) with k' | k'
      · have p1 := Rat.mul_le_mul_of_nonneg_left k (Rat.le_of_lt g)
        have p2 := Rat.mul_le_mul_of_nonneg_left k' (Rat.le_of_lt g)
        exact ⟨z, Rat.le_trans r4 p2, Rat.le_trans p1 r1, by grind, by grind⟩
      · exact ⟨-t', r4, r2, by grind, by grind⟩
    · exact ⟨t', r3, r1, by grind, by grind⟩
  · rcases Rat.le_total (a := z) (b := -t') with k | k
    · rcases Rat.le_total (a := t') (b := z) with k' | k'
      · have p1 := Rat.mul_le_mul_of_nonneg_left k (Rat.le_of_lt g)
        have p2 := Rat.mul_le_mul_of_nonneg_left k' (Rat.le_of_lt g)
        exact ⟨z, Rat.le_trans r3 p2, Rat.le_trans p1 r2, by grind, by grind⟩
      · exact ⟨t', r3, r1, by grind, by grind⟩
    · exact ⟨-t', r4, r2, by grind, by grind⟩
/-! ### the sine of the distance -/
theorem S_ge0 {x : Int} (h0 : 0 ≤ x) (h1 : x ≤ 10800000) : -e6 ≤ S x := by
  by_cases g : x ≤ 5400000
  · exact (SC_q h0 g).1
  · have a := S_half (-(10800000 - x))
    rw [show -(10800000 - x) + 10800000 = x by omega, S_neg] at a
    rw [Rat.neg_neg] at a
    by_cases hx : x = 10800000
    · subst hx
      rw [show (10800000 : Int) - 10800000 = 0 by omega, show S 0 = 0 from Sn_0] at a
      obtain ⟨a1, a2⟩ := a
      show -d146 ≤ _
      generalize d146 = d at *
      grind
    · have b := S_low (k := 10800000 - x) (by omega) (by omega)
      have e : d146 ≤ u7 := by decide +kernel
      have e6n := e6_nn
      obtain ⟨a1, a2⟩ := a
      generalize d146 = d at *
      generalize e6 = d' at *
      grind
theorem sd_up {k f r : Rat} {D : Int × Int} (d : 0 ≤ D.1 ∧ D.1 ≤ D.2 ∧ D.2 ≤ 10800000) (h1 : k ≤ C D.1 + dG) (h2 : C D.2 - dG ≤ k) (hk : -1 ≤ k ∧ k ≤ 1) (hr : r ≤ 1 - k * k + eta) (hf : f * f ≤ r) (p1 : 1 ≤ D.2) (p2 : D.1 < 10800000) : ∃ u : Int, D.1 ≤ u ∧ u ≤ D.2 ∧ f ≤ S u + dH := by
  have hG : 0 ≤ dG ∧ dG ≤ u7 / 1000 := ⟨by decide +kernel, by decide +kernel⟩
  have hH : 0 ≤ dH := by decide +kernel
  have hE : 2 * dG + eta ≤ 2 * u7 * dH := by decide +kernel
  have hu : (0 : Rat) < u7 := by decide +kernel
  have key : ∀ u : Int, u7 ≤ S u → 1 - k * k ≤ S u * S u + 2 * dG → f ≤ S u + dH := fun u hs hh => by
    have m := Rat.mul_le_mul_of_nonneg_right hs hH
    have m2 := Rat.mul_nonneg hH hH
    refine le_of_sq (by grind) ?_
    grind
  by_cases g1 : D.2 < 5400000
  · refine ⟨D.2, d.2.1, Int.le_refl _, key _ (S_low p1 (by omega)) ?_⟩
    have hc := C_low (k := D.2) (by omega) (by omega)
    have un := unit D.2
    have ca := (C_abs D.2).2
    have m1 := Rat.mul_le_mul_of_nonneg_left h2 (show 0 ≤ k by grind)
    have m2 := Rat.mul_le_mul_of_nonneg_right h2 (show 0 ≤ C D.2 - dG by grind)
    have m3 := Rat.mul_le_mul_of_nonneg_right ca hG.1
    have m4 := Rat.mul_nonneg hG.1 hG.1
    generalize C D.2 = c at *
    generalize S D.2 = s at *
    generalize dG = e at *
    grind
  by_cases g2 : 5400000 < D.1
  · have hs : u7 / 2 ≤ S D.1 ∧ S D.1 ≤ 1 ∧ C D.1 ≤ -(u7 / 2) := by
      have a := S_half (-(10800000 - D.1))
      have b := C_half (-(10800000 - D.1))
      rw [show -(10800000 - D.1) + 10800000 = D.1 by omega, S_neg] at a
      rw [show -(10800000 - D.1) + 10800000 = D.1 by omega, C_neg] at b
      rw [Rat.neg_neg] at a
      have l1 := S_low (k := 10800000 - D.1) (by omega) (by omega)
      have l2 := C_low (k := 10800000 - D.1) (by omega) (by omega)
      have e : d146 ≤ u7 / 100 := by decide +kernel
      have e2 : u7 / 2 ≤ C (10800000 - D.1) := l2
      have q := C_quart (D.1 - 5400000)
      rw [show D.1 - 5400000 + 5400000 = D.1 by omega] at q
      have l3 := S_low (k := D.1 - 5400000) (by omega) (by omega)
      have e3 : d148 ≤ u7 / 100 := by decide +kernel
      obtain ⟨a1, a2⟩ := a
      obtain ⟨q1, q2⟩ := q
      refine ⟨?_, (S_abs _).2, ?_⟩
      · generalize d146 = x at *; generalize u7 = u at *; grind
      · generalize d148 = x at *; generalize u7 = u at *; grind
    have hE2 : 2 * dG + eta ≤ u7 * dH := by decide +kernel
    refine ⟨D.1, Int.le_refl _, d.2.1, ?_⟩
    have un := unit D.1
    have ca := (C_abs D.1).1
    have m1 := Rat.mul_le_mul_of_nonneg_left (show -C D.1 - dG ≤ -k by grind) (show 0 ≤ -k by grind)
    have m2 := Rat.mul_le_mul_of_nonneg_right (show -C D.1 - dG ≤ -k by grind) (show 0 ≤ -C D.1 - dG by grind)
    have m3 := Rat.mul_le_mul_of_nonneg_right (show -C D.1 ≤ 1 by grind) hG.1
    have m4 := Rat.mul_nonneg hG.1 hG.1
    have m5 := Rat.mul_le_mul_of_nonneg_right hs.1 hH
    have m6 := Rat.mul_nonneg hH hH
    have hs0 : 0 ≤ S D.1 + dH := by grind
    refine le_of_sq hs0 ?_
    generalize C D.1 = c at *
    generalize S D.1 = s at *
    generalize dG = e at *
    generalize dH = h at *
    generalize eta = t at *
    generalize u7 = u at *
    grind
  · refine ⟨5400000, by omega, by omega, ?_⟩
    have q := quarter.2.1
    have e : d150 + eta ≤ dH := by decide +kernel
    have h0 : (0 : Rat) ≤ eta := by decide +kernel
    have hkk := sq_nn k
    have hh := Rat.mul_nonneg h0 h0
    have : f ≤ 1 + eta := le_of_sq (by grind) (by grind)
    generalize S 5400000 = s at *
    generalize dH = h at *
    generalize eta = t at *
    generalize d150 = v at *
    grind
theorem sd_lo {k g r : Rat} {D : Int × Int} (d : 0 ≤ D.1 ∧ D.1 ≤ D.2 ∧ D.2 ≤ 10800000) (h1 : k ≤ C D.1 + dG) (h2 : C D.2 - dG ≤ k) (hr : 1 - k * k - eta ≤ r) (hg : r ≤ g * g) (hg0 : 1 / 2147483648 ≤ g) : ∃ u : Int, D.1 ≤ u ∧ u ≤ D.2 ∧ S u ≤ g + dH := by
  have hG : 0 ≤ dG ∧ dG ≤ 1 := ⟨by decide +kernel, by decide +kernel⟩
  have hH : 0 ≤ dH := by decide +kernel
  have hE : 3 * dG + eta ≤ 2 * (1 / 2147483648) * dH := by decide +kernel
  have hgn : 0 ≤ g := Rat.le_trans (by decide +kernel) hg0
  have key : ∀ u : Int, S u * S u - 3 * dG ≤ 1 - k * k → S u ≤ g + dH := fun u hh => by
    have m := Rat.mul_le_mul_of_nonneg_right hg0 hH
    have m2 := Rat.mul_nonneg hH hH
    refine le_of_sq (by grind) ?_
    generalize dG = e at *
    generalize dH = h at *
    generalize eta = t at *
    generalize S u = s at *
    grind
  rcases Rat.nonneg_total k with hk | hk
  · refine ⟨D.1, Int.le_refl _, d.2.1, key _ ?_⟩
    have un := unit D.1
    have ca := (C_abs D.1).2
    have m1 := sq_le hk h1
    have m3 := Rat.mul_le_mul_of_nonneg_right ca hG.1
    have m4 := Rat.mul_le_mul_of_nonneg_right hG.2 hG.1
    generalize C D.1 = c at *
    generalize S D.1 = s at *
    generalize dG = e at *
    grind
  · refine ⟨D.2, d.2.1, Int.le_refl _, key _ ?_⟩
    have un := unit D.2
    have ca := (C_abs D.2).1
    have m1 := sq_le hk (show -k ≤ -C D.2 + dG by grind)
    have m3 := Rat.mul_le_mul_of_nonneg_right (show -C D.2 ≤ 1 by grind) hG.1
    have m4 := Rat.mul_le_mul_of_nonneg_right hG.2 hG.1
    generalize C D.2 = c at *
    generalize S D.2 = s at *
    generalize dG = e at *
    grind
end Go.Proofs.YtjmdeplmenbmmaaGreatDoor.TT
