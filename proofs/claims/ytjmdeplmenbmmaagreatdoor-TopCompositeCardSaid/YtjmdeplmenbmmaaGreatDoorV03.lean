/- Joined texts: TrM, GeH, GeI. -/
import Derived.Test.YtjmdeplmenbmmaaGreatDoorV02
set_option linter.unusedVariables false
namespace Go.Proofs.YtjmdeplmenbmmaaGreatDoor.TT
theorem hv_mono {o : Nat} {y y' : Rat} (hy : 0 ≤ y) (h : y ≤ y') (hy1 : y' ≤ 617 / 1000) : ∀ (m k : Nat), 0 ≤ hv o y' k m - hv o y k m ∧ 2 * (hv o y' k m - hv o y k m) ≤ y' - y
  | 0, k => by simp only [hv]; exact ⟨by grind, by grind⟩
  | m + 1, k => by
    obtain ⟨i1, i2⟩ := hv_mono (o := o) hy h hy1 m (k + 1)
    obtain ⟨v1, v2⟩ := hv_bd (o := o) (Rat.le_trans hy h) hy1 m (k + 1)
    obtain ⟨w1, w2⟩ := hv_bd (o := o) hy (Rat.le_trans h hy1) m (k + 1)
    have hd := dd_geR o k
    have hd0 : (0 : Rat) < (dd o k : Rat) := by grind
    obtain ⟨q1, q2, q3⟩ := quo_bd hy hd
    obtain ⟨p1, p2, p3⟩ := quo_bd (show 0 ≤ y' - y by grind) hd
    have e : y' / (dd o k : Rat) = y / (dd o k : Rat) + (y' - y) / (dd o k : Rat) := by
      rw [Rat.div_def, Rat.div_def, Rat.div_def]; grind
    simp only [hv]
    rw [e]
    generalize hv o y' (k + 1) m = H' at *
    generalize hv o y (k + 1) m = H at *
    generalize hq : y / (dd o k : Rat) = q at *
    generalize hp : (y' - y) / (dd o k : Rat) = p at *
    have a0 : 0 ≤ 1 - H' := by grind
    have a1 : 1 - H' ≤ 1 := by grind
    have b1 := mul_le_one p1 a1
    have b2 := Rat.mul_le_mul_of_nonneg_left (show (691 : Rat) / 1000 ≤ 1 - H' by grind) p1
    have b3 := Rat.mul_nonneg q1 i1
    -- q (H' - H) <= q (y' - y) / 2 = y p / 2
    have b4 := Rat.mul_le_mul_of_nonneg_left i2 q1
    have e2 : q * (y' - y) = y * p := by
      have : q * (y' - y) * (dd o k : Rat) = y * p * (dd o k : Rat) := by grind
      generalize (dd o k : Rat) = d at *
      have hne : d ≠ 0 := by grind
      grind
    have b5 := Rat.mul_le_mul_of_nonneg_right (show y ≤ 617 / 1000 by grind) p1
    exact ⟨by grind, by grind⟩
theorem xi_mono {n m : Nat} (h : n ≤ m) : xi n ≤ xi m := by
  refine Rat.le_of_mul_le_mul_right (c := ((halfN * W256 : Nat) : Rat)) ?_ (by decide +kernel)
  rw [xi_mul, xi_mul]
  exact natR (Nat.mul_le_mul_right piN h)
theorem TTc_mono {n m : Nat} (h : n ≤ m) (hm : m ≤ 2700000) : TT 0 m ≤ TT 0 n := by
  have e : ∀ k, TT 0 k = 1 - hv 0 (xi k * xi k) 0 34 := fun k => by
    have := sa_hv 0 (xi k) 34 0
    rw [show tm 0 (xi k) 0 = 1 from if_neg (by decide)] at this
    show sa 0 (xi k) 0 (34 + 1) = _
    rw [this]; grind
  have h1 := (hv_mono (o := 0) (Rat.mul_nonneg (xi_nn n) (xi_nn n)) (sq_le (xi_nn n) (xi_mono h)) (xi_sq hm) 34 0).1
  rw [e, e]; grind
theorem TTs_mono {n m : Nat} (h : n ≤ m) (hm : m ≤ 2700000) : TT 1 n ≤ TT 1 m := by
  have e : ∀ k, TT 1 k = xi k * (1 - hv 1 (xi k * xi k) 0 34) := fun k => by
    have := sa_hv 1 (xi k) 34 0
    rw [show tm 1 (xi k) 0 = xi k from if_pos rfl] at this
    exact this
  obtain ⟨h1, h2⟩ := hv_mono (o := 1) (Rat.mul_nonneg (xi_nn n) (xi_nn n)) (sq_le (xi_nn n) (xi_mono h)) (xi_sq hm) 34 0
  obtain ⟨v1, v2⟩ := hv_bd (o := 1) (Rat.mul_nonneg (xi_nn m) (xi_nn m)) (xi_sq hm) 34 0
  have x0 := xi_nn n
  have hx := xi_mono h
  have hxm := xi_le hm
  rw [e, e]
  generalize hv 1 (xi m * xi m) 0 34 = H' at *
  generalize hv 1 (xi n * xi n) 0 34 = H at *
  generalize xi n = x at *
  generalize xi m = z at *
  have d0 : 0 ≤ z - x := by grind
  have b1 := Rat.mul_le_mul_of_nonneg_left (show (691 : Rat) / 1000 ≤ 1 - H' by grind) d0
  have b2 := Rat.mul_le_mul_of_nonneg_left h2 x0
  -- x (z z - x x) <= (z - x) * 617/500
  have b3 : x * (z + x) ≤ 617 / 500 := by
    have c1 := Rat.mul_le_mul_of_nonneg_left (show z + x ≤ 2 * (7853982 / 10000000) by grind) x0
    have c2 := Rat.mul_le_mul_of_nonneg_right (show x ≤ 7853982 / 10000000 by grind) (show (0 : Rat) ≤ 2 * (7853982 / 10000000) by decide +kernel)
    have c3 : (7853982 / 10000000 : Rat) * (2 * (7853982 / 10000000)) ≤ 617 / 500 := by decide +kernel
    grind
  have b4 := Rat.mul_le_mul_of_nonneg_left b3 d0
  have e3 : x * (z * z - x * x) = (z - x) * (x * (z + x)) := by grind
  grind
theorem q_le {T T' : Rat} {q q' : Int} (h : T ≤ T') (h1 : ((q * 4294967296 + 1040 : Int) : Rat) * q62 ≤ T) (h2 : T' ≤ ((q' * 4294967296 + 4294967296 - 1040 : Int) : Rat) * q62) : q ≤ q' := by
  have := lt_of_q (Rat.le_trans h1 (Rat.le_trans h h2))
  omega
theorem margin_fl {o n : Nat} (ho : o ≤ 1) (h0 : n ≠ 0) (h : n ≤ 2700000) (h1 : o = 1 → n ≠ 1800000) : ((flS o n * 4294967296 + 1040 : Int) : Rat) * q62 ≤ TT o n ∧ TT o n ≤ ((flS o n * 4294967296 + 4294967296 - 1040 : Int) : Rat) * q62 := by
  obtain ⟨q, m1, m2⟩ := margin ho h0 h h1
  obtain ⟨a1, a2⟩ := quickF_R ho h
  have k1 : q * 4294967296 + 1040 ≤ quickF o n + 110 := lt_of_q (by
    rw [Rat.intCast_add (quickF o n)]
    have e : ((110 : Int) : Rat) = 110 := rfl
    rw [e]; grind)
  have k2 : quickF o n - 110 ≤ q * 4294967296 + 4294967296 - 1040 := lt_of_q (by
    rw [Rat.intCast_sub (quickF o n)]
    have e : ((110 : Int) : Rat) = 110 := rfl
    rw [e]; grind)
  have hf := (flS_q ho h0 h h1).1
  have : flS o n = q := by rw [← hf]; omega
  rw [this]
  exact ⟨m1, m2⟩
theorem T30 : TT 1 1800000 ≤ ((2305843009213693952 + 500 : Int) : Rat) * q62 ∧ ((2305843009213693952 - 500 : Int) : Rat) * q62 ≤ TT 1 1800000 := by
  obtain ⟨a1, a2⟩ := quickF_R (o := 1) (r := 1800000) (by omega) (by omega)
  have h1 : quickF 1 1800000 ≤ 2305843009213693952 + 300 := by decide +kernel
  have h2 : 2305843009213693952 - 300 ≤ quickF 1 1800000 := by decide +kernel
  have he := Rat.le_of_lt q62_pos
  have g1 := Rat.mul_le_mul_of_nonneg_right (Rat.intCast_le_intCast.2 h1) he
  have g2 := Rat.mul_le_mul_of_nonneg_right (Rat.intCast_le_intCast.2 h2) he
  have c1 : ((2305843009213693952 + 500 : Int) : Rat) * q62 = ((2305843009213693952 + 300 : Int) : Rat) * q62 + 200 * q62 := by decide +kernel
  have c2 : ((2305843009213693952 - 500 : Int) : Rat) * q62 = ((2305843009213693952 - 300 : Int) : Rat) * q62 - 200 * q62 := by decide +kernel
  rw [c1, c2]
  exact ⟨by grind, by grind⟩
theorem sinB_step {r : Int} (h0 : 0 ≤ r) (h1 : r < 5400000) : (sinB r).1 ≤ (sinB (r + 1)).1 ∧ hiB (sinB r) ≤ hiB (sinB (r + 1)) := by
  have hd : ∀ {r : Int} {f : Int}, hiB (f, false) = f + 1 := fun {r f} => if_neg (fun h => Bool.noConfusion h)
  by_cases e0 : r = 0
  · subst e0
    obtain ⟨b1, b2, b3⟩ := sinB_bd (r := 0 + 1) (by omega) (by omega)
    have e1 : sinB 0 = (0, true) := rfl
    rw [e1]
    have e2 : hiB ((0 : Int), true) = 0 := rfl
    rw [e2]
    exact ⟨b1, by omega⟩
  by_cases e9 : r = 5399999
  · subst e9
    obtain ⟨b1, b2, b3⟩ := sinB_bd (r := 5399999) (by omega) (by omega)
    have e1 : sinB (5399999 + 1) = (1073741824, true) := rfl
    rw [e1]
    have e2 : hiB ((1073741824 : Int), true) = 1073741824 := rfl
    rw [e2]
    exact ⟨by dsimp only; omega, b2⟩
  by_cases hg : r + 1 ≤ 2700000
  · by_cases x1 : r = 1800000
    · subst x1
      have e1 : sinB 1800000 = (536870912, true) := rfl
      have e2 : hiB ((536870912 : Int), true) = 536870912 := rfl
      rw [e1, e2, sinB_lo (by omega) (by omega) (by omega), hd (r := 0)]
      obtain ⟨m1, m2⟩ := margin_fl (o := 1) (n := (1800000 + 1 : Int).toNat) (by omega) (by omega) (by omega) (by omega)
      have := lt_of_q (Rat.le_trans T30.2 (Rat.le_trans (TTs_mono (n := 1800000) (m := (1800000 + 1 : Int).toNat) (by omega) (by omega)) m2))
      dsimp only
      generalize flS 1 (1800000 + 1 : Int).toNat = f at *
      omega
    by_cases x2 : r + 1 = 1800000
    · obtain rfl : r = 1799999 := by omega
      have e1 : sinB (1799999 + 1) = (536870912, true) := rfl
      have e2 : hiB ((536870912 : Int), true) = 536870912 := rfl
      rw [e1, e2, sinB_lo (by omega) (by omega) (by omega), hd (r := 0)]
      obtain ⟨m1, m2⟩ := margin_fl (o := 1) (n := (1799999 : Int).toNat) (by omega) (by omega) (by omega) (by omega)
      have := lt_of_q (Rat.le_trans m1 (Rat.le_trans (TTs_mono (n := (1799999 : Int).toNat) (m := 1800000) (by omega) (by omega)) T30.1))
      dsimp only
      generalize flS 1 (1799999 : Int).toNat = f at *
      omega
    rw [sinB_lo (by omega) (by omega) x1, sinB_lo (by omega) (by omega) x2, hd (r := 0), hd (r := 0)]
    have g1 := (margin_fl (o := 1) (n := r.toNat) (by omega) (by omega) (by omega) (by omega)).1
    have g2 := (margin_fl (o := 1) (n := (r + 1).toNat) (by omega) (by omega) (by omega) (by omega)).2
    have := q_le (TTs_mono (n := r.toNat) (m := (r + 1).toNat) (by omega) (by omega)) g1 g2
    dsimp only
    omega
  · rw [sinB_hi (by omega) (by omega), sinB_hi (by omega) (by omega), hd (r := 0), hd (r := 0)]
    have g1 := (margin_fl (o := 0) (n := (5400000 - r).toNat) (by omega) (by omega) (by omega) (by omega)).1
    have g2 := (margin_fl (o := 0) (n := (5400000 - (r + 1)).toNat) (by omega) (by omega) (by omega) (by omega)).2
    have := q_le (TTc_mono (n := (5400000 - (r + 1)).toNat) (m := (5400000 - r).toNat) (by omega) (by omega)) g1 g2
    dsimp only
    omega
theorem sinB_mono {r s : Int} (h0 : 0 ≤ r) (h : r ≤ s) (h1 : s ≤ 5400000) : (sinB r).1 ≤ (sinB s).1 ∧ hiB (sinB r) ≤ hiB (sinB s) := by
  obtain ⟨k, rfl⟩ : ∃ k : Nat, s = r + k := ⟨(s - r).toNat, by omega⟩
  clear h
  induction k with
  | zero => simp
  | succ k ih =>
    obtain ⟨a1, a2⟩ := ih (by omega)
    obtain ⟨b1, b2⟩ := sinB_step (r := r + k) (by omega) (by omega)
    rw [show r + ((k + 1 : Nat) : Int) = r + k + 1 by omega]
    omega
theorem bnd_pos {n : Int} (h0 : 0 ≤ n) (h1 : n ≤ 5400000) : bnd n = ((sinB n).1, hiB (sinB n)) := by
  have e : turnI n = n := Int.emod_eq_of_lt h0 (by omega)
  have f : foldI n = n := by unfold foldI; omega
  unfold bnd
  rw [e, if_neg (by omega), f]
theorem bnd_neg {n : Int} (h0 : n < 0) (h1 : -5400000 ≤ n) : bnd n = (-(hiB (sinB (-n))), -(sinB (-n)).1) := by
  have e : turnI n = n + 21600000 := by unfold turnI; omega
  have f : foldI (n + 21600000) = -n := by unfold foldI; omega
  unfold bnd
  rw [e, if_pos (by omega), f]
theorem bnd_mono {n m : Int} (h0 : -5400000 ≤ n) (h : n ≤ m) (h1 : m ≤ 5400000) : (bnd n).2 ≤ (bnd m).2 ∧ (bnd n).1 ≤ (bnd m).1 := by
  by_cases hn : n < 0
  · rw [bnd_neg hn h0]
    obtain ⟨c0, c1, c2⟩ := sinB_bd (r := -n) (by omega) (by omega)
    by_cases hm : m < 0
    · rw [bnd_neg hm (by omega)]
      obtain ⟨a1, a2⟩ := sinB_mono (r := -m) (s := -n) (by omega) (by omega) (by omega)
      dsimp only; omega
    · rw [bnd_pos (by omega) h1]
      obtain ⟨d0, d1, d2⟩ := sinB_bd (r := m) (by omega) h1
      dsimp only; omega
  · rw [bnd_pos (by omega) (by omega), bnd_pos (by omega) h1]
    obtain ⟨a1, a2⟩ := sinB_mono (r := n) (s := m) (by omega) h h1
    dsimp only; omega
abbrev gN : Nat := 3121748550315926193951831940277315821210673593215258911583429951307027239011131789900149949103402095739306123185529139306124767889268813120015295
abbrev gM : Nat := 908079843706238644806034325650406515425330177812492484762442610479491082716054499456415604804744721835341976558232575606888922273617543168
abbrev gD : Nat := 3121748550316058268811362519309016790286522692114683390134883967943716238628399450340462257023581846580347739057284106484771183469307757492565057
def c1R : Rat := ((gN : Nat) : Rat) / ((gD : Nat) : Rat)
def s1R : Rat := ((gM : Nat) : Rat) / ((gD : Nat) : Rat)
theorem unit1 : c1R * c1R + s1R * s1R = 1 := by decide +kernel
def Zn : Nat → Rat × Rat
  | 0 => (1, 0)
  | n + 1 => ((Zn n).1 * c1R - (Zn n).2 * s1R, (Zn n).2 * c1R + (Zn n).1 * s1R)
def Cn (n : Nat) : Rat := (Zn n).1
def Sn (n : Nat) : Rat := (Zn n).2
theorem Cn_0 : Cn 0 = 1 := rfl
theorem Sn_0 : Sn 0 = 0 := rfl
theorem Cn_s (n : Nat) : Cn (n + 1) = Cn n * c1R - Sn n * s1R := rfl
theorem Sn_s (n : Nat) : Sn (n + 1) = Sn n * c1R + Cn n * s1R := rfl
theorem unitN_ : ∀ n, Cn n * Cn n + Sn n * Sn n = 1
  | 0 => by rw [Cn_0, Sn_0]; decide +kernel
  | n + 1 => by
    have ih := unitN_ n
    have u := unit1
    rw [Cn_s, Sn_s]
    generalize c1R = c at *
    generalize s1R = s at *
    generalize Cn n = a at *
    generalize Sn n = b at *
    have e : (a * c - b * s) * (a * c - b * s) + (b * c + a * s) * (b * c + a * s) = (a * a + b * b) * (c * c + s * s) := by grind
    rw [e, ih, u]; decide +kernel
theorem addN (m : Nat) : ∀ n, Cn (m + n) = Cn m * Cn n - Sn m * Sn n ∧ Sn (m + n) = Sn m * Cn n + Cn m * Sn n
  | 0 => by rw [Nat.add_zero, Cn_0, Sn_0]; exact ⟨by grind, by grind⟩
  | n + 1 => by
    obtain ⟨h1, h2⟩ := addN m n
    rw [← Nat.add_assoc, Cn_s, Sn_s, Cn_s, Sn_s, h1, h2]
    exact ⟨by grind, by grind⟩
def C (n : Int) : Rat := Cn n.natAbs
def S (n : Int) : Rat := if 0 ≤ n then Sn n.natAbs else -(Sn n.natAbs)
theorem C_nat (n : Nat) : C n = Cn n := rfl
theorem S_nat (n : Nat) : S n = Sn n := if_pos (Int.natCast_nonneg n)
theorem C_neg (n : Int) : C (-n) = C n := by unfold C; rw [Int.natAbs_neg]
theorem S_neg (n : Int) : S (-n) = -(S n) := by
  unfold S
  rw [Int.natAbs_neg]
  by_cases h0 : n = 0
  · subst h0; rw [if_pos (by omega), if_pos (by omega)]
    have : Sn (Int.natAbs 0) = 0 := Sn_0
    rw [this]; decide +kernel
  by_cases h : 0 ≤ n
  · rw [if_pos h, if_neg (by omega)]
  · rw [if_neg h, if_pos (by omega)]; grind
theorem unit (n : Int) : C n * C n + S n * S n = 1 := by
  unfold C S
  split
  · exact unitN_ _
  · have := unitN_ n.natAbs
    grind
theorem subN (m n : Nat) : Cn m = Cn (m + n) * Cn n + Sn (m + n) * Sn n ∧ Sn m = Sn (m + n) * Cn n - Cn (m + n) * Sn n := by
  obtain ⟨h1, h2⟩ := addN m n
  have u := unitN_ n
  rw [h1, h2]
  generalize Cn n = a at *
  generalize Sn n = b at *
  constructor
  · have : (Cn m * a - Sn m * b) * a + (Sn m * a + Cn m * b) * b = Cn m * (a * a + b * b) := by grind
    rw [this, u]; grind
  · have : (Sn m * a + Cn m * b) * a - (Cn m * a - Sn m * b) * b = Sn m * (a * a + b * b) := by grind
    rw [this, u]; grind
theorem nat_of {n : Int} (h : 0 ≤ n) : ∃ k : Nat, n = k := ⟨n.toNat, by omega⟩
theorem add_pn (m k : Nat) : C ((m : Int) - k) = C m * C k + S m * S k ∧ S ((m : Int) - k) = S m * C k - C m * S k := by
  rw [C_nat, C_nat, S_nat, S_nat]
  rcases Nat.le_total k m with h | h
  · obtain ⟨d, rfl⟩ := Nat.exists_eq_add_of_le h
    rw [show ((k + d : Nat) : Int) - k = (d : Nat) by omega, C_nat, S_nat, Nat.add_comm k d]
    exact subN d k
  · obtain ⟨d, rfl⟩ := Nat.exists_eq_add_of_le h
    rw [show (m : Int) - (m + d : Nat) = -((d : Nat) : Int) by omega, C_neg, S_neg, C_nat, S_nat, Nat.add_comm m d]
    obtain ⟨h1, h2⟩ := subN d m
    rw [h1, h2]
    exact ⟨by grind, by grind⟩
theorem add_i (m n : Int) : C (m + n) = C m * C n - S m * S n ∧ S (m + n) = S m * C n + C m * S n := by
  rcases Int.le_total 0 m with hm | hm
  · obtain ⟨a, rfl⟩ := nat_of hm
    rcases Int.le_total 0 n with hn | hn
    · obtain ⟨b, rfl⟩ := nat_of hn
      rw [← Int.natCast_add, C_nat, C_nat, C_nat, S_nat, S_nat, S_nat]
      exact addN a b
    · obtain ⟨b, hb⟩ := nat_of (show 0 ≤ -n by omega)
      obtain rfl : n = -(b : Int) := by omega
      obtain ⟨h1, h2⟩ := add_pn a b
      rw [C_neg, S_neg, show (a : Int) + -b = a - b by omega, h1, h2]
      exact ⟨by grind, by grind⟩
  · obtain ⟨a, ha⟩ := nat_of (show 0 ≤ -m by omega)
    obtain rfl : m = -(a : Int) := by omega
    rcases Int.le_total 0 n with hn | hn
    · obtain ⟨b, rfl⟩ := nat_of hn
      obtain ⟨h1, h2⟩ := add_pn b a
      rw [C_neg, S_neg, show -(a : Int) + b = b - a by omega, h1, h2]
      exact ⟨by grind, by grind⟩
    · obtain ⟨b, hb⟩ := nat_of (show 0 ≤ -n by omega)
      obtain rfl : n = -(b : Int) := by omega
      rw [show -(a : Int) + -b = -((a + b : Nat) : Int) by omega, C_neg, S_neg, C_neg, S_neg, C_neg, S_neg, C_nat, C_nat, C_nat, S_nat, S_nat, S_nat]
      obtain ⟨h1, h2⟩ := addN a b
      rw [h1, h2]
      exact ⟨by grind, by grind⟩
theorem sub_i (m n : Int) : C (m - n) = C m * C n + S m * S n ∧ S (m - n) = S m * C n - C m * S n := by
  obtain ⟨h1, h2⟩ := add_i m (-n)
  rw [C_neg, S_neg] at h1 h2
  rw [Int.sub_eq_add_neg, h1, h2]
  exact ⟨by grind, by grind⟩
theorem sq_nn (a : Rat) : 0 ≤ a * a := by
  rcases Rat.nonneg_total a with h | h
  · exact Rat.mul_nonneg h h
  · have := Rat.mul_nonneg h h; grind
theorem abs1_of {a b : Rat} (h : a * a + b * b = 1) : -1 ≤ a ∧ a ≤ 1 := by
  have hb := sq_nn b
  constructor
  · refine Rat.not_lt.1 fun hlt => ?_
    have h1 : 1 < -a := by grind
    have h2 := Rat.mul_lt_mul_of_pos_left h1 (show 0 < -a by grind)
    grind
  · refine Rat.not_lt.1 fun hlt => ?_
    have h2 := Rat.mul_lt_mul_of_pos_left hlt (show 0 < a by grind)
    grind
theorem C_abs (n : Int) : -1 ≤ C n ∧ C n ≤ 1 := abs1_of (unit n)
theorem S_abs (n : Int) : -1 ≤ S n ∧ S n ≤ 1 := abs1_of (b := C n) (by have := unit n; grind)
/-! ### polynomials near the powers -/
def aS : List Int := [3951130259484604580091643310714979087940489674863369000099545099356012799334657191305792865370150916600492748764019062640873537066241977856366865418111443162548022600734248148955483892020397215326118771601841168159803823102756529530870262516270819019763543208457897703341944477393806892271144843994846736459918787269731357038, 55721440040990216189757584735348725117648686871912154331479230293571260554226563911837491001859059995482513158925700816546684366959420656374105265053695523414419970256407453696843905802786088830750975890752100712705354414207384031020785521186915861580322854894080575868840668787911628860068093336808203772746259, 235746129056753193169540765908655302910021419817863414859798361946957451396365267218369420088932950209203002251980705119086183426782905976705546077840774161088457499052852360883149802580192131977049714991241787549940268980160244067243121764851537396912533958413975428082917254581357078882444008481, 474949587023628103273603724570349647799572295058091843488079953834972175504620829809220319832647316669928995782463212567860469420970936742643980864047236398326569926467859370311080495396429669414465129202563289879998277567317014257859271271097259733121307835466700242229878632047278, 558170978888504665134040771649009975510057889231066840537763886300704322327063943223769136733829997755186967296883452091321844066117661621422796281647727771494669642200752052885673282586902944353902680646270677965448404587830582347638384248973431567142101615660733919, 429365160072822446616078428265522030035958904965233675227652461553767441661637832029772787257401310221483552801576211296046827545223623605420850806049753423076540934434701214396182125083613189714019889242628648306871381416868124076028052134869771817088, 232891928788622310225490703803765248420682997041030792506504480938087384482079128626125608701236456555640627491385779180618940936945776549823337006292630939878000441077843742540811660129478114164622389141885581499883654604088130069386651, 93839865657063502385138736810448464675790765958843024985319407887618888058615963232690465006560565553257097619004061546554551598945931743784717597676008779568067746398614406767481264511142518716029713453919483098298921233, 29192460937077259486944767637595479471540748509577879005992312160840970853534795356030483540540604063108141097272933377094873163640871249935030051020152223537671886919529126164588723509160083898381634453701, 7222654424851166539797721572027054227194642269294270919748950414218359120041627067148934351763821971302180335418746285282220599347320858751073911584802552771660099165607568191354745387889388, 1455123250601333436926298657805232554327398474003525755617064425354981146695253526439702308615898704231206875455192950631487105849283388718829663337644423918798121660534514094, 243333272985192338533346468355949159019803231403300890141252385354120564890522673807576280452530304329473873947349529794559233730621481632734027766484313001503, 34316460076390784142241528598762011772647751857974704149028008783940590711694312214261455159591880159732653636193545822513250246970767832739338, 4136353088273091857404076153225173082172877973538341657823024139505628452671083455236617433626750969160949088285055874906049352, 431036263367724737695418340764822437651531658908747274196498916597426538594499765751698212316660598497533453319, 39217788047067052724285285893126695841253779128551528073344667387673729626565148527695675733143, 3142471960395514316286375353128196140289661349537508642743397466062476252815446, 223448109320205766725928048542579917593799124080810840177959662, 14194650174620344160607564687002471488904398082, 810454661674876649458047968597, 41815482366787]
def aC : List Int := [13582985290493858492773514283592667786034938469317445497485196697278130927542418487205392083207560592298578262953847383475038725543234929971155548342800628721885763499406390331782864144164680730766837160526223176512798435772129956553355286032203080380775759732320198985094884004069116123084147875437183658467465148948790552744165376, 574668601693202186423853060606788552194706504643561752056451078738255663697311105674020776417897527019012946838202854849123500643446941546185684584311187665844960712968507062806269750358107513590527095614370338878395763104389262787219307357268043710287067908858068103665292126743735787721003046803907520324040804521713, 4052177469449514134263928470607484445593740704076304836964750056030017581662185645289919814379561602480852948201954889375763562789961991007694783077205786273973059793045962684653445958632536425044608995072684138970664958758095793441557199932008126653474997670310908011658996840526059436079012183974461846, 11429294863532825997023669627635646903141483151793425474399021439833466147342440203559436466418489727597615804338085197017258443882969928988424428846954190173192298491637104044195238412631130245322273151387620767830855432058633813975938956940353566100753368285999322973486618585270403440703, 17269654321978428723215733742002281966032552937692951781763467268316784804609915400564360938419783722381287359534176347314991557406356812918899504696598304979229698805055626175490172182423108720765401951269041267920441838445751578923033481115908720661440931649527760812179914, 16236535617806942883294839499665757602633195939143459182186462726414049470503959735031146949364470442220282980317792464776637482802981488181832348443986010418893655760635024549172295449104972854889875184501642428037356995776984083092992637599594944713376065226, 10408105189754510891241804929150975968473915156815688720101705392941363891468795682505613490046826711217221718126891191204545302047054645423896069233610577309133899082172944857713407220553284635585562369942814559645513585948506709285437740699308, 4838965427001938655346172276255939244875115178969490278233758659868366268442640728885442712817948833740620909808462128461053740088631840080138691900863655411179962052488585623659197503255957647371164167598574747241189113321064444, 1706056901400948118694321212539555200326225679826218157294713062381406048565045423048197305898024614197668771162272019788940948998850390072841040683986687478748066145550464733258651294744982531983170562808770377054, 471763481585025358911179225566963213045653573354739646791583248522849383723010460739619243475573081528549594796620022509611785450768392078513115357340620358329825175107993884043144301727575293632299, 105049250372825176682580854897111915051617306887458972762457805315991346553167166434380149054184255389838848154726393456080493508071586455770443685063004637803943023525587422515584577, 19239917988875626312227894799974659012413357003419092955695277010490940898653681252680206524944351553232792993970474627386856405734971542397270244274308930115773750584, 2949282495309567699181717224403031232218014644955548155831864755630187297104331748683529001365934838811275107909980824820504724309287782776296647235563, 383932830745002572433060627926955930139461351864340158656871217547761517669853236371442500544107881986337496766180480536652040874879322, 42972012152024467328612144038597135652864785350714320125353338176246082326583762841859800112998823293738668859513619598, 4179445550700121441162856926070669865447284563132635248659981474031645527180665987851689802836430651002, 356499753526352596222799515086972975193584115502873101380718405979857728377749042131910, 26885530568873811177835830779640718284402967454995416628550709544019340, 1805511673608249601900016330182259275412984218141342962, 108659377945575899060988880168917346670, 5893792618484707954062]
def pS : List Int := [0, 3951130259484604580091643310714979087940489674863369000099545099356012799334657191305792865370150916600492748764019062640873537066241977856366865418111443162548022600734248148955483892020397215326118771601841168159803823102756529530870262516270819019763543208457897703341944477393806892271144843994846736459918787269731357038, 0, -55721440040990216189757584735348725117648686871912154331479230293571260554226563911837491001859059995482513158925700816546684366959420656374105265053695523414419970256407453696843905802786088830750975890752100712705354414207384031020785521186915861580322854894080575868840668787911628860068093336808203772746259, 0, 235746129056753193169540765908655302910021419817863414859798361946957451396365267218369420088932950209203002251980705119086183426782905976705546077840774161088457499052852360883149802580192131977049714991241787549940268980160244067243121764851537396912533958413975428082917254581357078882444008481, 0, -474949587023628103273603724570349647799572295058091843488079953834972175504620829809220319832647316669928995782463212567860469420970936742643980864047236398326569926467859370311080495396429669414465129202563289879998277567317014257859271271097259733121307835466700242229878632047278, 0, 558170978888504665134040771649009975510057889231066840537763886300704322327063943223769136733829997755186967296883452091321844066117661621422796281647727771494669642200752052885673282586902944353902680646270677965448404587830582347638384248973431567142101615660733919, 0, -429365160072822446616078428265522030035958904965233675227652461553767441661637832029772787257401310221483552801576211296046827545223623605420850806049753423076540934434701214396182125083613189714019889242628648306871381416868124076028052134869771817088, 0, 232891928788622310225490703803765248420682997041030792506504480938087384482079128626125608701236456555640627491385779180618940936945776549823337006292630939878000441077843742540811660129478114164622389141885581499883654604088130069386651, 0, -93839865657063502385138736810448464675790765958843024985319407887618888058615963232690465006560565553257097619004061546554551598945931743784717597676008779568067746398614406767481264511142518716029713453919483098298921233, 0, 29192460937077259486944767637595479471540748509577879005992312160840970853534795356030483540540604063108141097272933377094873163640871249935030051020152223537671886919529126164588723509160083898381634453701, 0, -7222654424851166539797721572027054227194642269294270919748950414218359120041627067148934351763821971302180335418746285282220599347320858751073911584802552771660099165607568191354745387889388, 0, 1455123250601333436926298657805232554327398474003525755617064425354981146695253526439702308615898704231206875455192950631487105849283388718829663337644423918798121660534514094, 0, -243333272985192338533346468355949159019803231403300890141252385354120564890522673807576280452530304329473873947349529794559233730621481632734027766484313001503, 0, 34316460076390784142241528598762011772647751857974704149028008783940590711694312214261455159591880159732653636193545822513250246970767832739338, 0, -4136353088273091857404076153225173082172877973538341657823024139505628452671083455236617433626750969160949088285055874906049352, 0, 431036263367724737695418340764822437651531658908747274196498916597426538594499765751698212316660598497533453319, 0, -39217788047067052724285285893126695841253779128551528073344667387673729626565148527695675733143, 0, 3142471960395514316286375353128196140289661349537508642743397466062476252815446, 0, -223448109320205766725928048542579917593799124080810840177959662, 0, 14194650174620344160607564687002471488904398082, 0, -810454661674876649458047968597, 0, 41815482366787]
def pC : List Int := [13582985290493858492773514283592667786034938469317445497485196697278130927542418487205392083207560592298578262953847383475038725543234929971155548342800628721885763499406390331782864144164680730766837160526223176512798435772129956553355286032203080380775759732320198985094884004069116123084147875437183658467465148948790552744165376, 0, -574668601693202186423853060606788552194706504643561752056451078738255663697311105674020776417897527019012946838202854849123500643446941546185684584311187665844960712968507062806269750358107513590527095614370338878395763104389262787219307357268043710287067908858068103665292126743735787721003046803907520324040804521713, 0, 4052177469449514134263928470607484445593740704076304836964750056030017581662185645289919814379561602480852948201954889375763562789961991007694783077205786273973059793045962684653445958632536425044608995072684138970664958758095793441557199932008126653474997670310908011658996840526059436079012183974461846, 0, -11429294863532825997023669627635646903141483151793425474399021439833466147342440203559436466418489727597615804338085197017258443882969928988424428846954190173192298491637104044195238412631130245322273151387620767830855432058633813975938956940353566100753368285999322973486618585270403440703, 0, 17269654321978428723215733742002281966032552937692951781763467268316784804609915400564360938419783722381287359534176347314991557406356812918899504696598304979229698805055626175490172182423108720765401951269041267920441838445751578923033481115908720661440931649527760812179914, 0, -16236535617806942883294839499665757602633195939143459182186462726414049470503959735031146949364470442220282980317792464776637482802981488181832348443986010418893655760635024549172295449104972854889875184501642428037356995776984083092992637599594944713376065226, 0, 10408105189754510891241804929150975968473915156815688720101705392941363891468795682505613490046826711217221718126891191204545302047054645423896069233610577309133899082172944857713407220553284635585562369942814559645513585948506709285437740699308, 0, -4838965427001938655346172276255939244875115178969490278233758659868366268442640728885442712817948833740620909808462128461053740088631840080138691900863655411179962052488585623659197503255957647371164167598574747241189113321064444, 0, 1706056901400948118694321212539555200326225679826218157294713062381406048565045423048197305898024614197668771162272019788940948998850390072841040683986687478748066145550464733258651294744982531983170562808770377054, 0, -471763481585025358911179225566963213045653573354739646791583248522849383723010460739619243475573081528549594796620022509611785450768392078513115357340620358329825175107993884043144301727575293632299, 0, 105049250372825176682580854897111915051617306887458972762457805315991346553167166434380149054184255389838848154726393456080493508071586455770443685063004637803943023525587422515584577, 0, -19239917988875626312227894799974659012413357003419092955695277010490940898653681252680206524944351553232792993970474627386856405734971542397270244274308930115773750584, 0, 2949282495309567699181717224403031232218014644955548155831864755630187297104331748683529001365934838811275107909980824820504724309287782776296647235563, 0, -383932830745002572433060627926955930139461351864340158656871217547761517669853236371442500544107881986337496766180480536652040874879322, 0, 42972012152024467328612144038597135652864785350714320125353338176246082326583762841859800112998823293738668859513619598, 0, -4179445550700121441162856926070669865447284563132635248659981474031645527180665987851689802836430651002, 0, 356499753526352596222799515086972975193584115502873101380718405979857728377749042131910, 0, -26885530568873811177835830779640718284402967454995416628550709544019340, 0, 1805511673608249601900016330182259275412984218141342962, 0, -108659377945575899060988880168917346670, 0, 5893792618484707954062]
def addP : List Int → List Int → List Int
  | [], q => q
  | p, [] => p
  | a :: p, b :: q => (a + b) :: addP p q
def sclP (k : Int) (p : List Int) : List Int := p.map (k * ·)
def shiftP : List Int → List Int
  | [] => []
  | c :: p => addP (c :: shiftP p) (shiftP p)
theorem ev_addP : ∀ (p q : List Int) (x : Int), ev (addP p q) x = ev p x + ev q x
  | [], q, x => by simp [addP, ev]
  | a :: p, [], x => by simp [addP, ev]
  | a :: p, b :: q, x => by
    have := ev_addP p q x
    simp only [addP, ev]
    rw [this]; grind
theorem ev_sclP (k : Int) : ∀ (p : List Int) (x : Int), ev (sclP k p) x = k * ev p x
  | [], x => by simp [sclP, ev]
  | a :: p, x => by
    have := ev_sclP k p x
    show k * a + x * ev (sclP k p) x = k * (a + x * ev p x)
    rw [this]; grind
theorem ev_shiftP : ∀ (p : List Int) (x : Int), ev (shiftP p) x = ev p (x + 1)
  | [], x => rfl
  | c :: p, x => by
    have := ev_shiftP p x
    simp only [shiftP, ev_addP, ev]
    rw [this]; grind
def absB (B : Nat) : List Int → Nat
  | [] => 0
  | c :: p => c.natAbs + B * absB B p
theorem ev_abs {B : Nat} {x : Int} (h : -(B : Int) ≤ x ∧ x ≤ B) : ∀ p, -(absB B p : Int) ≤ ev p x ∧ ev p x ≤ (absB B p : Int)
  | [] => by simp [absB, ev]
  | c :: p => abs_add_le (abs_self c) (abs_mul_le h (ev_abs h p))
def rS : List Int := addP (sclP gD (shiftP pS)) (addP (sclP (-(gM : Int)) pC) (sclP (-(gN : Int)) pS))
def rC : List Int := addP (sclP gD (shiftP pC)) (addP (sclP (-(gN : Int)) pC) (sclP gM pS))
abbrev p900 : Nat := 2 ^ 900
theorem rS_small : absB 2700000 rS ≤ gD * p900 := by decide +kernel
theorem rC_small : absB 2700000 rC ≤ gD * p900 := by decide +kernel
abbrev p1100 : Rat := ((2 ^ 1100 : Nat) : Rat)
abbrev d200 : Rat := 1 / ((2 ^ 200 : Nat) : Rat)
def Ps (n : Nat) : Rat := (ev pS n : Rat) / p1100
def Pc (n : Nat) : Rat := (ev pC n : Rat) / p1100
theorem d200_pos : 0 < d200 := by decide +kernel
theorem Ps_mul (n : Nat) : Ps n * p1100 = (ev pS n : Rat) := Rat.div_mul_cancel (by decide +kernel)
theorem Pc_mul (n : Nat) : Pc n * p1100 = (ev pC n : Rat) := Rat.div_mul_cancel (by decide +kernel)
theorem p1100_pos : 0 < p1100 := by decide +kernel
theorem gD_pos : (0 : Rat) < ((gD : Nat) : Rat) := by decide +kernel
theorem c1_mul : c1R * ((gD : Nat) : Rat) = ((gN : Nat) : Rat) := Rat.div_mul_cancel (by decide +kernel)
theorem s1_mul : s1R * ((gD : Nat) : Rat) = ((gM : Nat) : Rat) := Rat.div_mul_cancel (by decide +kernel)
theorem rest_small {r : Int} {x : Rat} (h : -((gD * p900 : Nat) : Int) ≤ r ∧ r ≤ ((gD * p900 : Nat) : Int)) (e : x * p1100 * ((gD : Nat) : Rat) = (r : Rat)) : -d200 ≤ x ∧ x ≤ d200 := by
  have g1 := Rat.intCast_le_intCast.2 h.1
  have g2 := Rat.intCast_le_intCast.2 h.2
  rw [← e] at g1 g2
  rw [Rat.intCast_neg] at g1
  rw [Rat.intCast_natCast] at g1 g2
  have ed : ((gD * p900 : Nat) : Rat) = d200 * p1100 * ((gD : Nat) : Rat) := by decide +kernel
  rw [ed] at g1 g2
  have hp := p1100_pos
  have hg := gD_pos
  have hpg := Rat.mul_pos hp hg
  generalize ((gD : Nat) : Rat) = D at *
  generalize p1100 = P at *
  generalize d200 = d at *
  exact ⟨Rat.le_of_mul_le_mul_right (c := P * D) (by grind) hpg, Rat.le_of_mul_le_mul_right (c := P * D) (by grind) hpg⟩
theorem abs_up {a b : Nat} {x : Int} (h : -(a : Int) ≤ x ∧ x ≤ a) (hab : a ≤ b) : -(b : Int) ≤ x ∧ x ≤ b := by omega
theorem rS_ev (x : Int) : ev rS x = gD * ev pS (x + 1) - gM * ev pC x - gN * ev pS x := by
  unfold rS
  rw [ev_addP, ev_addP, ev_sclP, ev_sclP, ev_sclP, ev_shiftP]
  generalize (gD : Int) = a
  generalize (gM : Int) = b
  generalize (gN : Int) = c
  grind
theorem rC_ev (x : Int) : ev rC x = gD * ev pC (x + 1) - gN * ev pC x + gM * ev pS x := by
  unfold rC
  rw [ev_addP, ev_addP, ev_sclP, ev_sclP, ev_sclP, ev_shiftP]
  generalize (gD : Int) = a
  generalize (gM : Int) = b
  generalize (gN : Int) = c
  grind
theorem Ps_step {n : Nat} (h : n ≤ 2700000) : -d200 ≤ Ps (n + 1) - (s1R * Pc n + c1R * Ps n) ∧ Ps (n + 1) - (s1R * Pc n + c1R * Ps n) ≤ d200 := by
  have hb := ev_abs (B := 2700000) (x := (n : Int)) (by omega) rS
  refine rest_small (r := ev rS n) (abs_up hb rS_small) ?_
  rw [rS_ev, Rat.intCast_sub, Rat.intCast_sub, Rat.intCast_mul, Rat.intCast_mul, Rat.intCast_mul, show (n : Int) + 1 = ((n + 1 : Nat) : Int) by omega, ← Ps_mul, ← Ps_mul, ← Pc_mul, Rat.intCast_natCast, Rat.intCast_natCast, Rat.intCast_natCast, ← c1_mul, ← s1_mul]
  generalize ((gD : Nat) : Rat) = D
  generalize p1100 = P
  grind
theorem Pc_step {n : Nat} (h : n ≤ 2700000) : -d200 ≤ Pc (n + 1) - (c1R * Pc n - s1R * Ps n) ∧ Pc (n + 1) - (c1R * Pc n - s1R * Ps n) ≤ d200 := by
  have hb := ev_abs (B := 2700000) (x := (n : Int)) (by omega) rC
  refine rest_small (r := ev rC n) (abs_up hb rC_small) ?_
  rw [rC_ev, Rat.intCast_add, Rat.intCast_sub, Rat.intCast_mul, Rat.intCast_mul, Rat.intCast_mul, show (n : Int) + 1 = ((n + 1 : Nat) : Int) by omega, ← Ps_mul, ← Pc_mul, ← Pc_mul, Rat.intCast_natCast, Rat.intCast_natCast, Rat.intCast_natCast, ← c1_mul, ← s1_mul]
  generalize ((gD : Nat) : Rat) = D
  generalize p1100 = P
  grind
theorem mul_abs {a e d : Rat} (h1 : -1 ≤ a) (h2 : a ≤ 1) (h3 : -d ≤ e) (h4 : e ≤ d) : -d ≤ a * e ∧ a * e ≤ d := by
  have hd : 0 ≤ d := by grind
  rcases Rat.nonneg_total e with h | h
  · have b1 := Rat.mul_le_mul_of_nonneg_right h1 h
    have b2 := Rat.mul_le_mul_of_nonneg_right h2 h
    exact ⟨by grind, by grind⟩
  · have b1 := Rat.mul_le_mul_of_nonneg_right h1 h
    have b2 := Rat.mul_le_mul_of_nonneg_right h2 h
    exact ⟨by grind, by grind⟩
theorem back (n : Nat) (h : n ≤ 2700000) : (-(2 * (n : Rat) * d200) ≤ Cn n * Pc n + Sn n * Ps n - 1 ∧ Cn n * Pc n + Sn n * Ps n - 1 ≤ 2 * (n : Rat) * d200) ∧ (-(2 * (n : Rat) * d200) ≤ Cn n * Ps n - Sn n * Pc n ∧ Cn n * Ps n - Sn n * Pc n ≤ 2 * (n : Rat) * d200) := by
  induction n with
  | zero =>
    have e1 : Ps 0 = 0 := by unfold Ps; decide +kernel
    have e2 : Pc 0 = 1 := by unfold Pc; decide +kernel
    have e3 : ((0 : Nat) : Rat) = 0 := rfl
    rw [Cn_0, Sn_0, e1, e2, e3]
    exact ⟨⟨by grind, by grind⟩, ⟨by grind, by grind⟩⟩
  | succ n ih =>
    obtain ⟨⟨x1, x2⟩, ⟨y1, y2⟩⟩ := ih (by omega)
    obtain ⟨s1, s2⟩ := Ps_step (n := n) (by omega)
    obtain ⟨k1, k2⟩ := Pc_step (n := n) (by omega)
    have cb := C_abs ((n + 1 : Nat) : Int)
    have sb := S_abs ((n + 1 : Nat) : Int)
    rw [C_nat] at cb
    rw [S_nat] at sb
    obtain ⟨es, hes⟩ : ∃ e, e = Ps (n + 1) - (s1R * Pc n + c1R * Ps n) := ⟨_, rfl⟩
    obtain ⟨ec, hec⟩ : ∃ e, e = Pc (n + 1) - (c1R * Pc n - s1R * Ps n) := ⟨_, rfl⟩
    rw [← hes] at s1 s2
    rw [← hec] at k1 k2
    have m1 := mul_abs cb.1 cb.2 k1 k2
    have m2 := mul_abs sb.1 sb.2 s1 s2
    have m3 := mul_abs cb.1 cb.2 s1 s2
    have m4 := mul_abs sb.1 sb.2 k1 k2
    have p1 : Ps (n + 1) = s1R * Pc n + c1R * Ps n + es := by rw [hes]; grind
    have p2 : Pc (n + 1) = c1R * Pc n - s1R * Ps n + ec := by rw [hec]; grind
    have u := unit1
    have e1 : ((n + 1 : Nat) : Rat) = (n : Rat) + 1 := by rw [Rat.natCast_add]; rfl
    have X : Cn (n + 1) * Pc (n + 1) + Sn (n + 1) * Ps (n + 1) = Cn n * Pc n + Sn n * Ps n + (Cn (n + 1) * ec + Sn (n + 1) * es) := by
      have a : Cn (n + 1) * (c1R * Pc n - s1R * Ps n) + Sn (n + 1) * (s1R * Pc n + c1R * Ps n) = (Cn n * Pc n + Sn n * Ps n) * (c1R * c1R + s1R * s1R) := by
        rw [Cn_s, Sn_s]; grind
      rw [u] at a
      rw [p1, p2]; grind
    have Y : Cn (n + 1) * Ps (n + 1) - Sn (n + 1) * Pc (n + 1) = Cn n * Ps n - Sn n * Pc n + (Cn (n + 1) * es - Sn (n + 1) * ec) := by
      have a : Cn (n + 1) * (s1R * Pc n + c1R * Ps n) - Sn (n + 1) * (c1R * Pc n - s1R * Ps n) = (Cn n * Ps n - Sn n * Pc n) * (c1R * c1R + s1R * s1R) := by
        rw [Cn_s, Sn_s]; grind
      rw [u] at a
      rw [p1, p2]; grind
    rw [X, Y, e1]
    generalize d200 = d at *
    generalize Cn (n + 1) * ec = z1 at *
    generalize Sn (n + 1) * es = z2 at *
    generalize Cn (n + 1) * es = z3 at *
    generalize Sn (n + 1) * ec = z4 at *
    exact ⟨⟨by grind, by grind⟩, ⟨by grind, by grind⟩⟩
abbrev d170 : Rat := 1 / ((2 ^ 170 : Nat) : Rat)
theorem P_near (n : Nat) (h : n ≤ 2700000) : (-d170 ≤ Ps n - Sn n ∧ Ps n - Sn n ≤ d170) ∧ (-d170 ≤ Pc n - Cn n ∧ Pc n - Cn n ≤ d170) := by
  obtain ⟨x, y⟩ := back n h
  have u := unitN_ n
  have cb := C_abs (n : Int)
  have sb := S_abs (n : Int)
  rw [C_nat] at cb
  rw [S_nat] at sb
  obtain ⟨X, hX⟩ : ∃ e, e = Cn n * Pc n + Sn n * Ps n - 1 := ⟨_, rfl⟩
  obtain ⟨Y, hY⟩ : ∃ e, e = Cn n * Ps n - Sn n * Pc n := ⟨_, rfl⟩
  rw [← hX] at x
  rw [← hY] at y
  have m1 := mul_abs sb.1 sb.2 x.1 x.2
  have m2 := mul_abs cb.1 cb.2 y.1 y.2
  have m3 := mul_abs cb.1 cb.2 x.1 x.2
  have m4 := mul_abs sb.1 sb.2 y.1 y.2
  have e1 : Ps n - Sn n = Sn n * X + Cn n * Y := by
    rw [hX, hY]
    have : Ps n * (Cn n * Cn n + Sn n * Sn n) = Ps n := by rw [u]; grind
    grind
  have e2 : Pc n - Cn n = Cn n * X - Sn n * Y := by
    rw [hX, hY]
    have : Pc n * (Cn n * Cn n + Sn n * Sn n) = Pc n := by rw [u]; grind
    grind
  have hn : (n : Rat) ≤ 2700000 := natR h
  have hd := Rat.le_of_lt d200_pos
  have b := Rat.mul_le_mul_of_nonneg_right hn hd
  have c : 4 * (2700000 * d200) ≤ d170 := by decide +kernel
  rw [e1, e2]
  generalize d200 = d at *
  generalize d170 = D at *
  generalize Sn n * X = z1 at *
  generalize Cn n * Y = z2 at *
  generalize Cn n * X = z3 at *
  generalize Sn n * Y = z4 at *
  exact ⟨⟨by grind, by grind⟩, ⟨by grind, by grind⟩⟩
end Go.Proofs.YtjmdeplmenbmmaaGreatDoor.TT
