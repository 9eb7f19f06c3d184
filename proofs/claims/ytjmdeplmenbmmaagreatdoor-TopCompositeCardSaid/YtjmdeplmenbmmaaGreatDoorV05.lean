/- Joined texts: GeM, GeN, Brg, Brg2. -/
import Derived.Test.YtjmdeplmenbmmaaGreatDoorV04
set_option linter.unusedVariables false
namespace Go.Proofs.YtjmdeplmenbmmaaGreatDoor.TT
def meetsI (lo hi n : Int) : Bool := decide (turnI (n - lo) ≤ hi - lo)
def encl (lo hi : Int) : Int × Int := (if meetsI lo hi 16200000 = true then -1073741824 else min (bnd lo).1 (bnd hi).1, if meetsI lo hi 5400000 = true then 1073741824 else max (bnd lo).2 (bnd hi).2)
def cosE (lo hi : Int) : Int × Int := encl (lo + 5400000) (hi + 5400000)
def havE (lo hi : Int) : Int × Int := ((1073741824 - (cosE lo hi).2) / 2, (1073741824 - (cosE lo hi).1 + 1) / 2)
def mulE (x y : Int × Int) : Int × Int := (min (min (x.1 * y.1) (x.1 * y.2)) (min (x.2 * y.1) (x.2 * y.2)) / 1073741824, -(-(max (max (x.1 * y.1) (x.1 * y.2)) (max (x.2 * y.1) (x.2 * y.2))) / 1073741824))
def addE (x y : Int × Int) : Int × Int := (x.1 + y.1, x.2 + y.2)
def IsAsin (v n : Int) : Prop := -5400000 ≤ n ∧ n ≤ 5400000 ∧ (bnd n).2 ≤ v ∧ ∀ m, n < m → m ≤ 5400000 → v < (bnd m).2
def clamp (p : Int × Int) : Int × Int := (max p.1 0, min p.2 1073741824)
theorem turn_add (n : Int) (k : Int) : turnI (n + 21600000 * k) = turnI n := by unfold turnI; omega
theorem bnd_turn (n k : Int) : bnd (n + 21600000 * k) = bnd n := by unfold bnd; rw [turn_add]
theorem bnd_half {n : Int} (h0 : 5400000 ≤ n) (h1 : n ≤ 16200000) : bnd n = bnd (10800000 - n) := by
  have e1 : turnI n = n := Int.emod_eq_of_lt (by omega) (by omega)
  by_cases hn : n ≤ 10800000
  · rw [bnd_pos (n := 10800000 - n) (by omega) (by omega)]
    unfold bnd
    have f : foldI n = 10800000 - n := by unfold foldI; omega
    rw [e1, if_neg (by omega), f]
  · rw [bnd_neg (n := 10800000 - n) (by omega) (by omega)]
    unfold bnd
    have f : foldI n = -(10800000 - n) := by unfold foldI; omega
    rw [e1, if_pos (by omega), f]
theorem bnd_dec {n m : Int} (h0 : 5400000 ≤ n) (h : n ≤ m) (h1 : m ≤ 16200000) : (bnd m).2 ≤ (bnd n).2 ∧ (bnd m).1 ≤ (bnd n).1 := by
  rw [bnd_half h0 (by omega), bnd_half (n := m) (by omega) h1]
  exact bnd_mono (by omega) (by omega) (by omega)
theorem bnd_inc2 {n m : Int} (h0 : 16200000 ≤ n) (h : n ≤ m) (h1 : m ≤ 27000000) : (bnd n).2 ≤ (bnd m).2 ∧ (bnd n).1 ≤ (bnd m).1 := by
  have e : ∀ x, bnd x = bnd (x - 21600000) := fun x => by
    have := bnd_turn (x - 21600000) 1
    rwa [show x - 21600000 + 21600000 * 1 = x by omega] at this
  rw [e n, e m]
  exact bnd_mono (by omega) (by omega) (by omega)
theorem meets_turn (lo hi n k : Int) : meetsI (lo + 21600000 * k) (hi + 21600000 * k) n = meetsI lo hi n := by
  unfold meetsI
  have := turn_add (n - lo) (-k)
  rw [show n - (lo + 21600000 * k) = n - lo + 21600000 * -k by omega, this, show hi + 21600000 * k - (lo + 21600000 * k) = hi - lo by omega]
theorem encl_turn (lo hi k : Int) : encl (lo + 21600000 * k) (hi + 21600000 * k) = encl lo hi := by
  unfold encl
  rw [meets_turn, meets_turn, bnd_turn, bnd_turn]
theorem encl_bd (lo hi : Int) : -1073741824 ≤ (encl lo hi).1 ∧ (encl lo hi).2 ≤ 1073741824 := by
  have a := bnd_bd lo
  have b := bnd_bd hi
  unfold encl
  dsimp only
  constructor
  · split <;> omega
  · split <;> omega
/-! ### what is enclosed, up to a little -/
def Enc (p : Int × Int) (x d : Rat) : Prop := ∃ x' : Rat, (p.1 : Rat) ≤ oR * x' ∧ oR * x' ≤ (p.2 : Rat) ∧ Near x x' d
theorem oR_pos : (0 : Rat) < oR := by decide +kernel
theorem Enc.wide {p q : Int × Int} {x d : Rat} (h : Enc p x d) (h1 : q.1 ≤ p.1) (h2 : p.2 ≤ q.2) : Enc q x d := by
  obtain ⟨y, a, b, c⟩ := h
  exact ⟨y, Rat.le_trans (Rat.intCast_le_intCast.2 h1) a, Rat.le_trans b (Rat.intCast_le_intCast.2 h2), c⟩
theorem Enc.near {p : Int × Int} {x y d e : Rat} (h : Enc p x d) (hn : Near y x e) : Enc p y (e + d) := by
  obtain ⟨z, a, b, c⟩ := h
  exact ⟨z, a, b, hn.trans c⟩
theorem Enc.mono {p : Int × Int} {x d e : Rat} (h : Enc p x d) (hde : d ≤ e) : Enc p x e := by
  obtain ⟨z, a, b, c⟩ := h
  exact ⟨z, a, b, c.mono hde⟩
theorem floor_le_R {m : Int} {x : Rat} (h : (m : Rat) ≤ oR * x) : ((m / 1073741824 : Int) : Rat) ≤ x := by
  have h1 : m / 1073741824 * 1073741824 ≤ m := Int.ediv_mul_le m (by decide)
  have g := Rat.le_trans (Rat.intCast_le_intCast.2 h1) h
  rw [Rat.intCast_mul] at g
  have e2 : ((1073741824 : Int) : Rat) = 1073741824 := rfl
  rw [e2] at g
  refine Rat.le_of_mul_le_mul_left (c := oR) ?_ oR_pos
  grind
theorem corner {a b c e x y : Rat} (ha : a ≤ x) (hb : x ≤ b) (hc : c ≤ y) (he : y ≤ e) (m M : Rat) (h1 : m ≤ a * c ∧ m ≤ a * e ∧ m ≤ b * c ∧ m ≤ b * e) (h2 : a * c ≤ M ∧ a * e ≤ M ∧ b * c ≤ M ∧ b * e ≤ M) : m ≤ x * y ∧ x * y ≤ M := by
  obtain ⟨m1, m2, m3, m4⟩ := h1
  obtain ⟨M1, M2, M3, M4⟩ := h2
  -- between a y and b y
  have ay : m ≤ a * y ∧ a * y ≤ M := by
    rcases Rat.nonneg_total a with g | g
    · have p1 := Rat.mul_le_mul_of_nonneg_left hc g
      have p2 := Rat.mul_le_mul_of_nonneg_left he g
      exact ⟨by grind, by grind⟩
    · have p1 := Rat.mul_le_mul_of_nonneg_left hc g
      have p2 := Rat.mul_le_mul_of_nonneg_left he g
      exact ⟨by grind, by grind⟩
  have bY : m ≤ b * y ∧ b * y ≤ M := by
    rcases Rat.nonneg_total b with g | g
    · have p1 := Rat.mul_le_mul_of_nonneg_left hc g
      have p2 := Rat.mul_le_mul_of_nonneg_left he g
      exact ⟨by grind, by grind⟩
    · have p1 := Rat.mul_le_mul_of_nonneg_left hc g
      have p2 := Rat.mul_le_mul_of_nonneg_left he g
      exact ⟨by grind, by grind⟩
  rcases Rat.nonneg_total y with g | g
  · have p1 := Rat.mul_le_mul_of_nonneg_right ha g
    have p2 := Rat.mul_le_mul_of_nonneg_right hb g
    exact ⟨by grind, by grind⟩
  · have p1 := Rat.mul_le_mul_of_nonneg_right ha g
    have p2 := Rat.mul_le_mul_of_nonneg_right hb g
    exact ⟨by grind, by grind⟩
theorem mul_enc {p q : Int × Int} {x y d e : Rat} (hp : Enc p x d) (hq : Enc q y e) (hd : 0 ≤ d) (he : 0 ≤ e) (bp : -1073741824 ≤ p.1 ∧ p.2 ≤ 1073741824) (hy : -1 ≤ y ∧ y ≤ 1) : Enc (mulE p q) (x * y) (d + e) := by
  obtain ⟨x', a1, a2, n1, n2⟩ := hp
  obtain ⟨y', b1, b2, k1, k2⟩ := hq
  have e2 : ((1073741824 : Int) : Rat) = 1073741824 := rfl
  refine ⟨x' * y', ?_, ?_, ?_⟩
  · have h := (corner a1 a2 b1 b2 ((min (min (p.1 * q.1) (p.1 * q.2)) (min (p.2 * q.1) (p.2 * q.2)) : Int) : Rat) ((max (max (p.1 * q.1) (p.1 * q.2)) (max (p.2 * q.1) (p.2 * q.2)) : Int) : Rat)
      (by rw [← Rat.intCast_mul, ← Rat.intCast_mul, ← Rat.intCast_mul, ← Rat.intCast_mul]; exact ⟨Rat.intCast_le_intCast.2 (by omega), Rat.intCast_le_intCast.2 (by omega), Rat.intCast_le_intCast.2 (by omega), Rat.intCast_le_intCast.2 (by omega)⟩)
      (by rw [← Rat.intCast_mul, ← Rat.intCast_mul, ← Rat.intCast_mul, ← Rat.intCast_mul]; exact ⟨Rat.intCast_le_intCast.2 (by omega), Rat.intCast_le_intCast.2 (by omega), Rat.intCast_le_intCast.2 (by omega), Rat.intCast_le_intCast.2 (by omega)⟩)).1
    have e : oR * x' * (oR * y') = oR * (oR * (x' * y')) := by grind
    rw [e] at h
    exact floor_le_R h
  · have h := (corner a1 a2 b1 b2 ((min (min (p.1 * q.1) (p.1 * q.2)) (min (p.2 * q.1) (p.2 * q.2)) : Int) : Rat) ((max (max (p.1 * q.1) (p.1 * q.2)) (max (p.2 * q.1) (p.2 * q.2)) : Int) : Rat)
      (by rw [← Rat.intCast_mul, ← Rat.intCast_mul, ← Rat.intCast_mul, ← Rat.intCast_mul]; exact ⟨Rat.intCast_le_intCast.2 (by omega), Rat.intCast_le_intCast.2 (by omega), Rat.intCast_le_intCast.2 (by omega), Rat.intCast_le_intCast.2 (by omega)⟩)
      (by rw [← Rat.intCast_mul, ← Rat.intCast_mul, ← Rat.intCast_mul, ← Rat.intCast_mul]; exact ⟨Rat.intCast_le_intCast.2 (by omega), Rat.intCast_le_intCast.2 (by omega), Rat.intCast_le_intCast.2 (by omega), Rat.intCast_le_intCast.2 (by omega)⟩)).2
    have e : oR * x' * (oR * y') = oR * (oR * (x' * y')) := by grind
    rw [e] at h
    have h2 := floor_le_R (m := -(max (max (p.1 * q.1) (p.1 * q.2)) (max (p.2 * q.1) (p.2 * q.2)))) (x := -(oR * (x' * y'))) (by rw [Rat.intCast_neg]; grind)
    show oR * (x' * y') ≤ ((-(-(max (max (p.1 * q.1) (p.1 * q.2)) (max (p.2 * q.1) (p.2 * q.2))) / 1073741824) : Int) : Rat)
    rw [Rat.intCast_neg]
    grind
  · have l1 := Rat.intCast_le_intCast.2 bp.1
    have l2 := Rat.intCast_le_intCast.2 bp.2
    rw [Rat.intCast_neg, e2] at l1
    rw [e2] at l2
    have x1 : -1 ≤ x' := by refine Rat.le_of_mul_le_mul_left (c := oR) ?_ oR_pos; grind
    have x2 : x' ≤ 1 := by refine Rat.le_of_mul_le_mul_left (c := oR) ?_ oR_pos; grind
    have m1 := mul_abs (d := d) hy.1 hy.2 (e := x - x') (by grind) (by grind)
    have m2 := mul_abs (d := e) x1 x2 (e := y - y') (by grind) (by grind)
    exact ⟨by grind, by grind⟩
theorem add_enc {p q : Int × Int} {x y d e : Rat} (hp : Enc p x d) (hq : Enc q y e) : Enc (addE p q) (x + y) (d + e) := by
  obtain ⟨x', a1, a2, n1, n2⟩ := hp
  obtain ⟨y', b1, b2, k1, k2⟩ := hq
  refine ⟨x' + y', ?_, ?_, by grind, by grind⟩
  · show ((p.1 + q.1 : Int) : Rat) ≤ _
    rw [Rat.intCast_add]; grind
  · show _ ≤ ((p.2 + q.2 : Int) : Rat)
    rw [Rat.intCast_add]; grind
theorem dot_abs (d e w : Int) : -1 ≤ dot d e w ∧ dot d e w ≤ 1 := by
  have h1 := gram d e 0 w 0 0 1 1 0
  have h2 := gram d e 0 w 0 0 1 (-1) 0
  rw [show w - 0 = w by omega] at h1 h2
  generalize dot d e w = x at *
  exact ⟨by grind, by grind⟩
theorem hav_abs (n : Int) : -1 ≤ (1 - C n) / 2 ∧ (1 - C n) / 2 ≤ 1 := by
  have := C_abs n
  exact ⟨by grind, by grind⟩
theorem mulE_bd {p q : Int × Int} (hp : -1073741824 ≤ p.1 ∧ p.1 ≤ p.2 ∧ p.2 ≤ 1073741824) (hq : -1073741824 ≤ q.1 ∧ q.1 ≤ q.2 ∧ q.2 ≤ 1073741824) : -1073741824 ≤ (mulE p q).1 ∧ (mulE p q).1 ≤ (mulE p q).2 ∧ (mulE p q).2 ≤ 1073741824 := by
  have h1 := abs_mul_le (A := 1073741824) (u := 1073741824) (a := p.1) (t := q.1) (by omega) (by omega)
  have h2 := abs_mul_le (A := 1073741824) (u := 1073741824) (a := p.1) (t := q.2) (by omega) (by omega)
  have h3 := abs_mul_le (A := 1073741824) (u := 1073741824) (a := p.2) (t := q.1) (by omega) (by omega)
  have h4 := abs_mul_le (A := 1073741824) (u := 1073741824) (a := p.2) (t := q.2) (by omega) (by omega)
  unfold mulE
  dsimp only
  generalize p.1 * q.1 = a at *
  generalize p.1 * q.2 = b at *
  generalize p.2 * q.1 = c at *
  generalize p.2 * q.2 = e at *
  omega
theorem bnd_lt {m : Int} (h : turnI m ≠ 5400000) : (bnd m).1 < 1073741824 := by
  obtain ⟨m0, m1⟩ := turnI_bd m
  obtain ⟨f0, f1⟩ := foldI_bd m0 m1
  have hb := sinB_bd f0 f1
  unfold bnd
  split
  · dsimp only; omega
  · rename_i hg
    dsimp only
    have hf : foldI (turnI m) ≠ 5400000 := by unfold foldI; omega
    by_cases e0 : foldI (turnI m) = 0
    · rw [e0]; decide
    by_cases e1 : foldI (turnI m) = 1800000
    · rw [e1]; decide
    by_cases hg : foldI (turnI m) ≤ 2700000
    · rw [sinB_lo (by omega) hg e1] at hb ⊢
      have : hiB (flS 1 (foldI (turnI m)).toNat, false) = flS 1 (foldI (turnI m)).toNat + 1 := if_neg (fun h => Bool.noConfusion h)
      dsimp only; omega
    · rw [sinB_hi (by omega) (by omega)] at hb ⊢
      have : hiB (flS 0 (5400000 - foldI (turnI m)).toNat, false) = flS 0 (5400000 - foldI (turnI m)).toNat + 1 := if_neg (fun h => Bool.noConfusion h)
      dsimp only; omega
theorem mulE_comm (p q : Int × Int) : mulE p q = mulE q p := by
  unfold mulE
  rw [Int.mul_comm q.1 p.1, Int.mul_comm q.1 p.2, Int.mul_comm q.2 p.1, Int.mul_comm q.2 p.2]
  have e1 : ∀ a b c d : Int, min (min a b) (min c d) = min (min a c) (min b d) := fun a b c d => by omega
  have e2 : ∀ a b c d : Int, max (max a b) (max c d) = max (max a c) (max b d) := fun a b c d => by omega
  rw [e1, e2]
def reachB (x y k : Int) : Bool := if k = 0 then true else if k = 2700000 then decide (x ≤ y) else !decide (cos4 k.toNat * y < sin4 k.toNat * x)
def flA (x y : Int) : Nat → Int → Int → Int
  | 0, lo, _ => lo
  | f + 1, lo, hi => if hi - lo ≤ 1 then lo else if reachB x y ((lo + hi) / 2) = true then flA x y f ((lo + hi) / 2) hi else flA x y f lo ((lo + hi) / 2)
def flI (x y : Int) : Int := flA x y 23 0 5400000
structure IsFl (x y k : Int) : Prop where
  lo : 0 ≤ k
  hi : k < 5400000
  at_ : reachB x y k = true
  up : k + 1 < 5400000 → reachB x y (k + 1) = false
theorem flA_is {x y : Int} : ∀ (f : Nat) (lo hi : Int), 0 ≤ lo → lo < hi → hi ≤ 5400000 → reachB x y lo = true → (hi < 5400000 → reachB x y hi = false) → hi - lo ≤ 2 ^ f → IsFl x y (flA x y f lo hi)
  | 0, lo, hi, h0, h1, h2, h3, h4, h5 => by
    have e : (2 : Int) ^ 0 = 1 := rfl
    obtain rfl : hi = lo + 1 := by omega
    exact ⟨h0, by show lo < _; omega, h3, fun h => h4 h⟩
  | f + 1, lo, hi, h0, h1, h2, h3, h4, h5 => by
    unfold flA
    have e : (2 : Int) ^ (f + 1) = 2 * 2 ^ f := by rw [Int.pow_succ, Int.mul_comm]
    rw [e] at h5
    generalize hp : (2 : Int) ^ f = p at *
    split
    · obtain rfl : hi = lo + 1 := by omega
      exact ⟨h0, by omega, h3, fun h => h4 h⟩
    · split
      · exact flA_is f _ hi (by omega) (by omega) h2 (by assumption) h4 (by rw [hp]; omega)
      · refine flA_is f lo _ h0 (by omega) (by omega) h3 (fun _ => ?_) (by rw [hp]; omega)
        cases h : reachB x y ((lo + hi) / 2) with
        | true => contradiction
        | false => rfl
theorem flI_is (x y : Int) : IsFl x y (flI x y) := flA_is 23 0 5400000 (by decide) (by decide) (by decide) rfl (fun h => absurd h (by decide)) (by decide)
/-! ### at or beyond an angle, at or before it, in the first quarter -/
abbrev e6 : Rat := d146
theorem e6_nn : (0 : Rat) ≤ e6 := by decide +kernel
def GE (k : Int) (a b : Rat) : Prop := S k * a - C k * b ≤ e6 * (a + b)
def LE (k : Int) (a b : Rat) : Prop := C k * b - S k * a ≤ e6 * (a + b)
theorem sin4_nn {n : Nat} (h : n ≤ 2700000) (o first : Nat) : 0 ≤ ser4 o first (sq4 n) := by
  obtain ⟨h1, h2⟩ := alt4_bd (o := o) (sq4_lt h) 200 0 first
  unfold ser4
  omega
theorem circ_nn {k : Nat} (h : k ≤ 5400000) : 0 ≤ sin4 k ∧ 0 ≤ cos4 k := by
  unfold sin4 cos4
  split
  · exact ⟨sin4_nn (by omega) _ _, sin4_nn (by omega) _ _⟩
  · exact ⟨sin4_nn (by omega) _ _, sin4_nn (by omega) _ _⟩
theorem circ_int {k : Int} (h0 : 0 ≤ k) (h1 : k ≤ 5400000) : Near (sin4 k.toNat : Rat) (S k * wQ) (e6 * wQ) ∧ Near (cos4 k.toNat : Rat) (C k * wQ) (e6 * wQ) := by
  have := circ_near (k := k.toNat) (by omega)
  rw [show ((k.toNat : Nat) : Int) = k by omega] at this
  exact this
theorem SC_q {k : Int} (h0 : 0 ≤ k) (h1 : k ≤ 5400000) : -e6 ≤ S k ∧ -e6 ≤ C k := by
  obtain ⟨⟨a1, a2⟩, ⟨b1, b2⟩⟩ := circ_int h0 h1
  obtain ⟨n1, n2⟩ := circ_nn (k := k.toNat) (by omega)
  have g1 : (0 : Rat) ≤ (sin4 k.toNat : Rat) := Rat.intCast_nonneg.2 n1
  have g2 : (0 : Rat) ≤ (cos4 k.toNat : Rat) := Rat.intCast_nonneg.2 n2
  have hw := wQ_pos
  generalize wQ = w at *
  generalize (sin4 k.toNat : Rat) = s at *
  generalize (cos4 k.toNat : Rat) = c at *
  generalize e6 = d at *
  exact ⟨Rat.le_of_mul_le_mul_right (c := w) (by grind) hw, Rat.le_of_mul_le_mul_right (c := w) (by grind) hw⟩
theorem b312 : (bnd 1).1 = 312 := by decide +kernel
abbrev u7 : Rat := 1 / 10000000
theorem S_low {k : Int} (h0 : 1 ≤ k) (h1 : k ≤ 5400000) : u7 ≤ S k := by
  have h := (bnd_holds (n := k) (by omega) (by omega)).1
  have m := (bnd_mono (n := 1) (m := k) (by omega) h0 h1).2
  rw [b312] at m
  have g := Rat.intCast_le_intCast.2 m
  have e : ((312 : Int) : Rat) = 312 := rfl
  rw [e] at g
  have h100 : d100 ≤ 1 := by decide +kernel
  refine Rat.le_of_mul_le_mul_left (c := oR) ?_ oR_pos
  generalize S k = s at *
  grind
theorem C_low {k : Int} (h0 : 0 ≤ k) (h1 : k ≤ 5399999) : u7 / 2 ≤ C k := by
  have h := S_low (k := 5400000 - k) (by omega) (by omega)
  have g := S_co k
  have e : d148 ≤ u7 / 2 := by decide +kernel
  obtain ⟨g1, g2⟩ := g
  generalize d148 = d at *
  generalize S (5400000 - k) = s at *
  grind
theorem reach_GE {x y k : Int} (hx : 0 < x) (hy : 0 ≤ y) (h0 : 0 ≤ k) (h1 : k < 5400000) (h : reachB x y k = true) : GE k x y := by
  have hxR : (0 : Rat) < (x : Rat) := Rat.intCast_pos.2 hx
  have hyR : (0 : Rat) ≤ (y : Rat) := Rat.intCast_nonneg.2 hy
  have he := e6_nn
  have hh := half_near
  have e160 : d160 ≤ e6 := by decide +kernel
  unfold reachB at h
  unfold GE
  split at h
  · rename_i hk
    subst hk
    rw [show S 0 = 0 from Sn_0, show C 0 = 1 from Cn_0]
    have := Rat.mul_nonneg he (show 0 ≤ (x : Rat) + y by grind)
    generalize e6 = e at *
    grind
  split at h
  · rename_i _ hk
    subst hk
    have hxy := Rat.intCast_le_intCast.2 (of_decide_eq_true h)
    have eS : S 2700000 = Sn 2700000 := S_nat 2700000
    have eC : C 2700000 = Cn 2700000 := C_nat 2700000
    have hS := S_low (k := 2700000) (by omega) (by omega)
    have h7 : (0 : Rat) ≤ u7 := by decide +kernel
    have sb := S_abs 2700000
    rw [eS, eC]
    rw [eS] at hS sb
    have p1 := Rat.mul_le_mul_of_nonneg_right hh.2 hyR
    have p2 := Rat.mul_le_mul_of_nonneg_right e160 hyR
    have p7 := Rat.mul_nonneg he (show 0 ≤ (x : Rat) by grind)
    have p4 := Rat.mul_nonneg he (show 0 ≤ (y : Rat) - x by grind)
    have p5 := Rat.mul_nonneg (Rat.le_trans h7 hS) (show 0 ≤ (y : Rat) - x by grind)
    have p6 := Rat.mul_nonneg he (show 0 ≤ (x : Rat) by grind)
    generalize e6 = e at *
    generalize Sn 2700000 = s at *
    generalize Cn 2700000 = c at *
    grind
  · obtain ⟨⟨a1, a2⟩, ⟨b1, b2⟩⟩ := circ_int h0 (by omega)
    have h2 : sin4 k.toNat * x ≤ cos4 k.toNat * y := by
      cases hd : decide (cos4 k.toNat * y < sin4 k.toNat * x) with
      | true => rw [hd] at h; exact absurd h (by decide)
      | false => have := of_decide_eq_false hd; omega
    have g := Rat.intCast_le_intCast.2 h2
    rw [Rat.intCast_mul, Rat.intCast_mul] at g
    have hw := wQ_pos
    have p1 := Rat.mul_le_mul_of_nonneg_right a2 (Rat.le_of_lt hxR)
    have p2 := Rat.mul_le_mul_of_nonneg_right b1 hyR
    refine Rat.le_of_mul_le_mul_right (c := wQ) ?_ hw
    generalize wQ = w at *
    generalize (sin4 k.toNat : Rat) = s at *
    generalize (cos4 k.toNat : Rat) = c at *
    generalize e6 = d at *
    grind
theorem unreach_LE {x y k : Int} (hx : 0 < x) (hy : 0 ≤ y) (h0 : 0 ≤ k) (h1 : k < 5400000) (h : reachB x y k = false) : LE k x y := by
  have hxR : (0 : Rat) < (x : Rat) := Rat.intCast_pos.2 hx
  have hyR : (0 : Rat) ≤ (y : Rat) := Rat.intCast_nonneg.2 hy
  have he := e6_nn
  have hh := half_near
  have e160 : d160 ≤ e6 := by decide +kernel
  unfold reachB at h
  unfold LE
  split at h
  · exact absurd h (by decide)
  split at h
  · rename_i _ hk
    subst hk
    have hxy := Rat.intCast_le_intCast.2 (show y ≤ x by have := of_decide_eq_false h; omega)
    have eS : S 2700000 = Sn 2700000 := S_nat 2700000
    have eC : C 2700000 = Cn 2700000 := C_nat 2700000
    have hS := S_low (k := 2700000) (by omega) (by omega)
    have h7 : (0 : Rat) ≤ u7 := by decide +kernel
    rw [eS, eC]
    rw [eS] at hS
    generalize Sn 2700000 = s at *
    generalize Cn 2700000 = c at *
    have p7 := Rat.mul_nonneg he (show 0 ≤ (x : Rat) by grind)
    have p1 := Rat.mul_le_mul_of_nonneg_right (show c - s ≤ e6 by obtain ⟨q1, q2⟩ := hh; generalize e6 = e at *; generalize d160 = z at *; grind) hyR
    have p5 := Rat.mul_nonneg (Rat.le_trans h7 hS) (show 0 ≤ (x : Rat) - y by grind)
    generalize e6 = e at *
    grind
  · obtain ⟨⟨a1, a2⟩, ⟨b1, b2⟩⟩ := circ_int h0 (by omega)
    have h2 : cos4 k.toNat * y ≤ sin4 k.toNat * x := by
      cases hd : decide (cos4 k.toNat * y < sin4 k.toNat * x) with
      | true => have := of_decide_eq_true hd; omega
      | false => rw [hd] at h; exact absurd h (by decide)
    have g := Rat.intCast_le_intCast.2 h2
    rw [Rat.intCast_mul, Rat.intCast_mul] at g
    have hw := wQ_pos
    have p1 := Rat.mul_le_mul_of_nonneg_right a1 (Rat.le_of_lt hxR)
    have p2 := Rat.mul_le_mul_of_nonneg_right b2 hyR
    refine Rat.le_of_mul_le_mul_right (c := wQ) ?_ hw
    generalize wQ = w at *
    generalize (sin4 k.toNat : Rat) = s at *
    generalize (cos4 k.toNat : Rat) = c at *
    generalize e6 = d at *
    grind
theorem GE.go {k : Int} {a b c d : Rat} (h0 : 0 ≤ k) (h1 : k ≤ 5400000) (h : GE k a b) (ha : 0 < a) (hc : 0 ≤ c) (hd : 0 ≤ d) (hx : b * c ≤ a * d) : GE k c d := by
  obtain ⟨s1, c1⟩ := SC_q h0 h1
  unfold GE at *
  generalize e6 = e at *
  generalize S k = s at *
  generalize C k = t at *
  rcases Rat.le_total (a := s - e) (b := 0) with g | g
  · have p1 := Rat.mul_nonneg (show 0 ≤ e - s by grind) hc
    have p2 := Rat.mul_nonneg (show 0 ≤ t + e by grind) hd
    grind
  · have p1 := Rat.mul_le_mul_of_nonneg_right (show (s - e) * a ≤ (t + e) * b by grind) hc
    have p2 := Rat.mul_le_mul_of_nonneg_left hx (show 0 ≤ t + e by grind)
    have : (s - e) * c ≤ (t + e) * d := Rat.le_of_mul_le_mul_right (c := a) (by grind) ha
    grind
theorem LE.go {k : Int} {a b c d : Rat} (h0 : 0 ≤ k) (h1 : k ≤ 5400000) (h : LE k a b) (ha : 0 < a) (hc : 0 ≤ c) (hd : 0 ≤ d) (hx : d * a ≤ c * b) : LE k c d := by
  obtain ⟨s1, c1⟩ := SC_q h0 h1
  unfold LE at *
  generalize e6 = e at *
  generalize S k = s at *
  generalize C k = t at *
  rcases Rat.le_total (a := t - e) (b := 0) with g | g
  · have p1 := Rat.mul_nonneg (show 0 ≤ e - t by grind) hd
    have p2 := Rat.mul_nonneg (show 0 ≤ s + e by grind) hc
    grind
  · have p1 := Rat.mul_le_mul_of_nonneg_left hx (show 0 ≤ t - e by grind)
    have p2 := Rat.mul_le_mul_of_nonneg_right (show (t - e) * b ≤ (s + e) * a by grind) hc
    have : (t - e) * d ≤ (s + e) * c := Rat.le_of_mul_le_mul_right (c := a) (by grind) ha
    grind
theorem GE.zero {a b : Rat} (ha : 0 ≤ a) (hb : 0 ≤ b) : GE 0 a b := by
  unfold GE
  rw [show S 0 = 0 from Sn_0, show C 0 = 1 from Cn_0]
  have := Rat.mul_nonneg e6_nn (show 0 ≤ a + b by grind)
  generalize e6 = e at *
  grind
theorem LE.top {a b : Rat} (ha : 0 ≤ a) (hb : 0 ≤ b) : LE 5400000 a b := by
  unfold LE
  obtain ⟨⟨c1, c2⟩, s1, s2⟩ := quarter
  have e1 : d150 ≤ e6 := by decide +kernel
  have e2 : d150 ≤ 1 := by decide +kernel
  generalize S 5400000 = s at *
  generalize C 5400000 = t at *
  have p1 := Rat.mul_le_mul_of_nonneg_right (Rat.le_trans c2 e1) hb
  have p2 := Rat.mul_nonneg (show 0 ≤ s by grind) ha
  have p3 := Rat.mul_nonneg e6_nn ha
  generalize e6 = e at *
  grind
theorem GE.le {n m : Int} {a b : Rat} (hn0 : 0 ≤ n) (hn : n ≤ 5400000) (hm0 : 0 ≤ m) (hm : m ≤ 5400000) (hg : GE n a b) (hl : LE m a b) (ha : 0 < a) (hb : 0 ≤ b) : n ≤ m := by
  refine Int.not_lt.1 fun hlt => ?_
  have h1 := S_low (k := n - m) (by omega) (by omega)
  have h2 := C_low (k := m) hm0 (by omega)
  have h3 := (sub_i n m).2
  obtain ⟨s1, c1⟩ := SC_q hn0 hn
  obtain ⟨s2, c2⟩ := SC_q hm0 hm
  have a1 := S_abs n
  have a2 := C_abs n
  have a3 := S_abs m
  have a4 := C_abs m
  have he : e6 ≤ u7 / 100 := by decide +kernel
  have he0 := e6_nn
  rw [h3] at h1
  unfold GE at hg
  unfold LE at hl
  generalize e6 = e at *
  generalize S n = sn at *
  generalize C n = cn at *
  generalize S m = sm at *
  generalize C m = cm at *
  have p1 := Rat.mul_le_mul_of_nonneg_left (show (sn - e) * a ≤ (cn + e) * b by grind) (show 0 ≤ cm - e by grind)
  have p2 := Rat.mul_le_mul_of_nonneg_left (show (cm - e) * b ≤ (sm + e) * a by grind) (show 0 ≤ cn + e by grind)
  have p3 : (cm - e) * (sn - e) ≤ (cn + e) * (sm + e) := Rat.le_of_mul_le_mul_right (c := a) (by grind) ha
  have q1 := Rat.mul_le_mul_of_nonneg_left (show sn + cm + cn + sm ≤ 4 by grind) he0
  grind
def qd (x y : Int) : Int := if 0 < x ∧ 0 ≤ y then 0 else if 0 < y then 1 else if x < 0 then 2 else 3
def rX (x y : Int) : Int := if 0 < x ∧ 0 ≤ y then x else if 0 < y then y else if x < 0 then -x else -y
def rY (x y : Int) : Int := if 0 < x ∧ 0 ≤ y then y else if 0 < y then -x else if x < 0 then -y else x
def exF (x y : Int) : Bool := (decide (flI x y = 0) && decide (y = 0)) || (decide (flI x y = 2700000) && decide (x = y))
def angI (p : Int × Int) : Int := 5400000 * qd p.1 p.2 + flI (rX p.1 p.2) (rY p.1 p.2)
def exI (p : Int × Int) : Bool := exF (rX p.1 p.2) (rY p.1 p.2)
def befI (p q : Int × Int) : Bool := decide (p.2 * q.1 ≤ p.1 * q.2)
def fstI (c : Int × Int) (l : List (Int × Int)) : Int × Int := l.foldl (fun f c => if befI c f = true then c else f) c
def lstI (c : Int × Int) (l : List (Int × Int)) : Int × Int := l.foldl (fun f c => if befI f c = true then c else f) c
def corners (y x : Int × Int) : List (Int × Int) := [(x.1, y.1), (x.1, y.2), (x.2, y.1), (x.2, y.2)]
def arcI (f l : Int × Int) : Int × Int := (angI f, (if angI l < angI f then angI l + 21600000 else angI l) + if exI l = true then 0 else 1)
def brgI (y x : Int × Int) : Int × Int := if x.1 ≤ 0 ∧ 0 ≤ x.2 ∧ y.1 ≤ 0 ∧ 0 ≤ y.2 then (0, 21600000) else arcI (fstI (x.1, y.1) (corners y x)) (lstI (x.1, y.1) (corners y x))
theorem fl_GE {x y : Int} (hx : 0 < x) (hy : 0 ≤ y) : GE (flI x y) x y := by
  obtain ⟨h1, h2, h3, _⟩ := flI_is x y
  exact reach_GE hx hy h1 h2 h3
theorem LE_axis {x : Int} (hx : 0 < x) : LE 0 x 0 := by
  have hxR : (0 : Rat) < (x : Rat) := Rat.intCast_pos.2 hx
  unfold LE
  rw [show S 0 = 0 from Sn_0, show C 0 = 1 from Cn_0]
  have := Rat.mul_nonneg e6_nn (Rat.le_of_lt hxR)
  generalize e6 = e at *
  grind
theorem LE_half {x : Int} (hx : 0 < x) : LE 2700000 x x := by
  have hxR : (0 : Rat) < (x : Rat) := Rat.intCast_pos.2 hx
  have hh := half_near
  have e160 : d160 ≤ e6 := by decide +kernel
  have eS : S 2700000 = Sn 2700000 := S_nat 2700000
  have eC : C 2700000 = Cn 2700000 := C_nat 2700000
  unfold LE
  rw [eS, eC]
  generalize Sn 2700000 = s at *
  generalize Cn 2700000 = c at *
  obtain ⟨q1, q2⟩ := hh
  have p1 := Rat.mul_le_mul_of_nonneg_right (show c - s ≤ e6 by generalize e6 = e at *; generalize d160 = z at *; grind) (Rat.le_of_lt hxR)
  have p2 := Rat.mul_nonneg e6_nn (Rat.le_of_lt hxR)
  generalize e6 = e at *
  grind
def upF (x y : Int) : Int := flI x y + if exF x y = true then 0 else 1
theorem fl_LE {x y : Int} (hx : 0 < x) (hy : 0 ≤ y) : LE (upF x y) x y ∧ 0 ≤ upF x y ∧ upF x y ≤ 5400000 := by
  obtain ⟨h1, h2, h3, h4⟩ := flI_is x y
  have hxR : (0 : Rat) < (x : Rat) := Rat.intCast_pos.2 hx
  have hyR : (0 : Rat) ≤ (y : Rat) := Rat.intCast_nonneg.2 hy
  unfold upF
  split
  · rename_i he
    refine ⟨?_, by omega, by omega⟩
    unfold exF at he
    simp only [Bool.or_eq_true, Bool.and_eq_true, decide_eq_true_eq] at he
    rcases he with ⟨e1, e2⟩ | ⟨e1, e2⟩
    · rw [e1, e2]
      exact LE_axis hx
    · rw [e1, ← e2]
      exact LE_half hx
  · refine ⟨?_, by omega, by omega⟩
    by_cases hk : flI x y + 1 = 5400000
    · rw [hk]
      exact LE.top (Rat.le_of_lt hxR) hyR
    · exact unreach_LE hx hy (by omega) (by omega) (h4 (by omega))
/-! ### an upper half plane -/
def al (X Y : Int) : Int := if 0 < X then flI X Y else 5400000 + flI Y (-X)
def up (X Y : Int) : Int := if 0 < X then upF X Y else 5400000 + upF Y (-X)
theorem half_plane {X Y : Rat} {Xf Yf Xl Yl : Int} (hf : 0 < Yf) (hl : 0 < Yl) (hY : 0 < Y) (cf : (Yf : Rat) * X ≤ (Xf : Rat) * Y) (cl : Y * (Xl : Rat) ≤ X * (Yl : Rat)) :
    (0 < X ∧ 0 < Xf ∧ ∃ n m : Int, al Xf Yf ≤ n ∧ m ≤ up Xl Yl ∧ 0 ≤ n ∧ n ≤ m ∧ m ≤ 5400000 ∧ GE n X Y ∧ LE m X Y) ∨
    (X ≤ 0 ∧ Xl ≤ 0 ∧ ∃ n m : Int, al Xf Yf ≤ 5400000 + n ∧ 5400000 + m ≤ up Xl Yl ∧ 0 ≤ n ∧ n ≤ m ∧ m ≤ 5400000 ∧ GE n Y (-X) ∧ LE m Y (-X)) := by
  have hfR : (0 : Rat) < (Yf : Rat) := Rat.intCast_pos.2 hf
  have hlR : (0 : Rat) < (Yl : Rat) := Rat.intCast_pos.2 hl
  have fi := flI_is
  rcases Rat.le_total (a := X) (b := 0) with hX | hX
  · right
    -- the last one is in the second quarter, too
    have hXl : Xl ≤ 0 := by
      refine Int.not_lt.1 fun h => ?_
      have h' : (0 : Rat) < (Xl : Rat) := Rat.intCast_pos.2 h
      have a1 := Rat.mul_pos hY h'
      have a2 := Rat.mul_nonneg (show 0 ≤ -X by grind) (Rat.le_of_lt hlR)
      grind
    have hXlR : (0 : Rat) ≤ ((-Xl : Int) : Rat) := Rat.intCast_nonneg.2 (by omega)
    refine ⟨hX, hXl, ?_⟩
    obtain ⟨l1, l2, l3⟩ := fl_LE (x := Yl) (y := -Xl) hl (by omega)
    have lv : LE (upF Yl (-Xl)) Y (-X) := l1.go l2 l3 hlR (Rat.le_of_lt hY) (by grind) (by rw [Rat.intCast_neg]; grind)
    have eu : up Xl Yl = 5400000 + upF Yl (-Xl) := if_neg (by omega)
    rw [eu]
    by_cases hXf : 0 < Xf
    · refine ⟨0, upF Yl (-Xl), ?_, Int.le_refl _, Int.le_refl _, l2, l3, GE.zero (Rat.le_of_lt hY) (by grind), lv⟩
      have ea : al Xf Yf = flI Xf Yf := if_pos hXf
      have := (fi Xf Yf).hi
      omega
    · have ea : al Xf Yf = 5400000 + flI Yf (-Xf) := if_neg hXf
      have g1 := fl_GE (x := Yf) (y := -Xf) hf (by omega)
      have f1 := (fi Yf (-Xf)).lo
      have f2 := (fi Yf (-Xf)).hi
      have gv : GE (flI Yf (-Xf)) Y (-X) := g1.go f1 (by omega) hfR (Rat.le_of_lt hY) (by grind) (by rw [Rat.intCast_neg]; grind)
      exact ⟨flI Yf (-Xf), upF Yl (-Xl), by omega, Int.le_refl _, f1, GE.le f1 (by omega) l2 l3 gv lv hY (by grind), l3, gv, lv⟩
  · by_cases hX0 : X = 0
    · -- as above: on the axis
      subst hX0
      right
      have hXl : Xl ≤ 0 := by
        refine Int.not_lt.1 fun h => ?_
        have h' : (0 : Rat) < (Xl : Rat) := Rat.intCast_pos.2 h
        have a1 := Rat.mul_pos hY h'
        grind
      refine ⟨Rat.le_refl, hXl, ?_⟩
      obtain ⟨l1, l2, l3⟩ := fl_LE (x := Yl) (y := -Xl) hl (by omega)
      have hXlR : (0 : Rat) ≤ ((-Xl : Int) : Rat) := Rat.intCast_nonneg.2 (by omega)
      have lv : LE (upF Yl (-Xl)) Y (-0) := l1.go l2 l3 hlR (Rat.le_of_lt hY) (by grind) (by
        have := Rat.mul_nonneg (Rat.le_of_lt hY) hXlR
        grind)
      have eu : up Xl Yl = 5400000 + upF Yl (-Xl) := if_neg (by omega)
      rw [eu]
      by_cases hXf : 0 < Xf
      · refine ⟨0, upF Yl (-Xl), ?_, Int.le_refl _, Int.le_refl _, l2, l3, GE.zero (Rat.le_of_lt hY) (by grind), lv⟩
        have ea : al Xf Yf = flI Xf Yf := if_pos hXf
        have := (fi Xf Yf).hi
        omega
      · have ea : al Xf Yf = 5400000 + flI Yf (-Xf) := if_neg hXf
        have g1 := fl_GE (x := Yf) (y := -Xf) hf (by omega)
        have f1 := (fi Yf (-Xf)).lo
        have f2 := (fi Yf (-Xf)).hi
        have gv : GE (flI Yf (-Xf)) Y (-0) := g1.go f1 (by omega) hfR (Rat.le_of_lt hY) (by grind) (by rw [Rat.intCast_neg]; grind)
        exact ⟨flI Yf (-Xf), upF Yl (-Xl), by omega, Int.le_refl _, f1, GE.le f1 (by omega) l2 l3 gv lv hY (by grind), l3, gv, lv⟩
    have hXp : 0 < X := by grind
    left
    have hXf : 0 < Xf := by
      refine Int.not_le.1 fun h => ?_
      have h' : (Xf : Rat) ≤ 0 := by have := Rat.intCast_le_intCast.2 h; exact this
      have a1 := Rat.mul_pos hfR hXp
      have a2 := Rat.mul_nonneg (show 0 ≤ -(Xf : Rat) by grind) (Rat.le_of_lt hY)
      grind
    have hXfR : (0 : Rat) < (Xf : Rat) := Rat.intCast_pos.2 hXf
    refine ⟨hXp, hXf, ?_⟩
    have ea : al Xf Yf = flI Xf Yf := if_pos hXf
    have g1 := fl_GE (x := Xf) (y := Yf) hXf (by omega)
    have f1 := (fi Xf Yf).lo
    have f2 := (fi Xf Yf).hi
    have gv : GE (flI Xf Yf) X Y := g1.go f1 (by omega) hXfR (Rat.le_of_lt hXp) (Rat.le_of_lt hY) (by grind)
    rw [ea]
    by_cases hXl : 0 < Xl
    · have eu : up Xl Yl = upF Xl Yl := if_pos hXl
      obtain ⟨l1, l2, l3⟩ := fl_LE (x := Xl) (y := Yl) hXl (by omega)
      have hXlR : (0 : Rat) < (Xl : Rat) := Rat.intCast_pos.2 hXl
      have lv : LE (upF Xl Yl) X Y := l1.go l2 l3 hXlR (Rat.le_of_lt hXp) (Rat.le_of_lt hY) (by grind)
      exact ⟨flI Xf Yf, upF Xl Yl, Int.le_refl _, by omega, f1, GE.le f1 (by omega) l2 l3 gv lv hXp (Rat.le_of_lt hY), l3, gv, lv⟩
    · have eu : up Xl Yl = 5400000 + upF Yl (-Xl) := if_neg hXl
      obtain ⟨l1, l2, l3⟩ := fl_LE (x := Yl) (y := -Xl) hl (by omega)
      exact ⟨flI Xf Yf, 5400000, Int.le_refl _, by omega, f1, by omega, Int.le_refl _, gv, LE.top (Rat.le_of_lt hXp) (Rat.le_of_lt hY)⟩
end Go.Proofs.YtjmdeplmenbmmaaGreatDoor.TT
