/- Joined texts: DivPlain, Bits, CallL, Sym, Stab, Stab2, Rnd, Lib, Bld, Lib2, Dec, Yq, ShP. -/
import Derived.Test.YthilhhegchmjeaaGreatWa
import Derived.Test.YthilhhegchmjeaaGreatShelf
import Derived.Lib.ItoaNum
import Derived.Test.YthilhhegchmjeaaGreatGround
import Derived.LoopN
import Derived.Sort.Grow
import Derived.Lib.Builder
import Derived.Lib.AppendStr
import Derived.Lib.AtoiErrMem
import Derived.Stop.IfaceNil
import Derived.Lib.Split
import Derived.Lib.SplitLaws
import Derived.Lib.CountLaws
import Derived.Lib.AtoiAll
import Derived.Lib.IndexMore
import Derived.Lib.Join
/- The arithmetic of a quotient of 128 bits by 64: one digit of 32 bits at a time. -/
set_option linter.unusedVariables false
namespace Go.Proofs.YthilhhegchmjeaaGreat

/-- The trial digit is not too small: v = u * B + d, y = y1 * B + y0. -/
theorem digit_ge {u d y1 y0 : Int} (hu : 0 ≤ u) (hd0 : 0 ≤ d) (hd : d < 4294967296) (h1 : 0 < y1) (h0 : 0 ≤ y0) : (u * 4294967296 + d) / (y1 * 4294967296 + y0) ≤ u / y1 := by
  have hy : 0 < y1 * 4294967296 + y0 := by omega
  have h2 : (u * 4294967296 + d) / (y1 * 4294967296 + y0) ≤ (u * 4294967296 + d) / (y1 * 4294967296) := by
    have hq := Int.ediv_nonneg (a := u * 4294967296 + d) (b := y1 * 4294967296 + y0) (by omega) (by omega)
    refine Int.le_ediv_of_mul_le (by omega) ?_
    have h3 := Int.ediv_mul_le (u * 4294967296 + d) (show y1 * 4294967296 + y0 ≠ 0 by omega)
    have h4 := Int.mul_nonneg hq h0
    rw [Int.mul_add] at h3
    omega
  have h5 : (u * 4294967296 + d) / (y1 * 4294967296) = u / y1 := by
    rw [Int.mul_comm y1, ← Int.ediv_ediv_of_nonneg (by omega : (0 : Int) ≤ 4294967296)]
    congr 1
    omega
  omega
/-- ..and not too great by more than 2. -/
theorem digit_le {u y y1 y0 : Int} (hu : 0 ≤ u) (huy : u < y) (hy : y = y1 * 4294967296 + y0) (h1 : 2147483648 ≤ y1) (h0 : 0 ≤ y0) (h0' : y0 < 4294967296) : u / y1 ≤ 4294967297 := by
  have h2 : u < y1 * 4294967298 := by omega
  have := Int.ediv_lt_of_lt_mul (show 0 < y1 by omega) (show u < 4294967298 * y1 by omega)
  omega
/-- The test: the digit is too great. -/
theorem digit_test {u d y1 y0 q r : Int} (hy : 0 < y1 * 4294967296 + y0) (hr : r = u - q * y1) : (q * y0 > 4294967296 * r + d) ↔ (u * 4294967296 + d) / (y1 * 4294967296 + y0) < q := by
  have e : q * (y1 * 4294967296 + y0) = q * y1 * 4294967296 + q * y0 := by rw [Int.mul_add, Int.mul_assoc]
  constructor
  · intro h
    refine Int.ediv_lt_of_lt_mul hy ?_
    rw [e]; omega
  · intro h
    have h2 := Int.lt_mul_of_ediv_lt hy h
    rw [e] at h2
    omega
theorem digit_lt {u d y : Int} (hy : 0 < y) (hd : d < 4294967296) (hu : u < y) : (u * 4294967296 + d) / y < 4294967296 := by
  refine Int.ediv_lt_of_lt_mul hy ?_
  omega
/-- When the rest is great the digit is small enough. -/
theorem digit_stop {u d y1 y0 q r : Int} (hy : 0 < y1 * 4294967296 + y0) (hr : r = u - q * y1) (hd : 0 ≤ d) (h0 : 0 ≤ y0) (h0' : y0 < 4294967296) (hq0 : 0 ≤ q) (hq : q ≤ 4294967296) (hb : 4294967296 ≤ r) : q ≤ (u * 4294967296 + d) / (y1 * 4294967296 + y0) := by
  have h1 := (digit_test (u := u) (d := d) (y1 := y1) (y0 := y0) (q := q) (r := r) hy hr)
  have h2 : q * y0 ≤ 4294967296 * y0 := Int.mul_le_mul_of_nonneg_right hq h0
  have h3 : ¬ q * y0 > 4294967296 * r + d := by omega
  have := mt h1.2 h3
  omega
/-- The whole: V = hi * 2^64 + lo, scaled by p. -/
theorem div_whole {hi lo y p r u32 u10 un1 un0 q1 q0 u21 R : Int} (hp : 0 < p) (hpr : p * r = 18446744073709551616) (hr : 0 < r) (hy : 0 < y) (hyb : y * p ≤ 18446744073709551615) (hi0 : 0 ≤ hi) (hlt : hi < y) (hlo : 0 ≤ lo)
    (e32 : u32 = hi * p + lo / r) (e10 : u10 = (lo * p) % 18446744073709551616) (e1 : u10 = un1 * 4294967296 + un0)
    (eq1 : u21 = u32 * 4294967296 + un1 - q1 * (y * p)) (hR : R = u21 * 4294967296 + un0 - q0 * (y * p)) (hR0 : 0 ≤ R) (hRy : R < y * p) :
    (hi * 18446744073709551616 + lo) / y = q1 * 4294967296 + q0 ∧ (hi * 18446744073709551616 + lo) % y = R / p := by
  have e2 : lo * p = lo / r * 18446744073709551616 + u10 := by
    have h1 := Int.emod_add_mul_ediv (lo * p) 18446744073709551616
    have h2 : lo * p / 18446744073709551616 = lo / r := by
      rw [← hpr, Int.mul_comm lo p]
      exact Int.mul_ediv_mul_of_pos _ _ hp
    rw [h2] at h1
    omega
  have e3 : (hi * 18446744073709551616 + lo) * p = (q1 * 4294967296 + q0) * (y * p) + R := by
    rw [Int.add_mul, e2, hR, eq1, e32, e1]
    grind
  have e4 : R = (hi * 18446744073709551616 + lo - (q1 * 4294967296 + q0) * y) * p := by
    rw [Int.sub_mul, e3, Int.mul_assoc]; omega
  generalize hD : hi * 18446744073709551616 + lo - (q1 * 4294967296 + q0) * y = Dd at *
  have h0 : 0 ≤ Dd := by
    rcases Int.lt_or_le Dd 0 with h | h
    · have := Int.mul_neg_of_neg_of_pos h hp; omega
    · exact h
  have h1 : Dd < y := by
    rw [e4] at hRy
    exact Int.lt_of_mul_lt_mul_right hRy (by omega)
  have h2 : R / p = Dd := by rw [e4]; exact Int.mul_ediv_cancel _ (by omega)
  rw [h2]
  exact (Int.ediv_emod_unique hy).2 ⟨by rw [Int.mul_comm y]; omega, h0, h1⟩
end Go.Proofs.YthilhhegchmjeaaGreat
/- math/bits: products and quotients of 128 bits. -/
set_option linter.unusedVariables false
set_option maxHeartbeats 4000000
namespace Go.Proofs.YthilhhegchmjeaaGreat
open Go.RowKit

theorem mul64_c {x y : Int} (h : 0 ≤ x ∧ x ≤ 18446744073709551615 ∧ 0 ≤ y ∧ y ≤ 18446744073709551615) : Cont Tryz.prog 90 [.int .u64 x, .int .u64 y] (.tuple [.int .u64 (x * y / 18446744073709551616), .int .u64 (x * y % 18446744073709551616)].toArray) := fun w => by
  obtain ⟨h1, h2, h3, h4⟩ := h
  have hm : ∀ a b : Int, 0 ≤ a → a ≤ 4294967295 → 0 ≤ b → b ≤ 4294967295 → 0 ≤ a * b ∧ a * b ≤ 18446744065119617025 := fun a b g1 g2 g3 g4 => by
    have := Int.mul_nonneg g1 g3
    have : a * b ≤ 4294967295 * 4294967295 := Int.mul_le_mul g2 g4 g3 (by omega)
    omega
  have b1 := hm (x % 4294967296) (y % 4294967296) (by omega) (by omega) (by omega) (by omega)
  have b2 := hm (x / 4294967296) (y % 4294967296) (by omega) (by omega) (by omega) (by omega)
  have b3 := hm (x % 4294967296) (y / 4294967296) (by omega) (by omega) (by omega) (by omega)
  have b4 := hm (x / 4294967296) (y / 4294967296) (by omega) (by omega) (by omega) (by omega)
  have e : x * y = x / 4294967296 * (y / 4294967296) * 18446744073709551616 + (x / 4294967296 * (y % 4294967296) + x % 4294967296 * (y / 4294967296)) * 4294967296 + x % 4294967296 * (y % 4294967296) := by
    have ex := Int.emod_add_mul_ediv x 4294967296
    have ey := Int.emod_add_mul_ediv y 4294967296
    generalize x / 4294967296 = x1 at *
    generalize x % 4294967296 = x0 at *
    generalize y / 4294967296 = y1 at *
    generalize y % 4294967296 = y0 at *
    subst ex; subst ey
    grind
  have b5 : 0 ≤ x / 4294967296 * (y / 4294967296) + (x / 4294967296 * (y % 4294967296) + x % 4294967296 * (y % 4294967296) / 4294967296) / 4294967296 := by omega
  refine enter0 Tryz.func90 rfl rfl rfl ?_
  repeat' (first
    | (refine nxV ?_)
    | (show RS _ _ _ _ _ _ _ _; first | (refine nxRS ?_) | (refine nxRS1 fun _ => ?_))
    | (show RM _ _ _ _ _ _ _ _ _ _; first | (refine nxRM ?_) | (refine nxRM1 fun _ => ?_))
    | (refine nxG ?_)
    | (refine nxX ?_)
    | (refine G.condN rfl (fun hc => ?_) (fun hc => ?_) <;> (try first | exact False.elim hc | (exfalso; omega))))
  refine X.ret (vs := [_, _]) rfl ⟨rfl, rfl, rfl⟩ rfl (fun w hw => ⟨?_, hw.ext⟩)
  simp only [IntKind.wrap_u64, e]
  congr 2
  refine congrArg Array.mk (List.cons_eq_cons.2 ⟨congrArg (Value.int .u64) ?_, rfl⟩)
  generalize x / 4294967296 * (y / 4294967296) = a at *
  generalize x / 4294967296 * (y % 4294967296) = b at *
  generalize x % 4294967296 * (y / 4294967296) = c at *
  generalize x % 4294967296 * (y % 4294967296) = d at *
  omega
theorem lz_c {x s : Int} (h : 0 < x ∧ x ≤ 18446744073709551615) (hs : s = 64 - (Lib.bitLen x.toNat : Int)) : Cont Tryz.prog 177 [.int .u64 x] (.int .i64 s) := fun w => by
  have hl : Cont Tryz.prog 151 [.int .u64 x] (.int .i64 (Lib.bitLen x.toNat)) := fun w => (Tryz.bits_Len64 x w (by omega) h.2).mono fun e w' he => ⟨he.1, by rw [he.2]; exact Below.refl _ _⟩
  have hb := Lib.bitLen_le x.toNat 64 (by omega) (by omega)
  refine enter0 Tryz.func177 rfl rfl rfl ?_
  repeat' (first
    | (show YK _ _ _ _ _ _ _; first | refine YK.mk (y_callA (hl) ⟨rfl, rfl⟩) ?_)
    | (show YK _ _ _ _ _ _ _; refine YK.ofV vAuto ?_)
    | (show VK _ _ _ _ _ _ _; refine VK.mk vAuto ?_)
    | (show RS _ _ _ _ _ _ _ _; first | (refine nxRS ?_) | (refine nxRS1 fun _ => ?_))
    | (show RM _ _ _ _ _ _ _ _ _ _; first | (refine nxRM ?_) | (refine nxRM1 fun _ => ?_))
    | (show YG _ _ _ _ _ _ _ _; refine YG.mk (fun hb => by (try (have hc := And.left hb; have hb := And.right hb; rw [hc])); (try rw [hb]); first | exact (y_callA (hl) ⟨rfl, rfl⟩) | exact V.y vAuto) ?_)
    | (show VG _ _ _ _ _ _ _ _; refine VG.mk (fun hb => by (try (have hc := And.left hb; have hb := And.right hb; rw [hc])); (try rw [hb]); exact vAuto) ?_)
    | (refine nxX ?_)
    | (refine G.condN rfl (fun hc => ?_) (fun hc => ?_) <;> (try first | exact False.elim hc | (exfalso; omega))))
  exact X.ret (vs := [_]) rfl ⟨rfl, rfl⟩ rfl (fun w hw => ⟨ret_int hs.symm, hw.ext⟩)
/-- Shifts by a number that is not given, under the names of their results. -/
def ShlIs (m c r : Int) : Prop := 0 ≤ c ∧ IntKind.u64.wrap (m * 2 ^ (min c.toNat IntKind.u64.bits)) = r
def ShrIs (m c r : Int) : Prop := 0 ≤ c ∧ m / 2 ^ (min c.toNat IntKind.u64.bits) = r
def OrIs (m m' r : Int) : Prop := bits .or .u64 m m' = r
section
variable {P : Program} {n : Nat} {L : FL} {w0 : World} {H : List Hl} {d : Option Tmp} {ty : TypeId} {pos : String} {af : Array Edge} {g : Option (Nat × Bool)} {x y : Operand} {t t' : TypeId} {m m' r : Int}
theorem y_shlS (hx : evO L x = some (.int .u64 m)) (hy : evO L y = some (.int .u64 m')) (h : ShlIs m m' r) : V P n L w0 H ⟨d, .binOp .shl t x y t', ty, pos, af, g⟩ (.int .u64 r) := h.2 ▸ y_shlV hx hy h.1
theorem y_shrS (hx : evO L x = some (.int .u64 m)) (hy : evO L y = some (.int .u64 m')) (h : ShrIs m m' r) : V P n L w0 H ⟨d, .binOp .shr t x y t', ty, pos, af, g⟩ (.int .u64 r) := h.2 ▸ y_shrV hx hy h.1
theorem y_orS (hx : evO L x = some (.int .u64 m)) (hy : evO L y = some (.int .u64 m')) (h : OrIs m m' r) : V P n L w0 H ⟨d, .binOp .or t x y t', ty, pos, af, g⟩ (.int .u64 r) := by
  unfold OrIs at h
  exact h ▸ y_bor hx hy
end
/-- What the quotient's first lines reckon. -/
theorem div_shifts {hi lo y s : Int} (h : 0 < hi ∧ hi < y ∧ y ≤ 18446744073709551615 ∧ 0 ≤ lo ∧ lo ≤ 18446744073709551615) (hs : s = 64 - (Lib.bitLen y.toNat : Int)) :
    ∃ p r HP LR U U10 : Int, 0 ≤ s ∧ s ≤ 63 ∧ 0 < p ∧ 0 < r ∧ p * r = 18446744073709551616 ∧ 9223372036854775808 ≤ y * p ∧ y * p ≤ 18446744073709551615 ∧ ShlIs y s (y * p) ∧ ShlIs hi s HP ∧ ShrIs lo (64 - s) LR ∧ OrIs HP LR U ∧ U = hi * p + lo / r ∧ 0 ≤ U ∧ U < y * p ∧ ShlIs lo s U10 ∧ U10 = (lo * p) % 18446744073709551616 ∧ 2 ^ (min s.toNat IntKind.u64.bits) = p := by
  obtain ⟨h1, h2, h3, h4, h5⟩ := h
  have hb := Lib.bitLenAux_bounds 64 y.toNat (by omega) (by omega)
  obtain ⟨c1, c2, c3⟩ := hb
  have hle := Lib.bitLen_le y.toNat 64 (by omega) (by omega)
  rw [show Lib.bitLenAux 64 y.toNat = Lib.bitLen y.toNat from rfl] at c1 c2 c3
  generalize hk : Lib.bitLen y.toNat = k at *
  have hs0 : 0 ≤ s ∧ s ≤ 63 := by omega
  have hst : s.toNat = 64 - k := by omega
  have hmin : min s.toNat IntKind.u64.bits = 64 - k := by rw [hst]; exact Nat.min_eq_left (by show 64 - k ≤ 64; omega)
  have hmin2 : min (64 - s).toNat IntKind.u64.bits = k := by rw [show (64 - s).toNat = k by omega]; exact Nat.min_eq_left hle
  have e1 : (2 : Nat) ^ (64 - k) * 2 ^ k = 18446744073709551616 := by rw [← Nat.pow_add, show 64 - k + k = 64 by omega]
  have e2 : (2 : Nat) ^ k = 2 * 2 ^ (k - 1) := by rw [← Nat.pow_succ', show (k - 1).succ = k by omega]
  have hp0 : 0 < (2 : Nat) ^ (64 - k) := Nat.two_pow_pos _
  have hr0 : 0 < (2 : Nat) ^ k := Nat.two_pow_pos _
  have ep : ((2 : Int) ^ (64 - k)) = ((2 ^ (64 - k) : Nat) : Int) := by rw [Int.natCast_pow]; rfl
  have er : ((2 : Int) ^ k) = ((2 ^ k : Nat) : Int) := by rw [Int.natCast_pow]; rfl
  generalize hp : (2 : Nat) ^ (64 - k) = p at *
  generalize hr : (2 : Nat) ^ k = r at *
  generalize (2 : Nat) ^ (k - 1) = r1 at *
  have hyN : (y.toNat : Int) = y := by omega
  have k1 : y.toNat * p ≤ 18446744073709551615 := by
    have h6 : y.toNat + 1 ≤ r := by omega
    have h7 := Nat.mul_le_mul_right p h6
    rw [Nat.mul_comm r p, e1, Nat.add_mul] at h7
    omega
  have k2 : 9223372036854775808 ≤ y.toNat * p := by
    have h7 := Nat.mul_le_mul_right p c2
    have h8 : 2 * (r1 * p) = 18446744073709551616 := by rw [← e1, e2]; rw [Nat.mul_comm p, Nat.mul_assoc]
    omega
  have k1' : y * p ≤ 18446744073709551615 := by rw [← hyN, ← Int.natCast_mul]; omega
  have k2' : 9223372036854775808 ≤ y * p := by rw [← hyN, ← Int.natCast_mul]; omega
  have hhi : hi.toNat * p + p ≤ y.toNat * p := by
    have := Nat.mul_le_mul_right p (show hi.toNat + 1 ≤ y.toNat by omega)
    rw [Nat.add_mul] at this
    omega
  have hlr : lo.toNat / r < p := Nat.div_lt_of_lt_mul (by rw [Nat.mul_comm]; omega)
  have hwr : ∀ z : Int, 0 ≤ z → z ≤ 18446744073709551615 → IntKind.u64.wrap z = z := fun z a b => wrapU ⟨a, b⟩
  have ehi : hi * (p : Int) = ((hi.toNat * p : Nat) : Int) := by rw [Int.natCast_mul, show (hi.toNat : Int) = hi by omega]
  have elo : lo / (r : Int) = ((lo.toNat / r : Nat) : Int) := by rw [Int.natCast_ediv, show (lo.toNat : Int) = lo by omega]
  have eor : (hi.toNat * p) ||| (lo.toNat / r) = hi.toNat * p + lo.toNat / r := by
    rw [Nat.mul_comm hi.toNat p, ← hp]
    rw [← hp] at hlr
    exact (Nat.two_pow_add_eq_or_of_lt hlr hi.toNat).symm
  refine ⟨p, r, hi * p, lo / r, hi * p + lo / r, (lo * p) % 18446744073709551616, hs0.1, hs0.2, by omega, by omega, by rw [← Int.natCast_mul, e1]; rfl, k2', k1', ⟨hs0.1, ?_⟩, ⟨hs0.1, ?_⟩, ⟨by omega, ?_⟩, ?_, rfl, ?_, ?_, ⟨hs0.1, ?_⟩, rfl, by rw [hmin, ep]⟩
  · rw [hmin, ep, hwr _ (by omega) k1']
  · rw [hmin, ep, hwr _ (by rw [ehi]; omega) (by rw [ehi]; omega)]
  · rw [hmin2, er]
  · unfold OrIs
    rw [ehi, elo, bits_or_u64_nat _ _ (by omega) (by omega), eor, Int.natCast_add]
  · rw [ehi, elo]; omega
  · rw [ehi, elo, ← hyN, ← Int.natCast_mul]; omega
  · rw [hmin, ep, IntKind.wrap_u64]
def SubIs (m m' r : Int) : Prop := IntKind.u64.wrap (m - m') = r
theorem y_subS {P : Program} {n : Nat} {L : FL} {w0 : World} {H : List Hl} {d : Option Tmp} {ty : TypeId} {pos : String} {af : Array Edge} {g : Option (Nat × Bool)} {x y : Operand} {t t' : TypeId} {m m' r : Int} (hx : evO L x = some (.int .u64 m)) (hy : evO L y = some (.int .u64 m')) (h : SubIs m m' r) : V P n L w0 H ⟨d, .binOp .sub t x y t', ty, pos, af, g⟩ (.int .u64 r) := by
  unfold SubIs at h
  exact h ▸ y_sub hx hy
theorem subIs {a b c : Int} (h : 0 ≤ a * 4294967296 + b - c ∧ a * 4294967296 + b - c ≤ 18446744073709551615) : SubIs (IntKind.u64.wrap (IntKind.u64.wrap (a * 4294967296) + b)) (IntKind.u64.wrap c) (a * 4294967296 + b - c) := by
  unfold SubIs
  simp only [IntKind.wrap_u64]
  omega
theorem div64_c {hi lo y : Int} (h : 0 ≤ hi ∧ hi < y ∧ y ≤ 18446744073709551615 ∧ 0 ≤ lo ∧ lo ≤ 18446744073709551615) : Cont Tryz.prog 169 [.int .u64 hi, .int .u64 lo, .int .u64 y] (.tuple [.int .u64 ((hi * 18446744073709551616 + lo) / y), .int .u64 ((hi * 18446744073709551616 + lo) % y)].toArray) := fun w => by
  obtain ⟨h1, h2, h3, h4, h5⟩ := h
  rcases Int.lt_or_eq_of_le h1 with h0 | h0
  rotate_left
  · subst h0
    refine enter0 Tryz.func169 rfl rfl rfl ?_
    repeat' (first
    | (refine nxV ?_)
    | (show RS _ _ _ _ _ _ _ _; first | (refine nxRS ?_) | (refine nxRS1 fun _ => ?_))
    | (show RM _ _ _ _ _ _ _ _ _ _; first | (refine nxRM ?_) | (refine nxRM1 fun _ => ?_))
    | (refine nxG ?_)
    | (refine G.mixedA 6 [.go 0, .go 1, .go 2, .go 3, .go 4, .go 5, .go 6, .go 7] ?_)
    | (refine nxX ?_)
    | (refine G.condN rfl (fun hc => ?_) (fun hc => ?_) <;> (try first | exact False.elim hc | (exfalso; omega))))
    exact X.ret (vs := [_, _]) rfl ⟨rfl, rfl, rfl⟩ rfl (fun w hw => ⟨by simp, hw.ext⟩)
  obtain ⟨s, hs⟩ : ∃ s : Int, s = 64 - (Lib.bitLen y.toNat : Int) := ⟨_, rfl⟩
  obtain ⟨p, r, HP, LR, U, U10, s0, s1, hp, hr, hpr, hY1, hY2, sh1, sh2, sh3, or1, eU, hU0, hUy, sh4, eU10, e2p⟩ := div_shifts ⟨h0, h2, h3, h4, h5⟩ hs
  have hwh := @div_whole hi lo y p r U U10
  generalize hY : y * p = Y at *
  have hYe : Y / 4294967296 * 4294967296 + Y % 4294967296 = Y := by omega
  have hm1 := Int.ediv_mul_le U (show Y / 4294967296 ≠ 0 by omega)
  have hm2 := Int.lt_ediv_add_one_mul_self U (show 0 < Y / 4294967296 by omega)
  rw [Int.add_mul, Int.one_mul] at hm2
  have hm3 := Int.mul_nonneg (Int.ediv_nonneg hU0 (show 0 ≤ Y / 4294967296 by omega)) (show 0 ≤ Y / 4294967296 by omega)
  have hq0 := Int.ediv_nonneg hU0 (show 0 ≤ Y / 4294967296 by omega)
  have hU10 : 0 ≤ U10 ∧ U10 ≤ 18446744073709551615 := by omega
  refine enter0 Tryz.func169 rfl rfl rfl ?_
  repeat' (first
    | (refine YK.ofV (y_shlS (by rfl) (by rfl) (by assumption)) ?_)
    | (refine YK.ofV (y_shrS (by rfl) (by rfl) (by assumption)) ?_)
    | (refine YK.ofV (y_orS (by rfl) (by rfl) (by assumption)) ?_)
    | (show YK _ _ _ _ _ _ _; first | refine YK.mk (y_callA (lz_c (s := s) (by omega) hs) ⟨rfl, rfl⟩) ?_)
    | (show YK _ _ _ _ _ _ _; refine YK.ofV vAuto ?_)
    | (show VK _ _ _ _ _ _ _; refine VK.mk vAuto ?_)
    | (show RS _ _ _ _ _ _ _ _; first | (refine nxRS ?_) | (refine nxRS1 fun _ => ?_))
    | (show RM _ _ _ _ _ _ _ _ _ _; first | (refine nxRM ?_) | (refine nxRM1 fun _ => ?_))
    | (show YG _ _ _ _ _ _ _ _; refine YG.mk (fun hb => by (try (have hc := And.left hb; have hb := And.right hb; rw [hc])); (try rw [hb]); first | exact (y_callA (lz_c (s := s) (by omega) hs) ⟨rfl, rfl⟩) | exact V.y vAuto) ?_)
    | (show VG _ _ _ _ _ _ _ _; refine VG.mk (fun hb => by (try (have hc := And.left hb; have hb := And.right hb; rw [hc])); (try rw [hb]); exact vAuto) ?_)
    | (refine G.mixedA 6 [.go 0, .go 1, .go 2, .go 3, .go 4, .go 5, .go 6, .go 7] ?_)
    | (refine nxX ?_)
    | (refine G.condN rfl (fun hc => ?_) (fun hc => ?_) <;> (try first | exact False.elim hc | (exfalso; omega))))
  have hd1 : 0 ≤ U10 / 4294967296 ∧ U10 / 4294967296 < 4294967296 := by omega
  obtain ⟨Q1, hQ1⟩ : ∃ Q1, (U * 4294967296 + U10 / 4294967296) / Y = Q1 := ⟨_, rfl⟩
  have hge1 := digit_ge (u := U) (d := U10 / 4294967296) (y1 := Y / 4294967296) (y0 := Y % 4294967296) hU0 hd1.1 hd1.2 (by omega) (by omega)
  rw [hYe, hQ1] at hge1
  have hle1 := digit_le (u := U) (y := Y) (y1 := Y / 4294967296) (y0 := Y % 4294967296) hU0 hUy hYe.symm (by omega) (by omega) (by omega)
  have hlt1 := digit_lt (u := U) (d := U10 / 4294967296) (y := Y) (by omega) hd1.2 hUy
  rw [hQ1] at hlt1
  have hnn1 : 0 ≤ Q1 := hQ1 ▸ Int.ediv_nonneg (by omega) (by omega)
  refine G.mid [(2, .int .u64 Y), (8, .int .u64 s), (9, .int .u64 (Y / 4294967296)), (10, .int .u64 (Y % 4294967296)), (13, .int .u64 (U10 / 4294967296)), (14, .int .u64 (U10 % 4294967296)), (11, .int .u64 U), (15, .int .u64 Q1)] [] ?_ ?_
  · refine G.loop (ι := Int × Int) (fun x => [(2, .int .u64 Y), (8, .int .u64 s), (9, .int .u64 (Y / 4294967296)), (10, .int .u64 (Y % 4294967296)), (13, .int .u64 (U10 / 4294967296)), (14, .int .u64 (U10 % 4294967296)), (11, .int .u64 U), (15, .int .u64 x.1), (16, .int .u64 x.2)]) (fun _ => []) (fun x => Q1 ≤ x.1 ∧ x.1 ≤ 4294967297 ∧ x.2 = U - x.1 * (Y / 4294967296) ∧ 0 ≤ x.2 ∧ x.2 < 4294967296) (fun x => (x.1 - Q1).toNat)
      (U / (Y / 4294967296), U - U / (Y / 4294967296) * (Y / 4294967296)) ⟨hge1, hle1, rfl, by dsimp only; omega, by dsimp only; omega⟩ ⟨rfl, rfl, rfl, rfl, rfl, rfl, rfl, rfl, rfl, trivial⟩ (fun w h => h) ?_
    rintro ⟨q, r⟩ mx ⟨g1, g2, g3, g4, g5⟩ hmx
    dsimp only at g1 g2 g3 g4 g5 hmx ⊢
    have ft := digit_test (u := U) (d := (U10 / 4294967296)) (y1 := Y / 4294967296) (y0 := Y % 4294967296) (q := q) (r := r) (by omega) g3
    rw [hYe, hQ1] at ft
    have f1 : 4294967296 ≤ q ∨ (0 ≤ q * (Y % 4294967296) ∧ q * (Y % 4294967296) ≤ 18446744073709551615) := by
      rcases Int.lt_or_le q 4294967296 with h | h
      · have a1 := Int.mul_nonneg (show 0 ≤ q by omega) (show 0 ≤ Y % 4294967296 by omega)
        have a2 : q * (Y % 4294967296) ≤ 4294967295 * 4294967295 := Int.mul_le_mul (by omega) (by omega) (by omega) (by omega)
        exact .inr ⟨a1, by omega⟩
      · exact .inl h
    have e1 : (q - 1) * (Y / 4294967296) = q * (Y / 4294967296) - Y / 4294967296 := by rw [Int.sub_mul, Int.one_mul]
    repeat' (first
    | (refine nxV ?_)
    | (show RS _ _ _ _ _ _ _ _; first | (refine nxRS ?_) | (refine nxRS1 fun _ => ?_))
    | (show RM _ _ _ _ _ _ _ _ _ _; first | (refine nxRM ?_) | (refine nxRM1 fun _ => ?_))
    | (refine nxG ?_)
    | (refine G.mixedA 6 [.go 0, .go 1, .go 2, .go 3, .go 4, .go 5, .go 6, .go 7] ?_)
    | (refine nxX ?_)
    | (refine G.condN rfl (fun hc => ?_) (fun hc => ?_) <;> (try first | exact False.elim hc | (exfalso; omega))))
    · have fs := digit_stop (u := U) (d := (U10 / 4294967296)) (y1 := Y / 4294967296) (y0 := Y % 4294967296) (q := q - 1) (r := r + Y / 4294967296) (by omega) (by omega) (by omega) (by omega) (by omega) (by omega) (by omega) (by omega)
      rw [hYe, hQ1] at fs
      have e2 : q - 1 = Q1 := by omega
      exact X.mid ⟨rfl, rfl, rfl, rfl, rfl, rfl, rfl, by show some _ = some _; rw [e2], trivial⟩ (fun w h => h)
    · exact X.again (q - 1, r + Y / 4294967296) ⟨by dsimp only; omega, by dsimp only; omega, by dsimp only; omega, by dsimp only; omega, by dsimp only; omega⟩ (by dsimp only; omega) ⟨rfl, rfl, rfl, rfl, rfl, rfl, rfl, rfl, rfl, trivial⟩ (fun w h => h)
    · have e2 : q = Q1 := by omega
      exact X.mid ⟨rfl, rfl, rfl, rfl, rfl, rfl, rfl, by show some _ = some _; rw [e2], trivial⟩ (fun w h => h)
  have r1a := Int.ediv_mul_le (U * 4294967296 + U10 / 4294967296) (show Y ≠ 0 by omega)
  have r1b := Int.lt_ediv_add_one_mul_self (U * 4294967296 + U10 / 4294967296) (show 0 < Y by omega)
  rw [hQ1] at r1a r1b
  rw [Int.add_mul, Int.one_mul] at r1b
  have sb1 := subIs (a := U) (b := U10 / 4294967296) (c := Q1 * Y) ⟨by omega, by omega⟩
  obtain ⟨R1, hR1⟩ : ∃ R1, U * 4294967296 + U10 / 4294967296 - Q1 * Y = R1 := ⟨_, rfl⟩
  rw [hR1] at sb1
  have hR10 : 0 ≤ R1 := by omega
  have hR1y : R1 < Y := by omega
  have hm1' := Int.ediv_mul_le R1 (show Y / 4294967296 ≠ 0 by omega)
  have hm2' := Int.lt_ediv_add_one_mul_self R1 (show 0 < Y / 4294967296 by omega)
  rw [Int.add_mul, Int.one_mul] at hm2'
  have hm3' := Int.mul_nonneg (Int.ediv_nonneg hR10 (show 0 ≤ Y / 4294967296 by omega)) (show 0 ≤ Y / 4294967296 by omega)
  have hd2 : 0 ≤ U10 % 4294967296 ∧ U10 % 4294967296 < 4294967296 := by omega
  obtain ⟨Q2, hQ2⟩ : ∃ Q2, (R1 * 4294967296 + U10 % 4294967296) / Y = Q2 := ⟨_, rfl⟩
  have hge2 := digit_ge (u := R1) (d := U10 % 4294967296) (y1 := Y / 4294967296) (y0 := Y % 4294967296) hR10 hd2.1 hd2.2 (by omega) (by omega)
  rw [hYe, hQ2] at hge2
  have hle2 := digit_le (u := R1) (y := Y) (y1 := Y / 4294967296) (y0 := Y % 4294967296) hR10 hR1y hYe.symm (by omega) (by omega) (by omega)
  have hlt2 := digit_lt (u := R1) (d := U10 % 4294967296) (y := Y) (by omega) hd2.2 hR1y
  rw [hQ2] at hlt2
  have hnn2 : 0 ≤ Q2 := hQ2 ▸ Int.ediv_nonneg (by omega) (by omega)
  repeat' (first
    | (refine YK.ofV (y_subS (by rfl) (by rfl) (by assumption)) ?_)
    | (refine nxV ?_)
    | (show RS _ _ _ _ _ _ _ _; first | (refine nxRS ?_) | (refine nxRS1 fun _ => ?_))
    | (show RM _ _ _ _ _ _ _ _ _ _; first | (refine nxRM ?_) | (refine nxRM1 fun _ => ?_))
    | (refine nxG ?_)
    | (refine G.mixedA 6 [.go 0, .go 1, .go 2, .go 3, .go 4, .go 5, .go 6, .go 7] ?_)
    | (refine nxX ?_)
    | (refine G.condN rfl (fun hc => ?_) (fun hc => ?_) <;> (try first | exact False.elim hc | (exfalso; omega))))
  refine G.mid [(2, .int .u64 Y), (8, .int .u64 s), (9, .int .u64 (Y / 4294967296)), (10, .int .u64 (Y % 4294967296)), (14, .int .u64 (U10 % 4294967296)), (15, .int .u64 Q1), (17, .int .u64 R1), (18, .int .u64 Q2)] [] ?_ ?_
  · refine G.loop (ι := Int × Int) (fun x => [(2, .int .u64 Y), (8, .int .u64 s), (9, .int .u64 (Y / 4294967296)), (10, .int .u64 (Y % 4294967296)), (14, .int .u64 (U10 % 4294967296)), (15, .int .u64 Q1), (17, .int .u64 R1), (18, .int .u64 x.1), (16, .int .u64 x.2)]) (fun _ => []) (fun x => Q2 ≤ x.1 ∧ x.1 ≤ 4294967297 ∧ x.2 = R1 - x.1 * (Y / 4294967296) ∧ 0 ≤ x.2 ∧ x.2 < 4294967296) (fun x => (x.1 - Q2).toNat)
      (R1 / (Y / 4294967296), R1 - R1 / (Y / 4294967296) * (Y / 4294967296)) ⟨hge2, hle2, rfl, by dsimp only; omega, by dsimp only; omega⟩ ⟨rfl, rfl, rfl, rfl, rfl, rfl, rfl, rfl, rfl, trivial⟩ (fun w h => h) ?_
    rintro ⟨q, r⟩ mx ⟨g1, g2, g3, g4, g5⟩ hmx
    dsimp only at g1 g2 g3 g4 g5 hmx ⊢
    have ft := digit_test (u := R1) (d := (U10 % 4294967296)) (y1 := Y / 4294967296) (y0 := Y % 4294967296) (q := q) (r := r) (by omega) g3
    rw [hYe, hQ2] at ft
    have f1 : 4294967296 ≤ q ∨ (0 ≤ q * (Y % 4294967296) ∧ q * (Y % 4294967296) ≤ 18446744073709551615) := by
      rcases Int.lt_or_le q 4294967296 with h | h
      · have a1 := Int.mul_nonneg (show 0 ≤ q by omega) (show 0 ≤ Y % 4294967296 by omega)
        have a2 : q * (Y % 4294967296) ≤ 4294967295 * 4294967295 := Int.mul_le_mul (by omega) (by omega) (by omega) (by omega)
        exact .inr ⟨a1, by omega⟩
      · exact .inl h
    have e1 : (q - 1) * (Y / 4294967296) = q * (Y / 4294967296) - Y / 4294967296 := by rw [Int.sub_mul, Int.one_mul]
    repeat' (first
    | (refine nxV ?_)
    | (show RS _ _ _ _ _ _ _ _; first | (refine nxRS ?_) | (refine nxRS1 fun _ => ?_))
    | (show RM _ _ _ _ _ _ _ _ _ _; first | (refine nxRM ?_) | (refine nxRM1 fun _ => ?_))
    | (refine nxG ?_)
    | (refine G.mixedA 6 [.go 0, .go 1, .go 2, .go 3, .go 4, .go 5, .go 6, .go 7] ?_)
    | (refine nxX ?_)
    | (refine G.condN rfl (fun hc => ?_) (fun hc => ?_) <;> (try first | exact False.elim hc | (exfalso; omega))))
    · have fs := digit_stop (u := R1) (d := (U10 % 4294967296)) (y1 := Y / 4294967296) (y0 := Y % 4294967296) (q := q - 1) (r := r + Y / 4294967296) (by omega) (by omega) (by omega) (by omega) (by omega) (by omega) (by omega) (by omega)
      rw [hYe, hQ2] at fs
      have e2 : q - 1 = Q2 := by omega
      exact X.mid ⟨rfl, rfl, rfl, rfl, rfl, rfl, rfl, by show some _ = some _; rw [e2], trivial⟩ (fun w h => h)
    · exact X.again (q - 1, r + Y / 4294967296) ⟨by dsimp only; omega, by dsimp only; omega, by dsimp only; omega, by dsimp only; omega, by dsimp only; omega⟩ (by dsimp only; omega) ⟨rfl, rfl, rfl, rfl, rfl, rfl, rfl, rfl, rfl, trivial⟩ (fun w h => h)
    · have e2 : q = Q2 := by omega
      exact X.mid ⟨rfl, rfl, rfl, rfl, rfl, rfl, rfl, by show some _ = some _; rw [e2], trivial⟩ (fun w h => h)
  have r2a := Int.ediv_mul_le (R1 * 4294967296 + U10 % 4294967296) (show Y ≠ 0 by omega)
  have r2b := Int.lt_ediv_add_one_mul_self (R1 * 4294967296 + U10 % 4294967296) (show 0 < Y by omega)
  rw [hQ2] at r2a r2b
  rw [Int.add_mul, Int.one_mul] at r2b
  have sb2 := subIs (a := R1) (b := U10 % 4294967296) (c := Q2 * Y) ⟨by omega, by omega⟩
  repeat' (first
    | (refine YK.ofV (y_subS (by rfl) (by rfl) (by assumption)) ?_)
    | (refine nxV ?_)
    | (show RS _ _ _ _ _ _ _ _; first | (refine nxRS ?_) | (refine nxRS1 fun _ => ?_))
    | (show RM _ _ _ _ _ _ _ _ _ _; first | (refine nxRM ?_) | (refine nxRM1 fun _ => ?_))
    | (refine nxG ?_)
    | (refine G.mixedA 6 [.go 0, .go 1, .go 2, .go 3, .go 4, .go 5, .go 6, .go 7] ?_)
    | (refine nxX ?_)
    | (refine G.condN rfl (fun hc => ?_) (fun hc => ?_) <;> (try first | exact False.elim hc | (exfalso; omega))))
  have hfin := hwh (un1 := U10 / 4294967296) (un0 := U10 % 4294967296) (q1 := Q1) (q0 := Q2) (u21 := R1) (R := R1 * 4294967296 + U10 % 4294967296 - Q2 * Y) hp hpr hr (by omega) hY2 h1 h2 h4 eU eU10 (by omega) hR1.symm rfl (by omega) (by omega)
  exact X.ret (vs := [_, _]) rfl ⟨rfl, rfl, rfl⟩ rfl (fun w hw => ⟨by rw [hfin.1, hfin.2, e2p], hw.ext⟩)
end Go.Proofs.YthilhhegchmjeaaGreat
/- Contracts that turn several heaplets of the caller's at once. -/
set_option linter.unusedVariables false
set_option maxHeartbeats 4000000
namespace Go.Proofs.YthilhhegchmjeaaGreat
open Go.RowKit

theorem At.perm {x : Hl} {A B H : List Hl} (h : At x A B H) : H.Perm (x :: (A ++ B)) := by
  induction h with
  | here => exact List.Perm.refl _
  | there _ ih => exact (ih.cons _).trans (List.Perm.swap _ _ _)
/-- These heaplets stand in the list, and R beside them. -/
inductive Pick : List Hl → List Hl → List Hl → Prop
  | nil {H : List Hl} : Pick [] H H
  | cons {x : Hl} {xs A B H R : List Hl} (a : At x A B H) (b : Pick xs (A ++ B) R) : Pick (x :: xs) H R
theorem Pick.perm {xs H R : List Hl} (h : Pick xs H R) : H.Perm (xs ++ R) := by
  induction h with
  | nil => exact List.Perm.refl _
  | cons ha _ ih => exact ha.perm.trans (ih.cons _)
theorem St.picked {w0 w : World} {xs H R : List Hl} (h : Pick xs H R) (hw : St w0 H w) : St w0 (xs ++ R) w := hw.perm h.perm
/-- A row of the call's own that is only read from now on. -/
theorem St.froz {α : Type} {w0 w : World} {H : List Hl} {v : Value} {e : TypeId} {f : α → List Value} {s : Nat} {l : List α} (h : St w0 (Hl.rw v e f s l :: H) w) : St w0 (Hl.nw v f s l :: H) w := by
  refine ⟨h.ext, fun x hx => ?_, fun z hz b hb ho => ?_, h.apart.2⟩
  · rcases List.mem_cons.1 hx with rfl | hx
    · exact ⟨RO.of_row (h.all _ List.mem_cons_self), fun _ _ b hb => Hl.ge (h.all _ List.mem_cons_self) rfl hb⟩
    · exact h.all x (List.mem_cons_of_mem _ hx)
  · have hb2 : (Hl.rw v e f s l).spot = some b := by
      cases hl : l.flatMap f with
      | nil => simp only [Hl.spot, hl] at hb; cases hb
      | cons u r => simp only [Hl.spot, hl] at hb; exact hb
    have := (h.apart.1 z hz b hb2 ho).1
    cases this
theorem St.frozU {α : Type} {w0 w : World} {H H' : List Hl} {v : Value} {e : TypeId} {f : α → List Value} {s : Nat} {l : List α} (hu : Upd (Hl.rw v e f s l) (Hl.nw v f s l) H H') (h : St w0 H w) : St w0 H' w := by
  refine ⟨h.ext, fun x hx => ?_, hu.apart h.apart rfl fun b hb => .inl ?_⟩
  · rcases hu.from_ x hx with rfl | hx
    · exact ⟨RO.of_row (h.all _ hu.mem), fun _ _ b hb => Hl.ge (h.all _ hu.mem) rfl hb⟩
    · exact h.all x hx
  · cases hl : l.flatMap f with
    | nil => simp only [Hl.spot, hl] at hb; cases hb
    | cons u r => simp only [Hl.spot, hl] at hb; exact hb
/-- A contract that turns the heaplets Xs of the caller's, whatever else stands beside them: Y z stands in their place. -/
def ContL (P : Program) (C : World → Prop) (Xs : List Hl) (f : FuncId) (args : List Value) {ι : Type} (post : ι → Prop) (v : ι → Value) (Y : ι → List Hl) : Prop :=
  ∀ w0 HR w, C w0 → St w0 (Xs ++ HR) w → Calls P f args.toArray w fun e w' => ∃ z, post z ∧ e = .returned (v z) ∧ St w0 (Y z ++ HR) w'
section
variable {P : Program} {C : World → Prop} {n : Nat} {L : FL} {w0 : World} {H HS Xs R : List Hl} {Q : Exit → Act → World → Prop} {ops : Array Oper} {rest : List Oper} {ord : List Mv} {dd i : Nat} {ty : TypeId} {pos : String} {af : Array Edge} {gd : Option (Nat × Bool)} {ι : Type} {f : FuncId} {xs : List Operand} {vs : List Value} {tys : Array TypeId} {post : ι → Prop} {v : ι → Value} {Y : ι → List Hl}
theorem x_callL (hc : ContL P C Xs f vs post v Y) (hC : C w0) (ha : AE L xs vs) (hp : Pick Xs H R) (hg : isGo P f = true) (hd : Nat.blt dd n = true) :
    EX P n L w0 H ⟨some dd, .call { callee := .value (.func f), args := xs.toArray, argTypes := tys }, ty, pos, af, gd⟩ post (fun z => (dd, v z) :: L) (fun z => Y z ++ R) := fun a w hfr hw K Q hK => by
  unfold Oper.wp
  rw [run_call hfr ha hg]
  refine (hc w0 R w hC (St.picked hp hw)).mono ?_
  rintro e w' ⟨z, hz, rfl, hs⟩
  exact hK _ _ ⟨z, hz, hfr.put (by simpa [Nat.blt_eq] using hd), hs⟩
theorem RS.callL (hc : ContL P C Xs f vs post v Y) (hC : C w0) (h : ∀ z, post z → RS P ops Q n ((dd, v z) :: L) w0 (Y z ++ R) rest) (ha : AE L xs vs := by first | exact rfl | exact ⟨rfl, rfl⟩ | exact ⟨rfl, rfl, rfl⟩ | exact ⟨rfl, rfl, rfl, rfl⟩ | exact ⟨rfl, rfl, rfl, rfl, rfl⟩ | exact ⟨rfl, rfl, rfl, rfl, rfl, rfl⟩ | exact ⟨rfl, rfl, rfl, rfl, rfl, rfl, rfl⟩ | exact ⟨rfl, rfl, rfl, rfl, rfl, rfl, rfl, rfl⟩ | exact ⟨rfl, rfl, rfl, rfl, rfl, rfl, rfl, rfl, rfl⟩) (hp : Pick Xs H R := by (repeat (first | exact Pick.nil | (apply Pick.cons; (case a => (first | exact At.here | exact At.there (At.here) | exact At.there (At.there (At.here)) | exact At.there (At.there (At.there (At.here))) | exact At.there (At.there (At.there (At.there (At.here)))) | exact At.there (At.there (At.there (At.there (At.there (At.here))))) | exact At.there (At.there (At.there (At.there (At.there (At.there (At.here)))))) | exact At.there (At.there (At.there (At.there (At.there (At.there (At.there (At.here))))))) | exact At.there (At.there (At.there (At.there (At.there (At.there (At.there (At.there (At.here)))))))) | exact At.there (At.there (At.there (At.there (At.there (At.there (At.there (At.there (At.there (At.here))))))))))))))) (hg : isGo P f = true := by decide +kernel) (hd : Nat.blt dd n = true := by rfl) :
    RS P ops Q n L w0 H (⟨some dd, .call { callee := .value (.func f), args := xs.toArray, argTypes := tys }, ty, pos, af, none⟩ :: rest) := RS.actX rfl (x_callL hc hC ha hp hg hd) h
theorem RM.callL (hc : ContL P C Xs f vs post v Y) (hC : C w0) (h : ∀ z, post z → RM P ops Q HS n [] ((dd, v z) :: L) w0 (Y z ++ R) ord) (ho : ops[i]? = some ⟨some dd, .call { callee := .value (.func f), args := xs.toArray, argTypes := tys }, ty, pos, af, none⟩ := by rfl) (ha : AE L xs vs := by first | exact rfl | exact ⟨rfl, rfl⟩ | exact ⟨rfl, rfl, rfl⟩ | exact ⟨rfl, rfl, rfl, rfl⟩ | exact ⟨rfl, rfl, rfl, rfl, rfl⟩ | exact ⟨rfl, rfl, rfl, rfl, rfl, rfl⟩ | exact ⟨rfl, rfl, rfl, rfl, rfl, rfl, rfl⟩ | exact ⟨rfl, rfl, rfl, rfl, rfl, rfl, rfl, rfl⟩ | exact ⟨rfl, rfl, rfl, rfl, rfl, rfl, rfl, rfl, rfl⟩) (hp : Pick Xs H R := by (repeat (first | exact Pick.nil | (apply Pick.cons; (case a => (first | exact At.here | exact At.there (At.here) | exact At.there (At.there (At.here)) | exact At.there (At.there (At.there (At.here))) | exact At.there (At.there (At.there (At.there (At.here)))) | exact At.there (At.there (At.there (At.there (At.there (At.here))))) | exact At.there (At.there (At.there (At.there (At.there (At.there (At.here)))))) | exact At.there (At.there (At.there (At.there (At.there (At.there (At.there (At.here))))))) | exact At.there (At.there (At.there (At.there (At.there (At.there (At.there (At.there (At.here)))))))) | exact At.there (At.there (At.there (At.there (At.there (At.there (At.there (At.there (At.there (At.here)))))))))))))))
    (hs : ∀ z w, St w0 (Y z ++ R) w → St w0 HS w := by exact fun _ _ h => h.sub (by repeat (first | exact List.Sublist.refl _ | apply List.Sublist.cons_cons | apply List.Sublist.cons))) (hg : isGo P f = true := by decide +kernel) (hd : Nat.blt dd n = true := by rfl) :
    RM P ops Q HS n [] L w0 H (.go i :: ord) := RM.actX ho rfl rfl (x_callL hc hC ha hp hg hd) (.inl hs) h
variable {α : Type} {f' : α → List Value} {l l' : List α} {t e : TypeId} {s bytes : Nat} {x y : Operand} {u u' : Value} {m : Int}
theorem RM.litI (h : ∀ v' : Sl, RM P ops Q HS n [] ((dd, v'.v) :: L) w0 (Hl.rw v'.v e cI 1 [m] :: H) ord) (ho : ops[i]? = some ⟨some dd, .buildSlice t 1 #[(0, x)], ty, pos, af, none⟩ := by rfl) (hx : evO L x = some (.int .i64 m) := by rfl) [ht : RowTy P t e 1 bytes] (hd : Nat.blt dd n = true := by rfl)
    (hs : ∀ (v' : Sl) w, St w0 (Hl.rw v'.v e cI 1 [m] :: H) w → St w0 HS w := by exact fun _ _ h => h.sub (by repeat (first | exact List.Sublist.refl _ | apply List.Sublist.cons_cons | apply List.Sublist.cons))) : RM P ops Q HS n [] L w0 H (.go i :: ord) :=
  RM.actX ho rfl rfl (x_lit (parts := [(0, x)]) (vs := [.int .i64 m]) (f := cI) (l := [m]) ⟨hx, rfl⟩ rfl rfl rfl rfl rfl rfl (rowTy_B ht.is) hd) (.inl hs) fun v' _ => h v'
theorem RM.appendA {H' : Sl → List Hl} (h : ∀ v' : Sl, RM P ops Q HS n [] ((dd, v'.v) :: L) w0 (H' v') ord) (ho : ops[i]? = some ⟨some dd, .call { callee := .builtin .append, args := #[x, y], argTypes := #[t, t] }, ty, pos, af, none⟩) (hx : evO L x = some u) (hy : evO L y = some u') (hu : ∀ v' : Sl, Upd (Hl.rw u e f' s l) (Hl.rw v'.v e f' s (l ++ l')) H (H' v')) (hr : RdT H u' f' s l')
    (h1 : ∀ a, (f' a).all (·.oneCell') = true) [ht : RowTy P t e s bytes] (hb : (l.length + l'.length) * bytes ≤ 140737488355328 ∧ l.length + l'.length ≤ 140737488355328) (hd : Nat.blt dd n = true)
    (hs : ∀ (v' : Sl) w, St w0 (H' v') w → St w0 HS w) : RM P ops Q HS n [] L w0 H (.go i :: ord) :=
  RM.actX ho rfl rfl (x_append hx hy hu hr h1 hb (rowTy_B ht.is) hd) (.inl hs) fun v' _ => h v'
/-- Some cells of an element, side by side. -/
theorem y_loadElPart {α : Type} {inst : Inhabited α} {f : α → List Value} {l : List α} {u v : Value} {s i k : Nat} {m : Int} {t : TypeId} {x : Operand} {d : Option Tmp} (hx : evO L x = some (elA v s m i)) (h : RdT H v f s l) (hf : ∀ a, (f a).length = s) (hm : 0 ≤ m ∧ m < l.length) (hs : Nat.blt 0 s = true) (hik : Nat.ble (i + k) s = true) (hv : Value.agg (((f (nth l m)).drop i).take k).toArray = u) (ht : rowB P t k = true) :
    V P n L w0 H ⟨d, .load t x, ty, pos, af, gd⟩ u := by
  unfold V
  intro a w ha hw
  subst hv
  obtain ⟨ad, c, rfl, hc⟩ := h.at_ hf hm (by simpa [Nat.blt_eq] using hs) hw
  have hlen : (((f (nth l m)).drop i).take k).length = k := by
    have := Nat.le_of_ble_eq_true hik
    simp [hf]; omega
  have hl := run_loadCells_list (P := P) w (ad.add (m.toNat * s + i)) (((f (nth l m)).drop i).take k) (fun j u hu => by
    rw [add_add, Nat.add_assoc]
    refine hc (i + j) u ?_
    have hj : j < k := by
      have := (List.getElem?_eq_some_iff.1 hu).1
      omega
    rw [← hu, List.getElem?_take_of_lt hj, List.getElem?_drop])
  rw [hlen] at hl
  simp [execOp, ha.eval hx, elA, Instr.loadAt, Instr.sureAddr, loadVar, run_isAgg_true ht, run_sizeOf_of (info_of_rowB ht), hl]
/-! ### A pointer that is not nil -/
theorem y_nilC {d : Option Tmp} {x : Operand} {a0 : Addr} (hx : evO L x = some (.pointer (some a0))) : V P n L w0 H ⟨d, .nilCheck x, ty, pos, af, gd⟩ (.pointer (some a0)) := by
  unfold V
  intro a w ha hw
  simp [execOp, ha.eval hx]
theorem nxN {p q : Prop} (h : q) (s : q → p := by intro h; first
  | (show YK _ _ _ _ _ ⟨_, .nilCheck _, _, _, _, _⟩ _; exact YK.ofV (y_nilC (by rfl)) h)
  | (show VK _ _ _ _ _ ⟨_, .nilCheck _, _, _, _, _⟩ _; exact VK.mk (y_nilC (by rfl)) h)
  | (show YG _ _ _ _ _ _ ⟨_, .nilCheck _, _, _, _, _⟩ _; exact YG.mk (fun hb => by (try (have hc := And.left hb; have hb := And.right hb; rw [hc])); (try rw [hb]); exact V.y (y_nilC (by rfl))) h)
  | (show VG _ _ _ _ _ _ ⟨_, .nilCheck _, _, _, _, _⟩ _; exact VG.mk (fun hb => by (try (have hc := And.left hb; have hb := And.right hb; rw [hc])); (try rw [hb]); exact y_nilC (by rfl)) h)) : p := s h
end
end Go.Proofs.YthilhhegchmjeaaGreat
/- Stable merging by rotations, plain: what slices.SortStableFunc's symMerge does to a list. -/
set_option linter.unusedVariables false
set_option maxHeartbeats 1000000
namespace Go.Proofs.YthilhhegchmjeaaGreat
open Go.RowKit

/-- The elements from a to before m, and those from m to before b, exchanged. -/
def rotL (l : List Int) (a m b : Nat) : List Int := l.take a ++ ((l.take b).drop m ++ ((l.take m).drop a ++ l.drop b))
theorem rotL_len {l : List Int} {a m b : Nat} (h : a ≤ m ∧ m ≤ b ∧ b ≤ l.length) : (rotL l a m b).length = l.length := by
  unfold rotL
  simp only [List.length_append, List.length_take, List.length_drop]
  omega
theorem rotL_perm {l : List Int} {a m b : Nat} (h : a ≤ m ∧ m ≤ b ∧ b ≤ l.length) : (rotL l a m b).Perm l := by
  have e : l = l.take a ++ ((l.take m).drop a ++ ((l.take b).drop m ++ l.drop b)) := by
    conv => lhs; rw [← List.take_append_drop b l, ← List.take_append_drop m (l.take b), List.take_take, Nat.min_eq_left h.2.1, ← List.take_append_drop a (l.take m), List.take_take, Nat.min_eq_left h.1]
    simp
  conv => rhs; rw [e]
  unfold rotL
  refine List.Perm.append_left _ ?_
  rw [← List.append_assoc, ← List.append_assoc]
  exact List.Perm.append_right _ List.perm_append_comm
/-- Where the elements lie behind it. -/
theorem rotL_get {l : List Int} {a m b : Nat} (h : a ≤ m ∧ m ≤ b ∧ b ≤ l.length) (i : Nat) : (rotL l a m b)[i]? = if i < a then l[i]? else if i < a + (b - m) then l[i - a + m]? else if i < b then l[i - (a + (b - m)) + a]? else l[i]? := by
  unfold rotL
  rw [List.getElem?_append, List.length_take, Nat.min_eq_left (by omega)]
  split
  · rw [List.getElem?_take_of_lt (by omega)]
  · rw [List.getElem?_append, List.length_drop, List.length_take, Nat.min_eq_left (by omega)]
    split
    next h1 =>
      rw [if_pos (by omega), List.getElem?_drop, List.getElem?_take_of_lt (by omega), Nat.add_comm]
    next h1 =>
      rw [if_neg (by omega), List.getElem?_append, List.length_drop, List.length_take, Nat.min_eq_left (by omega)]
      split
      next h2 =>
        rw [if_pos (by omega), List.getElem?_drop, List.getElem?_take_of_lt (by omega)]
        congr 1; omega
      next h2 =>
        rw [if_neg (by omega), List.getElem?_drop]
        congr 1; omega
theorem rotL_same {l : List Int} {a b : Nat} (h : a ≤ b ∧ b ≤ l.length) : rotL l a a b = l ∧ rotL l a b b = l := by
  constructor <;> (apply List.ext_getElem?; intro i)
  · rw [rotL_get (by omega)]
    split
    · rfl
    · split
      · congr 1; omega
      · rw [if_neg (by omega)]
  · rw [rotL_get (by omega)]
    split
    · rfl
    · rw [if_neg (by omega)]
      split
      · congr 1; omega
      · rfl
/-- k elements from a, and k elements from b, exchanged (apart). -/
def swapR (l : List Int) (a b : Nat) : Nat → List Int
  | 0 => l
  | k + 1 => ((swapR l a b k).set (a + k) ((swapR l a b k).getD (b + k) 0)).set (b + k) ((swapR l a b k).getD (a + k) 0)
theorem swapR_len (l : List Int) (a b k : Nat) : (swapR l a b k).length = l.length := by
  induction k with
  | zero => rfl
  | succ k ih => unfold swapR; rw [List.length_set, List.length_set, ih]
theorem swapR_get {l : List Int} {a b : Nat} : ∀ (k : Nat), a + k ≤ b → b + k ≤ l.length → ∀ i : Nat, (swapR l a b k)[i]? = if a ≤ i ∧ i < a + k then l[i - a + b]? else if b ≤ i ∧ i < b + k then l[i - b + a]? else l[i]?
  | 0, h1, h2, i => by rw [if_neg (by omega), if_neg (by omega)]; rfl
  | k + 1, h1, h2, i => by
    have ih := swapR_get (l := l) (a := a) (b := b) k (by omega) (by omega)
    have hl := swapR_len l a b k
    unfold swapR
    have ga : (swapR l a b k)[a + k]? = l[a + k]? := by rw [ih, if_neg (by omega), if_neg (by omega)]
    have gb : (swapR l a b k)[b + k]? = l[b + k]? := by rw [ih, if_neg (by omega), if_neg (by omega)]
    rw [List.getElem?_set, List.length_set, hl]
    by_cases e1 : b + k = i
    · rw [if_pos e1, if_pos (by omega), if_neg (by omega), if_pos (by omega), List.getD_eq_getElem?_getD, ga]
      rw [show i - b + a = a + k by omega, List.getElem?_eq_getElem (by omega)]; rfl
    · rw [if_neg e1, List.getElem?_set, hl]
      by_cases e2 : a + k = i
      · rw [if_pos e2, if_pos (by omega), if_pos (by omega), List.getD_eq_getElem?_getD, gb]
        rw [show i - a + b = b + k by omega, List.getElem?_eq_getElem (by omega)]; rfl
      · rw [if_neg e2, ih]
        repeat' split
        all_goals first | rfl | (exfalso; omega) | (congr 1; omega)
/-- A step of the rotation: what remains to be exchanged. -/
theorem rot_gt {l : List Int} {m i j : Nat} (hj : 0 < j ∧ j < i) (h : i ≤ m ∧ m + j ≤ l.length) : rotL (swapR l (m - i) m j) (m - i + j) m (m + j) = rotL l (m - i) m (m + j) := by
  have hl := swapR_len l (m - i) m j
  apply List.ext_getElem?
  intro k
  rw [rotL_get (by omega), rotL_get (by omega)]
  have g := swapR_get (l := l) (a := m - i) (b := m) j (by omega) (by omega)
  simp only [g]
  repeat' split
  all_goals first | rfl | (exfalso; omega) | (congr 1; omega)
theorem rot_lt {l : List Int} {m i j : Nat} (hj : 0 < i ∧ i < j) (h : i ≤ m ∧ m + j ≤ l.length) : rotL (swapR l (m - i) (m + j - i) i) (m - i) m (m + (j - i)) = rotL l (m - i) m (m + j) := by
  have hl := swapR_len l (m - i) (m + j - i) i
  apply List.ext_getElem?
  intro k
  rw [rotL_get (by omega), rotL_get (by omega)]
  have g := swapR_get (l := l) (a := m - i) (b := m + j - i) i (by omega) (by omega)
  simp only [g]
  repeat' split
  all_goals first | rfl | (exfalso; omega) | (congr 1; omega)
theorem rot_eq {l : List Int} {m i : Nat} (h : i ≤ m ∧ m + i ≤ l.length) : swapR l (m - i) m i = rotL l (m - i) m (m + i) := by
  apply List.ext_getElem?
  intro k
  rw [rotL_get (by omega), swapR_get i (by omega) (by omega)]
  repeat' split
  all_goals first | rfl | (exfalso; omega) | (congr 1; omega)
/-! ### The order: by a number of each element, and by the elements themselves where these are equal -/
abbrev gt0 (l : List Int) (i : Nat) : Int := l.getD i 0
def lexLt (mg : Int → Int) (x y : Int) : Prop := mg x < mg y ∨ mg x = mg y ∧ x < y
theorem lexLt_trans {mg : Int → Int} {x y z : Int} (h1 : lexLt mg x y) (h2 : lexLt mg y z) : lexLt mg x z := by
  unfold lexLt at *; omega
theorem lexLt_not {mg : Int → Int} {x y : Int} (hxy : x < y) : ¬ mg y < mg x ↔ lexLt mg x y := by
  unfold lexLt; omega
theorem lexLt_lt {mg : Int → Int} {x y : Int} (hxy : x < y) : mg y < mg x ↔ lexLt mg y x := by
  unfold lexLt; omega
structure Half (mg : Int → Int) (l : List Int) (a m b : Nat) : Prop where
  le : a ≤ m ∧ m ≤ b ∧ b ≤ l.length
  left : ∀ i j : Nat, a ≤ i → i < j → j < m → lexLt mg (gt0 l i) (gt0 l j)
  right : ∀ i j : Nat, m ≤ i → i < j → j < b → lexLt mg (gt0 l i) (gt0 l j)
  idx : ∀ i j : Nat, a ≤ i → i < m → m ≤ j → j < b → gt0 l i < gt0 l j
structure DoneS (mg : Int → Int) (l l' : List Int) (a b : Nat) : Prop where
  perm : l'.Perm l
  out : ∀ i : Nat, i < a ∨ b ≤ i → gt0 l' i = gt0 l i
  from_ : ∀ i : Nat, a ≤ i → i < b → ∃ j : Nat, a ≤ j ∧ j < b ∧ gt0 l' i = gt0 l j
  sorted : ∀ i j : Nat, a ≤ i → i < j → j < b → lexLt mg (gt0 l' i) (gt0 l' j)
theorem DoneS.len {mg : Int → Int} {l l' : List Int} {a b : Nat} (h : DoneS mg l l' a b) : l'.length = l.length := h.perm.length_eq
theorem half_done {mg : Int → Int} {l : List Int} {a m b : Nat} (h : Half mg l a m b) (hm : m = a ∨ m = b) : DoneS mg l l a b := by
  refine ⟨.refl _, fun _ _ => rfl, fun i h1 h2 => ⟨i, h1, h2, rfl⟩, fun i j h1 h2 h3 => ?_⟩
  rcases hm with e | e
  · exact h.right i j (by omega) h2 h3
  · exact h.left i j h1 h2 (by omega)
theorem gt0_rot {l : List Int} {a m b : Nat} (h : a ≤ m ∧ m ≤ b ∧ b ≤ l.length) (i : Nat) : gt0 (rotL l a m b) i = if i < a then gt0 l i else if i < a + (b - m) then gt0 l (i - a + m) else if i < b then gt0 l (i - (a + (b - m)) + a) else gt0 l i := by
  show (rotL l a m b).getD i 0 = _
  rw [List.getD_eq_getElem?_getD, rotL_get h]
  split
  · rw [← List.getD_eq_getElem?_getD]
  · split
    · rw [← List.getD_eq_getElem?_getD]
    · split <;> rw [← List.getD_eq_getElem?_getD]
/-- The halves' inner parts exchanged: two smaller tasks, all of the first below all of the second. -/
theorem half_split {mg : Int → Int} {l : List Int} {a m b s e mid : Nat} (h : Half mg l a m b) (hs : a ≤ s ∧ s ≤ m ∧ m ≤ e ∧ e ≤ b) (hmid : s + e = mid + m)
    (c1 : ∀ i j : Nat, a ≤ i → i < s → e ≤ j → j < b → lexLt mg (gt0 l i) (gt0 l j)) (c2 : ∀ i j : Nat, s ≤ i → i < m → m ≤ j → j < e → lexLt mg (gt0 l j) (gt0 l i)) :
    Half mg (rotL l s m e) a s mid ∧ Half mg (rotL l s m e) mid e b ∧ ∀ i j : Nat, a ≤ i → i < mid → mid ≤ j → j < b → lexLt mg (gt0 (rotL l s m e) i) (gt0 (rotL l s m e) j) := by
  obtain ⟨⟨h1, h2, h3⟩, hl, hr, hi⟩ := h
  have hb : s ≤ m ∧ m ≤ e ∧ e ≤ l.length := by omega
  have hlen := rotL_len hb
  -- where an element of the new list lies in the old one
  have g := gt0_rot hb
  have gA : ∀ i, i < s → gt0 (rotL l s m e) i = gt0 l i := fun i hi' => by rw [g, if_pos hi']
  have gB : ∀ i, s ≤ i → i < mid → gt0 (rotL l s m e) i = gt0 l (i - s + m) := fun i h1 h2 => by rw [g, if_neg (by omega), if_pos (by omega)]
  have gC : ∀ i, mid ≤ i → i < e → gt0 (rotL l s m e) i = gt0 l (i - mid + s) := fun i h1 h2 => by rw [g, if_neg (by omega), if_neg (by omega), if_pos (by omega), show i - (s + (e - m)) + s = i - mid + s by omega]
  have gD : ∀ i, e ≤ i → gt0 (rotL l s m e) i = gt0 l i := fun i h1 => by rw [g, if_neg (by omega), if_neg (by omega), if_neg (by omega)]
  refine ⟨⟨by omega, fun i j k1 k2 k3 => ?_, fun i j k1 k2 k3 => ?_, fun i j k1 k2 k3 k4 => ?_⟩, ⟨by omega, fun i j k1 k2 k3 => ?_, fun i j k1 k2 k3 => ?_, fun i j k1 k2 k3 k4 => ?_⟩, fun i j k1 k2 k3 k4 => ?_⟩
  · rw [gA i (by omega), gA j (by omega)]; exact hl i j k1 k2 (by omega)
  · rw [gB i (by omega) (by omega), gB j (by omega) (by omega)]; exact hr _ _ (by omega) (by omega) (by omega)
  · rw [gA i (by omega), gB j (by omega) (by omega)]; exact hi _ _ (by omega) (by omega) (by omega) (by omega)
  · rw [gC i (by omega) (by omega), gC j (by omega) (by omega)]; exact hl _ _ (by omega) (by omega) (by omega)
  · rw [gD i (by omega), gD j (by omega)]; exact hr _ _ (by omega) (by omega) (by omega)
  · rw [gC i (by omega) (by omega), gD j (by omega)]; exact hi _ _ (by omega) (by omega) (by omega) (by omega)
  · by_cases q1 : i < s <;> by_cases q2 : j < e
    · rw [gA i q1, gC j k3 q2]; exact hl _ _ (by omega) (by omega) (by omega)
    · rw [gA i q1, gD j (by omega)]; exact c1 _ _ (by omega) (by omega) (by omega) (by omega)
    · rw [gB i (by omega) (by omega), gC j k3 q2]; exact c2 _ _ (by omega) (by omega) (by omega) (by omega)
    · rw [gB i (by omega) (by omega), gD j (by omega)]; exact hr _ _ (by omega) (by omega) (by omega)
theorem done_join {mg : Int → Int} {l l1 l2 l3 : List Int} {a m b s e mid : Nat} (h : Half mg l a m b) (hs : a ≤ s ∧ s ≤ m ∧ m ≤ e ∧ e ≤ b) (hmid : s + e = mid + m) (e1 : l1 = rotL l s m e)
    (hc : ∀ i j : Nat, a ≤ i → i < mid → mid ≤ j → j < b → lexLt mg (gt0 l1 i) (gt0 l1 j)) (d1 : DoneS mg l1 l2 a mid) (d2 : DoneS mg l2 l3 mid b) : DoneS mg l l3 a b := by
  have hb : s ≤ m ∧ m ≤ e ∧ e ≤ l.length := by have := h.le; omega
  have g := gt0_rot hb
  rw [← e1] at g
  have fr1 : ∀ i : Nat, a ≤ i → i < b → ∃ j : Nat, a ≤ j ∧ j < b ∧ gt0 l1 i = gt0 l j := fun i h1 h2 => by
    rw [g]
    split
    · exact ⟨i, h1, h2, rfl⟩
    · split
      · exact ⟨_, by omega, by omega, rfl⟩
      · split
        · exact ⟨_, by omega, by omega, rfl⟩
        · exact ⟨i, h1, h2, rfl⟩
  have out1 : ∀ i : Nat, i < a ∨ b ≤ i → gt0 l1 i = gt0 l i := fun i h1 => by
    rw [g]
    split
    · rfl
    · rw [if_neg (by omega), if_neg (by omega)]
  have low : ∀ i : Nat, a ≤ i → i < mid → ∃ j : Nat, a ≤ j ∧ j < mid ∧ gt0 l3 i = gt0 l1 j := fun i h1 h2 => by
    obtain ⟨j, j1, j2, j3⟩ := d1.from_ i h1 h2
    exact ⟨j, j1, j2, by rw [d2.out i (.inl h2), j3]⟩
  have high : ∀ i : Nat, mid ≤ i → i < b → ∃ j : Nat, mid ≤ j ∧ j < b ∧ gt0 l3 i = gt0 l1 j := fun i h1 h2 => by
    obtain ⟨j, j1, j2, j3⟩ := d2.from_ i h1 h2
    exact ⟨j, j1, j2, by rw [j3, d1.out j (.inr j1)]⟩
  refine ⟨(d2.perm.trans d1.perm).trans (e1 ▸ rotL_perm hb), fun i h1 => ?_, fun i h1 h2 => ?_, fun i j h1 h2 h3 => ?_⟩
  · rw [d2.out i (by omega), d1.out i (by omega), out1 i h1]
  · by_cases q : i < mid
    · obtain ⟨j, j1, j2, j3⟩ := low i h1 q
      obtain ⟨k, k1, k2, k3⟩ := fr1 j j1 (by omega)
      exact ⟨k, k1, k2, j3.trans k3⟩
    · obtain ⟨j, j1, j2, j3⟩ := high i (by omega) h2
      obtain ⟨k, k1, k2, k3⟩ := fr1 j (by omega) j2
      exact ⟨k, k1, k2, j3.trans k3⟩
  · by_cases q1 : j < mid
    · rw [d2.out i (by omega), d2.out j (by omega)]
      exact d1.sorted i j h1 h2 q1
    · by_cases q2 : i < mid
      · obtain ⟨i', i1, i2, i3⟩ := low i h1 q2
        obtain ⟨j', j1, j2, j3⟩ := high j (by omega) h3
        rw [i3, j3]
        exact hc i' j' i1 i2 j1 j2
      · exact d2.sorted i j (by omega) h2 h3
/-- What the search among the pairs finds. -/
theorem search_split {mg : Int → Int} {l : List Int} {a m b s0 r0 s n mid : Nat} (h : Half mg l a m b) (ham : a < m ∧ m < b) (hmid : mid = (a + b) / 2) (hn : n = mid + m) (h0 : (m > mid ∧ s0 = n - b ∧ r0 = mid) ∨ (m ≤ mid ∧ s0 = a ∧ r0 = m)) (hs : s0 ≤ s ∧ s ≤ r0)
    (lo : ∀ c : Nat, s0 ≤ c → c < s → lexLt mg (gt0 l c) (gt0 l (n - 1 - c))) (hi : ∀ c : Nat, s ≤ c → c < r0 → lexLt mg (gt0 l (n - 1 - c)) (gt0 l c)) :
    (a ≤ s ∧ s ≤ m ∧ m ≤ n - s ∧ n - s ≤ b) ∧ s + (n - s) = mid + m ∧ (∀ i j : Nat, a ≤ i → i < s → n - s ≤ j → j < b → lexLt mg (gt0 l i) (gt0 l j)) ∧ (∀ i j : Nat, s ≤ i → i < m → m ≤ j → j < n - s → lexLt mg (gt0 l j) (gt0 l i)) := by
  have hle : a ≤ s ∧ s ≤ m ∧ m ≤ n - s ∧ n - s ≤ b := by omega
  have weakL : ∀ i j : Nat, a ≤ i → i ≤ j → j < m → i = j ∨ lexLt mg (gt0 l i) (gt0 l j) := fun i j h1 h2 h3 => by
    rcases Nat.lt_or_eq_of_le h2 with q | q
    · exact .inr (h.left i j h1 q h3)
    · exact .inl q
  have weakR : ∀ i j : Nat, m ≤ i → i ≤ j → j < b → i = j ∨ lexLt mg (gt0 l i) (gt0 l j) := fun i j h1 h2 h3 => by
    rcases Nat.lt_or_eq_of_le h2 with q | q
    · exact .inr (h.right i j h1 q h3)
    · exact .inl q
  refine ⟨hle, by omega, fun i j h1 h2 h3 h4 => ?_, fun i j h1 h2 h3 h4 => ?_⟩
  · have k := lo (s - 1) (by omega) (by omega)
    rw [show n - 1 - (s - 1) = n - s by omega] at k
    have k2 : lexLt mg (gt0 l i) (gt0 l (n - s)) := by
      rcases weakL i (s - 1) h1 (by omega) (by omega) with q | q
      · rw [q]; exact k
      · exact lexLt_trans q k
    rcases weakR (n - s) j (by omega) h3 h4 with q | q
    · rw [← q]; exact k2
    · exact lexLt_trans k2 q
  · have k := hi s (Nat.le_refl _) (by omega)
    have k2 : lexLt mg (gt0 l j) (gt0 l s) := by
      rcases weakR j (n - 1 - s) h3 (by omega) (by omega) with q | q
      · rw [q]; exact k
      · exact lexLt_trans q k
    rcases weakL s i (by omega) h1 h2 with q | q
    · rw [← q]; exact k2
    · exact lexLt_trans k2 q

theorem half_sorted {mg : Int → Int} {l : List Int} {a m b : Nat} (h : Half mg l a m b) (hc : ∀ i j : Nat, a ≤ i → i < m → m ≤ j → j < b → lexLt mg (gt0 l i) (gt0 l j)) : DoneS mg l l a b := by
  refine ⟨.refl _, fun _ _ => rfl, fun i h1 h2 => ⟨i, h1, h2, rfl⟩, fun i j h1 h2 h3 => ?_⟩
  by_cases q1 : j < m
  · exact h.left i j h1 h2 q1
  · by_cases q2 : i < m
    · exact hc i j h1 q2 (by omega) h3
    · exact h.right i j (by omega) h2 h3
theorem done_left1 {mg : Int → Int} {l : List Int} {a b i : Nat} (h : Half mg l a (a + 1) b) (hi : a + 1 ≤ i ∧ i ≤ b) (lo : ∀ q : Nat, a + 1 ≤ q → q < i → lexLt mg (gt0 l q) (gt0 l a)) (hi2 : ∀ q : Nat, i ≤ q → q < b → lexLt mg (gt0 l a) (gt0 l q)) : DoneS mg l (rotL l a (a + 1) i) a b := by
  have hs : a ≤ a ∧ a ≤ a + 1 ∧ a + 1 ≤ i ∧ i ≤ b := by omega
  have hmid : a + i = (i - 1) + (a + 1) := by omega
  have hb : a ≤ a + 1 ∧ a + 1 ≤ i ∧ i ≤ l.length := by have := h.le; omega
  obtain ⟨k1, k2, k3⟩ := half_split h hs hmid (fun p j h1 h2 _ _ => by omega) (fun p j h1 h2 h3 h4 => by
    obtain rfl : p = a := by omega
    exact lo j h3 h4)
  refine done_join h hs hmid rfl k3 (half_done k1 (.inl rfl)) (half_sorted k2 fun p j h1 h2 h3 h4 => ?_)
  have g := gt0_rot hb
  rw [g p, if_neg (by omega), if_neg (by omega), if_pos (by omega), g j, if_neg (by omega), if_neg (by omega), if_neg (by omega), show p - (a + (i - (a + 1))) + a = a by omega]
  exact hi2 j h3 h4
theorem done_right1 {mg : Int → Int} {l : List Int} {a m i : Nat} (h : Half mg l a m (m + 1)) (hi : a ≤ i ∧ i ≤ m) (lo : ∀ q : Nat, a ≤ q → q < i → lexLt mg (gt0 l q) (gt0 l m)) (hi2 : ∀ q : Nat, i ≤ q → q < m → lexLt mg (gt0 l m) (gt0 l q)) : DoneS mg l (rotL l i m (m + 1)) a (m + 1) := by
  have hs : a ≤ i ∧ i ≤ m ∧ m ≤ m + 1 ∧ m + 1 ≤ m + 1 := by omega
  have hmid : i + (m + 1) = (i + 1) + m := by omega
  have hb : i ≤ m ∧ m ≤ m + 1 ∧ m + 1 ≤ l.length := by have := h.le; omega
  obtain ⟨k1, k2, k3⟩ := half_split h hs hmid (fun p j h1 h2 h3 h4 => by omega) (fun p j h1 h2 h3 h4 => by
    obtain rfl : j = m := by omega
    exact hi2 p h1 h2)
  refine done_join h hs hmid rfl k3 (half_sorted k1 fun p j h1 h2 h3 h4 => ?_) (half_done k2 (.inr rfl))
  have g := gt0_rot hb
  rw [g p, if_pos (by omega), g j, if_neg (by omega), if_pos (by omega), show j - i + m = m by omega]
  exact lo p h1 h2
/-- An element carried upwards, or downwards, by exchanges of neighbours. -/
def swpN (l : List Int) (i j : Nat) : List Int := (l.set i (gt0 l j)).set j (gt0 l i)
theorem swpN_len (l : List Int) (i j : Nat) : (swpN l i j).length = l.length := by unfold swpN; rw [List.length_set, List.length_set]
theorem swpN_get {l : List Int} {i j : Nat} (h : i < l.length ∧ j < l.length) (k : Nat) : (swpN l i j)[k]? = if k = j then l[i]? else if k = i then l[j]? else l[k]? := by
  unfold swpN gt0
  rw [List.getElem?_set, List.length_set]
  by_cases e1 : j = k
  · rw [if_pos e1, if_pos (by omega), if_pos e1.symm, List.getD_eq_getElem?_getD, List.getElem?_eq_getElem h.1]; rfl
  · rw [if_neg e1, if_neg (Ne.symm e1), List.getElem?_set]
    by_cases e2 : i = k
    · rw [if_pos e2, if_pos (by omega), if_pos e2.symm, List.getD_eq_getElem?_getD, List.getElem?_eq_getElem h.2]; rfl
    · rw [if_neg e2, if_neg (Ne.symm e2)]
theorem rot_up {l : List Int} {a k : Nat} (h : a ≤ k ∧ k + 1 < l.length) : swpN (rotL l a (a + 1) (k + 1)) k (k + 1) = rotL l a (a + 1) (k + 2) := by
  apply List.ext_getElem?
  intro i
  have h1 : a ≤ a + 1 ∧ a + 1 ≤ k + 1 ∧ k + 1 ≤ l.length := by omega
  have h2 : a ≤ a + 1 ∧ a + 1 ≤ k + 2 ∧ k + 2 ≤ l.length := by omega
  rw [swpN_get (by rw [rotL_len h1]; omega), rotL_get h1, rotL_get h1, rotL_get h1, rotL_get h2]
  repeat' split
  all_goals first | rfl | (exfalso; omega) | (congr 1; omega)
theorem rot_down {l : List Int} {m k : Nat} (h : 0 < k ∧ k ≤ m ∧ m < l.length) : swpN (rotL l k m (m + 1)) k (k - 1) = rotL l (k - 1) m (m + 1) := by
  apply List.ext_getElem?
  intro i
  have h1 : k ≤ m ∧ m ≤ m + 1 ∧ m + 1 ≤ l.length := by omega
  have h2 : k - 1 ≤ m ∧ m ≤ m + 1 ∧ m + 1 ≤ l.length := by omega
  rw [swpN_get (by rw [rotL_len h1]; omega), rotL_get h1, rotL_get h1, rotL_get h1, rotL_get h2]
  repeat' split
  all_goals first | rfl | (exfalso; omega) | (congr 1; omega)

theorem done_refl {mg : Int → Int} {l : List Int} {a b : Nat} (h : b ≤ a + 1) : DoneS mg l l a b := ⟨.refl _, fun _ _ => rfl, fun i h1 h2 => ⟨i, h1, h2, rfl⟩, fun i j h1 h2 h3 => by omega⟩
theorem done_trans {mg : Int → Int} {l l1 l2 : List Int} {a i j : Nat} (h1 : DoneS mg l l1 a i) (h2 : DoneS mg l1 l2 a j) (hij : i ≤ j) : DoneS mg l l2 a j := by
  refine ⟨h2.perm.trans h1.perm, fun k hk => by rw [h2.out k hk, h1.out k (by omega)], fun k k1 k2 => ?_, h2.sorted⟩
  obtain ⟨p, p1, p2, p3⟩ := h2.from_ k k1 k2
  by_cases q : p < i
  · obtain ⟨r, r1, r2, r3⟩ := h1.from_ p p1 q
    exact ⟨r, r1, by omega, p3.trans r3⟩
  · exact ⟨p, p1, p2, by rw [p3, h1.out p (by omega)]⟩
/-- The elements from a to before b ascend, as integers. -/
def ascL (l : List Int) (a b : Nat) : Prop := ∀ p q : Nat, a ≤ p → p < q → q < b → gt0 l p < gt0 l q
theorem ins_half {mg : Int → Int} {l li : List Int} {a i : Nat} (h : DoneS mg l li a i) (ha : ascL l a (i + 1)) (hi : a ≤ i ∧ i < l.length) : Half mg li a i (i + 1) := by
  refine ⟨by rw [h.len]; omega, h.sorted, fun p q h1 h2 h3 => by omega, fun p q h1 h2 h3 h4 => ?_⟩
  obtain rfl : q = i := by omega
  obtain ⟨r, r1, r2, r3⟩ := h.from_ p h1 h2
  rw [r3, h.out q (.inr (Nat.le_refl _))]
  exact ha r q r1 r2 (by omega)
theorem blocks_half {mg : Int → Int} {l l1 l2 : List Int} {k n : Nat} (ha : ascL l 0 n) (hk : k ≤ n ∧ n ≤ l.length) (h1 : DoneS mg l l1 0 k) (h2 : DoneS mg l1 l2 k n) : Half mg l2 0 k n := by
  have e1 := h1.len
  have e2 := h2.len
  refine ⟨by omega, fun i j i1 i2 i3 => ?_, h2.sorted, fun i j i1 i2 i3 i4 => ?_⟩
  · rw [h2.out i (by omega), h2.out j (by omega)]
    exact h1.sorted i j i1 i2 i3
  · obtain ⟨p, p1, p2, p3⟩ := h1.from_ i i1 i2
    obtain ⟨q, q1, q2, q3⟩ := h2.from_ j i3 i4
    rw [h2.out i (by omega), p3, q3, h1.out q (.inr q1)]
    exact ha p q p1 (by omega) q2
theorem blocks_done {mg : Int → Int} {l l1 l2 l3 : List Int} {k n : Nat} (hk : k ≤ n) (h1 : DoneS mg l l1 0 k) (h2 : DoneS mg l1 l2 k n) (h3 : DoneS mg l2 l3 0 n) : DoneS mg l l3 0 n := by
  refine ⟨(h3.perm.trans h2.perm).trans h1.perm, fun i hi => by rw [h3.out i hi, h2.out i (by omega), h1.out i (by omega)], fun i i1 i2 => ?_, h3.sorted⟩
  obtain ⟨p, p1, p2, p3⟩ := h3.from_ i i1 i2
  by_cases q : p < k
  · obtain ⟨r, r1, r2, r3⟩ := h1.from_ p (Nat.zero_le _) q
    exact ⟨r, r1, by omega, by rw [p3, h2.out p (by omega), r3]⟩
  · obtain ⟨r, r1, r2, r3⟩ := h2.from_ p (by omega) p2
    exact ⟨r, Nat.zero_le _, r2, by rw [p3, r3, h1.out r (.inr r1)]⟩
end Go.Proofs.YthilhhegchmjeaaGreat
/- slices.SortStableFunc at ints: its inner functions. -/
set_option linter.unusedVariables false
set_option maxHeartbeats 4000000
namespace Go.Proofs.YthilhhegchmjeaaGreat
open Go.RowKit

theorem X.endN {P : Program} {n : Nat} {L : FL} {w0 : World} {H : List Hl} {fn : Func} {R : Ending → World → Prop} (hf : fn.results = #[]) (h : ∀ w, St w0 H w → R (.returned (.tuple #[])) w) : X (bodyPost P fn R) n L w0 H .normal := by
  have h1 := X.ret (P := P) (n := n) (L := L) (w0 := w0) (H := H) (fn := fn) (R := R) (rs := []) (vs := []) hf rfl rfl h
  unfold X at h1 ⊢
  exact h1
abbrev rwI (v : Sl) (l : List Int) : Hl := Hl.rw v.v 3 cI 1 l
theorem nth_gt0 (l : List Int) (m : Int) : nth l m = gt0 l m.toNat := rfl
def cmpI (a b : Int) : Int := if a < b then -1 else if b < a then 1 else 0
theorem cmpI_neg {a b : Int} : cmpI a b < 0 ↔ a < b := by
  unfold cmpI; split
  · constructor <;> omega
  · split <;> constructor <;> omega
/-- A comparing function of two ints from 0 to before N, by a number of each. -/
structure CmpOk (C : World → Prop) (f : FuncId) (cap : List Value) (mg : Int → Int) (N : Int) : Prop where
  go : isGo Tryz.prog f = true
  cmp : ∀ x y : Int, 0 ≤ x → x < N → 0 ≤ y → y < N → ContIn Tryz.prog C f ([.int .i64 x, .int .i64 y] ++ (cap.toArray).toList) (.int .i64 (cmpI (mg x) (mg y)))
abbrev cmpV (f : FuncId) (cap : List Value) : Value := .func (.func f) #[] cap.toArray
abbrev inN (N : Int) (l : List Int) : Prop := ∀ x ∈ l, 0 ≤ x ∧ x < N
theorem nth_inN {N : Int} {l : List Int} (h : inN N l) {m : Int} (hm : 0 ≤ m ∧ m < l.length) : 0 ≤ nth l m ∧ nth l m < N := h _ (List.mem_of_getElem? (nth_some hm.1 hm.2))
end Go.Proofs.YthilhhegchmjeaaGreat
/- slices.SortStableFunc at ints: symMerge. -/
set_option linter.unusedVariables false
set_option maxHeartbeats 4000000
namespace Go.Proofs.YthilhhegchmjeaaGreat
open Go.RowKit

theorem X.retZ {P : Program} {n : Nat} {L : FL} {w0 : World} {H : List Hl} {fn : Func} {R : Ending → World → Prop} (hf : fn.results = #[]) (h : ∀ w, St w0 H w → R (.returned (.tuple #[])) w) : X (bodyPost P fn R) n L w0 H .ret := X.ret (rs := []) (vs := []) hf rfl rfl h
theorem half_out {mg : Int → Int} {l z : List Int} {a mid e b : Nat} (h : Half mg l mid e b) (d : DoneS mg l z a mid) : Half mg z mid e b := by
  have hl := d.len
  have g : ∀ i : Nat, mid ≤ i → gt0 z i = gt0 l i := fun i hi => d.out i (.inr hi)
  refine ⟨by have := h.le; omega, fun i j h1 h2 h3 => ?_, fun i j h1 h2 h3 => ?_, fun i j h1 h2 h3 h4 => ?_⟩
  · rw [g i h1, g j (by omega)]; exact h.left i j h1 h2 h3
  · have := h.le; rw [g i (by omega), g j (by omega)]; exact h.right i j h1 h2 h3
  · have := h.le; rw [g i h1, g j (by omega)]; exact h.idx i j h1 h2 h3 h4
theorem K_cmp {C : World → Prop} {f : FuncId} {cap : List Value} {mg : Int → Int} {N : Int} (K : CmpOk C f cap mg N) {l : List Int} (hin : inN N l) (x y : Int) (hx : 0 ≤ x ∧ x < l.length) (hy : 0 ≤ y ∧ y < l.length) :
    ContIn Tryz.prog C f ([.int .i64 (nth l x), .int .i64 (nth l y)] ++ (cap.toArray).toList) (.int .i64 (cmpI (mg (nth l x)) (mg (nth l y)))) := by
  have x1 := nth_inN hin hx
  have x2 := nth_inN hin hy
  exact K.cmp _ _ x1.1 x1.2 x2.1 x2.2
end Go.Proofs.YthilhhegchmjeaaGreat
/- Loops of a few rounds, one after the other; calls that the model answers at once; the length of a slice whose header is known. -/
set_option linter.unusedVariables false
set_option maxHeartbeats 4000000
namespace Go.Proofs.YthilhhegchmjeaaGreat
open Go.RowKit
section
variable {P : Program} {Q : Exit → Act → World → Prop} {n k : Nat} {L : FL} {w0 : World} {H : List Hl} {c : Code}
/-- At most k rounds of a loop. -/
def GR (P : Program) (Q : Exit → Act → World → Prop) (n k : Nat) (L : FL) (w0 : World) (H : List Hl) (c : Code) : Prop := ∀ a w, Fr n L a → St w0 H w → Code.rounds P c Q k a w
theorem G.loopN (k : Nat) (h : GR P Q n k L w0 H c) : G P Q n L w0 H (.loop c) := by
  unfold G
  exact fun a w ha hw => wp_loop_rounds k (h a w ha hw)
theorem GR.step (h : G P (Exit.then (Code.rounds P c Q k) Q) n L w0 H c) : GR P Q n (k + 1) L w0 H c := by
  unfold G at h
  exact fun a w ha hw => h a w ha hw
/-- The next round, with these facts. -/
theorem GR.next (L1 : FL) (hL : Sub L L1) (h : G P (Exit.then (Code.rounds P c Q k) Q) n L1 w0 H c) : GR P Q n (k + 1) L w0 H c := by
  unfold G at h
  exact fun a w ha hw => h a w (ha.weaken hL.spec) hw
theorem X.round (h : GR P Q n k L w0 H c) : X (Exit.then (Code.rounds P c Q k) Q) n L w0 H .normal := by
  unfold X
  exact fun a w ha hw => h a w ha hw
variable {d : Option Tmp} {ty : TypeId} {pos : String} {af : Array Edge} {gd : Option (Nat × Bool)} {x y z : Operand} {t : TypeId} {v : Value} {K : Value → Prop}
/-- A call that the model answers at once. -/
theorem y_extern {f : FuncId} {xs : List Operand} {vs : List Value} {tys : Array TypeId} (hrun : ∀ w, (callFunc f vs.toArray).run P w = .ok (.value v) w) (ha : AE L xs vs) :
    V P n L w0 H ⟨d, .call { callee := .value (.func f), args := xs.toArray, argTypes := tys }, ty, pos, af, gd⟩ v := by
  unfold V
  intro a w hfr hw
  rw [show execOp a.eval ⟨d, .call { callee := .value (.func f), args := xs.toArray, argTypes := tys }, ty, pos, af, gd⟩ = callFunc f (#[] ++ xs.toArray.map a.eval ++ #[]) from rfl]
  have := ha.map hfr
  simp [this, hrun w]
/-- An element's address in an array that lies in a block of the call's own. -/
theorem y_indexArr {b i len : Nat} {k : IntKind} {m : Int} (hx : evO L x = some (.pointer (some ⟨b, 0, none⟩))) (hy : evO L y = some (.int k m)) (hm : m = (i : Int)) (ht : arrayB P t len = true) (hi : Nat.blt i len = true) :
    V P n L w0 H ⟨d, .indexAddr t x y, ty, pos, af, gd⟩ (.pointer (some ⟨b, i, none⟩)) := by
  unfold V
  intro a w ha hw
  unfold arrayB at ht
  cases hu : P.underlying t with
  | none => simp [hu] at ht
  | some dsc =>
    cases dsc <;> simp [hu] at ht
    rename_i l e
    obtain ⟨rfl, hs⟩ := ht
    subst hm
    have hlt : i < l := by simpa [Nat.blt_eq] using hi
    have hadd : (⟨b, 0, none⟩ : Addr).add i = ⟨b, i, none⟩ := by unfold Addr.add; split <;> simp_all
    simp [execOp, ha.eval hx, ha.eval hy, Instr.indexAt, asIntOf, Instr.sureAddr, run_underlying hu, hlt, run_sizeOf_of (info_of_scalarB hs), hadd]
/-- The first elements of an array as a slice, and as an array again. -/
theorem y_sliceArr {b len : Nat} {k : IntKind} {m : Nat} (hx : evO L x = some (.pointer (some ⟨b, 0, none⟩))) (hy : evO L y = some (.int k (m : Int))) (ht : arrayB P t len = true) (hm : Nat.ble m len = true) (h0 : Nat.blt 0 len = true) :
    V P n L w0 H ⟨d, .slice t x none (some y) none, ty, pos, af, gd⟩ (.slice (some ⟨b, 0, none⟩) m len) := by
  unfold V
  intro a w ha hw
  unfold arrayB at ht
  cases hu : P.underlying t with
  | none => simp [hu] at ht
  | some dsc =>
    cases dsc <;> simp [hu] at ht
    rename_i l e
    obtain ⟨rfl, hs⟩ := ht
    have hle : m ≤ l := Nat.le_of_ble_eq_true hm
    have hpos : 0 < l := by simpa [Nat.blt_eq] using h0
    have hadd : (⟨b, 0, none⟩ : Addr).add 0 = ⟨b, 0, none⟩ := by unfold Addr.add; split <;> simp_all
    have h2 := run_sliceBound (P := P) (w := w) k m l .sliceAlen (by omega) (by omega)
    simp [execOp, ha.eval hx, ha.eval hy, Instr.sliceAt, Instr.sliceBounds, Instr.sureAddr, run_underlying hu, h2, run_sizeOf_of (info_of_scalarB hs), hadd]
theorem y_arrPtr {A : Addr} {len m c : Nat} (hx : evO L x = some (.slice (some A) m c)) (ht : arrayB P t len = true) (hm : Nat.ble len m = true) :
    V P n L w0 H ⟨d, .sliceToArrayPointer t x, ty, pos, af, gd⟩ (.pointer (some A)) := by
  unfold V
  intro a w ha hw
  unfold arrayB at ht
  cases hu : P.underlying t with
  | none => simp [hu] at ht
  | some dsc =>
    cases dsc <;> simp [hu] at ht
    rename_i l e
    obtain ⟨rfl, hs⟩ := ht
    have hle : l ≤ m := Nat.le_of_ble_eq_true hm
    simp [execOp, ha.eval hx, Instr.arrayAt, run_underlying hu, Nat.not_lt.2 hle]
/-- The length of a slice is in its header. -/
theorem y_lenV {A : Option Addr} {m c : Nat} (hx : evO L x = some (.slice A m c)) (ht : isSliceB P t = true) : V P n L w0 H ⟨d, .call { callee := .builtin .len, args := #[x], argTypes := #[t] }, ty, pos, af, gd⟩ (.int .i64 m) := by
  unfold V
  intro a w ha hw
  unfold isSliceB at ht
  cases hu : P.underlying t with
  | none => simp [hu] at ht
  | some dsc =>
    cases dsc <;> simp [hu] at ht
    simp [execOp, resolve, invoke, builtin, ha.eval hx, Builtin.len_, run_underlying hu, goInt]
end
end Go.Proofs.YthilhhegchmjeaaGreat
/- The library's functions on strings and numerals: what the kit's contracts say, in this walk's words. -/
set_option linter.unusedVariables false
set_option maxHeartbeats 4000000
namespace Go.Proofs.YthilhhegchmjeaaGreat
open Go.RowKit

theorem below_grown (w : World) (k : Nat) (os : Array Obj) : Below w.heap.size w (Go.Sort.grow (w.drewN k) os) :=
  ⟨rfl, rfl, rfl, by simp [Go.Sort.grow, World.drewN], fun j hj => by simp [Go.Sort.grow, World.drewN, Array.getElem?_append, hj]⟩
theorem below_drawn (w : World) (k : Nat) : Below w.heap.size w (w.drewN k) := ⟨rfl, rfl, rfl, Nat.le_refl _, fun _ _ => rfl⟩
theorem dec_len : ∀ (k u : Nat), u < 10 ^ (k + 1) → (Lib.decDigits u).length ≤ k + 1
  | 0, u, h => by
    rw [Lib.decDigits, dif_pos (by simpa using h)]; simp
  | k + 1, u, h => by
    rw [Lib.decDigits]
    split
    · simp
    · have := dec_len k (u / 10) (by rw [Nat.pow_succ] at h; omega)
      simp; omega
theorem itoa_len {n : Int} (h : -9223372036854775808 ≤ n ∧ n ≤ 9223372036854775807) : (Lib.itoa n).length ≤ 20 := by
  unfold Lib.itoa
  split
  · have := dec_len 18 n.natAbs (by omega)
    simp; omega
  · have := dec_len 18 n.toNat (by omega)
    omega
theorem repeat_c (l : List UInt8) {m : Int} (h : 0 ≤ m ∧ m ≤ 1000000) (hl : l.length ≤ 1000000) : Cont Tryz.prog 18 [strV l, .int .i64 m] (strV (Lib.repeatL l m.toNat)) := fun w => by
  obtain ⟨c, rfl⟩ := Int.eq_ofNat_of_zero_le h.1
  have hc : c ≤ 1000000 := by omega
  refine (Tryz.strings_Repeat ⟨l.toArray⟩ c w (by omega) (by rw [size_str]; exact Nat.le_trans (Nat.mul_le_mul hl hc) (by decide))).mono fun e w' ⟨he, hb⟩ => ⟨?_, hb⟩
  rw [he]
  simp
end Go.Proofs.YthilhhegchmjeaaGreat
/- strings.Builder: copyCheck, WriteByte, WriteString (walked: the shelf's form does not fit where a copied builder is refused). -/
set_option linter.unusedVariables false
set_option maxHeartbeats 4000000
namespace Go.Proofs.YthilhhegchmjeaaGreat
open Go.RowKit

section
variable {P : Program} {n : Nat} {L : FL} {w0 : World} {H : List Hl} {Q : Exit → Act → World → Prop} {ops : Array Oper} {rest : List Oper} {d : Option Tmp} {dd : Nat} {ty : TypeId} {pos : String} {af : Array Edge} {g : Option (Nat × Bool)} {x y : Operand} {t t' e : TypeId} {v : Value} {b : Nat}
theorem y_eqNil0 (hx : evO L x = some (.pointer none)) (hy : evO L y = some (.pointer none)) (ht : P.underlying t = some (.pointer e)) : V P n L w0 H ⟨d, .binOp .eql t x y t', ty, pos, af, g⟩ (.bool true) := by
  unfold V
  intro a w ha hw
  have h : ∀ k : Nat, (Op.equalIn (k + 1) t (.pointer none) (.pointer none)).run P w = .ok true w := fun k => by simp [Op.equalIn, run_underlying ht]
  simp [execOp, ha.eval hx, ha.eval hy, eqGuard, binOp, Op.equal, Op.maxDepth, h 9999]
theorem y_eqNil1 {a0 : Addr} (hx : evO L x = some (.pointer (some a0))) (hy : evO L y = some (.pointer none)) (ht : P.underlying t = some (.pointer e)) : V P n L w0 H ⟨d, .binOp .eql t x y t', ty, pos, af, g⟩ (.bool false) := by
  unfold V
  intro a w ha hw
  have h : ∀ k : Nat, (Op.equalIn (k + 1) t (.pointer (some a0)) (.pointer none)).run P w = .ok false w := fun k => by simp [Op.equalIn, run_underlying ht]
  simp [execOp, ha.eval hx, ha.eval hy, eqGuard, binOp, Op.equal, Op.maxDepth, h 9999]
theorem y_neSame {a0 : Addr} (hx : evO L x = some (.pointer (some a0))) (hy : evO L y = some (.pointer (some a0))) (ht : P.underlying t = some (.pointer e)) (hi : (P.info? e).isSome = true) : V P n L w0 H ⟨d, .binOp .neq t x y t', ty, pos, af, g⟩ (.bool false) := by
  unfold V
  intro a w ha hw
  obtain ⟨j, hj⟩ := Option.isSome_iff_exists.1 hi
  have h := Lib.run_neq_ptr_same w a0 ht hj
  simp [execOp, ha.eval hx, ha.eval hy, eqGuard, h]
theorem shape_of {T : TypeId} {cs : List Value} {w : World} (hm : Hl.blk b T cs ∈ H) (hw : St w0 H w) : w.shape? b = some (T, cs.length) := by
  have := (hw.all _ hm : _ ∧ w.heap[b]? = some (.cells cs.toArray T (0, 0))).2
  simp [World.shape?, this]
theorem y_toUnsafe {T : TypeId} {cs : List Value} (hx : evO L x = some (.pointer (some ⟨b, 0, none⟩))) (hm : Hl.blk b T cs ∈ H) (h0 : 0 < cs.length) (hs : P.underlying t = some (.pointer e)) (hd : P.underlying t' = some .unsafePointer) (hi : (P.info? e).map (·.size) = some 2) : V P n L w0 H ⟨d, .convert t t' x, ty, pos, af, g⟩ (.pointer (some ⟨b, 0, none⟩)) := by
  unfold V
  intro a w ha hw
  obtain ⟨j, hj, hz⟩ := Option.map_eq_some_iff.1 hi
  have h := Lib.run_to_unsafe w ⟨b, 0, none⟩ hs hd hj (by omega) (shape_of hm hw) h0
  simp [execOp, ha.eval hx, h]
theorem y_fromUnsafe {k : Nat} {T : TypeId} {cs : List Value} (hx : evO L x = some (.pointer (some ⟨b, 0, none⟩))) (hm : Hl.blk b T cs ∈ H) (hs : P.underlying t = some .unsafePointer) (hd : P.underlying t' = some (.pointer e)) (hi : (P.info? e).isSome = true) (hk : cs.length = k) (hl : liesAt P P.depth T (k / P.cellsOf T) 0 e 1 = true) : V P n L w0 H ⟨d, .convert t t' x, ty, pos, af, g⟩ (.pointer (some ⟨b, 0, none⟩)) := by
  unfold V
  intro a w ha hw
  obtain ⟨j, hj⟩ := Option.isSome_iff_exists.1 hi
  have h := Lib.run_from_unsafe w ⟨b, 0, none⟩ hs hd hj (shape_of hm hw) (by rw [hk]; exact hl)
  simp [execOp, ha.eval hx, h]
theorem y_noEsc {f : FuncId} {fn : Func} {tys : Array TypeId} (hx : evO L x = some v) (hf : P.funcs[f]? = some fn) (hname : (fn.name == "runtime.NumGoroutine") = false) (hb : fn.body.isNone = true) (hn : Extern.findNext fn = none) (he : Extern.find fn = some Extern.AbiNoEscape.same) : V P n L w0 H ⟨d, .call { callee := .value (.func f), args := #[x], argTypes := tys }, ty, pos, af, g⟩ v := by
  unfold V
  intro a w ha hw
  rw [show execOp a.eval ⟨d, .call { callee := .value (.func f), args := #[x], argTypes := tys }, ty, pos, af, g⟩ = callFunc f (#[] ++ #[x].map a.eval ++ #[]) from rfl]
  rw [run_callFunc_extern hf hname hb hn he]
  simp [ha.eval hx, Lib.run_noEscape]
theorem y_nil {a0 : Addr} (hx : evO L x = some (.pointer (some a0))) : V P n L w0 H ⟨d, .nilCheck x, ty, pos, af, g⟩ (.pointer (some a0)) := by
  unfold V
  intro a w ha hw
  simp [execOp, ha.eval hx]
end
end Go.Proofs.YthilhhegchmjeaaGreat
/- The library's Split and Atoi in this walk's words; contracts that lean on what the variables hold and bring new slices. -/
set_option linter.unusedVariables false
set_option maxHeartbeats 4000000
namespace Go.Proofs.YthilhhegchmjeaaGreat
open Go.RowKit

/-- As ContX, under a fact on the world that stays. -/
def ContXI (P : Program) (C : World → Prop) (f : FuncId) (args : List Value) {ι : Type} (post : ι → Prop) (v : ι → Value) (Hn : ι → List Hl) : Prop :=
  ∀ w, C w → Calls P f args.toArray w (RetX post v Hn w)
section
variable {P : Program} {C : World → Prop} {n : Nat} {L : FL} {w0 : World} {H : List Hl} {Q : Exit → Act → World → Prop} {ops : Array Oper} {rest : List Oper} {d : Option Tmp} {dd : Nat} {ty : TypeId} {pos : String} {af : Array Edge} {gd g : Option (Nat × Bool)} {x : Operand} {t t' : TypeId} {ι : Type} {te : TypeId} {p : Value}
theorem x_callI {f : FuncId} {xs : List Operand} {vs : List Value} {tys : Array TypeId} {post : ι → Prop} {v : ι → Value} {Hn : ι → List Hl} (hc : ContXI P C f vs post v Hn) (ha : AE L xs vs) (hC : ∀ w, St w0 H w → C w) (hg : isGo P f = true) (hd : Nat.blt dd n = true) :
    EX P n L w0 H ⟨some dd, .call { callee := .value (.func f), args := xs.toArray, argTypes := tys }, ty, pos, af, gd⟩ post (fun z => (dd, v z) :: L) (fun z => Hn z ++ H) := fun a w hfr hw K Q hK => by
  unfold Oper.wp
  rw [run_call hfr ha hg]
  refine (hc w (hC w hw)).mono ?_
  rintro e w' ⟨z, hz, rfl, hb, hn⟩
  exact hK _ _ ⟨z, hz, hfr.put (by simpa [Nat.blt_eq] using hd), hw.news hb hn⟩
theorem RS.callI {f : FuncId} {xs : List Operand} {vs : List Value} {tys : Array TypeId} {post : ι → Prop} {v : ι → Value} {Hn : ι → List Hl} (hc : ContXI P C f vs post v Hn) (ha : AE L xs vs) (hC : ∀ w, St w0 H w → C w) (h : ∀ z, post z → RS P ops Q n ((dd, v z) :: L) w0 (Hn z ++ H) rest) (hg : isGo P f = true := by decide +kernel) (hd : Nat.blt dd n = true := by rfl) :
    RS P ops Q n L w0 H (⟨some dd, .call { callee := .value (.func f), args := xs.toArray, argTypes := tys }, ty, pos, af, none⟩ :: rest) := RS.actX rfl (x_callI hc ha hC hg hd) h
theorem y_neNil0 (hx : evO L x = some .nilIface) (h : P.isIface t = true) : V P n L w0 H ⟨d, .binOp .neq t x (.const .nilIface) t', ty, pos, af, g⟩ (.bool false) := by
  unfold V
  intro a w ha hw
  have hy : a.eval (.const .nilIface) = .nilIface := ha.eval (show evO L (.const .nilIface) = some .nilIface from rfl)
  simp [execOp, ha.eval hx, hy, run_neq_nil_nil_at _ _ h, eqGuard_nil_constR]
theorem y_neNil1 (hx : evO L x = some (.iface te p)) (h : P.isIface t = true) : V P n L w0 H ⟨d, .binOp .neq t x (.const .nilIface) t', ty, pos, af, g⟩ (.bool true) := by
  unfold V
  intro a w ha hw
  have hy : a.eval (.const .nilIface) = .nilIface := ha.eval (show evO L (.const .nilIface) = some .nilIface from rfl)
  simp [execOp, ha.eval hx, hy, run_neq_iface_nil _ _ h, eqGuard_at_iface]
end
abbrev cS (l : List UInt8) : List Value := [strV l]
end Go.Proofs.YthilhhegchmjeaaGreat
/- Decimal texts: digits, read back; a text cut at a byte. Plain. -/
set_option linter.unusedVariables false
set_option maxHeartbeats 1000000
namespace Go.Proofs.YthilhhegchmjeaaGreat
open Go.RowKit

/-- The byte of a digit. -/
def dgt (x : Nat) : UInt8 := UInt8.ofNat (48 + x)
theorem dgt_nat {x : Nat} (h : x < 10) : (dgt x).toNat = 48 + x := by
  unfold dgt
  rw [UInt8.toNat_ofNat']; omega
def isDg (b : UInt8) : Bool := decide (48 ≤ b.toNat) && decide (b.toNat ≤ 57)
theorem isDg_dgt {x : Nat} (h : x < 10) : isDg (dgt x) = true := by
  unfold isDg
  rw [dgt_nat h, decide_eq_true (by omega), decide_eq_true (by omega)]; rfl
theorem dgt_of {b : UInt8} (h : isDg b = true) : ∃ x : Nat, x < 10 ∧ b = dgt x := by
  simp only [isDg, Bool.and_eq_true, decide_eq_true_eq] at h
  refine ⟨b.toNat - 48, by omega, ?_⟩
  unfold dgt
  rw [show 48 + (b.toNat - 48) = b.toNat by omega, UInt8.ofNat_toNat]
theorem deci_lt {u : Nat} (h : u < 10) : Lib.decDigits u = [dgt u] := by rw [Lib.decDigits, dif_pos h]; rfl
theorem deci_ge {u : Nat} (h : 10 ≤ u) : Lib.decDigits u = Lib.decDigits (u / 10) ++ [dgt (u % 10)] := by rw [Lib.decDigits, dif_neg (by omega)]; rfl
theorem itoa_of_nat (u : Nat) : Lib.itoa (u : Int) = Lib.decDigits u := by
  unfold Lib.itoa
  rw [if_neg (by omega)]; simp
theorem itoa_of_neg {u : Nat} (h : 0 < u) : Lib.itoa (-(u : Int)) = 45 :: Lib.decDigits u := by
  unfold Lib.itoa
  rw [if_pos (by omega)]; simp
theorem deci_ne (u : Nat) : Lib.decDigits u ≠ [] := by
  by_cases h : u < 10
  · rw [deci_lt h]; simp
  · rw [deci_ge (by omega)]; simp
theorem deci_all : ∀ (k u : Nat), u ≤ k → ∀ b ∈ Lib.decDigits u, isDg b = true
  | 0, u, h, b, hb => by
    rw [deci_lt (by omega)] at hb
    rw [List.mem_singleton.1 hb]
    exact isDg_dgt (by omega)
  | k + 1, u, h, b, hb => by
    by_cases h1 : u < 10
    · rw [deci_lt h1] at hb
      rw [List.mem_singleton.1 hb]
      exact isDg_dgt h1
    · rw [deci_ge (by omega), List.mem_append] at hb
      rcases hb with hb | hb
      · exact deci_all k (u / 10) (by omega) b hb
      · rw [List.mem_singleton.1 hb]
        exact isDg_dgt (by omega)
theorem deci_dg {u : Nat} {b : UInt8} (h : b ∈ Lib.decDigits u) : isDg b = true := deci_all u u (Nat.le_refl _) b h
theorem deci_head (u : Nat) : ∃ x r, x < 10 ∧ Lib.decDigits u = dgt x :: r := by
  cases hd : Lib.decDigits u with
  | nil => exact absurd hd (deci_ne u)
  | cons b r =>
    obtain ⟨x, hx, rfl⟩ := dgt_of (deci_dg (u := u) (b := b) (by rw [hd]; exact List.mem_cons_self))
    exact ⟨x, r, hx, rfl⟩
theorem parse_dgt {acc x : Nat} (h : x < 10) (ha : acc ≤ 1000000000000000000) (r : List UInt8) : Lib.parseUint10 acc (dgt x :: r) = Lib.parseUint10 (acc * 10 + x) r := by
  have e := dgt_nat h
  conv => lhs; unfold Lib.parseUint10
  rw [e, if_pos (by omega), if_neg (by omega), if_neg (by omega), show 48 + x - 48 = x by omega]
theorem parse_deci : ∀ (k u : Nat), u ≤ k → u ≤ 1000000000000000000 → ∀ r, Lib.parseUint10 0 (Lib.decDigits u ++ r) = Lib.parseUint10 u r
  | 0, u, h, hb, r => by
    rw [deci_lt (by omega), List.singleton_append, parse_dgt (by omega) (by omega)]
    rw [show 0 * 10 + u = u by omega]
  | k + 1, u, h, hb, r => by
    by_cases h1 : u < 10
    · rw [deci_lt h1, List.singleton_append, parse_dgt h1 (by omega), show 0 * 10 + u = u by omega]
    · rw [deci_ge (by omega), List.append_assoc, parse_deci k (u / 10) (by omega) (by omega), List.singleton_append, parse_dgt (by omega) (by omega), show u / 10 * 10 + u % 10 = u by omega]
theorem mag_deci {u : Nat} (h : u ≤ 1000000000000000000) : Lib.parseMag (Lib.decDigits u) = .ok u := by
  unfold Lib.parseMag
  rw [if_neg (deci_ne u)]
  have := parse_deci u u (Nat.le_refl _) h []
  rw [List.append_nil] at this
  rw [this]; rfl
theorem atoi_itoa {n : Int} (h : -1000000000000000000 ≤ n ∧ n ≤ 1000000000000000000) : Lib.atoiAll (Lib.itoa n) = .ok n := by
  rcases Int.lt_or_le n 0 with h0 | h0
  · obtain ⟨u, rfl, hu⟩ : ∃ u : Nat, n = -(u : Int) ∧ 0 < u := ⟨n.natAbs, by omega, by omega⟩
    rw [itoa_of_neg hu]
    unfold Lib.atoiAll
    dsimp only
    rw [if_pos (.inr rfl), mag_deci (by omega)]
    dsimp only
    rw [if_neg (by simp), if_neg (by omega)]
    rfl
  · obtain ⟨u, rfl⟩ := Int.eq_ofNat_of_zero_le h0
    rw [itoa_of_nat]
    have hm := mag_deci (u := u) (by omega)
    obtain ⟨x, r, hx, e⟩ := deci_head u
    rw [e] at hm ⊢
    have hd := dgt_nat hx
    unfold Lib.atoiAll
    dsimp only
    rw [if_neg (by omega), hm]
    dsimp only
    rw [if_neg (by omega), if_neg (by omega), if_neg (by omega)]
theorem index_not {c : UInt8} : ∀ (x : List UInt8), c ∉ x → Lib.index x [c] = -1
  | [], _ => rfl
  | b :: r, h => by
    rw [List.mem_cons, not_or] at h
    unfold Lib.index
    rw [if_neg (by simp [List.isPrefixOf, h.1]), index_not r h.2]; rfl
theorem index_at {c : UInt8} : ∀ (x y : List UInt8), c ∉ x → Lib.index (x ++ c :: y) [c] = x.length
  | [], y, _ => by
    show Lib.index (c :: y) [c] = 0
    unfold Lib.index
    rw [if_pos (by simp [List.isPrefixOf])]
  | b :: r, y, h => by
    rw [List.mem_cons, not_or] at h
    show Lib.index (b :: (r ++ c :: y)) [c] = _
    unfold Lib.index
    rw [if_neg (by simp [List.isPrefixOf, h.1]), index_at r y h.2, if_neg (by simp), List.length_cons]
    omega
theorem cut_at {c : UInt8} {x : List UInt8} (y : List UInt8) (h : c ∉ x) : Lib.cut (x ++ c :: y) [c] = (x, y, true) := by
  unfold Lib.cut
  rw [index_at x y h, if_pos (by omega), Int.toNat_natCast, List.take_left, List.length_singleton, List.drop_append, List.drop_eq_nil_of_le (by omega), show x.length + 1 - x.length = 1 by omega]
  rfl
theorem cut_not {c : UInt8} {x : List UInt8} (h : c ∉ x) : Lib.cut x [c] = (x, [], false) := by
  unfold Lib.cut
  rw [index_not x h, if_neg (by decide)]
theorem itoa_mem {n : Int} {b : UInt8} (h : b ∈ Lib.itoa n) : isDg b = true ∨ b = 45 := by
  unfold Lib.itoa at h
  split at h
  · rcases List.mem_cons.1 h with h | h
    · exact .inr h
    · exact .inl (deci_dg h)
  · exact .inl (deci_dg h)
theorem itoa_not {n : Int} {c : UInt8} (h : isDg c = false) (h2 : c ≠ 45) : c ∉ Lib.itoa n := fun g => by
  rcases itoa_mem g with g | g
  · rw [h] at g; cases g
  · exact h2 g
end Go.Proofs.YthilhhegchmjeaaGreat
/- Quotients, remainders, sums whose values are known. -/
set_option linter.unusedVariables false
set_option maxHeartbeats 4000000
namespace Go.Proofs.YthilhhegchmjeaaGreat
open Go.RowKit
section
variable {P : Program} {n : Nat} {L : FL} {w0 : World} {H : List Hl} {d : Option Tmp} {ty : TypeId} {pos : String} {af : Array Edge} {g : Option (Nat × Bool)} {x y : Operand} {t t' : TypeId} {m m' r : Int}
theorem y_quoN (hx : evO L x = some (.int .i64 m)) (hy : evO L y = some (.int .i64 m')) (h : m.tdiv m' = r) (h0 : m' ≠ 0) (hr : -9223372036854775808 ≤ r ∧ r ≤ 9223372036854775807) : V P n L w0 H ⟨d, .binOp .quo t x y t', ty, pos, af, g⟩ (.int .i64 r) := by
  have := y_quo (P := P) (n := n) (w0 := w0) (H := H) (d := d) (ty := ty) (pos := pos) (af := af) (g := g) (t := t) (t' := t') hx hy h0
  rwa [h, IntWalk.i64_in r hr] at this
theorem y_remN (hx : evO L x = some (.int .i64 m)) (hy : evO L y = some (.int .i64 m')) (h : m.tmod m' = r) (h0 : m' ≠ 0) : V P n L w0 H ⟨d, .binOp .rem t x y t', ty, pos, af, g⟩ (.int .i64 r) := by
  have := y_rem (P := P) (n := n) (w0 := w0) (H := H) (d := d) (ty := ty) (pos := pos) (af := af) (g := g) (t := t) (t' := t') hx hy h0
  rwa [h] at this
theorem y_addN (hx : evO L x = some (.int .i64 m)) (hy : evO L y = some (.int .i64 m')) (h : m + m' = r) (hr : -9223372036854775808 ≤ r ∧ r ≤ 9223372036854775807) : V P n L w0 H ⟨d, .binOp .add t x y t', ty, pos, af, g⟩ (.int .i64 r) := by
  have := y_add (P := P) (n := n) (w0 := w0) (H := H) (d := d) (ty := ty) (pos := pos) (af := af) (g := g) (t := t) (t' := t') hx hy
  rwa [h, IntWalk.i64_in r hr] at this
end
end Go.Proofs.YthilhhegchmjeaaGreat
/- A sheet's text: plain. -/
set_option linter.unusedVariables false
namespace Go.Proofs.YthilhhegchmjeaaGreat
open Go.RowKit
def toB (l : List Int) : List UInt8 := l.map fun n => UInt8.ofNat n.toNat
def lnsS (ls : List (List UInt8)) : List UInt8 := ls.flatMap fun x => x ++ [10]
/-- A sheet's text. -/
def txtS (ls : List (List Int)) : List UInt8 := lnsS (ls.map toB)
theorem join_lns : ∀ (ls : List (List UInt8)), ls ≠ [] → Lib.join ls [10] ++ [10] = lnsS ls
  | [], h => absurd rfl h
  | [x], _ => by rw [Lib.join_one]; simp [lnsS]
  | x :: y :: r, _ => by
    have h := join_lns (y :: r) (by simp)
    have e : Lib.join (x :: y :: r) [10] = x ++ [10] ++ Lib.join (y :: r) [10] := by
      unfold Lib.join
      rw [List.intercalate_cons_cons]
    rw [e, List.append_assoc, h]
    simp [lnsS]
theorem lnsS_len : ∀ (ls : List (List UInt8)) {k : Nat}, (∀ x ∈ ls, x.length = k) → (lnsS ls).length = ls.length * (k + 1)
  | [], k, _ => by simp [lnsS]
  | x :: r, k, h => by
    have h1 := lnsS_len r (k := k) fun y hy => h y (List.mem_cons_of_mem _ hy)
    have h2 := h x List.mem_cons_self
    have e : lnsS (x :: r) = x ++ [10] ++ lnsS r := by simp [lnsS]
    rw [e]
    simp only [List.length_append, h1, h2, List.length_cons, List.length_nil, Nat.add_mul]
    omega
theorem split_noS {c : UInt8} {x : List UInt8} (h : c ∉ x) : Lib.split x [c] = [x] := by
  unfold Lib.split
  rw [Lib.count_miss (index_not x h)]; rfl
theorem split_atS {c : UInt8} {x : List UInt8} (y : List UInt8) (h : c ∉ x) : Lib.split (x ++ c :: y) [c] = x :: Lib.split y [c] := by
  have e := index_at x y h
  have hd : (x ++ c :: y).drop (x.length + 1) = y := by
    rw [List.drop_append, List.drop_eq_nil_of_le (by omega), show x.length + 1 - x.length = 1 by omega]; rfl
  unfold Lib.split
  rw [Lib.count_hit (by simp) e, Nat.add_comm 1]
  show Lib.splitK [c] 0 (Lib.count ((x ++ c :: y).drop (x.length + 1)) [c] + 1) (x ++ c :: y) = _
  rw [hd]
  have hk : ∀ k s, Lib.splitK [c] 0 (k + 1) s = if Lib.index s [c] == -1 then [s] else s.take ((Lib.index s [c]).toNat + 0) :: Lib.splitK [c] 0 k (s.drop ((Lib.index s [c]).toNat + [c].length)) := fun _ _ => rfl
  rw [hk, e, if_neg (by simp), Int.toNat_natCast, Nat.add_zero, List.take_left, show [c].length = 1 from rfl, hd]
/-- The rows of a text are its lines, and an empty one. -/
theorem split_lnsS : ∀ {ls : List (List UInt8)}, (∀ x ∈ ls, (10 : UInt8) ∉ x) → Lib.split (lnsS ls) [10] = ls ++ [[]]
  | [], _ => split_noS (by simp [lnsS])
  | x :: r, h => by
    have e : lnsS (x :: r) = x ++ 10 :: lnsS r := by simp [lnsS]
    rw [e, split_atS _ (h x List.mem_cons_self), split_lnsS fun y hy => h y (List.mem_cons_of_mem _ hy)]
    rfl
end Go.Proofs.YthilhhegchmjeaaGreat
