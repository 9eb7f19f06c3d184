/- Joined texts: DivPlain, Bits, CallL, Sym, Stab, Stab2, Rnd, Lib, Lib2, LaidC, Bld, Rev, Ang, Cat, Dcm, Ctx, Vega, Awk16, Sma, RefS. -/
import Derived.Test.YtgmolcobhehoeaaGreatDoorWa
import Derived.Test.YtgmolcobhehoeaaGreatDoorShelf
import Derived.Lib.ItoaNum
import Derived.Test.YtgmolcobhehoeaaGreatDoorGround
import Derived.LoopN
import Derived.Lib.AtoiErrMem
import Derived.Stop.IfaceNil
import Derived.Lib.Split
import Derived.Lib.SplitLaws
import Derived.Lib.CountLaws
import Derived.Lib.Builder
import Derived.Lib.AppendStr
/- The arithmetic of a quotient of 128 bits by 64: one digit of 32 bits at a time. -/
set_option linter.unusedVariables false
namespace Go.Proofs.YtgmolcobhehoeaaGreatDoor

/-- The trial digit is not too small: v = u * B + d, y = y1 * B + y0. -/
theorem digit_ge {u d y1 y0 : Int} (hu : 0 ≤ u) (hd0 : 0 ≤ d) (hd : d < 4294967296) (h1 : 0 < y1) (h0 : 0 ≤ y0) : (u * 4294967296 + d) / (y1 * 4294967296 + y0) ≤ u / y1 := by
  have hy : 0 < y1 * 4294967296 + y0 := by omega
  have h2 : (u * 4294967296 + d) / (y1 * 4294967296 + y0) ≤ (u * 4294967296 + d) / (y1 * 4294967296) := by
    have hq := Int.ediv_nonneg (a := u * 4294967296 + d) (b := y1 * 4294967296 + y0) (by omega) (by omega)
    refine Int.le_ediv_of_mul_le (by omega) ?_
    have h3 := Int.ediv_mul_le (u * 4294967296 + d) (show y1 * 4294967296 + y0 ≠ 0 by omega)
    have h4 := Int.mul_nonneg hq h0
    rw [Int.mul_add] at h3
    omega
  have h5 : (u * 4294967296 + d) / (y1 * 4294967296) = u / y1 := by
    rw [Int.mul_comm y1, ← Int.ediv_ediv_of_nonneg (by omega : (0 : Int) ≤ 4294967296)]
    congr 1
    omega
  omega
/-- ..and not too great by more than 2. -/
theorem digit_le {u y y1 y0 : Int} (hu : 0 ≤ u) (huy : u < y) (hy : y = y1 * 4294967296 + y0) (h1 : 2147483648 ≤ y1) (h0 : 0 ≤ y0) (h0' : y0 < 4294967296) : u / y1 ≤ 4294967297 := by
  have h2 : u < y1 * 4294967298 := by omega
  have := Int.ediv_lt_of_lt_mul (show 0 < y1 by omega) (show u < 4294967298 * y1 by omega)
  omega
/-- The test: the digit is too great. -/
theorem digit_test {u d y1 y0 q r : Int} (hy : 0 < y1 * 4294967296 + y0) (hr : r = u - q * y1) : (q * y0 > 4294967296 * r + d) ↔ (u * 4294967296 + d) / (y1 * 4294967296 + y0) < q := by
  have e : q * (y1 * 4294967296 + y0) = q * y1 * 4294967296 + q * y0 := by rw [Int.mul_add, Int.mul_assoc]
  constructor
  · intro h
    refine Int.ediv_lt_of_lt_mul hy ?_
    rw [e]; omega
  · intro h
    have h2 := Int.lt_mul_of_ediv_lt hy h
    rw [e] at h2
    omega
theorem digit_lt {u d y : Int} (hy : 0 < y) (hd : d < 4294967296) (hu : u < y) : (u * 4294967296 + d) / y < 4294967296 := by
  refine Int.ediv_lt_of_lt_mul hy ?_
  omega
/-- When the rest is great the digit is small enough. -/
theorem digit_stop {u d y1 y0 q r : Int} (hy : 0 < y1 * 4294967296 + y0) (hr : r = u - q * y1) (hd : 0 ≤ d) (h0 : 0 ≤ y0) (h0' : y0 < 4294967296) (hq0 : 0 ≤ q) (hq : q ≤ 4294967296) (hb : 4294967296 ≤ r) : q ≤ (u * 4294967296 + d) / (y1 * 4294967296 + y0) := by
  have h1 := (digit_test (u := u) (d := d) (y1 := y1) (y0 := y0) (q := q) (r := r) hy hr)
  have h2 : q * y0 ≤ 4294967296 * y0 := Int.mul_le_mul_of_nonneg_right hq h0
  have h3 : ¬ q * y0 > 4294967296 * r + d := by omega
  have := mt h1.2 h3
  omega
/-- The whole: V = hi * 2^64 + lo, scaled by p. -/
theorem div_whole {hi lo y p r u32 u10 un1 un0 q1 q0 u21 R : Int} (hp : 0 < p) (hpr : p * r = 18446744073709551616) (hr : 0 < r) (hy : 0 < y) (hyb : y * p ≤ 18446744073709551615) (hi0 : 0 ≤ hi) (hlt : hi < y) (hlo : 0 ≤ lo)
    (e32 : u32 = hi * p + lo / r) (e10 : u10 = (lo * p) % 18446744073709551616) (e1 : u10 = un1 * 4294967296 + un0)
    (eq1 : u21 = u32 * 4294967296 + un1 - q1 * (y * p)) (hR : R = u21 * 4294967296 + un0 - q0 * (y * p)) (hR0 : 0 ≤ R) (hRy : R < y * p) :
    (hi * 18446744073709551616 + lo) / y = q1 * 4294967296 + q0 ∧ (hi * 18446744073709551616 + lo) % y = R / p := by
  have e2 : lo * p = lo / r * 18446744073709551616 + u10 := by
    have h1 := Int.emod_add_mul_ediv (lo * p) 18446744073709551616
    have h2 : lo * p / 18446744073709551616 = lo / r := by
      rw [← hpr, Int.mul_comm lo p]
      exact Int.mul_ediv_mul_of_pos _ _ hp
    rw [h2] at h1
    omega
  have e3 : (hi * 18446744073709551616 + lo) * p = (q1 * 4294967296 + q0) * (y * p) + R := by
    rw [Int.add_mul, e2, hR, eq1, e32, e1]
    grind
  have e4 : R = (hi * 18446744073709551616 + lo - (q1 * 4294967296 + q0) * y) * p := by
    rw [Int.sub_mul, e3, Int.mul_assoc]; omega
  generalize hD : hi * 18446744073709551616 + lo - (q1 * 4294967296 + q0) * y = Dd at *
  have h0 : 0 ≤ Dd := by
    rcases Int.lt_or_le Dd 0 with h | h
    · have := Int.mul_neg_of_neg_of_pos h hp; omega
    · exact h
  have h1 : Dd < y := by
    rw [e4] at hRy
    exact Int.lt_of_mul_lt_mul_right hRy (by omega)
  have h2 : R / p = Dd := by rw [e4]; exact Int.mul_ediv_cancel _ (by omega)
  rw [h2]
  exact (Int.ediv_emod_unique hy).2 ⟨by rw [Int.mul_comm y]; omega, h0, h1⟩
end Go.Proofs.YtgmolcobhehoeaaGreatDoor
/- math/bits: products and quotients of 128 bits. -/
set_option linter.unusedVariables false
set_option maxHeartbeats 4000000
namespace Go.Proofs.YtgmolcobhehoeaaGreatDoor
open Go.RowKit

theorem mul64_c {x y : Int} (h : 0 ≤ x ∧ x ≤ 18446744073709551615 ∧ 0 ≤ y ∧ y ≤ 18446744073709551615) : Cont Tryz.prog 141 [.int .u64 x, .int .u64 y] (.tuple [.int .u64 (x * y / 18446744073709551616), .int .u64 (x * y % 18446744073709551616)].toArray) := fun w => by
  obtain ⟨h1, h2, h3, h4⟩ := h
  have hm : ∀ a b : Int, 0 ≤ a → a ≤ 4294967295 → 0 ≤ b → b ≤ 4294967295 → 0 ≤ a * b ∧ a * b ≤ 18446744065119617025 := fun a b g1 g2 g3 g4 => by
    have := Int.mul_nonneg g1 g3
    have : a * b ≤ 4294967295 * 4294967295 := Int.mul_le_mul g2 g4 g3 (by omega)
    omega
  have b1 := hm (x % 4294967296) (y % 4294967296) (by omega) (by omega) (by omega) (by omega)
  have b2 := hm (x / 4294967296) (y % 4294967296) (by omega) (by omega) (by omega) (by omega)
  have b3 := hm (x % 4294967296) (y / 4294967296) (by omega) (by omega) (by omega) (by omega)
  have b4 := hm (x / 4294967296) (y / 4294967296) (by omega) (by omega) (by omega) (by omega)
  have e : x * y = x / 4294967296 * (y / 4294967296) * 18446744073709551616 + (x / 4294967296 * (y % 4294967296) + x % 4294967296 * (y / 4294967296)) * 4294967296 + x % 4294967296 * (y % 4294967296) := by
    have ex := Int.emod_add_mul_ediv x 4294967296
    have ey := Int.emod_add_mul_ediv y 4294967296
    generalize x / 4294967296 = x1 at *
    generalize x % 4294967296 = x0 at *
    generalize y / 4294967296 = y1 at *
    generalize y % 4294967296 = y0 at *
    subst ex; subst ey
    grind
  have b5 : 0 ≤ x / 4294967296 * (y / 4294967296) + (x / 4294967296 * (y % 4294967296) + x % 4294967296 * (y % 4294967296) / 4294967296) / 4294967296 := by omega
  refine enter0 Tryz.func141 rfl rfl rfl ?_
  repeat' (first
    | (refine nxV ?_)
    | (show RS _ _ _ _ _ _ _ _; first | (refine nxRS ?_) | (refine nxRS1 fun _ => ?_))
    | (show RM _ _ _ _ _ _ _ _ _ _; first | (refine nxRM ?_) | (refine nxRM1 fun _ => ?_))
    | (refine nxG ?_)
    | (refine nxX ?_)
    | (refine G.condN rfl (fun hc => ?_) (fun hc => ?_) <;> (try first | exact False.elim hc | (exfalso; omega))))
  refine X.ret (vs := [_, _]) rfl ⟨rfl, rfl, rfl⟩ rfl (fun w hw => ⟨?_, hw.ext⟩)
  simp only [IntKind.wrap_u64, e]
  congr 2
  refine congrArg Array.mk (List.cons_eq_cons.2 ⟨congrArg (Value.int .u64) ?_, rfl⟩)
  generalize x / 4294967296 * (y / 4294967296) = a at *
  generalize x / 4294967296 * (y % 4294967296) = b at *
  generalize x % 4294967296 * (y / 4294967296) = c at *
  generalize x % 4294967296 * (y % 4294967296) = d at *
  omega
theorem lz_c {x s : Int} (h : 0 < x ∧ x ≤ 18446744073709551615) (hs : s = 64 - (Lib.bitLen x.toNat : Int)) : Cont Tryz.prog 278 [.int .u64 x] (.int .i64 s) := fun w => by
  have hl : Cont Tryz.prog 231 [.int .u64 x] (.int .i64 (Lib.bitLen x.toNat)) := fun w => (Tryz.bits_Len64 x w (by omega) h.2).mono fun e w' he => ⟨he.1, by rw [he.2]; exact Below.refl _ _⟩
  have hb := Lib.bitLen_le x.toNat 64 (by omega) (by omega)
  refine enter0 Tryz.func278 rfl rfl rfl ?_
  repeat' (first
    | (show YK _ _ _ _ _ _ _; first | refine YK.mk (y_callA (hl) ⟨rfl, rfl⟩) ?_)
    | (show YK _ _ _ _ _ _ _; refine YK.ofV vAuto ?_)
    | (show VK _ _ _ _ _ _ _; refine VK.mk vAuto ?_)
    | (show RS _ _ _ _ _ _ _ _; first | (refine nxRS ?_) | (refine nxRS1 fun _ => ?_))
    | (show RM _ _ _ _ _ _ _ _ _ _; first | (refine nxRM ?_) | (refine nxRM1 fun _ => ?_))
    | (show YG _ _ _ _ _ _ _ _; refine YG.mk (fun hb => by (try (have hc := And.left hb; have hb := And.right hb; rw [hc])); (try rw [hb]); first | exact (y_callA (hl) ⟨rfl, rfl⟩) | exact V.y vAuto) ?_)
    | (show VG _ _ _ _ _ _ _ _; refine VG.mk (fun hb => by (try (have hc := And.left hb; have hb := And.right hb; rw [hc])); (try rw [hb]); exact vAuto) ?_)
    | (refine nxX ?_)
    | (refine G.condN rfl (fun hc => ?_) (fun hc => ?_) <;> (try first | exact False.elim hc | (exfalso; omega))))
  exact X.ret (vs := [_]) rfl ⟨rfl, rfl⟩ rfl (fun w hw => ⟨ret_int hs.symm, hw.ext⟩)
/-- Shifts by a number that is not given, under the names of their results. -/
def ShlIs (m c r : Int) : Prop := 0 ≤ c ∧ IntKind.u64.wrap (m * 2 ^ (min c.toNat IntKind.u64.bits)) = r
def ShrIs (m c r : Int) : Prop := 0 ≤ c ∧ m / 2 ^ (min c.toNat IntKind.u64.bits) = r
def OrIs (m m' r : Int) : Prop := bits .or .u64 m m' = r
section
variable {P : Program} {n : Nat} {L : FL} {w0 : World} {H : List Hl} {d : Option Tmp} {ty : TypeId} {pos : String} {af : Array Edge} {g : Option (Nat × Bool)} {x y : Operand} {t t' : TypeId} {m m' r : Int}
theorem y_shlS (hx : evO L x = some (.int .u64 m)) (hy : evO L y = some (.int .u64 m')) (h : ShlIs m m' r) : V P n L w0 H ⟨d, .binOp .shl t x y t', ty, pos, af, g⟩ (.int .u64 r) := h.2 ▸ y_shlV hx hy h.1
theorem y_shrS (hx : evO L x = some (.int .u64 m)) (hy : evO L y = some (.int .u64 m')) (h : ShrIs m m' r) : V P n L w0 H ⟨d, .binOp .shr t x y t', ty, pos, af, g⟩ (.int .u64 r) := h.2 ▸ y_shrV hx hy h.1
theorem y_orS (hx : evO L x = some (.int .u64 m)) (hy : evO L y = some (.int .u64 m')) (h : OrIs m m' r) : V P n L w0 H ⟨d, .binOp .or t x y t', ty, pos, af, g⟩ (.int .u64 r) := by
  unfold OrIs at h
  exact h ▸ y_bor hx hy
end
/-- What the quotient's first lines reckon. -/
theorem div_shifts {hi lo y s : Int} (h : 0 < hi ∧ hi < y ∧ y ≤ 18446744073709551615 ∧ 0 ≤ lo ∧ lo ≤ 18446744073709551615) (hs : s = 64 - (Lib.bitLen y.toNat : Int)) :
    ∃ p r HP LR U U10 : Int, 0 ≤ s ∧ s ≤ 63 ∧ 0 < p ∧ 0 < r ∧ p * r = 18446744073709551616 ∧ 9223372036854775808 ≤ y * p ∧ y * p ≤ 18446744073709551615 ∧ ShlIs y s (y * p) ∧ ShlIs hi s HP ∧ ShrIs lo (64 - s) LR ∧ OrIs HP LR U ∧ U = hi * p + lo / r ∧ 0 ≤ U ∧ U < y * p ∧ ShlIs lo s U10 ∧ U10 = (lo * p) % 18446744073709551616 ∧ 2 ^ (min s.toNat IntKind.u64.bits) = p := by
  obtain ⟨h1, h2, h3, h4, h5⟩ := h
  have hb := Lib.bitLenAux_bounds 64 y.toNat (by omega) (by omega)
  obtain ⟨c1, c2, c3⟩ := hb
  have hle := Lib.bitLen_le y.toNat 64 (by omega) (by omega)
  rw [show Lib.bitLenAux 64 y.toNat = Lib.bitLen y.toNat from rfl] at c1 c2 c3
  generalize hk : Lib.bitLen y.toNat = k at *
  have hs0 : 0 ≤ s ∧ s ≤ 63 := by omega
  have hst : s.toNat = 64 - k := by omega
  have hmin : min s.toNat IntKind.u64.bits = 64 - k := by rw [hst]; exact Nat.min_eq_left (by show 64 - k ≤ 64; omega)
  have hmin2 : min (64 - s).toNat IntKind.u64.bits = k := by rw [show (64 - s).toNat = k by omega]; exact Nat.min_eq_left hle
  have e1 : (2 : Nat) ^ (64 - k) * 2 ^ k = 18446744073709551616 := by rw [← Nat.pow_add, show 64 - k + k = 64 by omega]
  have e2 : (2 : Nat) ^ k = 2 * 2 ^ (k - 1) := by rw [← Nat.pow_succ', show (k - 1).succ = k by omega]
  have hp0 : 0 < (2 : Nat) ^ (64 - k) := Nat.two_pow_pos _
  have hr0 : 0 < (2 : Nat) ^ k := Nat.two_pow_pos _
  have ep : ((2 : Int) ^ (64 - k)) = ((2 ^ (64 - k) : Nat) : Int) := by rw [Int.natCast_pow]; rfl
  have er : ((2 : Int) ^ k) = ((2 ^ k : Nat) : Int) := by rw [Int.natCast_pow]; rfl
  generalize hp : (2 : Nat) ^ (64 - k) = p at *
  generalize hr : (2 : Nat) ^ k = r at *
  generalize (2 : Nat) ^ (k - 1) = r1 at *
  have hyN : (y.toNat : Int) = y := by omega
  have k1 : y.toNat * p ≤ 18446744073709551615 := by
    have h6 : y.toNat + 1 ≤ r := by omega
    have h7 := Nat.mul_le_mul_right p h6
    rw [Nat.mul_comm r p, e1, Nat.add_mul] at h7
    omega
  have k2 : 9223372036854775808 ≤ y.toNat * p := by
    have h7 := Nat.mul_le_mul_right p c2
    have h8 : 2 * (r1 * p) = 18446744073709551616 := by rw [← e1, e2]; rw [Nat.mul_comm p, Nat.mul_assoc]
    omega
  have k1' : y * p ≤ 18446744073709551615 := by rw [← hyN, ← Int.natCast_mul]; omega
  have k2' : 9223372036854775808 ≤ y * p := by rw [← hyN, ← Int.natCast_mul]; omega
  have hhi : hi.toNat * p + p ≤ y.toNat * p := by
    have := Nat.mul_le_mul_right p (show hi.toNat + 1 ≤ y.toNat by omega)
    rw [Nat.add_mul] at this
    omega
  have hlr : lo.toNat / r < p := Nat.div_lt_of_lt_mul (by rw [Nat.mul_comm]; omega)
  have hwr : ∀ z : Int, 0 ≤ z → z ≤ 18446744073709551615 → IntKind.u64.wrap z = z := fun z a b => wrapU ⟨a, b⟩
  have ehi : hi * (p : Int) = ((hi.toNat * p : Nat) : Int) := by rw [Int.natCast_mul, show (hi.toNat : Int) = hi by omega]
  have elo : lo / (r : Int) = ((lo.toNat / r : Nat) : Int) := by rw [Int.natCast_ediv, show (lo.toNat : Int) = lo by omega]
  have eor : (hi.toNat * p) ||| (lo.toNat / r) = hi.toNat * p + lo.toNat / r := by
    rw [Nat.mul_comm hi.toNat p, ← hp]
    rw [← hp] at hlr
    exact (Nat.two_pow_add_eq_or_of_lt hlr hi.toNat).symm
  refine ⟨p, r, hi * p, lo / r, hi * p + lo / r, (lo * p) % 18446744073709551616, hs0.1, hs0.2, by omega, by omega, by rw [← Int.natCast_mul, e1]; rfl, k2', k1', ⟨hs0.1, ?_⟩, ⟨hs0.1, ?_⟩, ⟨by omega, ?_⟩, ?_, rfl, ?_, ?_, ⟨hs0.1, ?_⟩, rfl, by rw [hmin, ep]⟩
  · rw [hmin, ep, hwr _ (by omega) k1']
  · rw [hmin, ep, hwr _ (by rw [ehi]; omega) (by rw [ehi]; omega)]
  · rw [hmin2, er]
  · unfold OrIs
    rw [ehi, elo, bits_or_u64_nat _ _ (by omega) (by omega), eor, Int.natCast_add]
  · rw [ehi, elo]; omega
  · rw [ehi, elo, ← hyN, ← Int.natCast_mul]; omega
  · rw [hmin, ep, IntKind.wrap_u64]
def SubIs (m m' r : Int) : Prop := IntKind.u64.wrap (m - m') = r
theorem y_subS {P : Program} {n : Nat} {L : FL} {w0 : World} {H : List Hl} {d : Option Tmp} {ty : TypeId} {pos : String} {af : Array Edge} {g : Option (Nat × Bool)} {x y : Operand} {t t' : TypeId} {m m' r : Int} (hx : evO L x = some (.int .u64 m)) (hy : evO L y = some (.int .u64 m')) (h : SubIs m m' r) : V P n L w0 H ⟨d, .binOp .sub t x y t', ty, pos, af, g⟩ (.int .u64 r) := by
  unfold SubIs at h
  exact h ▸ y_sub hx hy
theorem subIs {a b c : Int} (h : 0 ≤ a * 4294967296 + b - c ∧ a * 4294967296 + b - c ≤ 18446744073709551615) : SubIs (IntKind.u64.wrap (IntKind.u64.wrap (a * 4294967296) + b)) (IntKind.u64.wrap c) (a * 4294967296 + b - c) := by
  unfold SubIs
  simp only [IntKind.wrap_u64]
  omega
theorem div64_c {hi lo y : Int} (h : 0 ≤ hi ∧ hi < y ∧ y ≤ 18446744073709551615 ∧ 0 ≤ lo ∧ lo ≤ 18446744073709551615) : Cont Tryz.prog 273 [.int .u64 hi, .int .u64 lo, .int .u64 y] (.tuple [.int .u64 ((hi * 18446744073709551616 + lo) / y), .int .u64 ((hi * 18446744073709551616 + lo) % y)].toArray) := fun w => by
  obtain ⟨h1, h2, h3, h4, h5⟩ := h
  rcases Int.lt_or_eq_of_le h1 with h0 | h0
  rotate_left
  · subst h0
    refine enter0 Tryz.func273 rfl rfl rfl ?_
    repeat' (first
    | (refine nxV ?_)
    | (show RS _ _ _ _ _ _ _ _; first | (refine nxRS ?_) | (refine nxRS1 fun _ => ?_))
    | (show RM _ _ _ _ _ _ _ _ _ _; first | (refine nxRM ?_) | (refine nxRM1 fun _ => ?_))
    | (refine nxG ?_)
    | (refine G.mixedA 6 [.go 0, .go 1, .go 2, .go 3, .go 4, .go 5, .go 6, .go 7] ?_)
    | (refine nxX ?_)
    | (refine G.condN rfl (fun hc => ?_) (fun hc => ?_) <;> (try first | exact False.elim hc | (exfalso; omega))))
    exact X.ret (vs := [_, _]) rfl ⟨rfl, rfl, rfl⟩ rfl (fun w hw => ⟨by simp, hw.ext⟩)
  obtain ⟨s, hs⟩ : ∃ s : Int, s = 64 - (Lib.bitLen y.toNat : Int) := ⟨_, rfl⟩
  obtain ⟨p, r, HP, LR, U, U10, s0, s1, hp, hr, hpr, hY1, hY2, sh1, sh2, sh3, or1, eU, hU0, hUy, sh4, eU10, e2p⟩ := div_shifts ⟨h0, h2, h3, h4, h5⟩ hs
  have hwh := @div_whole hi lo y p r U U10
  generalize hY : y * p = Y at *
  have hYe : Y / 4294967296 * 4294967296 + Y % 4294967296 = Y := by omega
  have hm1 := Int.ediv_mul_le U (show Y / 4294967296 ≠ 0 by omega)
  have hm2 := Int.lt_ediv_add_one_mul_self U (show 0 < Y / 4294967296 by omega)
  rw [Int.add_mul, Int.one_mul] at hm2
  have hm3 := Int.mul_nonneg (Int.ediv_nonneg hU0 (show 0 ≤ Y / 4294967296 by omega)) (show 0 ≤ Y / 4294967296 by omega)
  have hq0 := Int.ediv_nonneg hU0 (show 0 ≤ Y / 4294967296 by omega)
  have hU10 : 0 ≤ U10 ∧ U10 ≤ 18446744073709551615 := by omega
  refine enter0 Tryz.func273 rfl rfl rfl ?_
  repeat' (first
    | (refine YK.ofV (y_shlS (by rfl) (by rfl) (by assumption)) ?_)
    | (refine YK.ofV (y_shrS (by rfl) (by rfl) (by assumption)) ?_)
    | (refine YK.ofV (y_orS (by rfl) (by rfl) (by assumption)) ?_)
    | (show YK _ _ _ _ _ _ _; first | refine YK.mk (y_callA (lz_c (s := s) (by omega) hs) ⟨rfl, rfl⟩) ?_)
    | (show YK _ _ _ _ _ _ _; refine YK.ofV vAuto ?_)
    | (show VK _ _ _ _ _ _ _; refine VK.mk vAuto ?_)
    | (show RS _ _ _ _ _ _ _ _; first | (refine nxRS ?_) | (refine nxRS1 fun _ => ?_))
    | (show RM _ _ _ _ _ _ _ _ _ _; first | (refine nxRM ?_) | (refine nxRM1 fun _ => ?_))
    | (show YG _ _ _ _ _ _ _ _; refine YG.mk (fun hb => by (try (have hc := And.left hb; have hb := And.right hb; rw [hc])); (try rw [hb]); first | exact (y_callA (lz_c (s := s) (by omega) hs) ⟨rfl, rfl⟩) | exact V.y vAuto) ?_)
    | (show VG _ _ _ _ _ _ _ _; refine VG.mk (fun hb => by (try (have hc := And.left hb; have hb := And.right hb; rw [hc])); (try rw [hb]); exact vAuto) ?_)
    | (refine G.mixedA 6 [.go 0, .go 1, .go 2, .go 3, .go 4, .go 5, .go 6, .go 7] ?_)
    | (refine nxX ?_)
    | (refine G.condN rfl (fun hc => ?_) (fun hc => ?_) <;> (try first | exact False.elim hc | (exfalso; omega))))
  have hd1 : 0 ≤ U10 / 4294967296 ∧ U10 / 4294967296 < 4294967296 := by omega
  obtain ⟨Q1, hQ1⟩ : ∃ Q1, (U * 4294967296 + U10 / 4294967296) / Y = Q1 := ⟨_, rfl⟩
  have hge1 := digit_ge (u := U) (d := U10 / 4294967296) (y1 := Y / 4294967296) (y0 := Y % 4294967296) hU0 hd1.1 hd1.2 (by omega) (by omega)
  rw [hYe, hQ1] at hge1
  have hle1 := digit_le (u := U) (y := Y) (y1 := Y / 4294967296) (y0 := Y % 4294967296) hU0 hUy hYe.symm (by omega) (by omega) (by omega)
  have hlt1 := digit_lt (u := U) (d := U10 / 4294967296) (y := Y) (by omega) hd1.2 hUy
  rw [hQ1] at hlt1
  have hnn1 : 0 ≤ Q1 := hQ1 ▸ Int.ediv_nonneg (by omega) (by omega)
  refine G.mid [(2, .int .u64 Y), (8, .int .u64 s), (9, .int .u64 (Y / 4294967296)), (10, .int .u64 (Y % 4294967296)), (13, .int .u64 (U10 / 4294967296)), (14, .int .u64 (U10 % 4294967296)), (11, .int .u64 U), (15, .int .u64 Q1)] [] ?_ ?_
  · refine G.loop (ι := Int × Int) (fun x => [(2, .int .u64 Y), (8, .int .u64 s), (9, .int .u64 (Y / 4294967296)), (10, .int .u64 (Y % 4294967296)), (13, .int .u64 (U10 / 4294967296)), (14, .int .u64 (U10 % 4294967296)), (11, .int .u64 U), (15, .int .u64 x.1), (16, .int .u64 x.2)]) (fun _ => []) (fun x => Q1 ≤ x.1 ∧ x.1 ≤ 4294967297 ∧ x.2 = U - x.1 * (Y / 4294967296) ∧ 0 ≤ x.2 ∧ x.2 < 4294967296) (fun x => (x.1 - Q1).toNat)
      (U / (Y / 4294967296), U - U / (Y / 4294967296) * (Y / 4294967296)) ⟨hge1, hle1, rfl, by dsimp only; omega, by dsimp only; omega⟩ ⟨rfl, rfl, rfl, rfl, rfl, rfl, rfl, rfl, rfl, trivial⟩ (fun w h => h) ?_
    rintro ⟨q, r⟩ mx ⟨g1, g2, g3, g4, g5⟩ hmx
    dsimp only at g1 g2 g3 g4 g5 hmx ⊢
    have ft := digit_test (u := U) (d := (U10 / 4294967296)) (y1 := Y / 4294967296) (y0 := Y % 4294967296) (q := q) (r := r) (by omega) g3
    rw [hYe, hQ1] at ft
    have f1 : 4294967296 ≤ q ∨ (0 ≤ q * (Y % 4294967296) ∧ q * (Y % 4294967296) ≤ 18446744073709551615) := by
      rcases Int.lt_or_le q 4294967296 with h | h
      · have a1 := Int.mul_nonneg (show 0 ≤ q by omega) (show 0 ≤ Y % 4294967296 by omega)
        have a2 : q * (Y % 4294967296) ≤ 4294967295 * 4294967295 := Int.mul_le_mul (by omega) (by omega) (by omega) (by omega)
        exact .inr ⟨a1, by omega⟩
      · exact .inl h
    have e1 : (q - 1) * (Y / 4294967296) = q * (Y / 4294967296) - Y / 4294967296 := by rw [Int.sub_mul, Int.one_mul]
    repeat' (first
    | (refine nxV ?_)
    | (show RS _ _ _ _ _ _ _ _; first | (refine nxRS ?_) | (refine nxRS1 fun _ => ?_))
    | (show RM _ _ _ _ _ _ _ _ _ _; first | (refine nxRM ?_) | (refine nxRM1 fun _ => ?_))
    | (refine nxG ?_)
    | (refine G.mixedA 6 [.go 0, .go 1, .go 2, .go 3, .go 4, .go 5, .go 6, .go 7] ?_)
    | (refine nxX ?_)
    | (refine G.condN rfl (fun hc => ?_) (fun hc => ?_) <;> (try first | exact False.elim hc | (exfalso; omega))))
    · have fs := digit_stop (u := U) (d := (U10 / 4294967296)) (y1 := Y / 4294967296) (y0 := Y % 4294967296) (q := q - 1) (r := r + Y / 4294967296) (by omega) (by omega) (by omega) (by omega) (by omega) (by omega) (by omega) (by omega)
      rw [hYe, hQ1] at fs
      have e2 : q - 1 = Q1 := by omega
      exact X.mid ⟨rfl, rfl, rfl, rfl, rfl, rfl, rfl, by show some _ = some _; rw [e2], trivial⟩ (fun w h => h)
    · exact X.again (q - 1, r + Y / 4294967296) ⟨by dsimp only; omega, by dsimp only; omega, by dsimp only; omega, by dsimp only; omega, by dsimp only; omega⟩ (by dsimp only; omega) ⟨rfl, rfl, rfl, rfl, rfl, rfl, rfl, rfl, rfl, trivial⟩ (fun w h => h)
    · have e2 : q = Q1 := by omega
      exact X.mid ⟨rfl, rfl, rfl, rfl, rfl, rfl, rfl, by show some _ = some _; rw [e2], trivial⟩ (fun w h => h)
  have r1a := Int.ediv_mul_le (U * 4294967296 + U10 / 4294967296) (show Y ≠ 0 by omega)
  have r1b := Int.lt_ediv_add_one_mul_self (U * 4294967296 + U10 / 4294967296) (show 0 < Y by omega)
  rw [hQ1] at r1a r1b
  rw [Int.add_mul, Int.one_mul] at r1b
  have sb1 := subIs (a := U) (b := U10 / 4294967296) (c := Q1 * Y) ⟨by omega, by omega⟩
  obtain ⟨R1, hR1⟩ : ∃ R1, U * 4294967296 + U10 / 4294967296 - Q1 * Y = R1 := ⟨_, rfl⟩
  rw [hR1] at sb1
  have hR10 : 0 ≤ R1 := by omega
  have hR1y : R1 < Y := by omega
  have hm1' := Int.ediv_mul_le R1 (show Y / 4294967296 ≠ 0 by omega)
  have hm2' := Int.lt_ediv_add_one_mul_self R1 (show 0 < Y / 4294967296 by omega)
  rw [Int.add_mul, Int.one_mul] at hm2'
  have hm3' := Int.mul_nonneg (Int.ediv_nonneg hR10 (show 0 ≤ Y / 4294967296 by omega)) (show 0 ≤ Y / 4294967296 by omega)
  have hd2 : 0 ≤ U10 % 4294967296 ∧ U10 % 4294967296 < 4294967296 := by omega
  obtain ⟨Q2, hQ2⟩ : ∃ Q2, (R1 * 4294967296 + U10 % 4294967296) / Y = Q2 := ⟨_, rfl⟩
  have hge2 := digit_ge (u := R1) (d := U10 % 4294967296) (y1 := Y / 4294967296) (y0 := Y % 4294967296) hR10 hd2.1 hd2.2 (by omega) (by omega)
  rw [hYe, hQ2] at hge2
  have hle2 := digit_le (u := R1) (y := Y) (y1 := Y / 4294967296) (y0 := Y % 4294967296) hR10 hR1y hYe.symm (by omega) (by omega) (by omega)
  have hlt2 := digit_lt (u := R1) (d := U10 % 4294967296) (y := Y) (by omega) hd2.2 hR1y
  rw [hQ2] at hlt2
  have hnn2 : 0 ≤ Q2 := hQ2 ▸ Int.ediv_nonneg (by omega) (by omega)
  repeat' (first
    | (refine YK.ofV (y_subS (by rfl) (by rfl) (by assumption)) ?_)
    | (refine nxV ?_)
    | (show RS _ _ _ _ _ _ _ _; first | (refine nxRS ?_) | (refine nxRS1 fun _ => ?_))
    | (show RM _ _ _ _ _ _ _ _ _ _; first | (refine nxRM ?_) | (refine nxRM1 fun _ => ?_))
    | (refine nxG ?_)
    | (refine G.mixedA 6 [.go 0, .go 1, .go 2, .go 3, .go 4, .go 5, .go 6, .go 7] ?_)
    | (refine nxX ?_)
    | (refine G.condN rfl (fun hc => ?_) (fun hc => ?_) <;> (try first | exact False.elim hc | (exfalso; omega))))
  refine G.mid [(2, .int .u64 Y), (8, .int .u64 s), (9, .int .u64 (Y / 4294967296)), (10, .int .u64 (Y % 4294967296)), (14, .int .u64 (U10 % 4294967296)), (15, .int .u64 Q1), (17, .int .u64 R1), (18, .int .u64 Q2)] [] ?_ ?_
  · refine G.loop (ι := Int × Int) (fun x => [(2, .int .u64 Y), (8, .int .u64 s), (9, .int .u64 (Y / 4294967296)), (10, .int .u64 (Y % 4294967296)), (14, .int .u64 (U10 % 4294967296)), (15, .int .u64 Q1), (17, .int .u64 R1), (18, .int .u64 x.1), (16, .int .u64 x.2)]) (fun _ => []) (fun x => Q2 ≤ x.1 ∧ x.1 ≤ 4294967297 ∧ x.2 = R1 - x.1 * (Y / 4294967296) ∧ 0 ≤ x.2 ∧ x.2 < 4294967296) (fun x => (x.1 - Q2).toNat)
      (R1 / (Y / 4294967296), R1 - R1 / (Y / 4294967296) * (Y / 4294967296)) ⟨hge2, hle2, rfl, by dsimp only; omega, by dsimp only; omega⟩ ⟨rfl, rfl, rfl, rfl, rfl, rfl, rfl, rfl, rfl, trivial⟩ (fun w h => h) ?_
    rintro ⟨q, r⟩ mx ⟨g1, g2, g3, g4, g5⟩ hmx
    dsimp only at g1 g2 g3 g4 g5 hmx ⊢
    have ft := digit_test (u := R1) (d := (U10 % 4294967296)) (y1 := Y / 4294967296) (y0 := Y % 4294967296) (q := q) (r := r) (by omega) g3
    rw [hYe, hQ2] at ft
    have f1 : 4294967296 ≤ q ∨ (0 ≤ q * (Y % 4294967296) ∧ q * (Y % 4294967296) ≤ 18446744073709551615) := by
      rcases Int.lt_or_le q 4294967296 with h | h
      · have a1 := Int.mul_nonneg (show 0 ≤ q by omega) (show 0 ≤ Y % 4294967296 by omega)
        have a2 : q * (Y % 4294967296) ≤ 4294967295 * 4294967295 := Int.mul_le_mul (by omega) (by omega) (by omega) (by omega)
        exact .inr ⟨a1, by omega⟩
      · exact .inl h
    have e1 : (q - 1) * (Y / 4294967296) = q * (Y / 4294967296) - Y / 4294967296 := by rw [Int.sub_mul, Int.one_mul]
    repeat' (first
    | (refine nxV ?_)
    | (show RS _ _ _ _ _ _ _ _; first | (refine nxRS ?_) | (refine nxRS1 fun _ => ?_))
    | (show RM _ _ _ _ _ _ _ _ _ _; first | (refine nxRM ?_) | (refine nxRM1 fun _ => ?_))
    | (refine nxG ?_)
    | (refine G.mixedA 6 [.go 0, .go 1, .go 2, .go 3, .go 4, .go 5, .go 6, .go 7] ?_)
    | (refine nxX ?_)
    | (refine G.condN rfl (fun hc => ?_) (fun hc => ?_) <;> (try first | exact False.elim hc | (exfalso; omega))))
    · have fs := digit_stop (u := R1) (d := (U10 % 4294967296)) (y1 := Y / 4294967296) (y0 := Y % 4294967296) (q := q - 1) (r := r + Y / 4294967296) (by omega) (by omega) (by omega) (by omega) (by omega) (by omega) (by omega) (by omega)
      rw [hYe, hQ2] at fs
      have e2 : q - 1 = Q2 := by omega
      exact X.mid ⟨rfl, rfl, rfl, rfl, rfl, rfl, rfl, by show some _ = some _; rw [e2], trivial⟩ (fun w h => h)
    · exact X.again (q - 1, r + Y / 4294967296) ⟨by dsimp only; omega, by dsimp only; omega, by dsimp only; omega, by dsimp only; omega, by dsimp only; omega⟩ (by dsimp only; omega) ⟨rfl, rfl, rfl, rfl, rfl, rfl, rfl, rfl, rfl, trivial⟩ (fun w h => h)
    · have e2 : q = Q2 := by omega
      exact X.mid ⟨rfl, rfl, rfl, rfl, rfl, rfl, rfl, by show some _ = some _; rw [e2], trivial⟩ (fun w h => h)
  have r2a := Int.ediv_mul_le (R1 * 4294967296 + U10 % 4294967296) (show Y ≠ 0 by omega)
  have r2b := Int.lt_ediv_add_one_mul_self (R1 * 4294967296 + U10 % 4294967296) (show 0 < Y by omega)
  rw [hQ2] at r2a r2b
  rw [Int.add_mul, Int.one_mul] at r2b
  have sb2 := subIs (a := R1) (b := U10 % 4294967296) (c := Q2 * Y) ⟨by omega, by omega⟩
  repeat' (first
    | (refine YK.ofV (y_subS (by rfl) (by rfl) (by assumption)) ?_)
    | (refine nxV ?_)
    | (show RS _ _ _ _ _ _ _ _; first | (refine nxRS ?_) | (refine nxRS1 fun _ => ?_))
    | (show RM _ _ _ _ _ _ _ _ _ _; first | (refine nxRM ?_) | (refine nxRM1 fun _ => ?_))
    | (refine nxG ?_)
    | (refine G.mixedA 6 [.go 0, .go 1, .go 2, .go 3, .go 4, .go 5, .go 6, .go 7] ?_)
    | (refine nxX ?_)
    | (refine G.condN rfl (fun hc => ?_) (fun hc => ?_) <;> (try first | exact False.elim hc | (exfalso; omega))))
  have hfin := hwh (un1 := U10 / 4294967296) (un0 := U10 % 4294967296) (q1 := Q1) (q0 := Q2) (u21 := R1) (R := R1 * 4294967296 + U10 % 4294967296 - Q2 * Y) hp hpr hr (by omega) hY2 h1 h2 h4 eU eU10 (by omega) hR1.symm rfl (by omega) (by omega)
  exact X.ret (vs := [_, _]) rfl ⟨rfl, rfl, rfl⟩ rfl (fun w hw => ⟨by rw [hfin.1, hfin.2, e2p], hw.ext⟩)
end Go.Proofs.YtgmolcobhehoeaaGreatDoor
/- Contracts that turn several heaplets of the caller's at once. -/
set_option linter.unusedVariables false
set_option maxHeartbeats 4000000
namespace Go.Proofs.YtgmolcobhehoeaaGreatDoor
open Go.RowKit

theorem At.perm {x : Hl} {A B H : List Hl} (h : At x A B H) : H.Perm (x :: (A ++ B)) := by
  induction h with
  | here => exact List.Perm.refl _
  | there _ ih => exact (ih.cons _).trans (List.Perm.swap _ _ _)
/-- These heaplets stand in the list, and R beside them. -/
inductive Pick : List Hl → List Hl → List Hl → Prop
  | nil {H : List Hl} : Pick [] H H
  | cons {x : Hl} {xs A B H R : List Hl} (a : At x A B H) (b : Pick xs (A ++ B) R) : Pick (x :: xs) H R
theorem Pick.perm {xs H R : List Hl} (h : Pick xs H R) : H.Perm (xs ++ R) := by
  induction h with
  | nil => exact List.Perm.refl _
  | cons ha _ ih => exact ha.perm.trans (ih.cons _)
theorem St.picked {w0 w : World} {xs H R : List Hl} (h : Pick xs H R) (hw : St w0 H w) : St w0 (xs ++ R) w := hw.perm h.perm
/-- A row of the call's own that is only read from now on. -/
theorem St.froz {α : Type} {w0 w : World} {H : List Hl} {v : Value} {e : TypeId} {f : α → List Value} {s : Nat} {l : List α} (h : St w0 (Hl.rw v e f s l :: H) w) : St w0 (Hl.nw v f s l :: H) w := by
  refine ⟨h.ext, fun x hx => ?_, fun z hz b hb ho => ?_, h.apart.2⟩
  · rcases List.mem_cons.1 hx with rfl | hx
    · exact ⟨RO.of_row (h.all _ List.mem_cons_self), fun _ _ b hb => Hl.ge (h.all _ List.mem_cons_self) rfl hb⟩
    · exact h.all x (List.mem_cons_of_mem _ hx)
  · have hb2 : (Hl.rw v e f s l).spot = some b := by
      cases hl : l.flatMap f with
      | nil => simp only [Hl.spot, hl] at hb; cases hb
      | cons u r => simp only [Hl.spot, hl] at hb; exact hb
    have := (h.apart.1 z hz b hb2 ho).1
    cases this
theorem St.frozU {α : Type} {w0 w : World} {H H' : List Hl} {v : Value} {e : TypeId} {f : α → List Value} {s : Nat} {l : List α} (hu : Upd (Hl.rw v e f s l) (Hl.nw v f s l) H H') (h : St w0 H w) : St w0 H' w := by
  refine ⟨h.ext, fun x hx => ?_, hu.apart h.apart rfl fun b hb => .inl ?_⟩
  · rcases hu.from_ x hx with rfl | hx
    · exact ⟨RO.of_row (h.all _ hu.mem), fun _ _ b hb => Hl.ge (h.all _ hu.mem) rfl hb⟩
    · exact h.all x hx
  · cases hl : l.flatMap f with
    | nil => simp only [Hl.spot, hl] at hb; cases hb
    | cons u r => simp only [Hl.spot, hl] at hb; exact hb
/-- A contract that turns the heaplets Xs of the caller's, whatever else stands beside them: Y z stands in their place. -/
def ContL (P : Program) (C : World → Prop) (Xs : List Hl) (f : FuncId) (args : List Value) {ι : Type} (post : ι → Prop) (v : ι → Value) (Y : ι → List Hl) : Prop :=
  ∀ w0 HR w, C w0 → St w0 (Xs ++ HR) w → Calls P f args.toArray w fun e w' => ∃ z, post z ∧ e = .returned (v z) ∧ St w0 (Y z ++ HR) w'
section
variable {P : Program} {C : World → Prop} {n : Nat} {L : FL} {w0 : World} {H HS Xs R : List Hl} {Q : Exit → Act → World → Prop} {ops : Array Oper} {rest : List Oper} {ord : List Mv} {dd i : Nat} {ty : TypeId} {pos : String} {af : Array Edge} {gd : Option (Nat × Bool)} {ι : Type} {f : FuncId} {xs : List Operand} {vs : List Value} {tys : Array TypeId} {post : ι → Prop} {v : ι → Value} {Y : ι → List Hl}
theorem x_callL (hc : ContL P C Xs f vs post v Y) (hC : C w0) (ha : AE L xs vs) (hp : Pick Xs H R) (hg : isGo P f = true) (hd : Nat.blt dd n = true) :
    EX P n L w0 H ⟨some dd, .call { callee := .value (.func f), args := xs.toArray, argTypes := tys }, ty, pos, af, gd⟩ post (fun z => (dd, v z) :: L) (fun z => Y z ++ R) := fun a w hfr hw K Q hK => by
  unfold Oper.wp
  rw [run_call hfr ha hg]
  refine (hc w0 R w hC (St.picked hp hw)).mono ?_
  rintro e w' ⟨z, hz, rfl, hs⟩
  exact hK _ _ ⟨z, hz, hfr.put (by simpa [Nat.blt_eq] using hd), hs⟩
theorem RS.callL (hc : ContL P C Xs f vs post v Y) (hC : C w0) (h : ∀ z, post z → RS P ops Q n ((dd, v z) :: L) w0 (Y z ++ R) rest) (ha : AE L xs vs := by first | exact rfl | exact ⟨rfl, rfl⟩ | exact ⟨rfl, rfl, rfl⟩ | exact ⟨rfl, rfl, rfl, rfl⟩ | exact ⟨rfl, rfl, rfl, rfl, rfl⟩ | exact ⟨rfl, rfl, rfl, rfl, rfl, rfl⟩ | exact ⟨rfl, rfl, rfl, rfl, rfl, rfl, rfl⟩ | exact ⟨rfl, rfl, rfl, rfl, rfl, rfl, rfl, rfl⟩ | exact ⟨rfl, rfl, rfl, rfl, rfl, rfl, rfl, rfl, rfl⟩) (hp : Pick Xs H R := by (repeat (first | exact Pick.nil | (apply Pick.cons; (case a => (first | exact At.here | exact At.there (At.here) | exact At.there (At.there (At.here)) | exact At.there (At.there (At.there (At.here))) | exact At.there (At.there (At.there (At.there (At.here)))) | exact At.there (At.there (At.there (At.there (At.there (At.here))))) | exact At.there (At.there (At.there (At.there (At.there (At.there (At.here)))))) | exact At.there (At.there (At.there (At.there (At.there (At.there (At.there (At.here))))))) | exact At.there (At.there (At.there (At.there (At.there (At.there (At.there (At.there (At.here)))))))) | exact At.there (At.there (At.there (At.there (At.there (At.there (At.there (At.there (At.there (At.here))))))))))))))) (hg : isGo P f = true := by decide +kernel) (hd : Nat.blt dd n = true := by rfl) :
    RS P ops Q n L w0 H (⟨some dd, .call { callee := .value (.func f), args := xs.toArray, argTypes := tys }, ty, pos, af, none⟩ :: rest) := RS.actX rfl (x_callL hc hC ha hp hg hd) h
theorem RM.callL (hc : ContL P C Xs f vs post v Y) (hC : C w0) (h : ∀ z, post z → RM P ops Q HS n [] ((dd, v z) :: L) w0 (Y z ++ R) ord) (ho : ops[i]? = some ⟨some dd, .call { callee := .value (.func f), args := xs.toArray, argTypes := tys }, ty, pos, af, none⟩ := by rfl) (ha : AE L xs vs := by first | exact rfl | exact ⟨rfl, rfl⟩ | exact ⟨rfl, rfl, rfl⟩ | exact ⟨rfl, rfl, rfl, rfl⟩ | exact ⟨rfl, rfl, rfl, rfl, rfl⟩ | exact ⟨rfl, rfl, rfl, rfl, rfl, rfl⟩ | exact ⟨rfl, rfl, rfl, rfl, rfl, rfl, rfl⟩ | exact ⟨rfl, rfl, rfl, rfl, rfl, rfl, rfl, rfl⟩ | exact ⟨rfl, rfl, rfl, rfl, rfl, rfl, rfl, rfl, rfl⟩) (hp : Pick Xs H R := by (repeat (first | exact Pick.nil | (apply Pick.cons; (case a => (first | exact At.here | exact At.there (At.here) | exact At.there (At.there (At.here)) | exact At.there (At.there (At.there (At.here))) | exact At.there (At.there (At.there (At.there (At.here)))) | exact At.there (At.there (At.there (At.there (At.there (At.here))))) | exact At.there (At.there (At.there (At.there (At.there (At.there (At.here)))))) | exact At.there (At.there (At.there (At.there (At.there (At.there (At.there (At.here))))))) | exact At.there (At.there (At.there (At.there (At.there (At.there (At.there (At.there (At.here)))))))) | exact At.there (At.there (At.there (At.there (At.there (At.there (At.there (At.there (At.there (At.here)))))))))))))))
    (hs : ∀ z w, St w0 (Y z ++ R) w → St w0 HS w := by exact fun _ _ h => h.sub (by repeat (first | exact List.Sublist.refl _ | apply List.Sublist.cons_cons | apply List.Sublist.cons))) (hg : isGo P f = true := by decide +kernel) (hd : Nat.blt dd n = true := by rfl) :
    RM P ops Q HS n [] L w0 H (.go i :: ord) := RM.actX ho rfl rfl (x_callL hc hC ha hp hg hd) (.inl hs) h
variable {α : Type} {f' : α → List Value} {l l' : List α} {t e : TypeId} {s bytes : Nat} {x y : Operand} {u u' : Value} {m : Int}
theorem RM.litI (h : ∀ v' : Sl, RM P ops Q HS n [] ((dd, v'.v) :: L) w0 (Hl.rw v'.v e cI 1 [m] :: H) ord) (ho : ops[i]? = some ⟨some dd, .buildSlice t 1 #[(0, x)], ty, pos, af, none⟩ := by rfl) (hx : evO L x = some (.int .i64 m) := by rfl) [ht : RowTy P t e 1 bytes] (hd : Nat.blt dd n = true := by rfl)
    (hs : ∀ (v' : Sl) w, St w0 (Hl.rw v'.v e cI 1 [m] :: H) w → St w0 HS w := by exact fun _ _ h => h.sub (by repeat (first | exact List.Sublist.refl _ | apply List.Sublist.cons_cons | apply List.Sublist.cons))) : RM P ops Q HS n [] L w0 H (.go i :: ord) :=
  RM.actX ho rfl rfl (x_lit (parts := [(0, x)]) (vs := [.int .i64 m]) (f := cI) (l := [m]) ⟨hx, rfl⟩ rfl rfl rfl rfl rfl rfl (rowTy_B ht.is) hd) (.inl hs) fun v' _ => h v'
theorem RM.appendA {H' : Sl → List Hl} (h : ∀ v' : Sl, RM P ops Q HS n [] ((dd, v'.v) :: L) w0 (H' v') ord) (ho : ops[i]? = some ⟨some dd, .call { callee := .builtin .append, args := #[x, y], argTypes := #[t, t] }, ty, pos, af, none⟩) (hx : evO L x = some u) (hy : evO L y = some u') (hu : ∀ v' : Sl, Upd (Hl.rw u e f' s l) (Hl.rw v'.v e f' s (l ++ l')) H (H' v')) (hr : RdT H u' f' s l')
    (h1 : ∀ a, (f' a).all (·.oneCell') = true) [ht : RowTy P t e s bytes] (hb : (l.length + l'.length) * bytes ≤ 140737488355328 ∧ l.length + l'.length ≤ 140737488355328) (hd : Nat.blt dd n = true)
    (hs : ∀ (v' : Sl) w, St w0 (H' v') w → St w0 HS w) : RM P ops Q HS n [] L w0 H (.go i :: ord) :=
  RM.actX ho rfl rfl (x_append hx hy hu hr h1 hb (rowTy_B ht.is) hd) (.inl hs) fun v' _ => h v'
/-- Some cells of an element, side by side. -/
theorem y_loadElPart {α : Type} {inst : Inhabited α} {f : α → List Value} {l : List α} {u v : Value} {s i k : Nat} {m : Int} {t : TypeId} {x : Operand} {d : Option Tmp} (hx : evO L x = some (elA v s m i)) (h : RdT H v f s l) (hf : ∀ a, (f a).length = s) (hm : 0 ≤ m ∧ m < l.length) (hs : Nat.blt 0 s = true) (hik : Nat.ble (i + k) s = true) (hv : Value.agg (((f (nth l m)).drop i).take k).toArray = u) (ht : rowB P t k = true) :
    V P n L w0 H ⟨d, .load t x, ty, pos, af, gd⟩ u := by
  unfold V
  intro a w ha hw
  subst hv
  obtain ⟨ad, c, rfl, hc⟩ := h.at_ hf hm (by simpa [Nat.blt_eq] using hs) hw
  have hlen : (((f (nth l m)).drop i).take k).length = k := by
    have := Nat.le_of_ble_eq_true hik
    simp [hf]; omega
  have hl := run_loadCells_list (P := P) w (ad.add (m.toNat * s + i)) (((f (nth l m)).drop i).take k) (fun j u hu => by
    rw [add_add, Nat.add_assoc]
    refine hc (i + j) u ?_
    have hj : j < k := by
      have := (List.getElem?_eq_some_iff.1 hu).1
      omega
    rw [← hu, List.getElem?_take_of_lt hj, List.getElem?_drop])
  rw [hlen] at hl
  simp [execOp, ha.eval hx, elA, Instr.loadAt, Instr.sureAddr, loadVar, run_isAgg_true ht, run_sizeOf_of (info_of_rowB ht), hl]
/-! ### A pointer that is not nil -/
theorem y_nilC {d : Option Tmp} {x : Operand} {a0 : Addr} (hx : evO L x = some (.pointer (some a0))) : V P n L w0 H ⟨d, .nilCheck x, ty, pos, af, gd⟩ (.pointer (some a0)) := by
  unfold V
  intro a w ha hw
  simp [execOp, ha.eval hx]
theorem nxN {p q : Prop} (h : q) (s : q → p := by intro h; first
  | (show YK _ _ _ _ _ ⟨_, .nilCheck _, _, _, _, _⟩ _; exact YK.ofV (y_nilC (by rfl)) h)
  | (show VK _ _ _ _ _ ⟨_, .nilCheck _, _, _, _, _⟩ _; exact VK.mk (y_nilC (by rfl)) h)
  | (show YG _ _ _ _ _ _ ⟨_, .nilCheck _, _, _, _, _⟩ _; exact YG.mk (fun hb => by (try (have hc := And.left hb; have hb := And.right hb; rw [hc])); (try rw [hb]); exact V.y (y_nilC (by rfl))) h)
  | (show VG _ _ _ _ _ _ ⟨_, .nilCheck _, _, _, _, _⟩ _; exact VG.mk (fun hb => by (try (have hc := And.left hb; have hb := And.right hb; rw [hc])); (try rw [hb]); exact y_nilC (by rfl)) h)) : p := s h
end
end Go.Proofs.YtgmolcobhehoeaaGreatDoor
/- Stable merging by rotations, plain: what slices.SortStableFunc's symMerge does to a list. -/
set_option linter.unusedVariables false
set_option maxHeartbeats 1000000
namespace Go.Proofs.YtgmolcobhehoeaaGreatDoor
open Go.RowKit

/-- The elements from a to before m, and those from m to before b, exchanged. -/
def rotL (l : List Int) (a m b : Nat) : List Int := l.take a ++ ((l.take b).drop m ++ ((l.take m).drop a ++ l.drop b))
theorem rotL_len {l : List Int} {a m b : Nat} (h : a ≤ m ∧ m ≤ b ∧ b ≤ l.length) : (rotL l a m b).length = l.length := by
  unfold rotL
  simp only [List.length_append, List.length_take, List.length_drop]
  omega
theorem rotL_perm {l : List Int} {a m b : Nat} (h : a ≤ m ∧ m ≤ b ∧ b ≤ l.length) : (rotL l a m b).Perm l := by
  have e : l = l.take a ++ ((l.take m).drop a ++ ((l.take b).drop m ++ l.drop b)) := by
    conv => lhs; rw [← List.take_append_drop b l, ← List.take_append_drop m (l.take b), List.take_take, Nat.min_eq_left h.2.1, ← List.take_append_drop a (l.take m), List.take_take, Nat.min_eq_left h.1]
    simp
  conv => rhs; rw [e]
  unfold rotL
  refine List.Perm.append_left _ ?_
  rw [← List.append_assoc, ← List.append_assoc]
  exact List.Perm.append_right _ List.perm_append_comm
/-- Where the elements lie behind it. -/
theorem rotL_get {l : List Int} {a m b : Nat} (h : a ≤ m ∧ m ≤ b ∧ b ≤ l.length) (i : Nat) : (rotL l a m b)[i]? = if i < a then l[i]? else if i < a + (b - m) then l[i - a + m]? else if i < b then l[i - (a + (b - m)) + a]? else l[i]? := by
  unfold rotL
  rw [List.getElem?_append, List.length_take, Nat.min_eq_left (by omega)]
  split
  · rw [List.getElem?_take_of_lt (by omega)]
  · rw [List.getElem?_append, List.length_drop, List.length_take, Nat.min_eq_left (by omega)]
    split
    next h1 =>
      rw [if_pos (by omega), List.getElem?_drop, List.getElem?_take_of_lt (by omega), Nat.add_comm]
    next h1 =>
      rw [if_neg (by omega), List.getElem?_append, List.length_drop, List.length_take, Nat.min_eq_left (by omega)]
      split
      next h2 =>
        rw [if_pos (by omega), List.getElem?_drop, List.getElem?_take_of_lt (by omega)]
        congr 1; omega
      next h2 =>
        rw [if_neg (by omega), List.getElem?_drop]
        congr 1; omega
theorem rotL_same {l : List Int} {a b : Nat} (h : a ≤ b ∧ b ≤ l.length) : rotL l a a b = l ∧ rotL l a b b = l := by
  constructor <;> (apply List.ext_getElem?; intro i)
  · rw [rotL_get (by omega)]
    split
    · rfl
    · split
      · congr 1; omega
      · rw [if_neg (by omega)]
  · rw [rotL_get (by omega)]
    split
    · rfl
    · rw [if_neg (by omega)]
      split
      · congr 1; omega
      · rfl
/-- k elements from a, and k elements from b, exchanged (apart). -/
def swapR (l : List Int) (a b : Nat) : Nat → List Int
  | 0 => l
  | k + 1 => ((swapR l a b k).set (a + k) ((swapR l a b k).getD (b + k) 0)).set (b + k) ((swapR l a b k).getD (a + k) 0)
theorem swapR_len (l : List Int) (a b k : Nat) : (swapR l a b k).length = l.length := by
  induction k with
  | zero => rfl
  | succ k ih => unfold swapR; rw [List.length_set, List.length_set, ih]
theorem swapR_get {l : List Int} {a b : Nat} : ∀ (k : Nat), a + k ≤ b → b + k ≤ l.length → ∀ i : Nat, (swapR l a b k)[i]? = if a ≤ i ∧ i < a + k then l[i - a + b]? else if b ≤ i ∧ i < b + k then l[i - b + a]? else l[i]?
  | 0, h1, h2, i => by rw [if_neg (by omega), if_neg (by omega)]; rfl
  | k + 1, h1, h2, i => by
    have ih := swapR_get (l := l) (a := a) (b := b) k (by omega) (by omega)
    have hl := swapR_len l a b k
    unfold swapR
    have ga : (swapR l a b k)[a + k]? = l[a + k]? := by rw [ih, if_neg (by omega), if_neg (by omega)]
    have gb : (swapR l a b k)[b + k]? = l[b + k]? := by rw [ih, if_neg (by omega), if_neg (by omega)]
    rw [List.getElem?_set, List.length_set, hl]
    by_cases e1 : b + k = i
    · rw [if_pos e1, if_pos (by omega), if_neg (by omega), if_pos (by omega), List.getD_eq_getElem?_getD, ga]
      rw [show i - b + a = a + k by omega, List.getElem?_eq_getElem (by omega)]; rfl
    · rw [if_neg e1, List.getElem?_set, hl]
      by_cases e2 : a + k = i
      · rw [if_pos e2, if_pos (by omega), if_pos (by omega), List.getD_eq_getElem?_getD, gb]
        rw [show i - a + b = b + k by omega, List.getElem?_eq_getElem (by omega)]; rfl
      · rw [if_neg e2, ih]
        repeat' split
        all_goals first | rfl | (exfalso; omega) | (congr 1; omega)
/-- A step of the rotation: what remains to be exchanged. -/
theorem rot_gt {l : List Int} {m i j : Nat} (hj : 0 < j ∧ j < i) (h : i ≤ m ∧ m + j ≤ l.length) : rotL (swapR l (m - i) m j) (m - i + j) m (m + j) = rotL l (m - i) m (m + j) := by
  have hl := swapR_len l (m - i) m j
  apply List.ext_getElem?
  intro k
  rw [rotL_get (by omega), rotL_get (by omega)]
  have g := swapR_get (l := l) (a := m - i) (b := m) j (by omega) (by omega)
  simp only [g]
  repeat' split
  all_goals first | rfl | (exfalso; omega) | (congr 1; omega)
theorem rot_lt {l : List Int} {m i j : Nat} (hj : 0 < i ∧ i < j) (h : i ≤ m ∧ m + j ≤ l.length) : rotL (swapR l (m - i) (m + j - i) i) (m - i) m (m + (j - i)) = rotL l (m - i) m (m + j) := by
  have hl := swapR_len l (m - i) (m + j - i) i
  apply List.ext_getElem?
  intro k
  rw [rotL_get (by omega), rotL_get (by omega)]
  have g := swapR_get (l := l) (a := m - i) (b := m + j - i) i (by omega) (by omega)
  simp only [g]
  repeat' split
  all_goals first | rfl | (exfalso; omega) | (congr 1; omega)
theorem rot_eq {l : List Int} {m i : Nat} (h : i ≤ m ∧ m + i ≤ l.length) : swapR l (m - i) m i = rotL l (m - i) m (m + i) := by
  apply List.ext_getElem?
  intro k
  rw [rotL_get (by omega), swapR_get i (by omega) (by omega)]
  repeat' split
  all_goals first | rfl | (exfalso; omega) | (congr 1; omega)
/-! ### The order: by a number of each element, and by the elements themselves where these are equal -/
abbrev gt0 (l : List Int) (i : Nat) : Int := l.getD i 0
def lexLt (mg : Int → Int) (x y : Int) : Prop := mg x < mg y ∨ mg x = mg y ∧ x < y
theorem lexLt_trans {mg : Int → Int} {x y z : Int} (h1 : lexLt mg x y) (h2 : lexLt mg y z) : lexLt mg x z := by
  unfold lexLt at *; omega
theorem lexLt_not {mg : Int → Int} {x y : Int} (hxy : x < y) : ¬ mg y < mg x ↔ lexLt mg x y := by
  unfold lexLt; omega
theorem lexLt_lt {mg : Int → Int} {x y : Int} (hxy : x < y) : mg y < mg x ↔ lexLt mg y x := by
  unfold lexLt; omega
structure Half (mg : Int → Int) (l : List Int) (a m b : Nat) : Prop where
  le : a ≤ m ∧ m ≤ b ∧ b ≤ l.length
  left : ∀ i j : Nat, a ≤ i → i < j → j < m → lexLt mg (gt0 l i) (gt0 l j)
  right : ∀ i j : Nat, m ≤ i → i < j → j < b → lexLt mg (gt0 l i) (gt0 l j)
  idx : ∀ i j : Nat, a ≤ i → i < m → m ≤ j → j < b → gt0 l i < gt0 l j
structure DoneS (mg : Int → Int) (l l' : List Int) (a b : Nat) : Prop where
  perm : l'.Perm l
  out : ∀ i : Nat, i < a ∨ b ≤ i → gt0 l' i = gt0 l i
  from_ : ∀ i : Nat, a ≤ i → i < b → ∃ j : Nat, a ≤ j ∧ j < b ∧ gt0 l' i = gt0 l j
  sorted : ∀ i j : Nat, a ≤ i → i < j → j < b → lexLt mg (gt0 l' i) (gt0 l' j)
theorem DoneS.len {mg : Int → Int} {l l' : List Int} {a b : Nat} (h : DoneS mg l l' a b) : l'.length = l.length := h.perm.length_eq
theorem half_done {mg : Int → Int} {l : List Int} {a m b : Nat} (h : Half mg l a m b) (hm : m = a ∨ m = b) : DoneS mg l l a b := by
  refine ⟨.refl _, fun _ _ => rfl, fun i h1 h2 => ⟨i, h1, h2, rfl⟩, fun i j h1 h2 h3 => ?_⟩
  rcases hm with e | e
  · exact h.right i j (by omega) h2 h3
  · exact h.left i j h1 h2 (by omega)
theorem gt0_rot {l : List Int} {a m b : Nat} (h : a ≤ m ∧ m ≤ b ∧ b ≤ l.length) (i : Nat) : gt0 (rotL l a m b) i = if i < a then gt0 l i else if i < a + (b - m) then gt0 l (i - a + m) else if i < b then gt0 l (i - (a + (b - m)) + a) else gt0 l i := by
  show (rotL l a m b).getD i 0 = _
  rw [List.getD_eq_getElem?_getD, rotL_get h]
  split
  · rw [← List.getD_eq_getElem?_getD]
  · split
    · rw [← List.getD_eq_getElem?_getD]
    · split <;> rw [← List.getD_eq_getElem?_getD]
/-- The halves' inner parts exchanged: two smaller tasks, all of the first below all of the second. -/
theorem half_split {mg : Int → Int} {l : List Int} {a m b s e mid : Nat} (h : Half mg l a m b) (hs : a ≤ s ∧ s ≤ m ∧ m ≤ e ∧ e ≤ b) (hmid : s + e = mid + m)
    (c1 : ∀ i j : Nat, a ≤ i → i < s → e ≤ j → j < b → lexLt mg (gt0 l i) (gt0 l j)) (c2 : ∀ i j : Nat, s ≤ i → i < m → m ≤ j → j < e → lexLt mg (gt0 l j) (gt0 l i)) :
    Half mg (rotL l s m e) a s mid ∧ Half mg (rotL l s m e) mid e b ∧ ∀ i j : Nat, a ≤ i → i < mid → mid ≤ j → j < b → lexLt mg (gt0 (rotL l s m e) i) (gt0 (rotL l s m e) j) := by
  obtain ⟨⟨h1, h2, h3⟩, hl, hr, hi⟩ := h
  have hb : s ≤ m ∧ m ≤ e ∧ e ≤ l.length := by omega
  have hlen := rotL_len hb
  -- where an element of the new list lies in the old one
  have g := gt0_rot hb
  have gA : ∀ i, i < s → gt0 (rotL l s m e) i = gt0 l i := fun i hi' => by rw [g, if_pos hi']
  have gB : ∀ i, s ≤ i → i < mid → gt0 (rotL l s m e) i = gt0 l (i - s + m) := fun i h1 h2 => by rw [g, if_neg (by omega), if_pos (by omega)]
  have gC : ∀ i, mid ≤ i → i < e → gt0 (rotL l s m e) i = gt0 l (i - mid + s) := fun i h1 h2 => by rw [g, if_neg (by omega), if_neg (by omega), if_pos (by omega), show i - (s + (e - m)) + s = i - mid + s by omega]
  have gD : ∀ i, e ≤ i → gt0 (rotL l s m e) i = gt0 l i := fun i h1 => by rw [g, if_neg (by omega), if_neg (by omega), if_neg (by omega)]
  refine ⟨⟨by omega, fun i j k1 k2 k3 => ?_, fun i j k1 k2 k3 => ?_, fun i j k1 k2 k3 k4 => ?_⟩, ⟨by omega, fun i j k1 k2 k3 => ?_, fun i j k1 k2 k3 => ?_, fun i j k1 k2 k3 k4 => ?_⟩, fun i j k1 k2 k3 k4 => ?_⟩
  · rw [gA i (by omega), gA j (by omega)]; exact hl i j k1 k2 (by omega)
  · rw [gB i (by omega) (by omega), gB j (by omega) (by omega)]; exact hr _ _ (by omega) (by omega) (by omega)
  · rw [gA i (by omega), gB j (by omega) (by omega)]; exact hi _ _ (by omega) (by omega) (by omega) (by omega)
  · rw [gC i (by omega) (by omega), gC j (by omega) (by omega)]; exact hl _ _ (by omega) (by omega) (by omega)
  · rw [gD i (by omega), gD j (by omega)]; exact hr _ _ (by omega) (by omega) (by omega)
  · rw [gC i (by omega) (by omega), gD j (by omega)]; exact hi _ _ (by omega) (by omega) (by omega) (by omega)
  · by_cases q1 : i < s <;> by_cases q2 : j < e
    · rw [gA i q1, gC j k3 q2]; exact hl _ _ (by omega) (by omega) (by omega)
    · rw [gA i q1, gD j (by omega)]; exact c1 _ _ (by omega) (by omega) (by omega) (by omega)
    · rw [gB i (by omega) (by omega), gC j k3 q2]; exact c2 _ _ (by omega) (by omega) (by omega) (by omega)
    · rw [gB i (by omega) (by omega), gD j (by omega)]; exact hr _ _ (by omega) (by omega) (by omega)
theorem done_join {mg : Int → Int} {l l1 l2 l3 : List Int} {a m b s e mid : Nat} (h : Half mg l a m b) (hs : a ≤ s ∧ s ≤ m ∧ m ≤ e ∧ e ≤ b) (hmid : s + e = mid + m) (e1 : l1 = rotL l s m e)
    (hc : ∀ i j : Nat, a ≤ i → i < mid → mid ≤ j → j < b → lexLt mg (gt0 l1 i) (gt0 l1 j)) (d1 : DoneS mg l1 l2 a mid) (d2 : DoneS mg l2 l3 mid b) : DoneS mg l l3 a b := by
  have hb : s ≤ m ∧ m ≤ e ∧ e ≤ l.length := by have := h.le; omega
  have g := gt0_rot hb
  rw [← e1] at g
  have fr1 : ∀ i : Nat, a ≤ i → i < b → ∃ j : Nat, a ≤ j ∧ j < b ∧ gt0 l1 i = gt0 l j := fun i h1 h2 => by
    rw [g]
    split
    · exact ⟨i, h1, h2, rfl⟩
    · split
      · exact ⟨_, by omega, by omega, rfl⟩
      · split
        · exact ⟨_, by omega, by omega, rfl⟩
        · exact ⟨i, h1, h2, rfl⟩
  have out1 : ∀ i : Nat, i < a ∨ b ≤ i → gt0 l1 i = gt0 l i := fun i h1 => by
    rw [g]
    split
    · rfl
    · rw [if_neg (by omega), if_neg (by omega)]
  have low : ∀ i : Nat, a ≤ i → i < mid → ∃ j : Nat, a ≤ j ∧ j < mid ∧ gt0 l3 i = gt0 l1 j := fun i h1 h2 => by
    obtain ⟨j, j1, j2, j3⟩ := d1.from_ i h1 h2
    exact ⟨j, j1, j2, by rw [d2.out i (.inl h2), j3]⟩
  have high : ∀ i : Nat, mid ≤ i → i < b → ∃ j : Nat, mid ≤ j ∧ j < b ∧ gt0 l3 i = gt0 l1 j := fun i h1 h2 => by
    obtain ⟨j, j1, j2, j3⟩ := d2.from_ i h1 h2
    exact ⟨j, j1, j2, by rw [j3, d1.out j (.inr j1)]⟩
  refine ⟨(d2.perm.trans d1.perm).trans (e1 ▸ rotL_perm hb), fun i h1 => ?_, fun i h1 h2 => ?_, fun i j h1 h2 h3 => ?_⟩
  · rw [d2.out i (by omega), d1.out i (by omega), out1 i h1]
  · by_cases q : i < mid
    · obtain ⟨j, j1, j2, j3⟩ := low i h1 q
      obtain ⟨k, k1, k2, k3⟩ := fr1 j j1 (by omega)
      exact ⟨k, k1, k2, j3.trans k3⟩
    · obtain ⟨j, j1, j2, j3⟩ := high i (by omega) h2
      obtain ⟨k, k1, k2, k3⟩ := fr1 j (by omega) j2
      exact ⟨k, k1, k2, j3.trans k3⟩
  · by_cases q1 : j < mid
    · rw [d2.out i (by omega), d2.out j (by omega)]
      exact d1.sorted i j h1 h2 q1
    · by_cases q2 : i < mid
      · obtain ⟨i', i1, i2, i3⟩ := low i h1 q2
        obtain ⟨j', j1, j2, j3⟩ := high j (by omega) h3
        rw [i3, j3]
        exact hc i' j' i1 i2 j1 j2
      · exact d2.sorted i j (by omega) h2 h3
/-- What the search among the pairs finds. -/
theorem search_split {mg : Int → Int} {l : List Int} {a m b s0 r0 s n mid : Nat} (h : Half mg l a m b) (ham : a < m ∧ m < b) (hmid : mid = (a + b) / 2) (hn : n = mid + m) (h0 : (m > mid ∧ s0 = n - b ∧ r0 = mid) ∨ (m ≤ mid ∧ s0 = a ∧ r0 = m)) (hs : s0 ≤ s ∧ s ≤ r0)
    (lo : ∀ c : Nat, s0 ≤ c → c < s → lexLt mg (gt0 l c) (gt0 l (n - 1 - c))) (hi : ∀ c : Nat, s ≤ c → c < r0 → lexLt mg (gt0 l (n - 1 - c)) (gt0 l c)) :
    (a ≤ s ∧ s ≤ m ∧ m ≤ n - s ∧ n - s ≤ b) ∧ s + (n - s) = mid + m ∧ (∀ i j : Nat, a ≤ i → i < s → n - s ≤ j → j < b → lexLt mg (gt0 l i) (gt0 l j)) ∧ (∀ i j : Nat, s ≤ i → i < m → m ≤ j → j < n - s → lexLt mg (gt0 l j) (gt0 l i)) := by
  have hle : a ≤ s ∧ s ≤ m ∧ m ≤ n - s ∧ n - s ≤ b := by omega
  have weakL : ∀ i j : Nat, a ≤ i → i ≤ j → j < m → i = j ∨ lexLt mg (gt0 l i) (gt0 l j) := fun i j h1 h2 h3 => by
    rcases Nat.lt_or_eq_of_le h2 with q | q
    · exact .inr (h.left i j h1 q h3)
    · exact .inl q
  have weakR : ∀ i j : Nat, m ≤ i → i ≤ j → j < b → i = j ∨ lexLt mg (gt0 l i) (gt0 l j) := fun i j h1 h2 h3 => by
    rcases Nat.lt_or_eq_of_le h2 with q | q
    · exact .inr (h.right i j h1 q h3)
    · exact .inl q
  refine ⟨hle, by omega, fun i j h1 h2 h3 h4 => ?_, fun i j h1 h2 h3 h4 => ?_⟩
  · have k := lo (s - 1) (by omega) (by omega)
    rw [show n - 1 - (s - 1) = n - s by omega] at k
    have k2 : lexLt mg (gt0 l i) (gt0 l (n - s)) := by
      rcases weakL i (s - 1) h1 (by omega) (by omega) with q | q
      · rw [q]; exact k
      · exact lexLt_trans q k
    rcases weakR (n - s) j (by omega) h3 h4 with q | q
    · rw [← q]; exact k2
    · exact lexLt_trans k2 q
  · have k := hi s (Nat.le_refl _) (by omega)
    have k2 : lexLt mg (gt0 l j) (gt0 l s) := by
      rcases weakR j (n - 1 - s) h3 (by omega) (by omega) with q | q
      · rw [q]; exact k
      · exact lexLt_trans q k
    rcases weakL s i (by omega) h1 h2 with q | q
    · rw [← q]; exact k2
    · exact lexLt_trans k2 q

theorem half_sorted {mg : Int → Int} {l : List Int} {a m b : Nat} (h : Half mg l a m b) (hc : ∀ i j : Nat, a ≤ i → i < m → m ≤ j → j < b → lexLt mg (gt0 l i) (gt0 l j)) : DoneS mg l l a b := by
  refine ⟨.refl _, fun _ _ => rfl, fun i h1 h2 => ⟨i, h1, h2, rfl⟩, fun i j h1 h2 h3 => ?_⟩
  by_cases q1 : j < m
  · exact h.left i j h1 h2 q1
  · by_cases q2 : i < m
    · exact hc i j h1 q2 (by omega) h3
    · exact h.right i j (by omega) h2 h3
theorem done_left1 {mg : Int → Int} {l : List Int} {a b i : Nat} (h : Half mg l a (a + 1) b) (hi : a + 1 ≤ i ∧ i ≤ b) (lo : ∀ q : Nat, a + 1 ≤ q → q < i → lexLt mg (gt0 l q) (gt0 l a)) (hi2 : ∀ q : Nat, i ≤ q → q < b → lexLt mg (gt0 l a) (gt0 l q)) : DoneS mg l (rotL l a (a + 1) i) a b := by
  have hs : a ≤ a ∧ a ≤ a + 1 ∧ a + 1 ≤ i ∧ i ≤ b := by omega
  have hmid : a + i = (i - 1) + (a + 1) := by omega
  have hb : a ≤ a + 1 ∧ a + 1 ≤ i ∧ i ≤ l.length := by have := h.le; omega
  obtain ⟨k1, k2, k3⟩ := half_split h hs hmid (fun p j h1 h2 _ _ => by omega) (fun p j h1 h2 h3 h4 => by
    obtain rfl : p = a := by omega
    exact lo j h3 h4)
  refine done_join h hs hmid rfl k3 (half_done k1 (.inl rfl)) (half_sorted k2 fun p j h1 h2 h3 h4 => ?_)
  have g := gt0_rot hb
  rw [g p, if_neg (by omega), if_neg (by omega), if_pos (by omega), g j, if_neg (by omega), if_neg (by omega), if_neg (by omega), show p - (a + (i - (a + 1))) + a = a by omega]
  exact hi2 j h3 h4
theorem done_right1 {mg : Int → Int} {l : List Int} {a m i : Nat} (h : Half mg l a m (m + 1)) (hi : a ≤ i ∧ i ≤ m) (lo : ∀ q : Nat, a ≤ q → q < i → lexLt mg (gt0 l q) (gt0 l m)) (hi2 : ∀ q : Nat, i ≤ q → q < m → lexLt mg (gt0 l m) (gt0 l q)) : DoneS mg l (rotL l i m (m + 1)) a (m + 1) := by
  have hs : a ≤ i ∧ i ≤ m ∧ m ≤ m + 1 ∧ m + 1 ≤ m + 1 := by omega
  have hmid : i + (m + 1) = (i + 1) + m := by omega
  have hb : i ≤ m ∧ m ≤ m + 1 ∧ m + 1 ≤ l.length := by have := h.le; omega
  obtain ⟨k1, k2, k3⟩ := half_split h hs hmid (fun p j h1 h2 h3 h4 => by omega) (fun p j h1 h2 h3 h4 => by
    obtain rfl : j = m := by omega
    exact hi2 p h1 h2)
  refine done_join h hs hmid rfl k3 (half_sorted k1 fun p j h1 h2 h3 h4 => ?_) (half_done k2 (.inr rfl))
  have g := gt0_rot hb
  rw [g p, if_pos (by omega), g j, if_neg (by omega), if_pos (by omega), show j - i + m = m by omega]
  exact lo p h1 h2
/-- An element carried upwards, or downwards, by exchanges of neighbours. -/
def swpN (l : List Int) (i j : Nat) : List Int := (l.set i (gt0 l j)).set j (gt0 l i)
theorem swpN_len (l : List Int) (i j : Nat) : (swpN l i j).length = l.length := by unfold swpN; rw [List.length_set, List.length_set]
theorem swpN_get {l : List Int} {i j : Nat} (h : i < l.length ∧ j < l.length) (k : Nat) : (swpN l i j)[k]? = if k = j then l[i]? else if k = i then l[j]? else l[k]? := by
  unfold swpN gt0
  rw [List.getElem?_set, List.length_set]
  by_cases e1 : j = k
  · rw [if_pos e1, if_pos (by omega), if_pos e1.symm, List.getD_eq_getElem?_getD, List.getElem?_eq_getElem h.1]; rfl
  · rw [if_neg e1, if_neg (Ne.symm e1), List.getElem?_set]
    by_cases e2 : i = k
    · rw [if_pos e2, if_pos (by omega), if_pos e2.symm, List.getD_eq_getElem?_getD, List.getElem?_eq_getElem h.2]; rfl
    · rw [if_neg e2, if_neg (Ne.symm e2)]
theorem rot_up {l : List Int} {a k : Nat} (h : a ≤ k ∧ k + 1 < l.length) : swpN (rotL l a (a + 1) (k + 1)) k (k + 1) = rotL l a (a + 1) (k + 2) := by
  apply List.ext_getElem?
  intro i
  have h1 : a ≤ a + 1 ∧ a + 1 ≤ k + 1 ∧ k + 1 ≤ l.length := by omega
  have h2 : a ≤ a + 1 ∧ a + 1 ≤ k + 2 ∧ k + 2 ≤ l.length := by omega
  rw [swpN_get (by rw [rotL_len h1]; omega), rotL_get h1, rotL_get h1, rotL_get h1, rotL_get h2]
  repeat' split
  all_goals first | rfl | (exfalso; omega) | (congr 1; omega)
theorem rot_down {l : List Int} {m k : Nat} (h : 0 < k ∧ k ≤ m ∧ m < l.length) : swpN (rotL l k m (m + 1)) k (k - 1) = rotL l (k - 1) m (m + 1) := by
  apply List.ext_getElem?
  intro i
  have h1 : k ≤ m ∧ m ≤ m + 1 ∧ m + 1 ≤ l.length := by omega
  have h2 : k - 1 ≤ m ∧ m ≤ m + 1 ∧ m + 1 ≤ l.length := by omega
  rw [swpN_get (by rw [rotL_len h1]; omega), rotL_get h1, rotL_get h1, rotL_get h1, rotL_get h2]
  repeat' split
  all_goals first | rfl | (exfalso; omega) | (congr 1; omega)

theorem done_refl {mg : Int → Int} {l : List Int} {a b : Nat} (h : b ≤ a + 1) : DoneS mg l l a b := ⟨.refl _, fun _ _ => rfl, fun i h1 h2 => ⟨i, h1, h2, rfl⟩, fun i j h1 h2 h3 => by omega⟩
theorem done_trans {mg : Int → Int} {l l1 l2 : List Int} {a i j : Nat} (h1 : DoneS mg l l1 a i) (h2 : DoneS mg l1 l2 a j) (hij : i ≤ j) : DoneS mg l l2 a j := by
  refine ⟨h2.perm.trans h1.perm, fun k hk => by rw [h2.out k hk, h1.out k (by omega)], fun k k1 k2 => ?_, h2.sorted⟩
  obtain ⟨p, p1, p2, p3⟩ := h2.from_ k k1 k2
  by_cases q : p < i
  · obtain ⟨r, r1, r2, r3⟩ := h1.from_ p p1 q
    exact ⟨r, r1, by omega, p3.trans r3⟩
  · exact ⟨p, p1, p2, by rw [p3, h1.out p (by omega)]⟩
/-- The elements from a to before b ascend, as integers. -/
def ascL (l : List Int) (a b : Nat) : Prop := ∀ p q : Nat, a ≤ p → p < q → q < b → gt0 l p < gt0 l q
theorem ins_half {mg : Int → Int} {l li : List Int} {a i : Nat} (h : DoneS mg l li a i) (ha : ascL l a (i + 1)) (hi : a ≤ i ∧ i < l.length) : Half mg li a i (i + 1) := by
  refine ⟨by rw [h.len]; omega, h.sorted, fun p q h1 h2 h3 => by omega, fun p q h1 h2 h3 h4 => ?_⟩
  obtain rfl : q = i := by omega
  obtain ⟨r, r1, r2, r3⟩ := h.from_ p h1 h2
  rw [r3, h.out q (.inr (Nat.le_refl _))]
  exact ha r q r1 r2 (by omega)
theorem blocks_half {mg : Int → Int} {l l1 l2 : List Int} {k n : Nat} (ha : ascL l 0 n) (hk : k ≤ n ∧ n ≤ l.length) (h1 : DoneS mg l l1 0 k) (h2 : DoneS mg l1 l2 k n) : Half mg l2 0 k n := by
  have e1 := h1.len
  have e2 := h2.len
  refine ⟨by omega, fun i j i1 i2 i3 => ?_, h2.sorted, fun i j i1 i2 i3 i4 => ?_⟩
  · rw [h2.out i (by omega), h2.out j (by omega)]
    exact h1.sorted i j i1 i2 i3
  · obtain ⟨p, p1, p2, p3⟩ := h1.from_ i i1 i2
    obtain ⟨q, q1, q2, q3⟩ := h2.from_ j i3 i4
    rw [h2.out i (by omega), p3, q3, h1.out q (.inr q1)]
    exact ha p q p1 (by omega) q2
theorem blocks_done {mg : Int → Int} {l l1 l2 l3 : List Int} {k n : Nat} (hk : k ≤ n) (h1 : DoneS mg l l1 0 k) (h2 : DoneS mg l1 l2 k n) (h3 : DoneS mg l2 l3 0 n) : DoneS mg l l3 0 n := by
  refine ⟨(h3.perm.trans h2.perm).trans h1.perm, fun i hi => by rw [h3.out i hi, h2.out i (by omega), h1.out i (by omega)], fun i i1 i2 => ?_, h3.sorted⟩
  obtain ⟨p, p1, p2, p3⟩ := h3.from_ i i1 i2
  by_cases q : p < k
  · obtain ⟨r, r1, r2, r3⟩ := h1.from_ p (Nat.zero_le _) q
    exact ⟨r, r1, by omega, by rw [p3, h2.out p (by omega), r3]⟩
  · obtain ⟨r, r1, r2, r3⟩ := h2.from_ p (by omega) p2
    exact ⟨r, Nat.zero_le _, r2, by rw [p3, r3, h1.out r (.inr r1)]⟩
end Go.Proofs.YtgmolcobhehoeaaGreatDoor
/- slices.SortStableFunc at ints: its inner functions. -/
set_option linter.unusedVariables false
set_option maxHeartbeats 4000000
namespace Go.Proofs.YtgmolcobhehoeaaGreatDoor
open Go.RowKit

theorem X.endN {P : Program} {n : Nat} {L : FL} {w0 : World} {H : List Hl} {fn : Func} {R : Ending → World → Prop} (hf : fn.results = #[]) (h : ∀ w, St w0 H w → R (.returned (.tuple #[])) w) : X (bodyPost P fn R) n L w0 H .normal := by
  have h1 := X.ret (P := P) (n := n) (L := L) (w0 := w0) (H := H) (fn := fn) (R := R) (rs := []) (vs := []) hf rfl rfl h
  unfold X at h1 ⊢
  exact h1
abbrev rwI (v : Sl) (l : List Int) : Hl := Hl.rw v.v 3 cI 1 l
theorem nth_gt0 (l : List Int) (m : Int) : nth l m = gt0 l m.toNat := rfl
def cmpI (a b : Int) : Int := if a < b then -1 else if b < a then 1 else 0
theorem cmpI_neg {a b : Int} : cmpI a b < 0 ↔ a < b := by
  unfold cmpI; split
  · constructor <;> omega
  · split <;> constructor <;> omega
/-- A comparing function of two ints from 0 to before N, by a number of each. -/
structure CmpOk (C : World → Prop) (f : FuncId) (cap : List Value) (mg : Int → Int) (N : Int) : Prop where
  go : isGo Tryz.prog f = true
  cmp : ∀ x y : Int, 0 ≤ x → x < N → 0 ≤ y → y < N → ContIn Tryz.prog C f ([.int .i64 x, .int .i64 y] ++ (cap.toArray).toList) (.int .i64 (cmpI (mg x) (mg y)))
abbrev cmpV (f : FuncId) (cap : List Value) : Value := .func (.func f) #[] cap.toArray
abbrev inN (N : Int) (l : List Int) : Prop := ∀ x ∈ l, 0 ≤ x ∧ x < N
theorem nth_inN {N : Int} {l : List Int} (h : inN N l) {m : Int} (hm : 0 ≤ m ∧ m < l.length) : 0 ≤ nth l m ∧ nth l m < N := h _ (List.mem_of_getElem? (nth_some hm.1 hm.2))
end Go.Proofs.YtgmolcobhehoeaaGreatDoor
/- slices.SortStableFunc at ints: symMerge. -/
set_option linter.unusedVariables false
set_option maxHeartbeats 4000000
namespace Go.Proofs.YtgmolcobhehoeaaGreatDoor
open Go.RowKit

theorem X.retZ {P : Program} {n : Nat} {L : FL} {w0 : World} {H : List Hl} {fn : Func} {R : Ending → World → Prop} (hf : fn.results = #[]) (h : ∀ w, St w0 H w → R (.returned (.tuple #[])) w) : X (bodyPost P fn R) n L w0 H .ret := X.ret (rs := []) (vs := []) hf rfl rfl h
theorem half_out {mg : Int → Int} {l z : List Int} {a mid e b : Nat} (h : Half mg l mid e b) (d : DoneS mg l z a mid) : Half mg z mid e b := by
  have hl := d.len
  have g : ∀ i : Nat, mid ≤ i → gt0 z i = gt0 l i := fun i hi => d.out i (.inr hi)
  refine ⟨by have := h.le; omega, fun i j h1 h2 h3 => ?_, fun i j h1 h2 h3 => ?_, fun i j h1 h2 h3 h4 => ?_⟩
  · rw [g i h1, g j (by omega)]; exact h.left i j h1 h2 h3
  · have := h.le; rw [g i (by omega), g j (by omega)]; exact h.right i j h1 h2 h3
  · have := h.le; rw [g i h1, g j (by omega)]; exact h.idx i j h1 h2 h3 h4
theorem K_cmp {C : World → Prop} {f : FuncId} {cap : List Value} {mg : Int → Int} {N : Int} (K : CmpOk C f cap mg N) {l : List Int} (hin : inN N l) (x y : Int) (hx : 0 ≤ x ∧ x < l.length) (hy : 0 ≤ y ∧ y < l.length) :
    ContIn Tryz.prog C f ([.int .i64 (nth l x), .int .i64 (nth l y)] ++ (cap.toArray).toList) (.int .i64 (cmpI (mg (nth l x)) (mg (nth l y)))) := by
  have x1 := nth_inN hin hx
  have x2 := nth_inN hin hy
  exact K.cmp _ _ x1.1 x1.2 x2.1 x2.2
end Go.Proofs.YtgmolcobhehoeaaGreatDoor
/- Loops of a few rounds, one after the other; calls that the model answers at once; the length of a slice whose header is known. -/
set_option linter.unusedVariables false
set_option maxHeartbeats 4000000
namespace Go.Proofs.YtgmolcobhehoeaaGreatDoor
open Go.RowKit
section
variable {P : Program} {Q : Exit → Act → World → Prop} {n k : Nat} {L : FL} {w0 : World} {H : List Hl} {c : Code}
/-- At most k rounds of a loop. -/
def GR (P : Program) (Q : Exit → Act → World → Prop) (n k : Nat) (L : FL) (w0 : World) (H : List Hl) (c : Code) : Prop := ∀ a w, Fr n L a → St w0 H w → Code.rounds P c Q k a w
theorem G.loopN (k : Nat) (h : GR P Q n k L w0 H c) : G P Q n L w0 H (.loop c) := by
  unfold G
  exact fun a w ha hw => wp_loop_rounds k (h a w ha hw)
theorem GR.step (h : G P (Exit.then (Code.rounds P c Q k) Q) n L w0 H c) : GR P Q n (k + 1) L w0 H c := by
  unfold G at h
  exact fun a w ha hw => h a w ha hw
/-- The next round, with these facts. -/
theorem GR.next (L1 : FL) (hL : Sub L L1) (h : G P (Exit.then (Code.rounds P c Q k) Q) n L1 w0 H c) : GR P Q n (k + 1) L w0 H c := by
  unfold G at h
  exact fun a w ha hw => h a w (ha.weaken hL.spec) hw
theorem X.round (h : GR P Q n k L w0 H c) : X (Exit.then (Code.rounds P c Q k) Q) n L w0 H .normal := by
  unfold X
  exact fun a w ha hw => h a w ha hw
variable {d : Option Tmp} {ty : TypeId} {pos : String} {af : Array Edge} {gd : Option (Nat × Bool)} {x y z : Operand} {t : TypeId} {v : Value} {K : Value → Prop}
/-- A call that the model answers at once. -/
theorem y_extern {f : FuncId} {xs : List Operand} {vs : List Value} {tys : Array TypeId} (hrun : ∀ w, (callFunc f vs.toArray).run P w = .ok (.value v) w) (ha : AE L xs vs) :
    V P n L w0 H ⟨d, .call { callee := .value (.func f), args := xs.toArray, argTypes := tys }, ty, pos, af, gd⟩ v := by
  unfold V
  intro a w hfr hw
  rw [show execOp a.eval ⟨d, .call { callee := .value (.func f), args := xs.toArray, argTypes := tys }, ty, pos, af, gd⟩ = callFunc f (#[] ++ xs.toArray.map a.eval ++ #[]) from rfl]
  have := ha.map hfr
  simp [this, hrun w]
/-- An element's address in an array that lies in a block of the call's own. -/
theorem y_indexArr {b i len : Nat} {k : IntKind} {m : Int} (hx : evO L x = some (.pointer (some ⟨b, 0, none⟩))) (hy : evO L y = some (.int k m)) (hm : m = (i : Int)) (ht : arrayB P t len = true) (hi : Nat.blt i len = true) :
    V P n L w0 H ⟨d, .indexAddr t x y, ty, pos, af, gd⟩ (.pointer (some ⟨b, i, none⟩)) := by
  unfold V
  intro a w ha hw
  unfold arrayB at ht
  cases hu : P.underlying t with
  | none => simp [hu] at ht
  | some dsc =>
    cases dsc <;> simp [hu] at ht
    rename_i l e
    obtain ⟨rfl, hs⟩ := ht
    subst hm
    have hlt : i < l := by simpa [Nat.blt_eq] using hi
    have hadd : (⟨b, 0, none⟩ : Addr).add i = ⟨b, i, none⟩ := by unfold Addr.add; split <;> simp_all
    simp [execOp, ha.eval hx, ha.eval hy, Instr.indexAt, asIntOf, Instr.sureAddr, run_underlying hu, hlt, run_sizeOf_of (info_of_scalarB hs), hadd]
/-- The first elements of an array as a slice, and as an array again. -/
theorem y_sliceArr {b len : Nat} {k : IntKind} {m : Nat} (hx : evO L x = some (.pointer (some ⟨b, 0, none⟩))) (hy : evO L y = some (.int k (m : Int))) (ht : arrayB P t len = true) (hm : Nat.ble m len = true) (h0 : Nat.blt 0 len = true) :
    V P n L w0 H ⟨d, .slice t x none (some y) none, ty, pos, af, gd⟩ (.slice (some ⟨b, 0, none⟩) m len) := by
  unfold V
  intro a w ha hw
  unfold arrayB at ht
  cases hu : P.underlying t with
  | none => simp [hu] at ht
  | some dsc =>
    cases dsc <;> simp [hu] at ht
    rename_i l e
    obtain ⟨rfl, hs⟩ := ht
    have hle : m ≤ l := Nat.le_of_ble_eq_true hm
    have hpos : 0 < l := by simpa [Nat.blt_eq] using h0
    have hadd : (⟨b, 0, none⟩ : Addr).add 0 = ⟨b, 0, none⟩ := by unfold Addr.add; split <;> simp_all
    have h2 := run_sliceBound (P := P) (w := w) k m l .sliceAlen (by omega) (by omega)
    simp [execOp, ha.eval hx, ha.eval hy, Instr.sliceAt, Instr.sliceBounds, Instr.sureAddr, run_underlying hu, h2, run_sizeOf_of (info_of_scalarB hs), hadd]
theorem y_arrPtr {A : Addr} {len m c : Nat} (hx : evO L x = some (.slice (some A) m c)) (ht : arrayB P t len = true) (hm : Nat.ble len m = true) :
    V P n L w0 H ⟨d, .sliceToArrayPointer t x, ty, pos, af, gd⟩ (.pointer (some A)) := by
  unfold V
  intro a w ha hw
  unfold arrayB at ht
  cases hu : P.underlying t with
  | none => simp [hu] at ht
  | some dsc =>
    cases dsc <;> simp [hu] at ht
    rename_i l e
    obtain ⟨rfl, hs⟩ := ht
    have hle : l ≤ m := Nat.le_of_ble_eq_true hm
    simp [execOp, ha.eval hx, Instr.arrayAt, run_underlying hu, Nat.not_lt.2 hle]
/-- The length of a slice is in its header. -/
theorem y_lenV {A : Option Addr} {m c : Nat} (hx : evO L x = some (.slice A m c)) (ht : isSliceB P t = true) : V P n L w0 H ⟨d, .call { callee := .builtin .len, args := #[x], argTypes := #[t] }, ty, pos, af, gd⟩ (.int .i64 m) := by
  unfold V
  intro a w ha hw
  unfold isSliceB at ht
  cases hu : P.underlying t with
  | none => simp [hu] at ht
  | some dsc =>
    cases dsc <;> simp [hu] at ht
    simp [execOp, resolve, invoke, builtin, ha.eval hx, Builtin.len_, run_underlying hu, goInt]
end
end Go.Proofs.YtgmolcobhehoeaaGreatDoor
/- The library's functions on strings and numerals: what the kit's contracts say, in this walk's words. -/
set_option linter.unusedVariables false
set_option maxHeartbeats 4000000
namespace Go.Proofs.YtgmolcobhehoeaaGreatDoor
open Go.RowKit

theorem below_grown (w : World) (k : Nat) (os : Array Obj) : Below w.heap.size w (Go.Sort.grow (w.drewN k) os) :=
  ⟨rfl, rfl, rfl, by simp [Go.Sort.grow, World.drewN], fun j hj => by simp [Go.Sort.grow, World.drewN, Array.getElem?_append, hj]⟩
theorem below_drawn (w : World) (k : Nat) : Below w.heap.size w (w.drewN k) := ⟨rfl, rfl, rfl, Nat.le_refl _, fun _ _ => rfl⟩
theorem dec_len : ∀ (k u : Nat), u < 10 ^ (k + 1) → (Lib.decDigits u).length ≤ k + 1
  | 0, u, h => by
    rw [Lib.decDigits, dif_pos (by simpa using h)]; simp
  | k + 1, u, h => by
    rw [Lib.decDigits]
    split
    · simp
    · have := dec_len k (u / 10) (by rw [Nat.pow_succ] at h; omega)
      simp; omega
theorem itoa_len {n : Int} (h : -9223372036854775808 ≤ n ∧ n ≤ 9223372036854775807) : (Lib.itoa n).length ≤ 20 := by
  unfold Lib.itoa
  split
  · have := dec_len 18 n.natAbs (by omega)
    simp; omega
  · have := dec_len 18 n.toNat (by omega)
    omega
theorem repeat_c (l : List UInt8) {m : Int} (h : 0 ≤ m ∧ m ≤ 1000000) (hl : l.length ≤ 1000000) : Cont Tryz.prog 34 [strV l, .int .i64 m] (strV (Lib.repeatL l m.toNat)) := fun w => by
  obtain ⟨c, rfl⟩ := Int.eq_ofNat_of_zero_le h.1
  have hc : c ≤ 1000000 := by omega
  refine (Tryz.strings_Repeat ⟨l.toArray⟩ c w (by omega) (by rw [size_str]; exact Nat.le_trans (Nat.mul_le_mul hl hc) (by decide))).mono fun e w' ⟨he, hb⟩ => ⟨?_, hb⟩
  rw [he]
  simp
end Go.Proofs.YtgmolcobhehoeaaGreatDoor
/- The library's Split and Atoi in this walk's words; contracts that lean on what the variables hold and bring new slices. -/
set_option linter.unusedVariables false
set_option maxHeartbeats 4000000
namespace Go.Proofs.YtgmolcobhehoeaaGreatDoor
open Go.RowKit

/-- As ContX, under a fact on the world that stays. -/
def ContXI (P : Program) (C : World → Prop) (f : FuncId) (args : List Value) {ι : Type} (post : ι → Prop) (v : ι → Value) (Hn : ι → List Hl) : Prop :=
  ∀ w, C w → Calls P f args.toArray w (RetX post v Hn w)
section
variable {P : Program} {C : World → Prop} {n : Nat} {L : FL} {w0 : World} {H : List Hl} {Q : Exit → Act → World → Prop} {ops : Array Oper} {rest : List Oper} {d : Option Tmp} {dd : Nat} {ty : TypeId} {pos : String} {af : Array Edge} {gd g : Option (Nat × Bool)} {x : Operand} {t t' : TypeId} {ι : Type} {te : TypeId} {p : Value}
theorem x_callI {f : FuncId} {xs : List Operand} {vs : List Value} {tys : Array TypeId} {post : ι → Prop} {v : ι → Value} {Hn : ι → List Hl} (hc : ContXI P C f vs post v Hn) (ha : AE L xs vs) (hC : ∀ w, St w0 H w → C w) (hg : isGo P f = true) (hd : Nat.blt dd n = true) :
    EX P n L w0 H ⟨some dd, .call { callee := .value (.func f), args := xs.toArray, argTypes := tys }, ty, pos, af, gd⟩ post (fun z => (dd, v z) :: L) (fun z => Hn z ++ H) := fun a w hfr hw K Q hK => by
  unfold Oper.wp
  rw [run_call hfr ha hg]
  refine (hc w (hC w hw)).mono ?_
  rintro e w' ⟨z, hz, rfl, hb, hn⟩
  exact hK _ _ ⟨z, hz, hfr.put (by simpa [Nat.blt_eq] using hd), hw.news hb hn⟩
theorem RS.callI {f : FuncId} {xs : List Operand} {vs : List Value} {tys : Array TypeId} {post : ι → Prop} {v : ι → Value} {Hn : ι → List Hl} (hc : ContXI P C f vs post v Hn) (ha : AE L xs vs) (hC : ∀ w, St w0 H w → C w) (h : ∀ z, post z → RS P ops Q n ((dd, v z) :: L) w0 (Hn z ++ H) rest) (hg : isGo P f = true := by decide +kernel) (hd : Nat.blt dd n = true := by rfl) :
    RS P ops Q n L w0 H (⟨some dd, .call { callee := .value (.func f), args := xs.toArray, argTypes := tys }, ty, pos, af, none⟩ :: rest) := RS.actX rfl (x_callI hc ha hC hg hd) h
theorem y_neNil0 (hx : evO L x = some .nilIface) (h : P.isIface t = true) : V P n L w0 H ⟨d, .binOp .neq t x (.const .nilIface) t', ty, pos, af, g⟩ (.bool false) := by
  unfold V
  intro a w ha hw
  have hy : a.eval (.const .nilIface) = .nilIface := ha.eval (show evO L (.const .nilIface) = some .nilIface from rfl)
  simp [execOp, ha.eval hx, hy, run_neq_nil_nil_at _ _ h, eqGuard_nil_constR]
theorem y_neNil1 (hx : evO L x = some (.iface te p)) (h : P.isIface t = true) : V P n L w0 H ⟨d, .binOp .neq t x (.const .nilIface) t', ty, pos, af, g⟩ (.bool true) := by
  unfold V
  intro a w ha hw
  have hy : a.eval (.const .nilIface) = .nilIface := ha.eval (show evO L (.const .nilIface) = some .nilIface from rfl)
  simp [execOp, ha.eval hx, hy, run_neq_iface_nil _ _ h, eqGuard_at_iface]
end
abbrev cS (l : List UInt8) : List Value := [strV l]
end Go.Proofs.YtgmolcobhehoeaaGreatDoor
/- What rows without error variables list: the table of powers, and the bound of bytealg. -/
set_option linter.unusedVariables false
set_option maxHeartbeats 4000000
namespace Go.Proofs.YtgmolcobhehoeaaGreatDoor
open Go.RowKit

structure LaidC (w : World) : Prop where
  tab : Lib.TabIs Tryz.prog w "internal/strconv.uint64pow10" .u64 Lib.pow10Tab
  max : ∃ m, w.cell? ⟨0, 0, none⟩ = some (.int .i64 m)
theorem LaidC.keep {w w' : World} (h : LaidC w) (hb : Below w.heap.size w w') : LaidC w' where
  tab := var_keep h.tab hb
  max := by obtain ⟨m, e⟩ := h.max; exact ⟨m, (hb.cell (World.block_lt_of_cell? w _ e)).trans e⟩
theorem laidC_of {w : World} {l : List (String × DataW Unit)} (h : laidMetH Tryz.prog l w) (hp : (l.all fun x => x.2.handleName?.isNone) = true) (hs : w.ShapedOpen Tryz.prog)
    (m1 : ("internal/strconv.uint64pow10", Lib.tabData .u64 Lib.pow10Tab) ∈ l) : LaidC w := by
  rw [MakeChecks.laidMetH_plain _ _ _ hp] at h
  obtain ⟨ps, h, _⟩ := h
  refine ⟨?_, cell_of_shapedOpen_int (t := 3) (zero := #[.int .i64 0]) hs (of_decide_eq_true (by kernel_rfl)) (by kernel_rfl) (by kernel_rfl) (by kernel_rfl) (by kernel_rfl) (by kernel_rfl)⟩
  obtain ⟨g', t', cs, fuel, p, h1, h2, h3, h4⟩ := laid_get h m1
  obtain rfl := Option.some.inj (gPow.symm.trans h1)
  unfold Lib.TabIs
  rw [h3, ← Lib.cells_of_tab (P := Tryz.prog) (t := t') (e := 176) (n := 20) (by obtain rfl := Option.some.inj ((show (Tryz.prog.globals[3]?).map (·.type) = some 264 by kernel_rfl).symm.trans h2); kernel_rfl) (by kernel_rfl) (by kernel_rfl) (by obtain rfl := Option.some.inj ((show (Tryz.prog.globals[3]?).map (·.type) = some 264 by kernel_rfl).symm.trans h2); kernel_rfl) h4]
theorem itoaC_c {n : Int} (h : -9223372036854775808 ≤ n ∧ n ≤ 9223372036854775807) : ContIn Tryz.prog LaidC 153 [.int .i64 n] (strV (Lib.itoa n)) := fun w hI =>
  (Tryz.strconv_Itoa n h.1 h.2 w hI.tab).mono fun e w' ⟨he, k, os, hw⟩ => ⟨he, by subst hw; exact below_grown w k os⟩
theorem splitC_c (l sep : List UInt8) (hl : l.length < 4294967281) (h1 : 1 ≤ sep.length) : ContXI Tryz.prog LaidC 46 [strV l, strV sep] (fun _ : Sl => True) (fun z => z.v) (fun z => [Hl.nw z.v cS 1 (Lib.split l sep)]) := fun w hI => by
  obtain ⟨m, hm⟩ := hI.max
  refine (Tryz.strings_Split ⟨l.toArray⟩ ⟨sep.toArray⟩ m w (by rw [size_str]; exact hl) hm (by rw [size_str]; exact h1)).mono fun e w' ⟨he, hw⟩ => ?_
  subst hw
  obtain ⟨k, hk⟩ : ∃ k, Lib.countB ⟨l.toArray⟩ ⟨sep.toArray⟩ = k := ⟨_, rfl⟩
  have hd := Lib.splitB_data ⟨sep.toArray⟩ 0 k ⟨l.toArray⟩
  have hs : Lib.split l sep = (Lib.splitB ⟨sep.toArray⟩ 0 k ⟨l.toArray⟩).map (·.data.toList) := by rw [hd, ← hk]; rfl
  have hlen : (Lib.splitB ⟨sep.toArray⟩ 0 k ⟨l.toArray⟩).length = k + 1 := Lib.splitB_all _ (by rw [size_str]; exact h1) 0 k _ hk
  rw [hk] at he ⊢
  have hkb : k ≤ l.length + 1 := by rw [← hk]; exact Lib.count_le l sep
  have hf : (Lib.splitB ⟨sep.toArray⟩ 0 k ⟨l.toArray⟩).map Value.string = (Lib.split l sep).flatMap cS := by
    rw [hs, List.flatMap_map]
    induction Lib.splitB ⟨sep.toArray⟩ 0 k ⟨l.toArray⟩ with
    | nil => rfl
    | cons b r ih => simp [ih]
  have hsl : (Lib.split l sep).length = k + 1 := by rw [hs, List.length_map, hlen]
  have own := World.ownsRow_lit (base := w.heap.size) (e := 9) (size := 1) w ((Lib.splitB ⟨sep.toArray⟩ 0 k ⟨l.toArray⟩).map Value.string).toArray (k + 1) (Nat.le_refl _) (by unfold maxLen; omega) (by simp [hlen])
  refine ⟨⟨some ⟨w.heap.size, 0, none⟩, k + 1, k + 1⟩, trivial, he, (Below.refl w.heap.size w).alloc (Nat.le_refl _) _, fun x hx => ?_⟩
  rcases List.mem_singleton.1 hx with rfl
  refine ⟨⟨?_, fun _ _ b hb => ?_⟩, rfl⟩
  · have := RO.of_row own
    rw [hsl]
    simpa [hf] using this
  · simp [Value.ownBlock] at hb; omega
end Go.Proofs.YtgmolcobhehoeaaGreatDoor
/- strings.Builder: copyCheck, WriteByte, WriteString (walked: the shelf's form does not fit where a copied builder is refused). -/
set_option linter.unusedVariables false
set_option maxHeartbeats 4000000
namespace Go.Proofs.YtgmolcobhehoeaaGreatDoor
open Go.RowKit

section
variable {P : Program} {n : Nat} {L : FL} {w0 : World} {H : List Hl} {Q : Exit → Act → World → Prop} {ops : Array Oper} {rest : List Oper} {d : Option Tmp} {dd : Nat} {ty : TypeId} {pos : String} {af : Array Edge} {g : Option (Nat × Bool)} {x y : Operand} {t t' e : TypeId} {v : Value} {b : Nat}
theorem y_eqNil0 (hx : evO L x = some (.pointer none)) (hy : evO L y = some (.pointer none)) (ht : P.underlying t = some (.pointer e)) : V P n L w0 H ⟨d, .binOp .eql t x y t', ty, pos, af, g⟩ (.bool true) := by
  unfold V
  intro a w ha hw
  have h : ∀ k : Nat, (Op.equalIn (k + 1) t (.pointer none) (.pointer none)).run P w = .ok true w := fun k => by simp [Op.equalIn, run_underlying ht]
  simp [execOp, ha.eval hx, ha.eval hy, eqGuard, binOp, Op.equal, Op.maxDepth, h 9999]
theorem y_eqNil1 {a0 : Addr} (hx : evO L x = some (.pointer (some a0))) (hy : evO L y = some (.pointer none)) (ht : P.underlying t = some (.pointer e)) : V P n L w0 H ⟨d, .binOp .eql t x y t', ty, pos, af, g⟩ (.bool false) := by
  unfold V
  intro a w ha hw
  have h : ∀ k : Nat, (Op.equalIn (k + 1) t (.pointer (some a0)) (.pointer none)).run P w = .ok false w := fun k => by simp [Op.equalIn, run_underlying ht]
  simp [execOp, ha.eval hx, ha.eval hy, eqGuard, binOp, Op.equal, Op.maxDepth, h 9999]
theorem y_neSame {a0 : Addr} (hx : evO L x = some (.pointer (some a0))) (hy : evO L y = some (.pointer (some a0))) (ht : P.underlying t = some (.pointer e)) (hi : (P.info? e).isSome = true) : V P n L w0 H ⟨d, .binOp .neq t x y t', ty, pos, af, g⟩ (.bool false) := by
  unfold V
  intro a w ha hw
  obtain ⟨j, hj⟩ := Option.isSome_iff_exists.1 hi
  have h := Lib.run_neq_ptr_same w a0 ht hj
  simp [execOp, ha.eval hx, ha.eval hy, eqGuard, h]
theorem shape_of {T : TypeId} {cs : List Value} {w : World} (hm : Hl.blk b T cs ∈ H) (hw : St w0 H w) : w.shape? b = some (T, cs.length) := by
  have := (hw.all _ hm : _ ∧ w.heap[b]? = some (.cells cs.toArray T (0, 0))).2
  simp [World.shape?, this]
theorem y_toUnsafe {T : TypeId} {cs : List Value} (hx : evO L x = some (.pointer (some ⟨b, 0, none⟩))) (hm : Hl.blk b T cs ∈ H) (h0 : 0 < cs.length) (hs : P.underlying t = some (.pointer e)) (hd : P.underlying t' = some .unsafePointer) (hi : (P.info? e).map (·.size) = some 2) : V P n L w0 H ⟨d, .convert t t' x, ty, pos, af, g⟩ (.pointer (some ⟨b, 0, none⟩)) := by
  unfold V
  intro a w ha hw
  obtain ⟨j, hj, hz⟩ := Option.map_eq_some_iff.1 hi
  have h := Lib.run_to_unsafe w ⟨b, 0, none⟩ hs hd hj (by omega) (shape_of hm hw) h0
  simp [execOp, ha.eval hx, h]
theorem y_fromUnsafe {k : Nat} {T : TypeId} {cs : List Value} (hx : evO L x = some (.pointer (some ⟨b, 0, none⟩))) (hm : Hl.blk b T cs ∈ H) (hs : P.underlying t = some .unsafePointer) (hd : P.underlying t' = some (.pointer e)) (hi : (P.info? e).isSome = true) (hk : cs.length = k) (hl : liesAt P P.depth T (k / P.cellsOf T) 0 e 1 = true) : V P n L w0 H ⟨d, .convert t t' x, ty, pos, af, g⟩ (.pointer (some ⟨b, 0, none⟩)) := by
  unfold V
  intro a w ha hw
  obtain ⟨j, hj⟩ := Option.isSome_iff_exists.1 hi
  have h := Lib.run_from_unsafe w ⟨b, 0, none⟩ hs hd hj (shape_of hm hw) (by rw [hk]; exact hl)
  simp [execOp, ha.eval hx, h]
theorem y_noEsc {f : FuncId} {fn : Func} {tys : Array TypeId} (hx : evO L x = some v) (hf : P.funcs[f]? = some fn) (hname : (fn.name == "runtime.NumGoroutine") = false) (hb : fn.body.isNone = true) (hn : Extern.findNext fn = none) (he : Extern.find fn = some Extern.AbiNoEscape.same) : V P n L w0 H ⟨d, .call { callee := .value (.func f), args := #[x], argTypes := tys }, ty, pos, af, g⟩ v := by
  unfold V
  intro a w ha hw
  rw [show execOp a.eval ⟨d, .call { callee := .value (.func f), args := #[x], argTypes := tys }, ty, pos, af, g⟩ = callFunc f (#[] ++ #[x].map a.eval ++ #[]) from rfl]
  rw [run_callFunc_extern hf hname hb hn he]
  simp [ha.eval hx, Lib.run_noEscape]
theorem y_nil {a0 : Addr} (hx : evO L x = some (.pointer (some a0))) : V P n L w0 H ⟨d, .nilCheck x, ty, pos, af, g⟩ (.pointer (some a0)) := by
  unfold V
  intro a w ha hw
  simp [execOp, ha.eval hx]
end
abbrev cU (c : UInt8) : List Value := [.int .u8 c.toNat]
theorem strCells_cU (l : List UInt8) : Lib.strCells ⟨l.toArray⟩ = l.flatMap cU := by
  unfold Lib.strCells
  show l.map _ = _
  induction l with
  | nil => rfl
  | cons c r ih => simp [ih]
section
variable {P : Program} {n : Nat} {L : FL} {w0 : World} {H : List Hl} {Q : Exit → Act → World → Prop} {ops : Array Oper} {rest : List Oper} {dd : Nat} {ty : TypeId} {pos : String} {af : Array Edge} {gd : Option (Nat × Bool)} {x y : Operand} {t u e : TypeId} {v : Value}
theorem run_appStr_at (w : World) (base : Nat) (t u ty e : TypeId) (i : TypeInfo) (ht : P.underlying t = some (.slice e)) (hu : P.underlying u = some .string) (hi : P.info? e = some i) (hz : i.zero = some (.int .u8 0)) (hsize : i.size = 1) (hby : i.bytes = 1)
    (v : Value) (n : Nat) (xs : List Value) (hown : w.ownsRow base e 1 v n xs) (s : ByteArray) (hbytes : n + s.size ≤ 140737488355328) (hbase : base ≤ w.heap.size) :
    ∃ v' w', (Builtin.append_ #[t, u] ty #[v, .string s]).run P w = .ok v' w' ∧ w'.ownsRow base e 1 v' (n + s.size) (xs ++ Lib.strCells s) ∧ w.grownBy w' v.ownBlock ∧ ∀ b, v'.ownBlock = some b → v.ownBlock = some b ∨ w.heap.size ≤ b := by
  have hxl : xs.length = n := by simpa using hown.1
  obtain ⟨v', w', hr, h2, h3, h4⟩ := Lib.run_append_own_string (P := P) w base t u ty e i ht hu hi hz hsize hby v n xs hown s (by simp only [maxLen]; omega) hbytes hbase
  refine ⟨v', w', hr, h2, h3, fun b hb => ?_⟩
  rcases hown.2 with ⟨rfl, rfl⟩ | ⟨g, cap, cur, rfl, hbg, hg, hnc, hcm, hcs, htake⟩
  · by_cases hm : s.size = 0
    · rw [h4.2 ⟨rfl, hm⟩] at hb; simp [Value.ownBlock] at hb
    · have hr2 := run_append_nil_string (P := P) w t u ty e i (.int .u8 0) ht hu hi hz s (by omega) (by omega) (by rw [hby]; omega)
      rw [hr2] at hr
      simp only [Result.ok.injEq] at hr
      rw [← hr.1] at hb
      simp only [Value.ownBlock, Option.some.injEq] at hb
      exact .inr (by omega)
  · by_cases hroom : n + s.size ≤ cap
    · have hcs' : cur.size = cap := by simpa using hcs
      have hr2 := Lib.run_append_room_string (P := P) w t u ty e i ht hu hi hsize g n cap cur hg s hroom (by omega)
      rw [hr2] at hr
      simp only [Result.ok.injEq] at hr
      rw [← hr.1] at hb
      exact .inl hb
    · have holds : ∀ j u, xs[j]? = some u → w.cell? ((⟨g, 0, none⟩ : Addr).add j) = some u := hown.cells (g := g) rfl
      have hr2 := Lib.run_append_grow_string (P := P) w t u ty e i (.int .u8 0) ht hu hi hz ⟨g, 0, none⟩ n cap xs (by rw [hsize]; simpa using hxl) holds s (by omega) (by omega) (by rw [hby]; exact growslice_fits (by omega) (by omega))
      rw [hr2] at hr
      simp only [Result.ok.injEq] at hr
      rw [← hr.1] at hb
      simp only [Value.ownBlock, Option.some.injEq] at hb
      exact .inr (by omega)
theorem x_appStr {l l' : List UInt8} {H' : Sl → List Hl} (hx : evO L x = some v) (hy : evO L y = some (strV l')) (hu : ∀ v' : Sl, Upd (Hl.rw v e cU 1 l) (Hl.rw v'.v e cU 1 (l ++ l')) H (H' v')) (hb : l.length + l'.length ≤ 140737488355328) (ht : rowTyB P t e 1 1 = true) (hz0 : zeroByteB P e = true) (hs : P.underlying u = some .string) (hd : Nat.blt dd n = true) :
    EX P n L w0 H ⟨some dd, .call { callee := .builtin .append, args := #[x, y], argTypes := #[t, u] }, ty, pos, af, gd⟩ (fun _ : Sl => True) (fun v' => (dd, v'.v) :: L) H' :=
  EX.of_run (fun a w ha hw => by
    obtain ⟨i, z, hu1, hi, hz, hs1, hby, hzs, h0⟩ := rowTyB_spec ht
    have hz2 : i.zero = some (.int .u8 0) := by
      have := zeroByteB_spec hz0
      simp [zeroOf, hi] at this
      exact this
    have hsz : (⟨l'.toArray⟩ : ByteArray).size = l'.length := size_str l'
    obtain ⟨v', w', hr1, h2, h3, h4⟩ := run_appStr_at (P := P) w w0.heap.size t u ty e i hu1 hs hi hz2 hs1 hby v l.length _ (hw.all _ (hu ⟨none, 0, 0⟩).mem) ⟨l'.toArray⟩ (by rw [hsz]; exact hb) hw.ext.size
    rw [hsz, strCells_cU] at h2
    obtain ⟨x', rfl⟩ := owns_sl h2
    refine ⟨_, w', x', by simp [execOp, resolve, invoke, builtin, ha.eval hx, ha.eval hy, hr1], trivial, rfl, hw.turn (hu x') rfl h3 ?_ h4⟩
    show w'.ownsRow _ _ _ _ _ _
    rw [List.length_append, List.flatMap_append]
    exact h2) hd
theorem RS.appStr {l l' : List UInt8} {H' : Sl → List Hl} (h : ∀ v' : Sl, RS P ops Q n ((dd, v'.v) :: L) w0 (H' v') rest) (hx : evO L x = some v) (hy : evO L y = some (strV l')) (hu : ∀ v' : Sl, Upd (Hl.rw v e cU 1 l) (Hl.rw v'.v e cU 1 (l ++ l')) H (H' v')) (hb : l.length + l'.length ≤ 140737488355328) (ht : rowTyB P t e 1 1 = true) (hz0 : zeroByteB P e = true) (hs : P.underlying u = some .string) (hd : Nat.blt dd n = true) :
    RS P ops Q n L w0 H (⟨some dd, .call { callee := .builtin .append, args := #[x, y], argTypes := #[t, u] }, ty, pos, af, none⟩ :: rest) := RS.actX rfl (x_appStr hx hy hu hb ht hz0 hs hd) fun v' _ => h v'
end
abbrev pB (b : Nat) : Value := .pointer (some ⟨b, 0, none⟩)
theorem copyCheck1_c (b : Nat) (sl : Value) : ContU Tryz.prog (Hl.blk b 133 [pB b, sl]) 143 [pB b] (fun _ : Unit => True) (fun _ => .tuple #[]) (fun _ => [Hl.blk b 133 [pB b, sl]]) := fun w0 HR w hw => by
  refine enterU Tryz.func143 rfl rfl rfl hw ?_
  repeat' (first
    | (show YK _ _ _ _ _ ⟨_, .nilCheck _, _, _, _, _⟩ _; refine YK.ofV (y_nil (by rfl)) ?_)
    | (show YK _ _ _ _ _ ⟨_, .binOp .eql _ _ _ _, _, _, _, _⟩ _; refine YK.ofV (y_eqNil1 (by rfl) (by rfl) Tryz.underlying131) ?_)
    | (show YK _ _ _ _ _ ⟨_, .binOp .neq _ _ _ _, _, _, _, _⟩ _; refine YK.ofV (y_neSame (by rfl) (by rfl) Tryz.underlying131 (by decide +kernel)) ?_)
    | (refine nxV ?_)
    | (show RS _ _ _ _ _ _ _ _; first | (refine nxRS ?_) | (refine nxRS1 fun _ => ?_))
    | (show RM _ _ _ _ _ _ _ _ _ _; first | (refine nxRM ?_) | (refine nxRM1 fun _ => ?_))
    | (refine nxG ?_)
    | (refine nxX ?_)
    | (refine G.condN rfl (fun hc => ?_) (fun hc => ?_) <;> (try first | exact False.elim hc | (exfalso; omega))))
  exact X.endN rfl (fun w hw => ⟨(), trivial, rfl, hw⟩)
theorem copyCheck0_c (b : Nat) (sl : Value) : ContU Tryz.prog (Hl.blk b 133 [.pointer none, sl]) 143 [pB b] (fun _ : Unit => True) (fun _ => .tuple #[]) (fun _ => [Hl.blk b 133 [pB b, sl]]) := fun w0 HR w hw => by
  refine enterU Tryz.func143 rfl rfl rfl hw ?_
  repeat' (first
    | (show YK _ _ _ _ _ ⟨_, .nilCheck _, _, _, _, _⟩ _; refine YK.ofV (y_nil (by rfl)) ?_)
    | (show YK _ _ _ _ _ ⟨_, .binOp .eql _ _ _ _, _, _, _, _⟩ _; refine YK.ofV (y_eqNil0 (by rfl) (by rfl) Tryz.underlying131) ?_)
    | (show YK _ _ _ _ _ ⟨_, .binOp .neq _ _ _ _, _, _, _, _⟩ _; refine YK.ofV (y_neSame (by rfl) (by rfl) Tryz.underlying131 (by decide +kernel)) ?_)
    | (show YK _ _ _ _ _ ⟨_, .call _, _, _, _, _⟩ _; refine YK.ofV (y_noEsc (by rfl) Tryz.func192 (by kernel_rfl) (by kernel_rfl) (by kernel_rfl) (by kernel_rfl)) ?_)
    | (show YK _ _ _ _ _ ⟨_, .convert 131 _ _, _, _, _, _⟩ _; refine YK.ofV (y_toUnsafe (by rfl) (List.Mem.head _) (Nat.zero_lt_succ _) Tryz.underlying131 Tryz.underlying200 (by kernel_rfl)) ?_)
    | (show YK _ _ _ _ _ ⟨_, .convert 200 _ _, _, _, _, _⟩ _; refine YK.ofV (y_fromUnsafe (k := 2) (by rfl) (List.Mem.head _) Tryz.underlying200 Tryz.underlying131 (by decide +kernel) rfl (by kernel_rfl)) ?_)
    | (refine nxV ?_)
    | (show RS _ _ _ _ _ _ _ _; first | (refine nxRS ?_) | (refine nxRS1 fun _ => ?_))
    | (show RM _ _ _ _ _ _ _ _ _ _; first | (refine nxRM ?_) | (refine nxRM1 fun _ => ?_))
    | (refine nxG ?_)
    | (refine nxX ?_)
    | (refine G.condN rfl (fun hc => ?_) (fun hc => ?_) <;> (try first | exact False.elim hc | (exfalso; omega))))
  exact X.endN rfl (fun w hw => ⟨(), trivial, rfl, hw⟩)
/-- A contract that turns two heaplets of the caller's. -/
def ContW (P : Program) (X1 X2 : Hl) (f : FuncId) (args : List Value) {ι : Type} (post : ι → Prop) (v : ι → Value) (Y : ι → List Hl) : Prop :=
  ∀ w0 HR w, St w0 (X1 :: X2 :: HR) w → Calls P f args.toArray w fun e w' => ∃ z, post z ∧ e = .returned (v z) ∧ St w0 (Y z ++ HR) w'
section
variable {P : Program} {n : Nat} {L : FL} {w0 : World} {H : List Hl} {Q : Exit → Act → World → Prop} {ops : Array Oper} {rest : List Oper} {dd : Nat} {ty : TypeId} {pos : String} {af : Array Edge} {gd : Option (Nat × Bool)} {ι : Type}
theorem x_callW {X1 X2 : Hl} {A B A' B' : List Hl} {f : FuncId} {xs : List Operand} {vs : List Value} {tys : Array TypeId} {post : ι → Prop} {v : ι → Value} {Y : ι → List Hl} (hc : ContW P X1 X2 f vs post v Y) (ha : AE L xs vs) (hA : At X2 A B H) (hA2 : At X1 A' B' (A ++ B)) (hg : isGo P f = true) (hd : Nat.blt dd n = true) :
    EX P n L w0 H ⟨some dd, .call { callee := .value (.func f), args := xs.toArray, argTypes := tys }, ty, pos, af, gd⟩ post (fun z => (dd, v z) :: L) (fun z => Y z ++ (A' ++ B')) := fun a w hfr hw K Q hK => by
  unfold Oper.wp
  rw [run_call hfr ha hg]
  have h1 := St.front hA hw
  have h2 := St.front (At.there (h := X2) hA2) h1
  refine (hc w0 (A' ++ B') w h2).mono ?_
  rintro e w' ⟨z, hz, rfl, hs⟩
  exact hK _ _ ⟨z, hz, hfr.put (by simpa [Nat.blt_eq] using hd), hs⟩
theorem RS.callW {X1 X2 : Hl} {A B A' B' : List Hl} {f : FuncId} {xs : List Operand} {vs : List Value} {tys : Array TypeId} {post : ι → Prop} {v : ι → Value} {Y : ι → List Hl} (hc : ContW P X1 X2 f vs post v Y) (ha : AE L xs vs) (h : ∀ z, post z → RS P ops Q n ((dd, v z) :: L) w0 (Y z ++ (A' ++ B')) rest)
    (hA : At X2 A B H := by first | exact .here | exact .there .here | exact .there (.there .here) | exact .there (.there (.there .here)) | exact .there (.there (.there (.there .here))))
    (hA2 : At X1 A' B' (A ++ B) := by first | exact .here | exact .there .here | exact .there (.there .here) | exact .there (.there (.there .here)) | exact .there (.there (.there (.there .here))))
    (hg : isGo P f = true := by decide +kernel) (hd : Nat.blt dd n = true := by rfl) :
    RS P ops Q n L w0 H (⟨some dd, .call { callee := .value (.func f), args := xs.toArray, argTypes := tys }, ty, pos, af, none⟩ :: rest) := RS.actX rfl (x_callW hc ha hA hA2 hg hd) h
end
abbrev bldB (b : Nat) (p : Value) (x : Sl) : Hl := Hl.blk b 133 [p, x.v]
abbrev bldR (x : Sl) (l : List UInt8) : Hl := Hl.rw x.v 5 cU 1 l
theorem writeS_c (b : Nat) (p : Value) (hp : p = .pointer none ∨ p = pB b) (x : Sl) (l l' : List UInt8) (hb : l.length + l'.length ≤ 140737488355328) : ContW Tryz.prog (bldR x l) (bldB b p x) 90 [pB b, strV l'] (fun _ : Sl => True) (fun _ => .tuple [.int .i64 l'.length, .nilIface].toArray) (fun z => [bldB b (pB b) z, bldR z (l ++ l')]) := fun w0 HR w hw => by
  have qc : ContU Tryz.prog (bldB b p x) 143 [pB b] (fun _ : Unit => True) (fun _ => .tuple #[]) (fun _ => [bldB b (pB b) x]) := by
    rcases hp with rfl | rfl
    · exact copyCheck0_c b x.v
    · exact copyCheck1_c b x.v
  refine enterU Tryz.func90 rfl rfl rfl hw ?_
  repeat' (first
    | (show YK _ _ _ _ _ ⟨_, .call { callee := .builtin .len, args := _, argTypes := #[9] }, _, _, _, _⟩ _; refine YK.ofV (y_lenS (by rfl) StrTy.is) ?_)
    | (show VK _ _ _ _ _ ⟨_, .call { callee := .builtin .len, args := _, argTypes := #[9] }, _, _, _, _⟩ _; refine VK.mk (y_lenS (by rfl) StrTy.is) ?_)
    | (show YG _ _ _ _ _ _ ⟨_, .call { callee := .builtin .len, args := _, argTypes := #[9] }, _, _, _, _⟩ _; refine YG.mk (fun hb => by (try (have hc := And.left hb; have hb := And.right hb; rw [hc])); (try rw [hb]); exact V.y (y_lenS (by rfl) StrTy.is)) ?_)
    | (show VG _ _ _ _ _ _ ⟨_, .call { callee := .builtin .len, args := _, argTypes := #[9] }, _, _, _, _⟩ _; refine VG.mk (fun hb => by (try (have hc := And.left hb; have hb := And.right hb; rw [hc])); (try rw [hb]); exact y_lenS (by rfl) StrTy.is) ?_)
    | (refine RS.callU qc ⟨rfl, rfl⟩ ?_; rintro z0 _; dsimp only [List.cons_append, List.nil_append])
    | (show YK _ _ _ _ _ ⟨_, .nilCheck _, _, _, _, _⟩ _; refine YK.ofV (y_nil (by rfl)) ?_)
    | (refine RS.appStr ?_ (by rfl) (by rfl) (fun v' => .there _ (.here _)) hb (by decide +kernel) (by decide +kernel) Tryz.underlying9 (by rfl); intro z1)
    | (refine nxV ?_)
    | (show RS _ _ _ _ _ _ _ _; first | (refine nxRS ?_) | (refine nxRS1 fun _ => ?_))
    | (show RM _ _ _ _ _ _ _ _ _ _; first | (refine nxRM ?_) | (refine nxRM1 fun _ => ?_))
    | (refine nxG ?_)
    | (refine nxVS ?_)
    | (refine nxGS ?_)
    | (refine nxX ?_)
    | (refine G.condN rfl (fun hc => ?_) (fun hc => ?_) <;> (try first | exact False.elim hc | (exfalso; omega))))
  exact X.ret (vs := [_, _]) rfl ⟨rfl, rfl, rfl⟩ rfl (fun w hw => ⟨z1, trivial, rfl, hw⟩)
theorem RS.litU {P : Program} {ops : Array Oper} {Q : Exit → Act → World → Prop} {n : Nat} {L : FL} {w0 : World} {H : List Hl} {dd : Tmp} {ty : TypeId} {pos : String} {af : Array Edge} {t e : TypeId} {x : Operand} {c : UInt8} {rest : List Oper} (h : ∀ v' : Sl, RS P ops Q n ((dd, v'.v) :: L) w0 (Hl.rw v'.v e cU 1 [c] :: H) rest) (hx : evO L x = some (.int .u8 c.toNat)) (ht : rowTyB P t e 1 1 = true) (hd : Nat.blt dd n = true) :
    RS P ops Q n L w0 H (⟨some dd, .buildSlice t 1 #[(0, x)], ty, pos, af, none⟩ :: rest) := RS.actX rfl (x_lit (parts := [(0, x)]) (vs := [.int .u8 c.toNat]) (f := cU) (l := [c]) ⟨hx, rfl⟩ rfl rfl rfl rfl rfl rfl ht hd) fun v' _ => h v'
theorem writeB_c (b : Nat) (p : Value) (hp : p = .pointer none ∨ p = pB b) (x : Sl) (l : List UInt8) (c : UInt8) (hb : l.length ≤ 1000000) : ContW Tryz.prog (bldR x l) (bldB b p x) 152 [pB b, .int .u8 c.toNat] (fun _ : Sl => True) (fun _ => .nilIface) (fun z => [bldB b (pB b) z, bldR z (l ++ [c])]) := fun w0 HR w hw => by
  have qc : ContU Tryz.prog (bldB b p x) 143 [pB b] (fun _ : Unit => True) (fun _ => .tuple #[]) (fun _ => [bldB b (pB b) x]) := by
    rcases hp with rfl | rfl
    · exact copyCheck0_c b x.v
    · exact copyCheck1_c b x.v
  refine enterU Tryz.func152 rfl rfl rfl hw ?_
  repeat' (first
    | (show YK _ _ _ _ _ ⟨_, .call { callee := .builtin .len, args := _, argTypes := #[9] }, _, _, _, _⟩ _; refine YK.ofV (y_lenS (by rfl) StrTy.is) ?_)
    | (show VK _ _ _ _ _ ⟨_, .call { callee := .builtin .len, args := _, argTypes := #[9] }, _, _, _, _⟩ _; refine VK.mk (y_lenS (by rfl) StrTy.is) ?_)
    | (show YG _ _ _ _ _ _ ⟨_, .call { callee := .builtin .len, args := _, argTypes := #[9] }, _, _, _, _⟩ _; refine YG.mk (fun hb => by (try (have hc := And.left hb; have hb := And.right hb; rw [hc])); (try rw [hb]); exact V.y (y_lenS (by rfl) StrTy.is)) ?_)
    | (show VG _ _ _ _ _ _ ⟨_, .call { callee := .builtin .len, args := _, argTypes := #[9] }, _, _, _, _⟩ _; refine VG.mk (fun hb => by (try (have hc := And.left hb; have hb := And.right hb; rw [hc])); (try rw [hb]); exact y_lenS (by rfl) StrTy.is) ?_)
    | (refine RS.callU qc ⟨rfl, rfl⟩ ?_; rintro z0 _; dsimp only [List.cons_append, List.nil_append])
    | (show YK _ _ _ _ _ ⟨_, .nilCheck _, _, _, _, _⟩ _; refine YK.ofV (y_nil (by rfl)) ?_)
    | (show RS _ _ _ _ _ _ _ (⟨_, .buildSlice _ _ _, _, _, _, _⟩ :: _); refine RS.litU (e := 5) (c := c) ?_ (by rfl) (by decide +kernel) (by rfl); intro z2)
    | (show RS _ _ _ _ _ _ _ (⟨_, .call { callee := .builtin .append, args := _, argTypes := _ }, _, _, _, _⟩ :: _); refine RS.appendA (f := cU) (l := l) (l' := [c]) ?_; intro z1)
    | (refine nxV ?_)
    | (show RS _ _ _ _ _ _ _ _; first | (refine nxRS ?_) | (refine nxRS1 fun _ => ?_))
    | (show RM _ _ _ _ _ _ _ _ _ _; first | (refine nxRM ?_) | (refine nxRM1 fun _ => ?_))
    | (refine nxG ?_)
    | (refine nxVS ?_)
    | (refine nxGS ?_)
    | (refine nxX ?_)
    | (refine G.condN rfl (fun hc => ?_) (fun hc => ?_) <;> (try first | exact False.elim hc | (exfalso; omega))))
  exact X.ret (vs := [_]) rfl ⟨rfl, rfl⟩ rfl (fun w hw => ⟨z1, trivial, rfl, hw.sub (List.sublist_cons_self _ _)⟩)
theorem bytes_cU (l : List UInt8) : Lib.byteCells l = l.flatMap cU := by
  unfold Lib.byteCells
  induction l with
  | nil => rfl
  | cons c r ih => simp [ih]
section
variable {n : Nat} {L : FL} {w0 : World} {H : List Hl} {Q : Exit → Act → World → Prop} {ops : Array Oper} {rest : List Oper} {dd : Nat} {ty : TypeId} {pos : String} {af : Array Edge} {gd : Option (Nat × Bool)} {x : Operand} {tys : Array TypeId}
theorem isBld {b : Nat} {p : Value} (hp : p = .pointer none ∨ p = pB b) {z : Sl} {l : List UInt8} {w : World} (h1 : bldB b p z ∈ H) (h2 : bldR z l ∈ H) (hw : St w0 H w) : Lib.IsBuilder 133 5 w0.heap.size b (Lib.byteCells l) w := by
  have a1 : _ ∧ w.heap[b]? = some (.cells [p, z.v].toArray 133 (0, 0)) := hw.all _ h1
  have a2 : w.ownsRow w0.heap.size 5 1 z.v l.length (l.flatMap cU) := hw.all _ h2
  have e : (Lib.byteCells l).length = l.length := by unfold Lib.byteCells; simp
  have a3 : Lib.BuilderAt 133 5 w0.heap.size b p (Lib.byteCells l) w := ⟨a1.1, z.v, a1.2, by rw [e, bytes_cU]; exact a2, Lib.ownBlock_ne a2 a1.2 (by decide)⟩
  rcases hp with rfl | rfl
  · exact .inl a3
  · exact .inr a3
theorem RS.string {b : Nat} {p : Value} {z : Sl} {l : List UInt8} (h : RS Tryz.prog ops Q n ((dd, strV l) :: L) w0 [] rest) (hp : p = .pointer none ∨ p = pB b) (h1 : bldB b p z ∈ H) (h2 : bldR z l ∈ H) (ha : AE L [x] [pB b]) (hd : Nat.blt dd n = true := by rfl) :
    RS Tryz.prog ops Q n L w0 H (⟨some dd, .call { callee := .value (.func 92), args := [x].toArray, argTypes := tys }, ty, pos, af, none⟩ :: rest) :=
  RS.actX rfl (post := fun _ : Unit => True) (fun a w hfr hw K Q hK => by
    unfold Oper.wp
    rw [run_call hfr ha (by decide +kernel)]
    refine (Tryz.Builder_String_any w0.heap.size b l w (isBld hp h1 h2 hw) hw.ext.size).mono ?_
    rintro e w' ⟨rfl, hs⟩
    exact hK _ _ ⟨(), trivial, hfr.put (by simpa [Nat.blt_eq] using hd), hw.ext.trans hs, (fun y hy => by cases hy), trivial⟩) fun _ _ => h
end
end Go.Proofs.YtgmolcobhehoeaaGreatDoor
/- slices.Reverse at bytes. -/
set_option linter.unusedVariables false
set_option maxHeartbeats 4000000
namespace Go.Proofs.YtgmolcobhehoeaaGreatDoor
open Go.RowKit

theorem gt0_set (l : List Int) (i k : Nat) (x : Int) : gt0 (l.set i x) k = if i = k ∧ k < l.length then x else gt0 l k := by
  show (l.set i x).getD k 0 = _
  rw [List.getD_eq_getElem?_getD, List.getElem?_set]
  by_cases h : i = k
  · subst h
    by_cases h2 : i < l.length
    · simp [h2]
    · simp [h2, gt0, List.getD_eq_getElem?_getD]
  · simp [h, gt0, List.getD_eq_getElem?_getD]
def revS (l : List Int) : Nat → List Int
  | 0 => l
  | i + 1 => ((revS l i).set i (gt0 (revS l i) (l.length - 1 - i))).set (l.length - 1 - i) (gt0 (revS l i) i)
theorem revS_len (l : List Int) (i : Nat) : (revS l i).length = l.length := by
  induction i with
  | zero => rfl
  | succ i ih => simp [revS, ih]
theorem revS_get (l : List Int) (i : Nat) (h : 2 * i ≤ l.length) (k : Nat) (hk : k < l.length) : gt0 (revS l i) k = if k < i ∨ l.length ≤ k + i then gt0 l (l.length - 1 - k) else gt0 l k := by
  induction i generalizing k with
  | zero => rw [if_neg (by omega)]; rfl
  | succ i ih =>
    have h1 := ih (by omega) k hk
    have h2 := ih (by omega) i (by omega)
    have h3 := ih (by omega) (l.length - 1 - i) (by omega)
    rw [if_neg (by omega)] at h2 h3
    show gt0 (((revS l i).set i _).set (l.length - 1 - i) _) k = _
    rw [gt0_set, gt0_set, List.length_set, revS_len, h1, h2, h3]
    by_cases e1 : l.length - 1 - i = k
    · rw [if_pos ⟨e1, hk⟩, if_pos (by omega)]
      congr 1; omega
    · rw [if_neg (by omega)]
      by_cases e2 : i = k
      · subst e2
        rw [if_pos ⟨rfl, hk⟩, if_pos (by omega)]
      · rw [if_neg (by omega)]
        by_cases e3 : k < i ∨ l.length ≤ k + i
        · rw [if_pos e3, if_pos (by omega)]
        · rw [if_neg e3, if_neg (by omega)]
theorem revS_all (l : List Int) (i : Nat) (h : 2 * i ≤ l.length) (h2 : l.length ≤ 2 * i + 1) : revS l i = l.reverse := by
  apply List.ext_getElem
  · rw [revS_len, List.length_reverse]
  · intro k hk1 hk2
    rw [revS_len] at hk1
    have e := revS_get l i h k hk1
    have g1 : gt0 (revS l i) k = (revS l i)[k] := by
      show (revS l i).getD k 0 = _
      rw [List.getD_eq_getElem?_getD, List.getElem?_eq_getElem (by rw [revS_len]; exact hk1)]; rfl
    have g2 : ∀ j (hj : j < l.length), gt0 l j = l[j] := fun j hj => by
      show l.getD j 0 = _
      rw [List.getD_eq_getElem?_getD, List.getElem?_eq_getElem hj]; rfl
    rw [← g1, e, List.getElem_reverse, ← g2]
    split
    · rfl
    · congr 1; omega
section
variable {P : Program} {ops : Array Oper} {Q : Exit → Act → World → Prop} {HS : List Hl} {n : Nat} {L : FL} {w0 : World} {H : List Hl} {i : Nat} {ord : List Mv} {t : TypeId} {x y : Operand} {ty : TypeId} {pos : String} {af : Array Edge}
theorem RF.storeB {ls : List Int} {b : Int} {H' : List Hl} {v : Value} {e : TypeId} {m : Int} (ho : ops[i]? = some ⟨none, .store t x y, ty, pos, af, none⟩) (hx : evO L x = some (elA v 1 m 0)) (hy : evO L y = some (.int .u8 b)) (hu : Upd (Hl.rw v e cB 1 ls) (Hl.rw v e cB 1 (ls.set m.toNat b)) H H') (hm : 0 ≤ m ∧ m < ls.length) (hs : scalarB P t = true) (hl : lateF .any ops i = true) (h : RF P ops Q HS n L w0 H' ord) :
    RF P ops Q HS n L w0 H (.go i :: ord) := RF.act h ho rfl rfl (x_storeEl (f := cB) (b := b) hx hy rfl hu hm (fun _ => rfl) rfl rfl hs) hl
end
abbrev rwB (v : Sl) (l : List Int) : Hl := Hl.rw v.v 5 cB 1 l
theorem reverse_c (v : Sl) (l : List Int) (hl : l.length ≤ 1000000) : ContU Tryz.prog (rwB v l) 204 [v.v] (fun _ : Unit => True) (fun _ => .tuple #[]) (fun _ => [rwB v l.reverse]) := fun w0 HR w hw => by
  refine enterU Tryz.func204 rfl rfl rfl hw ?_
  repeat' (first
    | (refine nxV ?_)
    | (show RS _ _ _ _ _ _ _ _; first | (refine nxRS ?_) | (refine nxRS1 fun _ => ?_))
    | (show RM _ _ _ _ _ _ _ _ _ _; first | (refine nxRM ?_) | (refine nxRM1 fun _ => ?_))
    | (refine nxG ?_)
    | (refine G.mixedA 3 [.go 0, .go 1, .go 2, .go 3, .go 4, .go 5, .go 6, .go 7, .go 8, .go 9, .go 10, .go 11, .go 12, .go 13, .go 14, .go 15] ?_)
    | (refine nxX ?_)
    | (refine G.condN rfl (fun hc => ?_) (fun hc => ?_) <;> (try first | exact False.elim hc | (exfalso; omega))))
  refine G.loop (ι := Nat × Int) (fun x => [(0, v.v), (2, .int .i64 (x.1 : Int)), (3, .int .i64 x.2)]) (fun x => rwB v (revS l x.1) :: HR) (fun x => 2 * x.1 ≤ l.length ∧ x.2 = (l.length : Int) - 1 - x.1) (fun x => l.length - x.1) (0, (l.length : Int) - 1) ⟨Nat.zero_le _, by dsimp only; omega⟩ ⟨rfl, rfl, rfl, trivial⟩ (fun w h => h) ?_
  rintro ⟨k, J⟩ mx ⟨g1, g2⟩ hmx
  dsimp only at g1 g2 hmx ⊢
  have hlen := revS_len l k
  rcases Nat.lt_or_ge (2 * k + 1) l.length with hk | hk
  · have e : ((revS l k).set (k : Int).toNat (nth (revS l k) J)).set J.toNat (nth (revS l k) (k : Int)) = revS l (k + 1) := by
      rw [nth_gt0, nth_gt0, show (k : Int).toNat = k by omega, show J.toNat = l.length - 1 - k by omega]; rfl
    generalize hcur : revS l k = cur at hlen e
    repeat' (first
    | (show RF _ _ _ _ _ _ _ _ _; refine RF.storeB (ls := cur) (b := nth cur J) (by rfl) (by rfl) (by rfl) (by exact updA) (by omega) (by decide +kernel) (by decide +kernel) ?_)
    | (show RF _ _ _ _ _ _ _ _ _; refine RF.storeB (ls := cur.set (k : Int).toNat (nth cur J)) (b := nth cur (k : Int)) (by rfl) (by rfl) (by rfl) (by exact updA) (by rw [List.length_set]; omega) (by decide +kernel) (by decide +kernel) ?_)
    | (refine G.mixedFH 3 [.go 0, .go 1, .go 2, .go 3, .go 4, .go 5, .go 6, .go 7, .go 8, .go 9, .go 10, .go 11, .go 12, .go 13, .go 14, .go 15] ?_)
    | (refine nxRF ?_)
    | (refine nxVF ?_)
    | (refine nxV ?_)
    | (show RS _ _ _ _ _ _ _ _; first | (refine nxRS ?_) | (refine nxRS1 fun _ => ?_))
    | (show RM _ _ _ _ _ _ _ _ _ _; first | (refine nxRM ?_) | (refine nxRM1 fun _ => ?_))
    | (refine nxG ?_)
    | (refine nxX ?_)
    | (refine G.condN rfl (fun hc => ?_) (fun hc => ?_) <;> (try first | exact False.elim hc | (exfalso; omega))))
    exact X.again (k + 1, J - 1) ⟨by dsimp only; omega, by dsimp only; omega⟩ (by dsimp only; omega) ⟨rfl, rfl, rfl, trivial⟩ (fun w h => e ▸ h)
  · have e := revS_all l k g1 (by omega)
    rw [e]
    repeat' (first
    | (refine nxV ?_)
    | (show RS _ _ _ _ _ _ _ _; first | (refine nxRS ?_) | (refine nxRS1 fun _ => ?_))
    | (show RM _ _ _ _ _ _ _ _ _ _; first | (refine nxRM ?_) | (refine nxRM1 fun _ => ?_))
    | (refine nxG ?_)
    | (refine G.mixedA 3 [.go 0, .go 1, .go 2, .go 3, .go 4, .go 5, .go 6, .go 7, .go 8, .go 9, .go 10, .go 11, .go 12, .go 13, .go 14, .go 15] ?_)
    | (refine nxX ?_)
    | (refine G.condN rfl (fun hc => ?_) (fun hc => ?_) <;> (try first | exact False.elim hc | (exfalso; omega))))
    refine X.endN rfl (fun w hw => ?_)
    exact ⟨(), trivial, rfl, hw⟩
end Go.Proofs.YtgmolcobhehoeaaGreatDoor
/- angle.text: an angle's text by a strings.Builder. -/
set_option linter.unusedVariables false
set_option maxHeartbeats 4000000
namespace Go.Proofs.YtgmolcobhehoeaaGreatDoor
open Go.RowKit

section
variable {P : Program} {n : Nat} {L : FL} {w0 : World} {H : List Hl} {Q : Exit → Act → World → Prop} {ops : Array Oper} {rest : List Oper} {dd : Nat} {ty : TypeId} {pos : String} {af : Array Edge} {gd : Option (Nat × Bool)} {ι : Type}
/-- The first write into a fresh builder: its buffer is nil. -/
theorem RS.callW0 {X2 : Hl} {A B : List Hl} {f : FuncId} {xs : List Operand} {vs : List Value} {tys : Array TypeId} {post : ι → Prop} {v : ι → Value} {Y : ι → List Hl} (hc : ContW P (bldR ⟨none, 0, 0⟩ []) X2 f vs post v Y) (ha : AE L xs vs) (h : ∀ z, post z → RS P ops Q n ((dd, v z) :: L) w0 (Y z ++ (A ++ B)) rest)
    (hA : At X2 A B H := by first | exact .here | exact .there .here | exact .there (.there .here) | exact .there (.there (.there .here)) | exact .there (.there (.there (.there .here))))
    (hg : isGo P f = true := by decide +kernel) (hd : Nat.blt dd n = true := by rfl) :
    RS P ops Q n L w0 H (⟨some dd, .call { callee := .value (.func f), args := xs.toArray, argTypes := tys }, ty, pos, af, none⟩ :: rest) := RS.actX (post := post) (L' := fun z => (dd, v z) :: L) (H' := fun z => Y z ++ (A ++ B)) rfl (fun a w hfr hw K Q hK => by
      unfold Oper.wp
      rw [run_call hfr ha hg]
      have h2 := (St.front hA hw).nilRow 5 cU 1
      refine (hc w0 (A ++ B) w h2).mono ?_
      rintro e w' ⟨z, hz, rfl, hs⟩
      exact hK _ _ ⟨z, hz, hfr.put (by simpa [Nat.blt_eq] using hd), hs⟩) h
end
def padL (n k : Int) : List UInt8 := Lib.repeatL [48] (max 0 (k - (Lib.itoa n).length)).toNat ++ Lib.itoa n
theorem pad_len {n k : Int} (h : -9223372036854775808 ≤ n ∧ n ≤ 9223372036854775807) (hk : k ≤ 10) : (padL n k).length ≤ 30 := by
  have := itoa_len h
  unfold padL
  rw [List.length_append, Lib.repeatL_length]
  simp; omega
theorem padded_c {n k : Int} (h : (-9223372036854775808 ≤ n ∧ n ≤ 9223372036854775807) ∧ 0 ≤ k ∧ k ≤ 10) : ContIn Tryz.prog LaidC 154 [.int .i64 n, .int .i64 k] (strV (padL n k)) := fun w hI => by
  have hl := itoa_len h.1
  have h1 := itoaC_c h.1
  have hr : (Lib.repeatL [48] (max 0 (k - (Lib.itoa n).length)).toNat).length ≤ 10 := by rw [Lib.repeatL_length]; simp; omega
  refine enter0 Tryz.func154 rfl rfl rfl ?_
  repeat' (first
    | (show YK _ _ _ _ _ ⟨_, .call { callee := .builtin .len, args := _, argTypes := #[9] }, _, _, _, _⟩ _; refine YK.ofV (y_lenS (by rfl) StrTy.is) ?_)
    | (show VK _ _ _ _ _ ⟨_, .call { callee := .builtin .len, args := _, argTypes := #[9] }, _, _, _, _⟩ _; refine VK.mk (y_lenS (by rfl) StrTy.is) ?_)
    | (show YG _ _ _ _ _ _ ⟨_, .call { callee := .builtin .len, args := _, argTypes := #[9] }, _, _, _, _⟩ _; refine YG.mk (fun hb => by (try (have hc := And.left hb; have hb := And.right hb; rw [hc])); (try rw [hb]); exact V.y (y_lenS (by rfl) StrTy.is)) ?_)
    | (show VG _ _ _ _ _ _ ⟨_, .call { callee := .builtin .len, args := _, argTypes := #[9] }, _, _, _, _⟩ _; refine VG.mk (fun hb => by (try (have hc := And.left hb; have hb := And.right hb; rw [hc])); (try rw [hb]); exact y_lenS (by rfl) StrTy.is) ?_)
    | (show YK _ _ _ _ _ _ _; first | refine YK.mk (y_callIn (h1) (fun _ hw => hI.keep hw.ext) ⟨rfl, rfl⟩ (by decide +kernel)) ?_ | refine YK.mk (y_callA (repeat_c [48] (m := max 0 (k - (Lib.itoa n).length)) (by omega) (by decide)) ⟨rfl, rfl, rfl⟩) ?_)
    | (show YK _ _ _ _ _ _ _; refine YK.ofV vAuto ?_)
    | (show VK _ _ _ _ _ _ _; refine VK.mk vAuto ?_)
    | (show RS _ _ _ _ _ _ _ _; first | (refine nxRS ?_) | (refine nxRS1 fun _ => ?_))
    | (show RM _ _ _ _ _ _ _ _ _ _; first | (refine nxRM ?_) | (refine nxRM1 fun _ => ?_))
    | (show YG _ _ _ _ _ _ _ _; refine YG.mk (fun hb => by (try (have hc := And.left hb; have hb := And.right hb; rw [hc])); (try rw [hb]); first | exact (y_callIn (h1) (fun _ hw => hI.keep hw.ext) ⟨rfl, rfl⟩ (by decide +kernel)) | exact (y_callA (repeat_c [48] (m := max 0 (k - (Lib.itoa n).length)) (by omega) (by decide)) ⟨rfl, rfl, rfl⟩) | exact V.y vAuto) ?_)
    | (show VG _ _ _ _ _ _ _ _; refine VG.mk (fun hb => by (try (have hc := And.left hb; have hb := And.right hb; rw [hc])); (try rw [hb]); exact vAuto) ?_)
    | (refine nxVS ?_)
    | (refine nxGS ?_)
    | (refine nxX ?_)
    | (refine G.condN rfl (fun hc => ?_) (fun hc => ?_) <;> (try first | exact False.elim hc | (exfalso; omega))))
  exact X.ret (vs := [_]) rfl ⟨rfl, rfl⟩ rfl (fun w hw => ⟨rfl, hw.ext⟩)
def angHead (n : Int) : List UInt8 := Lib.itoa (n / 60000) ++ [45] ++ padL (n % 60000 / 1000) 2 ++ [46]
def angRest (n : Int) : List UInt8 := if n % 1000 % 100 = 0 then Lib.itoa (n % 1000 / 100) else padL (n % 1000) 3
theorem text_p {n : Int} (h : 0 ≤ n ∧ n ≤ 1099511627776) : ContIn Tryz.prog LaidC 102 [.int .i64 n] (strV (angHead n ++ angRest n)) := fun w hI => by
  have i1 := itoaC_c (n := n / 60000) (by omega)
  have i2 := padded_c (n := n % 60000 / 1000) (k := 2) (by omega)
  have i3 := itoaC_c (n := n % 1000 / 100) (by omega)
  have i4 := padded_c (n := n % 1000) (k := 3) (by omega)
  have l1 := itoa_len (n := n / 60000) (by omega)
  have l2 := pad_len (n := n % 60000 / 1000) (k := 2) (by omega) (by omega)
  have l3 := itoa_len (n := n % 1000 / 100) (by omega)
  have l4 := pad_len (n := n % 1000) (k := 3) (by omega) (by omega)
  have e1 : (angHead n).length ≤ 100 := by simp only [angHead, List.length_append, List.length_singleton]; omega
  have w1 := fun b => writeS_c b (.pointer none) (.inl rfl) ⟨none, 0, 0⟩ [] (angHead n) (by simp only [List.length_nil]; omega)
  have w2 := fun b z => writeS_c b (pB b) (.inr rfl) z (angHead n) (Lib.itoa (n % 1000 / 100)) (by omega)
  have w3 := fun b z => writeS_c b (pB b) (.inr rfl) z (angHead n) (padL (n % 1000) 3) (by omega)
  unfold angHead angRest at *
  refine enter0 Tryz.func102 rfl rfl rfl ?_
  repeat' (first
    | (show YK _ _ _ _ _ ⟨_, .call { callee := .builtin .len, args := _, argTypes := #[9] }, _, _, _, _⟩ _; refine YK.ofV (y_lenS (by rfl) StrTy.is) ?_)
    | (show VK _ _ _ _ _ ⟨_, .call { callee := .builtin .len, args := _, argTypes := #[9] }, _, _, _, _⟩ _; refine VK.mk (y_lenS (by rfl) StrTy.is) ?_)
    | (show YG _ _ _ _ _ _ ⟨_, .call { callee := .builtin .len, args := _, argTypes := #[9] }, _, _, _, _⟩ _; refine YG.mk (fun hb => by (try (have hc := And.left hb; have hb := And.right hb; rw [hc])); (try rw [hb]); exact V.y (y_lenS (by rfl) StrTy.is)) ?_)
    | (show VG _ _ _ _ _ _ ⟨_, .call { callee := .builtin .len, args := _, argTypes := #[9] }, _, _, _, _⟩ _; refine VG.mk (fun hb => by (try (have hc := And.left hb; have hb := And.right hb; rw [hc])); (try rw [hb]); exact y_lenS (by rfl) StrTy.is) ?_)
    | (refine RS.callW0 (w1 _) ⟨rfl, rfl, rfl⟩ ?_; rintro z1 _; dsimp only [List.cons_append, List.nil_append])
    | (refine RS.callW (w2 _ _) ⟨rfl, rfl, rfl⟩ ?_; rintro z2 _; dsimp only [List.cons_append, List.nil_append])
    | (refine RS.callW (w3 _ _) ⟨rfl, rfl, rfl⟩ ?_; rintro z2 _; dsimp only [List.cons_append, List.nil_append])
    | (refine RS.string ?_ (.inr rfl) (List.Mem.head _) (List.Mem.tail _ (List.Mem.head _)) ⟨rfl, rfl⟩)
    | (show YK _ _ _ _ _ _ _; first | refine YK.mk (y_callIn (i1) (fun _ hw => hI.keep hw.ext) ⟨rfl, rfl⟩ (by decide +kernel)) ?_ | refine YK.mk (y_callIn (i2) (fun _ hw => hI.keep hw.ext) ⟨rfl, rfl, rfl⟩ (by decide +kernel)) ?_ | refine YK.mk (y_callIn (i3) (fun _ hw => hI.keep hw.ext) ⟨rfl, rfl⟩ (by decide +kernel)) ?_ | refine YK.mk (y_callIn (i4) (fun _ hw => hI.keep hw.ext) ⟨rfl, rfl, rfl⟩ (by decide +kernel)) ?_)
    | (show YK _ _ _ _ _ _ _; refine YK.ofV vAuto ?_)
    | (show VK _ _ _ _ _ _ _; refine VK.mk vAuto ?_)
    | (show RS _ _ _ _ _ _ _ _; first | (refine nxRS ?_) | (refine nxRS1 fun _ => ?_))
    | (show RM _ _ _ _ _ _ _ _ _ _; first | (refine nxRM ?_) | (refine nxRM1 fun _ => ?_))
    | (show YG _ _ _ _ _ _ _ _; refine YG.mk (fun hb => by (try (have hc := And.left hb; have hb := And.right hb; rw [hc])); (try rw [hb]); first | exact (y_callIn (i1) (fun _ hw => hI.keep hw.ext) ⟨rfl, rfl⟩ (by decide +kernel)) | exact (y_callIn (i2) (fun _ hw => hI.keep hw.ext) ⟨rfl, rfl, rfl⟩ (by decide +kernel)) | exact (y_callIn (i3) (fun _ hw => hI.keep hw.ext) ⟨rfl, rfl⟩ (by decide +kernel)) | exact (y_callIn (i4) (fun _ hw => hI.keep hw.ext) ⟨rfl, rfl, rfl⟩ (by decide +kernel)) | exact V.y vAuto) ?_)
    | (show VG _ _ _ _ _ _ _ _; refine VG.mk (fun hb => by (try (have hc := And.left hb; have hb := And.right hb; rw [hc])); (try rw [hb]); exact vAuto) ?_)
    | (refine nxVS ?_)
    | (refine nxGS ?_)
    | (refine nxX ?_)
    | (refine G.condN rfl (fun hc => ?_) (fun hc => ?_) <;> (try first | exact False.elim hc | (exfalso; omega))))
  · rw [if_pos hc]; exact X.ret (vs := [_]) rfl ⟨rfl, rfl⟩ rfl (fun w hw => ⟨rfl, hw.ext⟩)
  · rw [if_neg hc]; exact X.ret (vs := [_]) rfl ⟨rfl, rfl⟩ rfl (fun w hw => ⟨rfl, hw.ext⟩)
theorem text_m {n m : Int} (hm : m = -n) (h : 0 < m ∧ m ≤ 1099511627776) : ContIn Tryz.prog LaidC 102 [.int .i64 n] (strV ([45] ++ angHead m ++ angRest m)) := fun w hI => by
  have i1 := itoaC_c (n := m / 60000) (by omega)
  have i2 := padded_c (n := m % 60000 / 1000) (k := 2) (by omega)
  have i3 := itoaC_c (n := m % 1000 / 100) (by omega)
  have i4 := padded_c (n := m % 1000) (k := 3) (by omega)
  have l1 := itoa_len (n := m / 60000) (by omega)
  have l2 := pad_len (n := m % 60000 / 1000) (k := 2) (by omega) (by omega)
  have l3 := itoa_len (n := m % 1000 / 100) (by omega)
  have l4 := pad_len (n := m % 1000) (k := 3) (by omega) (by omega)
  have e1 : (angHead m).length ≤ 100 := by simp only [angHead, List.length_append, List.length_singleton]; omega
  have w0' := fun b => writeB_c b (.pointer none) (.inl rfl) ⟨none, 0, 0⟩ [] 45 (by simp)
  have w1 := fun b z => writeS_c b (pB b) (.inr rfl) z [45] (angHead m) (by simp only [List.length_singleton]; omega)
  have w2 := fun b z => writeS_c b (pB b) (.inr rfl) z ([45] ++ angHead m) (Lib.itoa (m % 1000 / 100)) (by simp only [List.length_append, List.length_singleton]; omega)
  have w3 := fun b z => writeS_c b (pB b) (.inr rfl) z ([45] ++ angHead m) (padL (m % 1000) 3) (by simp only [List.length_append, List.length_singleton]; omega)
  unfold angHead angRest at *
  subst hm
  refine enter0 Tryz.func102 rfl rfl rfl ?_
  repeat' (first
    | (show YK _ _ _ _ _ ⟨_, .call { callee := .builtin .len, args := _, argTypes := #[9] }, _, _, _, _⟩ _; refine YK.ofV (y_lenS (by rfl) StrTy.is) ?_)
    | (show VK _ _ _ _ _ ⟨_, .call { callee := .builtin .len, args := _, argTypes := #[9] }, _, _, _, _⟩ _; refine VK.mk (y_lenS (by rfl) StrTy.is) ?_)
    | (show YG _ _ _ _ _ _ ⟨_, .call { callee := .builtin .len, args := _, argTypes := #[9] }, _, _, _, _⟩ _; refine YG.mk (fun hb => by (try (have hc := And.left hb; have hb := And.right hb; rw [hc])); (try rw [hb]); exact V.y (y_lenS (by rfl) StrTy.is)) ?_)
    | (show VG _ _ _ _ _ _ ⟨_, .call { callee := .builtin .len, args := _, argTypes := #[9] }, _, _, _, _⟩ _; refine VG.mk (fun hb => by (try (have hc := And.left hb; have hb := And.right hb; rw [hc])); (try rw [hb]); exact y_lenS (by rfl) StrTy.is) ?_)
    | (refine RS.callW0 (w0' _) ⟨rfl, rfl, rfl⟩ ?_; rintro z0 _; dsimp only [List.cons_append, List.nil_append])
    | (refine RS.callW (w1 _ _) ⟨rfl, rfl, rfl⟩ ?_; rintro z1 _; dsimp only [List.cons_append, List.nil_append])
    | (refine RS.callW (w2 _ _) ⟨rfl, rfl, rfl⟩ ?_; rintro z2 _; dsimp only [List.cons_append, List.nil_append])
    | (refine RS.callW (w3 _ _) ⟨rfl, rfl, rfl⟩ ?_; rintro z2 _; dsimp only [List.cons_append, List.nil_append])
    | (refine RS.string ?_ (.inr rfl) (List.Mem.head _) (List.Mem.tail _ (List.Mem.head _)) ⟨rfl, rfl⟩)
    | (show YK _ _ _ _ _ _ _; first | refine YK.mk (y_callIn (i1) (fun _ hw => hI.keep hw.ext) ⟨rfl, rfl⟩ (by decide +kernel)) ?_ | refine YK.mk (y_callIn (i2) (fun _ hw => hI.keep hw.ext) ⟨rfl, rfl, rfl⟩ (by decide +kernel)) ?_ | refine YK.mk (y_callIn (i3) (fun _ hw => hI.keep hw.ext) ⟨rfl, rfl⟩ (by decide +kernel)) ?_ | refine YK.mk (y_callIn (i4) (fun _ hw => hI.keep hw.ext) ⟨rfl, rfl, rfl⟩ (by decide +kernel)) ?_)
    | (show YK _ _ _ _ _ _ _; refine YK.ofV vAuto ?_)
    | (show VK _ _ _ _ _ _ _; refine VK.mk vAuto ?_)
    | (show RS _ _ _ _ _ _ _ _; first | (refine nxRS ?_) | (refine nxRS1 fun _ => ?_))
    | (show RM _ _ _ _ _ _ _ _ _ _; first | (refine nxRM ?_) | (refine nxRM1 fun _ => ?_))
    | (show YG _ _ _ _ _ _ _ _; refine YG.mk (fun hb => by (try (have hc := And.left hb; have hb := And.right hb; rw [hc])); (try rw [hb]); first | exact (y_callIn (i1) (fun _ hw => hI.keep hw.ext) ⟨rfl, rfl⟩ (by decide +kernel)) | exact (y_callIn (i2) (fun _ hw => hI.keep hw.ext) ⟨rfl, rfl, rfl⟩ (by decide +kernel)) | exact (y_callIn (i3) (fun _ hw => hI.keep hw.ext) ⟨rfl, rfl⟩ (by decide +kernel)) | exact (y_callIn (i4) (fun _ hw => hI.keep hw.ext) ⟨rfl, rfl, rfl⟩ (by decide +kernel)) | exact V.y vAuto) ?_)
    | (show VG _ _ _ _ _ _ _ _; refine VG.mk (fun hb => by (try (have hc := And.left hb; have hb := And.right hb; rw [hc])); (try rw [hb]); exact vAuto) ?_)
    | (refine nxVS ?_)
    | (refine nxGS ?_)
    | (refine nxX ?_)
    | (refine G.condN rfl (fun hc => ?_) (fun hc => ?_) <;> (try first | exact False.elim hc | (exfalso; omega))))
  · rw [if_pos hc]; exact X.ret (vs := [_]) rfl ⟨rfl, rfl⟩ rfl (fun w hw => ⟨rfl, hw.ext⟩)
  · rw [if_neg hc]; exact X.ret (vs := [_]) rfl ⟨rfl, rfl⟩ rfl (fun w hw => ⟨rfl, hw.ext⟩)
def angL (n : Int) : List UInt8 := if n < 0 then [45] ++ angHead (-n) ++ angRest (-n) else angHead n ++ angRest n
theorem angH_len {n : Int} (h : 0 ≤ n ∧ n ≤ 1099511627776) : (angHead n).length ≤ 70 ∧ (angRest n).length ≤ 30 := by
  have l1 := itoa_len (n := n / 60000) (by omega)
  have l2 := pad_len (n := n % 60000 / 1000) (k := 2) (by omega) (by omega)
  have l3 := itoa_len (n := n % 1000 / 100) (by omega)
  have l4 := pad_len (n := n % 1000) (k := 3) (by omega) (by omega)
  refine ⟨by simp only [angHead, List.length_append, List.length_singleton]; omega, ?_⟩
  unfold angRest
  split <;> omega
theorem angL_len {n : Int} (h : -1099511627776 ≤ n ∧ n ≤ 1099511627776) : (angL n).length ≤ 110 := by
  unfold angL
  split
  · have := angH_len (n := -n) (by omega)
    simp only [List.length_append, List.length_singleton]; omega
  · have := angH_len (n := n) (by omega)
    simp only [List.length_append]; omega
theorem atext_c {n : Int} (h : -1099511627776 ≤ n ∧ n ≤ 1099511627776) : ContIn Tryz.prog LaidC 102 [.int .i64 n] (strV (angL n)) := by
  unfold angL
  split
  · exact text_m rfl (by omega)
  · exact text_p (by omega)
theorem fits_c {n : Int} (h : -1099511627776 ≤ n ∧ n ≤ 1099511627776) : Cont Tryz.prog 101 [.int .i64 n] (.bool true) := fun w => by
  refine enter0 Tryz.func101 rfl rfl rfl ?_
  repeat' (first
    | (refine nxV ?_)
    | (show RS _ _ _ _ _ _ _ _; first | (refine nxRS ?_) | (refine nxRS1 fun _ => ?_))
    | (show RM _ _ _ _ _ _ _ _ _ _; first | (refine nxRM ?_) | (refine nxRM1 fun _ => ?_))
    | (refine nxG ?_)
    | (refine nxX ?_)
    | (refine G.condN rfl (fun hc => ?_) (fun hc => ?_) <;> (try first | exact False.elim hc | (exfalso; omega))))
  exact X.ret (vs := [_]) rfl ⟨rfl, rfl⟩ rfl (fun w hw => ⟨ret_bool (by simp; omega), hw.ext⟩)
theorem aText_c {n : Int} (h : -1099511627776 ≤ n ∧ n ≤ 1099511627776) : ContIn Tryz.prog LaidC 57 [.int .i64 n] (.tuple [strV (angL n), .int .i64 0].toArray) := fun w hI => by
  have q1 := fits_c h
  have q2 := atext_c h
  generalize angL n = l at q2
  refine enter0 Tryz.func57 rfl rfl rfl ?_
  repeat' (first
    | (show YK _ _ _ _ _ _ _; first | refine YK.mk (y_callA (q1) ⟨rfl, rfl⟩) ?_ | refine YK.mk (y_callIn (q2) (fun _ hw => hI.keep hw.ext) ⟨rfl, rfl⟩ (by decide +kernel)) ?_)
    | (show YK _ _ _ _ _ _ _; refine YK.ofV vAuto ?_)
    | (show VK _ _ _ _ _ _ _; refine VK.mk vAuto ?_)
    | (show RS _ _ _ _ _ _ _ _; first | (refine nxRS ?_) | (refine nxRS1 fun _ => ?_))
    | (show RM _ _ _ _ _ _ _ _ _ _; first | (refine nxRM ?_) | (refine nxRM1 fun _ => ?_))
    | (show YG _ _ _ _ _ _ _ _; refine YG.mk (fun hb => by (try (have hc := And.left hb; have hb := And.right hb; rw [hc])); (try rw [hb]); first | exact (y_callA (q1) ⟨rfl, rfl⟩) | exact (y_callIn (q2) (fun _ hw => hI.keep hw.ext) ⟨rfl, rfl⟩ (by decide +kernel)) | exact V.y vAuto) ?_)
    | (show VG _ _ _ _ _ _ _ _; refine VG.mk (fun hb => by (try (have hc := And.left hb; have hb := And.right hb; rw [hc])); (try rw [hb]); exact vAuto) ?_)
    | (refine nxX ?_)
    | (refine G.condN rfl (fun hc => ?_) (fun hc => ?_) <;> (try first | exact False.elim hc | (exfalso; omega))))
  exact X.ret (vs := [_, _]) rfl ⟨rfl, rfl, rfl⟩ rfl (fun w hw => ⟨rfl, hw.ext⟩)
end Go.Proofs.YtgmolcobhehoeaaGreatDoor
/- catalogue.Valid, Between. -/
set_option linter.unusedVariables false
set_option maxHeartbeats 4000000
namespace Go.Proofs.YtgmolcobhehoeaaGreatDoor
open Go.RowKit

def okS (l : List StarT) (i : Nat) : Bool := nameB (nth l (i : Int)).1 && numB (nth l (i : Int)) && decide (idxS l (nth l (i : Int)).1 = (i : Int))
def validS (l : List StarT) : Bool := decide ((l.length : Int) ≤ 100) && (List.range l.length).all fun i => okS l i
abbrev namesOk (l : List StarT) : Prop := ∀ i : Nat, i < l.length → (nth l (i : Int)).1.length ≤ 1000000
theorem validS_t {l : List StarT} (h : validS l = true) : l.length ≤ 100 ∧ ∀ i : Nat, i < l.length → okS l i = true := by
  unfold validS at h
  simp only [Bool.and_eq_true, decide_eq_true_eq, List.all_eq_true] at h
  exact ⟨by omega, fun i hi => h.2 i (List.mem_range.2 hi)⟩
theorem validS_mk {l : List StarT} (h1 : l.length ≤ 100) (h2 : ∀ i : Nat, i < l.length → okS l i = true) : validS l = true := by
  unfold validS
  simp only [Bool.and_eq_true, decide_eq_true_eq, List.all_eq_true]
  exact ⟨by omega, fun i hi => h2 i (List.mem_range.1 hi)⟩
theorem validS_f {l : List StarT} {i : Nat} (hi : i < l.length) (h : okS l i = false) : validS l = false := by
  cases hv : validS l with
  | false => rfl
  | true =>
    have := (validS_t hv).2 i hi
    rw [h] at this; cases this
theorem valid_c (v : Value) (l : List StarT) (hl : l.length ≤ 9223372036854775807) (hn : l.length ≤ 100 → namesOk l) : ContR Tryz.prog [Hl.rd v cSt 4 l] 76 [v] (.bool (validS l)) := fun w hw0 => by
  by_cases h100 : 100 < l.length
  · have e : validS l = false := by
      cases hv : validS l with
      | false => rfl
      | true => have := (validS_t hv).1; omega
    refine enter Tryz.func76 rfl rfl rfl hw0 ?_
    repeat' (first
    | (refine nxV ?_)
    | (show RS _ _ _ _ _ _ _ _; first | (refine nxRS ?_) | (refine nxRS1 fun _ => ?_))
    | (show RM _ _ _ _ _ _ _ _ _ _; first | (refine nxRM ?_) | (refine nxRM1 fun _ => ?_))
    | (refine nxG ?_)
    | (refine nxX ?_)
    | (refine G.condN rfl (fun hc => ?_) (fun hc => ?_) <;> (try first | exact False.elim hc | (exfalso; omega))))
    exact X.ret (vs := [_]) rfl ⟨rfl, rfl⟩ rfl (fun w hw => ⟨ret_bool e.symm, hw.ext⟩)
  · have hn' := hn (by omega)
    refine enter Tryz.func76 rfl rfl rfl hw0 ?_
    repeat' (first
    | (refine nxV ?_)
    | (show RS _ _ _ _ _ _ _ _; first | (refine nxRS ?_) | (refine nxRS1 fun _ => ?_))
    | (show RM _ _ _ _ _ _ _ _ _ _; first | (refine nxRM ?_) | (refine nxRM1 fun _ => ?_))
    | (refine nxG ?_)
    | (refine nxX ?_)
    | (refine G.condN rfl (fun hc => ?_) (fun hc => ?_) <;> (try first | exact False.elim hc | (exfalso; omega))))
    refine G.loop (ι := Nat) (fun i => [(0, v), (8, v), (9, .int .i64 l.length), (10, .int .i64 (i : Int))]) (fun _ => [Hl.rd v cSt 4 l]) (fun i => i ≤ l.length ∧ ∀ k : Nat, k < i → okS l k = true) (fun i => l.length - i) 0 ⟨Nat.zero_le _, fun k hk => by omega⟩ ⟨rfl, rfl, rfl, rfl, trivial⟩ (by exact fun w h => h.sub (by repeat (first | exact List.Sublist.refl _ | apply List.Sublist.cons_cons | apply List.Sublist.cons))) ?_
    rintro i mx ⟨g1, g2⟩ hmx
    rcases Nat.lt_or_ge i l.length with hi | hi
    · have q1 := isName_c (nth l (i : Int)).1 (hn' i hi)
      have q2 := numbers_c (nth l (i : Int))
      have q3 := index_c (nth l (i : Int)).1 v l (by omega)
      have hok : okS l i = (nameB (nth l (i : Int)).1 && numB (nth l (i : Int)) && decide (idxS l (nth l (i : Int)).1 = (i : Int))) := rfl
      generalize nameB (nth l (i : Int)).1 = b1 at q1 hok
      generalize numB (nth l (i : Int)) = b2 at q2 hok
      generalize idxS l (nth l (i : Int)).1 = b3 at q3 hok
      repeat' (first
    | (show YK _ _ _ _ _ ⟨_, .call { callee := .builtin .len, args := _, argTypes := #[9] }, _, _, _, _⟩ _; refine YK.ofV (y_lenS (by rfl) StrTy.is) ?_)
    | (show VK _ _ _ _ _ ⟨_, .call { callee := .builtin .len, args := _, argTypes := #[9] }, _, _, _, _⟩ _; refine VK.mk (y_lenS (by rfl) StrTy.is) ?_)
    | (show YG _ _ _ _ _ _ ⟨_, .call { callee := .builtin .len, args := _, argTypes := #[9] }, _, _, _, _⟩ _; refine YG.mk (fun hb => by (try (have hc := And.left hb; have hb := And.right hb; rw [hc])); (try rw [hb]); exact V.y (y_lenS (by rfl) StrTy.is)) ?_)
    | (show VG _ _ _ _ _ _ ⟨_, .call { callee := .builtin .len, args := _, argTypes := #[9] }, _, _, _, _⟩ _; refine VG.mk (fun hb => by (try (have hc := And.left hb; have hb := And.right hb; rw [hc])); (try rw [hb]); exact y_lenS (by rfl) StrTy.is) ?_)
    | (show YK _ _ _ _ _ _ _; first | refine YK.mk (y_callA (q1) ⟨rfl, rfl⟩) ?_ | refine YK.mk (y_callA (q2) ⟨rfl, rfl⟩) ?_ | refine YK.mk (y_callRA (q3) ⟨rfl, rfl, rfl⟩) ?_)
    | (show YK _ _ _ _ _ _ _; refine YK.ofV vAuto ?_)
    | (show VK _ _ _ _ _ _ _; refine VK.mk vAuto ?_)
    | (show RS _ _ _ _ _ _ _ _; first | (refine nxRS ?_) | (refine nxRS1 fun _ => ?_))
    | (show RM _ _ _ _ _ _ _ _ _ _; first | (refine nxRM ?_) | (refine nxRM1 fun _ => ?_))
    | (show YG _ _ _ _ _ _ _ _; refine YG.mk (fun hb => by (try (have hc := And.left hb; have hb := And.right hb; rw [hc])); (try rw [hb]); first | exact (y_callA (q1) ⟨rfl, rfl⟩) | exact (y_callA (q2) ⟨rfl, rfl⟩) | exact (y_callRA (q3) ⟨rfl, rfl, rfl⟩) | exact V.y vAuto) ?_)
    | (show VG _ _ _ _ _ _ _ _; refine VG.mk (fun hb => by (try (have hc := And.left hb; have hb := And.right hb; rw [hc])); (try rw [hb]); exact vAuto) ?_)
    | (refine nxVS ?_)
    | (refine nxGS ?_)
    | (refine nxX ?_)
    | (refine G.condN rfl (fun hc => ?_) (fun hc => ?_) <;> (try first | exact False.elim hc | (exfalso; omega))))
      · have hf : okS l i = false := by
          rw [hok]
          rcases hc with (h | h) | h
          · rw [h]; rfl
          · rw [h]; simp
          · rw [decide_eq_false h]; simp
        exact X.ret (vs := [_]) rfl ⟨rfl, rfl⟩ rfl (fun w hw => ⟨ret_bool (validS_f hi hf).symm, hw.ext⟩)
      · have ht : okS l i = true := by rw [hok, hc.1.1, hc.1.2, decide_eq_true hc.2]; rfl
        refine X.again (i + 1) ⟨by omega, fun k hk => ?_⟩ (by omega) ⟨rfl, rfl, rfl, rfl, trivial⟩ (by exact fun w h => h.sub (by repeat (first | exact List.Sublist.refl _ | apply List.Sublist.cons_cons | apply List.Sublist.cons)))
        rcases Nat.lt_or_ge k i with h | h
        · exact g2 k h
        · rw [show k = i by omega]; exact ht
    · repeat' (first
    | (refine nxV ?_)
    | (show RS _ _ _ _ _ _ _ _; first | (refine nxRS ?_) | (refine nxRS1 fun _ => ?_))
    | (show RM _ _ _ _ _ _ _ _ _ _; first | (refine nxRM ?_) | (refine nxRM1 fun _ => ?_))
    | (refine nxG ?_)
    | (refine nxX ?_)
    | (refine G.condN rfl (fun hc => ?_) (fun hc => ?_) <;> (try first | exact False.elim hc | (exfalso; omega))))
      exact X.ret (vs := [_]) rfl ⟨rfl, rfl⟩ rfl (fun w hw => ⟨ret_bool (validS_mk (by omega) (fun k hk => g2 k (by omega))).symm, hw.ext⟩)

theorem arc_c {n : Int} (h : -1000000000 ≤ n ∧ n ≤ 1000000000) : Cont Tryz.prog 80 [.int .i64 n] (.agg [.int .i64 (100 * n - 50), .int .i64 (100 * n + 50)].toArray) := fun w => by
  refine enter0 Tryz.func80 rfl rfl rfl ?_
  repeat' (first
    | (refine nxV ?_)
    | (show RS _ _ _ _ _ _ _ _; first | (refine nxRS ?_) | (refine nxRS1 fun _ => ?_))
    | (show RM _ _ _ _ _ _ _ _ _ _; first | (refine nxRM ?_) | (refine nxRM1 fun _ => ?_))
    | (refine nxG ?_)
    | (refine nxX ?_)
    | (refine G.condN rfl (fun hc => ?_) (fun hc => ?_) <;> (try first | exact False.elim hc | (exfalso; omega))))
  exact X.ret (vs := [_]) rfl ⟨⟨_, _, _, _, rfl, (by exact memA), (by (repeat (first | exact .nil | apply LenIs.cons))), by decide +kernel, rfl⟩, rfl⟩ rfl (fun w hw => ⟨rfl, hw.ext⟩)
def inB (l : List StarT) (so no : Int) (i : Nat) : Bool := decide (100 * (nth l (i : Int)).2.2.1 - 50 ≤ no) && decide (so ≤ 100 * (nth l (i : Int)).2.2.1 + 50)
def betL (l : List StarT) (so no : Int) (k : Nat) : List Int := ((List.range k).filter fun i => inB l so no i).map fun i : Nat => (i : Int)
theorem betL_succ (l : List StarT) (so no : Int) (k : Nat) : betL l so no (k + 1) = if inB l so no k = true then betL l so no k ++ [(k : Int)] else betL l so no k := by
  unfold betL
  rw [List.range_succ, List.filter_append, List.map_append]
  by_cases h : inB l so no k = true
  · rw [if_pos h]; simp [h]
  · rw [if_neg h]; simp [h]
theorem betL_len (l : List StarT) (so no : Int) (k : Nat) : (betL l so no k).length ≤ k := by
  unfold betL
  rw [List.length_map]
  exact Nat.le_trans (List.length_filter_le _ _) (by simp)
theorem num_of {l : List StarT} (h : validS l = true) {i : Nat} (hi : i < l.length) : (0 ≤ (nth l (i : Int)).2.1 ∧ (nth l (i : Int)).2.1 ≤ 215999) ∧ (-54000 ≤ (nth l (i : Int)).2.2.1 ∧ (nth l (i : Int)).2.2.1 ≤ 54000) ∧ -20 ≤ (nth l (i : Int)).2.2.2 ∧ (nth l (i : Int)).2.2.2 ≤ 150 := by
  have := (validS_t h).2 i hi
  simp only [okS, numB, Bool.and_eq_true, decide_eq_true_eq] at this
  omega
abbrev lstV (x : Sl) (e : Int) : Value := .tuple [x.v, .int .i64 e].toArray
end Go.Proofs.YtgmolcobhehoeaaGreatDoor
/- decimal.format of small numbers at one digit. -/
set_option linter.unusedVariables false
set_option maxHeartbeats 4000000
namespace Go.Proofs.YtgmolcobhehoeaaGreatDoor
open Go.RowKit

theorem RS.litB {P : Program} {ops : Array Oper} {Q : Exit → Act → World → Prop} {n : Nat} {L : FL} {w0 : World} {H : List Hl} {dd : Tmp} {ty : TypeId} {pos : String} {af : Array Edge} {t e : TypeId} {x : Operand} {c : Int} {rest : List Oper} (h : ∀ v' : Sl, RS P ops Q n ((dd, v'.v) :: L) w0 (Hl.rw v'.v e cB 1 [c] :: H) rest) (hx : evO L x = some (.int .u8 c)) (ht : rowTyB P t e 1 1 = true) (hd : Nat.blt dd n = true) :
    RS P ops Q n L w0 H (⟨some dd, .buildSlice t 1 #[(0, x)], ty, pos, af, none⟩ :: rest) := RS.actX rfl (x_lit (parts := [(0, x)]) (vs := [.int .u8 c]) (f := cB) (l := [c]) ⟨hx, rfl⟩ rfl rfl rfl rfl rfl rfl ht hd) fun v' _ => h v'
/-- One digit behind the point, from the right. -/
def decR (m : Int) : List Int := [48 + m % 10, 46, 48 + m / 10 % 10] ++ if 100 ≤ m then [48 + m / 100 % 10] else []
abbrev decI (m k mk : Int) (ls : List Int) : Prop := (k = 0 ∧ mk = m ∧ ls = []) ∨ (k = 1 ∧ mk = m / 10 ∧ ls = [48 + m % 10]) ∨ (k = 2 ∧ mk = m / 100 ∧ ls = [48 + m % 10, 46, 48 + m / 10 % 10]) ∨ (k = 3 ∧ mk = 0 ∧ 100 ≤ m ∧ ls = [48 + m % 10, 46, 48 + m / 10 % 10, 48 + m / 100 % 10])
def decL (n : Int) : List UInt8 := ((decR (max n (-n)) ++ if n < 0 then [45] else []).reverse).map fun x : Int => UInt8.ofNat x.toNat
theorem format_c {n : Int} (h : -999 ≤ n ∧ n ≤ 999) : Cont Tryz.prog 170 [.int .i64 n, .int .i64 1] (strV (decL n)) := fun w => by
  have hm : 0 ≤ max n (-n) ∧ max n (-n) ≤ 999 := by omega
  refine enter0 Tryz.func170 rfl rfl rfl ?_
  repeat' (first
    | (refine nxV ?_)
    | (show RS _ _ _ _ _ _ _ _; first | (refine nxRS ?_) | (refine nxRS1 fun _ => ?_))
    | (show RM _ _ _ _ _ _ _ _ _ _; first | (refine nxRM ?_) | (refine nxRM1 fun _ => ?_))
    | (refine nxG ?_)
    | (refine nxX ?_)
    | (refine G.condN rfl (fun hc => ?_) (fun hc => ?_) <;> (try first | exact False.elim hc | (exfalso; omega))))
  unfold decL
  generalize max n (-n) = m at hm
  refine G.loop (ι := Int × Int × List Int × Sl) (fun x => [(0, .int .i64 n), (1, .int .i64 1), (5, x.2.2.2.v), (6, .int .i64 x.2.1), (7, .int .i64 x.1)]) (fun x => [rwB x.2.2.2 x.2.2.1]) (fun x => decI m x.1 x.2.1 x.2.2.1) (fun x => (4 - x.1).toNat) (0, m, [], ⟨none, 0, 0⟩) (.inl ⟨rfl, rfl, rfl⟩) ⟨rfl, rfl, rfl, rfl, rfl, trivial⟩ (fun w h => h.nilRow 5 cB 1) ?_
  rintro ⟨k, mk, ls, z⟩ mx g1 hmx
  dsimp only at g1 hmx ⊢
  have g2 : (0 ≤ k ∧ k ≤ 3) ∧ (0 ≤ mk ∧ mk ≤ 999) := by rcases g1 with g | g | g | g <;> omega
  have g3 : ls.length ≤ 10 := by rcases g1 with g | g | g | g <;> simp [g]
  by_cases hcont : 0 < mk ∨ k ≤ 1
  · repeat' (first
    | (show RS _ _ _ _ _ _ _ (⟨_, .buildSlice _ _ _, _, _, _, _⟩ :: _); refine RS.litB (e := 5) ?_ (by rfl) (by decide +kernel) (by rfl); intro z2)
    | (refine nxV ?_)
    | (show RS _ _ _ _ _ _ _ _; first | (refine nxRS ?_) | (refine nxRS1 fun _ => ?_))
    | (show RM _ _ _ _ _ _ _ _ _ _; first | (refine nxRM ?_) | (refine nxRM1 fun _ => ?_))
    | (refine nxG ?_)
    | (refine nxX ?_)
    | (refine G.condN rfl (fun hc => ?_) (fun hc => ?_) <;> (try first | exact False.elim hc | (exfalso; omega))))
    · rename_i y
      refine X.again (k + 1, mk / 10, (ls ++ [46]) ++ [48 + mk % 10], y) ?_ (by dsimp only; omega) ⟨rfl, rfl, rfl, rfl, rfl, trivial⟩ (fun w h => by dsimp only; exact h.sub (by repeat (first | exact List.Sublist.refl _ | apply List.Sublist.cons_cons | apply List.Sublist.cons)))
      dsimp only
      rcases g1 with g | g | g | g
      · omega
      · obtain ⟨rfl, rfl, rfl⟩ := g
        exact .inr (.inr (.inl ⟨by omega, by omega, rfl⟩))
      · omega
      · omega
    · rename_i y
      refine X.again (k + 1, mk / 10, ls ++ [48 + mk % 10], y) ?_ (by dsimp only; omega) ⟨rfl, rfl, rfl, rfl, rfl, trivial⟩ (fun w h => by dsimp only; exact h.sub (by repeat (first | exact List.Sublist.refl _ | apply List.Sublist.cons_cons | apply List.Sublist.cons)))
      dsimp only
      rcases g1 with g | g | g | g
      · obtain ⟨rfl, rfl, rfl⟩ := g
        exact .inr (.inl ⟨by omega, rfl, rfl⟩)
      · omega
      · obtain ⟨rfl, rfl, rfl⟩ := g
        exact .inr (.inr (.inr ⟨by omega, by omega, by omega, rfl⟩))
      · omega
  · have er : ls = decR m := by
      rcases g1 with g | g | g | g
      · omega
      · omega
      · obtain ⟨_, h2, rfl⟩ := g
        unfold decR; rw [if_neg (by omega), List.append_nil]
      · obtain ⟨_, _, h2, rfl⟩ := g
        unfold decR; rw [if_pos h2]; rfl
    have hne : ls ≠ [] := by rw [er]; simp [decR]
    have q1 := fun x => reverse_c x ls (by omega)
    have q2 := fun x => reverse_c x (ls ++ [45]) (by simp; omega)
    have n1 : ls.reverse ≠ [] := by simpa using hne
    have n2 : (ls ++ [45]).reverse ≠ [] := by simp
    rw [← er]
    repeat' (first
    | (show RS _ _ _ _ _ _ _ (⟨_, .buildSlice _ _ _, _, _, _, _⟩ :: _); refine RS.litB (e := 5) ?_ (by rfl) (by decide +kernel) (by rfl); intro z2)
    | (refine RS.callU (q1 _) ⟨rfl, rfl⟩ ?_; rintro z3 _; dsimp only [List.cons_append, List.nil_append])
    | (refine RS.callU (q2 _) ⟨rfl, rfl⟩ ?_; rintro z3 _; dsimp only [List.cons_append, List.nil_append])
    | (show YK _ _ _ _ _ ⟨_, .convert _ 9 _, _, _, _, _⟩ _; refine YK.ofV (y_strOf (by rfl) (by exact rdA) Tryz.underlying92 Tryz.underlying5 Tryz.underlying9 n1) ?_)
    | (show YK _ _ _ _ _ ⟨_, .convert _ 9 _, _, _, _, _⟩ _; refine YK.ofV (y_strOf (by rfl) (by exact rdA) Tryz.underlying92 Tryz.underlying5 Tryz.underlying9 n2) ?_)
    | (refine nxV ?_)
    | (show RS _ _ _ _ _ _ _ _; first | (refine nxRS ?_) | (refine nxRS1 fun _ => ?_))
    | (show RM _ _ _ _ _ _ _ _ _ _; first | (refine nxRM ?_) | (refine nxRM1 fun _ => ?_))
    | (refine nxG ?_)
    | (refine nxX ?_)
    | (refine G.condN rfl (fun hc => ?_) (fun hc => ?_) <;> (try first | exact False.elim hc | (exfalso; omega))))
    · rw [if_pos hc]; exact X.ret (vs := [_]) rfl ⟨rfl, rfl⟩ rfl (fun w hw => ⟨rfl, hw.ext⟩)
    · rw [if_neg (by omega), List.append_nil]; exact X.ret (vs := [_]) rfl ⟨rfl, rfl⟩ rfl (fun w hw => ⟨rfl, hw.ext⟩)
end Go.Proofs.YtgmolcobhehoeaaGreatDoor
/- decimal.Format at one digit; catalogue.Text. -/
set_option linter.unusedVariables false
set_option maxHeartbeats 4000000
namespace Go.Proofs.YtgmolcobhehoeaaGreatDoor
open Go.RowKit

theorem big_c {n : Int} (h : -999 ≤ n ∧ n ≤ 999) : Cont Tryz.prog 169 [.int .i64 n] (.bool false) := fun w => by
  refine enter0 Tryz.func169 rfl rfl rfl ?_
  repeat' (first
    | (refine nxV ?_)
    | (show RS _ _ _ _ _ _ _ _; first | (refine nxRS ?_) | (refine nxRS1 fun _ => ?_))
    | (show RM _ _ _ _ _ _ _ _ _ _; first | (refine nxRM ?_) | (refine nxRM1 fun _ => ?_))
    | (refine nxG ?_)
    | (refine nxX ?_)
    | (refine G.condN rfl (fun hc => ?_) (fun hc => ?_) <;> (try first | exact False.elim hc | (exfalso; omega))))
  exact X.ret (vs := [_]) rfl ⟨rfl, rfl⟩ rfl (fun w hw => ⟨ret_bool (by simp; omega), hw.ext⟩)
theorem Format_c {n : Int} (h : -999 ≤ n ∧ n ≤ 999) : Cont Tryz.prog 120 [.int .i64 n, .int .i64 1] (.tuple [strV (decL n), .int .i64 0].toArray) := fun w => by
  have q1 := big_c h
  have q2 := format_c h
  generalize decL n = l at q2
  refine enter0 Tryz.func120 rfl rfl rfl ?_
  repeat' (first
    | (show YK _ _ _ _ _ _ _; first | refine YK.mk (y_callA (q1) ⟨rfl, rfl⟩) ?_ | refine YK.mk (y_callA (q2) ⟨rfl, rfl, rfl⟩) ?_)
    | (show YK _ _ _ _ _ _ _; refine YK.ofV vAuto ?_)
    | (show VK _ _ _ _ _ _ _; refine VK.mk vAuto ?_)
    | (show RS _ _ _ _ _ _ _ _; first | (refine nxRS ?_) | (refine nxRS1 fun _ => ?_))
    | (show RM _ _ _ _ _ _ _ _ _ _; first | (refine nxRM ?_) | (refine nxRM1 fun _ => ?_))
    | (show YG _ _ _ _ _ _ _ _; refine YG.mk (fun hb => by (try (have hc := And.left hb; have hb := And.right hb; rw [hc])); (try rw [hb]); first | exact (y_callA (q1) ⟨rfl, rfl⟩) | exact (y_callA (q2) ⟨rfl, rfl, rfl⟩) | exact V.y vAuto) ?_)
    | (show VG _ _ _ _ _ _ _ _; refine VG.mk (fun hb => by (try (have hc := And.left hb; have hb := And.right hb; rw [hc])); (try rw [hb]); exact vAuto) ?_)
    | (refine nxX ?_)
    | (refine G.condN rfl (fun hc => ?_) (fun hc => ?_) <;> (try first | exact False.elim hc | (exfalso; omega))))
  exact X.ret (vs := [_, _]) rfl ⟨rfl, rfl, rfl⟩ rfl (fun w hw => ⟨rfl, hw.ext⟩)
theorem decL_len (n : Int) : (decL n).length ≤ 5 := by
  unfold decL decR
  split <;> split <;> simp
def lineS (s : StarT) : List UInt8 := s.1 ++ [32] ++ angL (100 * s.2.1) ++ [32] ++ angL (100 * s.2.2.1) ++ [32] ++ decL s.2.2.2 ++ [10]
def catT (l : List StarT) : Nat → List UInt8
  | 0 => []
  | k + 1 => catT l k ++ lineS (nth l (k : Int))
theorem ctext_c (v : Value) (l : List StarT) (hv : validS l = true) (hnm : ∀ i : Nat, i < l.length → (nth l (i : Int)).1.length ≤ 60) : ContIn Tryz.prog (fun w => LaidC w ∧ RO w v 4 l.length (l.flatMap cSt)) 75 [v] (.tuple [strV (catT l l.length), .int .i64 0].toArray) := fun w hw0 => by
  have hI := hw0.1
  have hl := (validS_t hv).1
  have pv := valid_c v l (by omega) (fun _ i hi => by have := hnm i hi; omega)
  rw [hv] at pv
  refine enter Tryz.func75 rfl rfl rfl (Hp := [Hl.rd v cSt 4 l]) (fun h hm => by
    rcases List.mem_singleton.1 hm with rfl
    exact ⟨⟨hw0.2, fun h => by cases h⟩, rfl⟩) ?_
  repeat' (first
    | (show YK _ _ _ _ _ _ _; first | refine YK.mk (y_callRA (pv) ⟨rfl, rfl⟩) ?_)
    | (show YK _ _ _ _ _ _ _; refine YK.ofV vAuto ?_)
    | (show VK _ _ _ _ _ _ _; refine VK.mk vAuto ?_)
    | (show RS _ _ _ _ _ _ _ _; first | (refine nxRS ?_) | (refine nxRS1 fun _ => ?_))
    | (show RM _ _ _ _ _ _ _ _ _ _; first | (refine nxRM ?_) | (refine nxRM1 fun _ => ?_))
    | (show YG _ _ _ _ _ _ _ _; refine YG.mk (fun hb => by (try (have hc := And.left hb; have hb := And.right hb; rw [hc])); (try rw [hb]); first | exact (y_callRA (pv) ⟨rfl, rfl⟩) | exact V.y vAuto) ?_)
    | (show VG _ _ _ _ _ _ _ _; refine VG.mk (fun hb => by (try (have hc := And.left hb; have hb := And.right hb; rw [hc])); (try rw [hb]); exact vAuto) ?_)
    | (refine nxX ?_)
    | (refine G.condN rfl (fun hc => ?_) (fun hc => ?_) <;> (try first | exact False.elim hc | (exfalso; omega))))
  rename_i b2
  refine G.loop (ι := Nat × Value × Sl) (fun x => [(4, pB b2), (16, v), (17, .int .i64 l.length), (18, .int .i64 (x.1 : Int))]) (fun x => [bldB b2 x.2.1 x.2.2, bldR x.2.2 (catT l x.1), Hl.rd v cSt 4 l]) (fun x => (x.1 ≤ l.length ∧ (catT l x.1).length ≤ 300 * x.1) ∧ (x.2.1 = .pointer none ∨ x.2.1 = pB b2)) (fun x => l.length - x.1) (0, .pointer none, ⟨none, 0, 0⟩) ⟨⟨Nat.zero_le _, Nat.zero_le _⟩, .inl rfl⟩ ⟨rfl, rfl, rfl, rfl, trivial⟩ (fun w h => St.front (.there .here) (h.nilRow 5 cU 1)) ?_
  rintro ⟨k, p, z⟩ mx ⟨⟨g1, g3⟩, g2⟩ hmx
  dsimp only at g1 g2 g3 hmx ⊢
  rcases Nat.lt_or_ge k l.length with hk | hk
  · have hnum := num_of hv hk
    have hn6 := hnm k hk
    have q1 := aText_c (n := 100 * (nth l (k : Int)).2.1) (by omega)
    have q2 := aText_c (n := 100 * (nth l (k : Int)).2.2.1) (by omega)
    have q3 := Format_c (n := (nth l (k : Int)).2.2.2) (by omega)
    have l1 := angL_len (n := 100 * (nth l (k : Int)).2.1) (by omega)
    have l2 := angL_len (n := 100 * (nth l (k : Int)).2.2.1) (by omega)
    have l3 := decL_len (nth l (k : Int)).2.2.2
    have hln : (lineS (nth l (k : Int))).length ≤ 300 := by simp only [lineS, List.length_append, List.length_singleton]; omega
    have qw := writeS_c b2 p g2 z (catT l k) (lineS (nth l (k : Int))) (by omega)
    have hs : catT l (k + 1) = catT l k ++ lineS (nth l (k : Int)) := rfl
    have hsl : (catT l (k + 1)).length ≤ 300 * (k + 1) := by rw [hs, List.length_append]; omega
    rw [← hs] at qw
    generalize catT l (k + 1) = cn at qw hsl hs
    unfold lineS at qw
    repeat' (first
    | (show YK _ _ _ _ _ ⟨_, .call { callee := .builtin .len, args := _, argTypes := #[9] }, _, _, _, _⟩ _; refine YK.ofV (y_lenS (by rfl) StrTy.is) ?_)
    | (show VK _ _ _ _ _ ⟨_, .call { callee := .builtin .len, args := _, argTypes := #[9] }, _, _, _, _⟩ _; refine VK.mk (y_lenS (by rfl) StrTy.is) ?_)
    | (show YG _ _ _ _ _ _ ⟨_, .call { callee := .builtin .len, args := _, argTypes := #[9] }, _, _, _, _⟩ _; refine YG.mk (fun hb => by (try (have hc := And.left hb; have hb := And.right hb; rw [hc])); (try rw [hb]); exact V.y (y_lenS (by rfl) StrTy.is)) ?_)
    | (show VG _ _ _ _ _ _ ⟨_, .call { callee := .builtin .len, args := _, argTypes := #[9] }, _, _, _, _⟩ _; refine VG.mk (fun hb => by (try (have hc := And.left hb; have hb := And.right hb; rw [hc])); (try rw [hb]); exact y_lenS (by rfl) StrTy.is) ?_)
    | (refine RS.callW qw ⟨rfl, rfl, rfl⟩ ?_; rintro z1 _; dsimp only [List.cons_append, List.nil_append])
    | (show YK _ _ _ _ _ _ _; first | refine YK.mk (y_callIn (q1) (fun _ hw => hI.keep hw.ext) ⟨rfl, rfl⟩ (by decide +kernel)) ?_ | refine YK.mk (y_callIn (q2) (fun _ hw => hI.keep hw.ext) ⟨rfl, rfl⟩ (by decide +kernel)) ?_ | refine YK.mk (y_callA (q3) ⟨rfl, rfl, rfl⟩) ?_)
    | (show YK _ _ _ _ _ _ _; refine YK.ofV vAuto ?_)
    | (show VK _ _ _ _ _ _ _; refine VK.mk vAuto ?_)
    | (show RS _ _ _ _ _ _ _ _; first | (refine nxRS ?_) | (refine nxRS1 fun _ => ?_))
    | (show RM _ _ _ _ _ _ _ _ _ _; first | (refine nxRM ?_) | (refine nxRM1 fun _ => ?_))
    | (show YG _ _ _ _ _ _ _ _; refine YG.mk (fun hb => by (try (have hc := And.left hb; have hb := And.right hb; rw [hc])); (try rw [hb]); first | exact (y_callIn (q1) (fun _ hw => hI.keep hw.ext) ⟨rfl, rfl⟩ (by decide +kernel)) | exact (y_callIn (q2) (fun _ hw => hI.keep hw.ext) ⟨rfl, rfl⟩ (by decide +kernel)) | exact (y_callA (q3) ⟨rfl, rfl, rfl⟩) | exact V.y vAuto) ?_)
    | (show VG _ _ _ _ _ _ _ _; refine VG.mk (fun hb => by (try (have hc := And.left hb; have hb := And.right hb; rw [hc])); (try rw [hb]); exact vAuto) ?_)
    | (refine nxVS ?_)
    | (refine nxGS ?_)
    | (refine nxX ?_)
    | (refine G.condN rfl (fun hc => ?_) (fun hc => ?_) <;> (try first | exact False.elim hc | (exfalso; omega))))
    refine X.again (k + 1, pB b2, z1) ⟨⟨by dsimp only; omega, by dsimp only; rw [← show cn = catT l (k + 1) from hs]; exact hsl⟩, .inr rfl⟩ (by dsimp only; omega) ⟨rfl, rfl, rfl, rfl, trivial⟩ (fun w h => ?_)
    dsimp only
    rw [← show cn = catT l (k + 1) from hs]
    exact h.sub (by repeat (first | exact List.Sublist.refl _ | apply List.Sublist.cons_cons | apply List.Sublist.cons))
  · obtain rfl : k = l.length := by omega
    repeat' (first
    | (refine RS.string ?_ g2 (List.Mem.head _) (List.Mem.tail _ (List.Mem.head _)) ⟨rfl, rfl⟩)
    | (refine nxV ?_)
    | (show RS _ _ _ _ _ _ _ _; first | (refine nxRS ?_) | (refine nxRS1 fun _ => ?_))
    | (show RM _ _ _ _ _ _ _ _ _ _; first | (refine nxRM ?_) | (refine nxRM1 fun _ => ?_))
    | (refine nxG ?_)
    | (refine nxX ?_)
    | (refine G.condN rfl (fun hc => ?_) (fun hc => ?_) <;> (try first | exact False.elim hc | (exfalso; omega))))
    exact X.ret (vs := [_, _]) rfl ⟨rfl, rfl, rfl⟩ rfl (fun w hw => ⟨rfl, hw.ext⟩)
end Go.Proofs.YtgmolcobhehoeaaGreatDoor
/- The example's text, in plain Lean. -/
set_option linter.unusedVariables false
set_option maxHeartbeats 4000000
namespace Go.Proofs.YtgmolcobhehoeaaGreatDoor
open Go.RowKit
abbrev vega : StarT := ([86, 101, 103, 97], 48378, 23273, 0)
theorem vega_text : catT [vega] 1 = [86, 101, 103, 97, 32, 56, 48, 45, 51, 55, 46, 56, 32, 51, 56, 45, 52, 55, 46, 51, 32, 48, 46, 48, 10] := by decide +kernel
theorem vega_valid : validS [vega] = true := by decide +kernel
end Go.Proofs.YtgmolcobhehoeaaGreatDoor
/- awake of law 16. -/
set_option linter.unusedVariables false
set_option maxHeartbeats 4000000
namespace Go.Proofs.YtgmolcobhehoeaaGreatDoor
open Go.RowKit
theorem RS.lit1S {P : Program} {ops : Array Oper} {Q : Exit → Act → World → Prop} {n : Nat} {L : FL} {w0 : World} {H : List Hl} {dd : Tmp} {ty : TypeId} {pos : String} {af : Array Edge} {t e : TypeId} {bytes : Nat} {x : Operand} {a : StarT} {rest : List Oper} (h : ∀ v' : Sl, RS P ops Q n ((dd, v'.v) :: L) w0 (Hl.rw v'.v e cSt 4 [a] :: H) rest) (hx : evO L x = some (stV a) := by rfl) [ht : RowTy P t e 4 bytes] (hd : Nat.blt dd n = true := by rfl) :
    RS P ops Q n L w0 H (⟨some dd, .buildSlice t 1 #[(0, x)], ty, pos, af, none⟩ :: rest) := RS.actX rfl (x_litS (parts := [(0, x)]) (vs := [stV a]) (cs := cSt a) (f := cSt) (l := [a]) ⟨hx, rfl⟩ rfl rfl rfl rfl (fun zs hz => by
      match zs, hz with
      | [_, _, _, _], _ => rfl) rfl rfl rfl (rowTy_B ht.is) hd) fun v' _ => h v'
theorem awake16_c : ContIn Tryz.prog LaidC 28 [] (.bool true) := fun w hI => by
  have q1 := fun v => ctext_c v [vega] vega_valid (fun i hi => by
    have : i = 0 := by simpa using hi
    subst this; decide)
  have q2 := fun v => valid_c v [vega] (by decide) (fun _ i hi => by
    have : i = 0 := by simpa using hi
    subst this; decide)
  rw [vega_valid] at q2
  rw [show ([vega] : List StarT).length = 1 from rfl, vega_text] at q1
  refine enter0 Tryz.func28 rfl rfl rfl ?_
  repeat' (first
    | (show YK _ _ _ _ _ ⟨_, .call { callee := .builtin .len, args := _, argTypes := #[9] }, _, _, _, _⟩ _; refine YK.ofV (y_lenS (by rfl) StrTy.is) ?_)
    | (show VK _ _ _ _ _ ⟨_, .call { callee := .builtin .len, args := _, argTypes := #[9] }, _, _, _, _⟩ _; refine VK.mk (y_lenS (by rfl) StrTy.is) ?_)
    | (show YG _ _ _ _ _ _ ⟨_, .call { callee := .builtin .len, args := _, argTypes := #[9] }, _, _, _, _⟩ _; refine YG.mk (fun hb => by (try (have hc := And.left hb; have hb := And.right hb; rw [hc])); (try rw [hb]); exact V.y (y_lenS (by rfl) StrTy.is)) ?_)
    | (show VG _ _ _ _ _ _ ⟨_, .call { callee := .builtin .len, args := _, argTypes := #[9] }, _, _, _, _⟩ _; refine VG.mk (fun hb => by (try (have hc := And.left hb; have hb := And.right hb; rw [hc])); (try rw [hb]); exact y_lenS (by rfl) StrTy.is) ?_)
    | (show RS _ _ _ _ _ _ _ (⟨_, .buildSlice _ _ _, _, _, _, _⟩ :: _); refine RS.lit1S (a := vega) ?_; intro z1)
    | (refine YK.mk (y_callIn (xs := [.tmp 7]) (q1 z1.v) (fun w hw => ⟨hI.keep hw.ext, RO.of_row (hw.all (Hl.rw z1.v 118 cSt 4 [vega]) (List.Mem.head _))⟩) ⟨rfl, rfl⟩ (by decide +kernel)) ?_)
    | (show YK _ _ _ _ _ _ _; first | refine YK.mk (y_callRA (q2 z1.v) ⟨rfl, rfl⟩) ?_)
    | (show YK _ _ _ _ _ _ _; refine YK.ofV vAuto ?_)
    | (show VK _ _ _ _ _ _ _; refine VK.mk vAuto ?_)
    | (show RS _ _ _ _ _ _ _ _; first | (refine nxRS ?_) | (refine nxRS1 fun _ => ?_))
    | (show RM _ _ _ _ _ _ _ _ _ _; first | (refine nxRM ?_) | (refine nxRM1 fun _ => ?_))
    | (show YG _ _ _ _ _ _ _ _; refine YG.mk (fun hb => by (try (have hc := And.left hb; have hb := And.right hb; rw [hc])); (try rw [hb]); first | exact (y_callRA (q2 z1.v) ⟨rfl, rfl⟩) | exact V.y vAuto) ?_)
    | (show VG _ _ _ _ _ _ _ _; refine VG.mk (fun hb => by (try (have hc := And.left hb; have hb := And.right hb; rw [hc])); (try rw [hb]); exact vAuto) ?_)
    | (refine nxVS ?_)
    | (refine nxGS ?_)
    | (refine nxX ?_)
    | (refine G.condN rfl (fun hc => ?_) (fun hc => ?_) <;> (try first | exact False.elim hc | (exfalso; omega))))
  all_goals exact X.ret (vs := [_]) rfl ⟨rfl, rfl⟩ rfl (fun w hw => ⟨rfl, hw.ext⟩)
end Go.Proofs.YtgmolcobhehoeaaGreatDoor
/- small of law 16; slices.Contains at ints. -/
set_option linter.unusedVariables false
set_option maxHeartbeats 4000000
namespace Go.Proofs.YtgmolcobhehoeaaGreatDoor
open Go.RowKit

def idxI (l : List Int) (x : Int) : Int := match (List.range l.length).find? (fun i : Nat => decide (x = nth l (i : Int))) with
  | some k => (k : Int)
  | none => -1
theorem idxI_mem (l : List Int) (x : Int) : decide (0 ≤ idxI l x) = decide (x ∈ l) := by
  have hr : idxI l x = match (List.range l.length).find? (fun i : Nat => decide (x = nth l (i : Int))) with
    | some k => (k : Int)
    | none => -1 := rfl
  have hn : ∀ i (h : i < l.length), nth l (i : Int) = l[i] := fun i h => by
    show l.getD i default = l[i]
    rw [List.getD_eq_getElem?_getD, List.getElem?_eq_getElem h]; rfl
  cases hf : (List.range l.length).find? (fun i : Nat => decide (x = nth l (i : Int))) with
  | none =>
    rw [hf] at hr
    rw [hr]
    have := List.find?_eq_none.1 hf
    rw [decide_eq_false (by decide), decide_eq_false]
    intro hm
    obtain ⟨i, hi, e⟩ := List.getElem_of_mem hm
    exact this i (List.mem_range.2 hi) (decide_eq_true (by rw [hn i hi, e]))
  | some k =>
    rw [hf] at hr
    have hr2 : idxI l x = (k : Int) := hr
    rw [hr2]
    have h1 := List.find?_some hf
    have h2 := List.mem_range.1 (List.mem_of_find?_eq_some hf)
    have h3 := of_decide_eq_true h1
    rw [decide_eq_true (by omega), decide_eq_true]
    rw [h3, hn k h2]
    exact List.getElem_mem h2
def longB (s : StarT) : Bool := decide (60 < (s.1.length : Int))
theorem small1_c (s : StarT) : ContIn Tryz.prog (fun _ => True) 78 ([stV s] ++ (#[] : Array Value).toList) (.bool (longB s)) := fun w _ => by
  refine enter0 Tryz.func78 rfl rfl rfl ?_
  repeat' (first
    | (show YK _ _ _ _ _ ⟨_, .call { callee := .builtin .len, args := _, argTypes := #[9] }, _, _, _, _⟩ _; refine YK.ofV (y_lenS (by rfl) StrTy.is) ?_)
    | (show VK _ _ _ _ _ ⟨_, .call { callee := .builtin .len, args := _, argTypes := #[9] }, _, _, _, _⟩ _; refine VK.mk (y_lenS (by rfl) StrTy.is) ?_)
    | (show YG _ _ _ _ _ _ ⟨_, .call { callee := .builtin .len, args := _, argTypes := #[9] }, _, _, _, _⟩ _; refine YG.mk (fun hb => by (try (have hc := And.left hb; have hb := And.right hb; rw [hc])); (try rw [hb]); exact V.y (y_lenS (by rfl) StrTy.is)) ?_)
    | (show VG _ _ _ _ _ _ ⟨_, .call { callee := .builtin .len, args := _, argTypes := #[9] }, _, _, _, _⟩ _; refine VG.mk (fun hb => by (try (have hc := And.left hb; have hb := And.right hb; rw [hc])); (try rw [hb]); exact y_lenS (by rfl) StrTy.is) ?_)
    | (refine nxV ?_)
    | (show RS _ _ _ _ _ _ _ _; first | (refine nxRS ?_) | (refine nxRS1 fun _ => ?_))
    | (show RM _ _ _ _ _ _ _ _ _ _; first | (refine nxRM ?_) | (refine nxRM1 fun _ => ?_))
    | (refine nxG ?_)
    | (refine nxVS ?_)
    | (refine nxGS ?_)
    | (refine nxX ?_)
    | (refine G.condN rfl (fun hc => ?_) (fun hc => ?_) <;> (try first | exact False.elim hc | (exfalso; omega))))
  exact X.ret (vs := [_]) rfl ⟨rfl, rfl⟩ rfl (fun w hw => ⟨rfl, hw.ext⟩)
def idxL (l : List StarT) : Int := match (List.range l.length).find? (fun i : Nat => longB (nth l (i : Int))) with
  | some k => (k : Int)
  | none => -1
theorem indexFL_c (v : Value) (l : List StarT) (hl : l.length ≤ 1000000) : ContR Tryz.prog [Hl.rd v cSt 4 l] 124 [v, .func (.func 78) #[] #[]] (.int .i64 (idxL l)) := fun w hw0 => by
  refine enter Tryz.func124 rfl rfl rfl hw0 ?_
  repeat' (first
    | (refine nxV ?_)
    | (show RS _ _ _ _ _ _ _ _; first | (refine nxRS ?_) | (refine nxRS1 fun _ => ?_))
    | (show RM _ _ _ _ _ _ _ _ _ _; first | (refine nxRM ?_) | (refine nxRM1 fun _ => ?_))
    | (refine nxG ?_)
    | (refine nxX ?_)
    | (refine G.condN rfl (fun hc => ?_) (fun hc => ?_) <;> (try first | exact False.elim hc | (exfalso; omega))))
  refine G.loop (ι := Nat) (fun i => [(0, v), (1, .func (.func 78) #[] #[]), (7, .int .i64 l.length), (8, .int .i64 (i : Int))]) (fun _ => [Hl.rd v cSt 4 l]) (fun i => i ≤ l.length ∧ ∀ k : Nat, k < i → longB (nth l (k : Int)) = false) (fun i => l.length - i) 0 ⟨by omega, fun k hk => by omega⟩ ⟨rfl, rfl, rfl, rfl, trivial⟩ (fun w h => h) ?_
  rintro i mx ⟨g1, g2⟩ hmx
  have hr : idxL l = match (List.range l.length).find? (fun i : Nat => longB (nth l (i : Int))) with
    | some k => (k : Int)
    | none => -1 := rfl
  rcases Nat.lt_or_ge i l.length with hi | hi
  · have q1 := small1_c (nth l (i : Int))
    cases hb : longB (nth l (i : Int)) with
    | true =>
      rw [hb] at q1
      repeat' (first
    | (show YK _ _ _ _ _ ⟨_, .call { callee := .builtin .len, args := _, argTypes := #[9] }, _, _, _, _⟩ _; refine YK.ofV (y_lenS (by rfl) StrTy.is) ?_)
    | (show VK _ _ _ _ _ ⟨_, .call { callee := .builtin .len, args := _, argTypes := #[9] }, _, _, _, _⟩ _; refine VK.mk (y_lenS (by rfl) StrTy.is) ?_)
    | (show YG _ _ _ _ _ _ ⟨_, .call { callee := .builtin .len, args := _, argTypes := #[9] }, _, _, _, _⟩ _; refine YG.mk (fun hb => by (try (have hc := And.left hb; have hb := And.right hb; rw [hc])); (try rw [hb]); exact V.y (y_lenS (by rfl) StrTy.is)) ?_)
    | (show VG _ _ _ _ _ _ ⟨_, .call { callee := .builtin .len, args := _, argTypes := #[9] }, _, _, _, _⟩ _; refine VG.mk (fun hb => by (try (have hc := And.left hb; have hb := And.right hb; rw [hc])); (try rw [hb]); exact y_lenS (by rfl) StrTy.is) ?_)
    | (show YK _ _ _ _ _ ⟨_, .call { callee := .value _, args := _, argTypes := _ }, _, _, _, _⟩ _; refine YK.mk (y_callV (f := 78) (by rfl) q1 (fun _ _ => trivial) ⟨rfl, rfl⟩ (by decide +kernel)) ?_)
    | (refine nxV ?_)
    | (show RS _ _ _ _ _ _ _ _; first | (refine nxRS ?_) | (refine nxRS1 fun _ => ?_))
    | (show RM _ _ _ _ _ _ _ _ _ _; first | (refine nxRM ?_) | (refine nxRM1 fun _ => ?_))
    | (refine nxG ?_)
    | (refine nxVS ?_)
    | (refine nxGS ?_)
    | (refine nxX ?_)
    | (refine G.condN rfl (fun hc => ?_) (fun hc => ?_) <;> (try first | exact False.elim hc | (exfalso; omega))))
      rw [findr_some hi g2 hb] at hr
      exact X.ret (vs := [_]) rfl ⟨rfl, rfl⟩ rfl (fun w hw => ⟨ret_int hr.symm, hw.ext⟩)
    | false =>
      rw [hb] at q1
      repeat' (first
    | (show YK _ _ _ _ _ ⟨_, .call { callee := .builtin .len, args := _, argTypes := #[9] }, _, _, _, _⟩ _; refine YK.ofV (y_lenS (by rfl) StrTy.is) ?_)
    | (show VK _ _ _ _ _ ⟨_, .call { callee := .builtin .len, args := _, argTypes := #[9] }, _, _, _, _⟩ _; refine VK.mk (y_lenS (by rfl) StrTy.is) ?_)
    | (show YG _ _ _ _ _ _ ⟨_, .call { callee := .builtin .len, args := _, argTypes := #[9] }, _, _, _, _⟩ _; refine YG.mk (fun hb => by (try (have hc := And.left hb; have hb := And.right hb; rw [hc])); (try rw [hb]); exact V.y (y_lenS (by rfl) StrTy.is)) ?_)
    | (show VG _ _ _ _ _ _ ⟨_, .call { callee := .builtin .len, args := _, argTypes := #[9] }, _, _, _, _⟩ _; refine VG.mk (fun hb => by (try (have hc := And.left hb; have hb := And.right hb; rw [hc])); (try rw [hb]); exact y_lenS (by rfl) StrTy.is) ?_)
    | (show YK _ _ _ _ _ ⟨_, .call { callee := .value _, args := _, argTypes := _ }, _, _, _, _⟩ _; refine YK.mk (y_callV (f := 78) (by rfl) q1 (fun _ _ => trivial) ⟨rfl, rfl⟩ (by decide +kernel)) ?_)
    | (refine nxV ?_)
    | (show RS _ _ _ _ _ _ _ _; first | (refine nxRS ?_) | (refine nxRS1 fun _ => ?_))
    | (show RM _ _ _ _ _ _ _ _ _ _; first | (refine nxRM ?_) | (refine nxRM1 fun _ => ?_))
    | (refine nxG ?_)
    | (refine nxVS ?_)
    | (refine nxGS ?_)
    | (refine nxX ?_)
    | (refine G.condN rfl (fun hc => ?_) (fun hc => ?_) <;> (try first | exact False.elim hc | (exfalso; omega))))
      refine X.again (i + 1) ⟨by omega, fun k hk => ?_⟩ (by omega) ⟨rfl, rfl, rfl, rfl, trivial⟩ (by exact fun w h => h.sub (by repeat (first | exact List.Sublist.refl _ | apply List.Sublist.cons_cons | apply List.Sublist.cons)))
      rcases Nat.lt_or_ge k i with h | h
      · exact g2 k h
      · rw [show k = i by omega]; exact hb
  · repeat' (first
    | (refine nxV ?_)
    | (show RS _ _ _ _ _ _ _ _; first | (refine nxRS ?_) | (refine nxRS1 fun _ => ?_))
    | (show RM _ _ _ _ _ _ _ _ _ _; first | (refine nxRM ?_) | (refine nxRM1 fun _ => ?_))
    | (refine nxG ?_)
    | (refine nxX ?_)
    | (refine G.condN rfl (fun hc => ?_) (fun hc => ?_) <;> (try first | exact False.elim hc | (exfalso; omega))))
    rw [findr_none (fun k hk => g2 k (by omega))] at hr
    exact X.ret (vs := [_]) rfl ⟨rfl, rfl⟩ rfl (fun w hw => ⟨ret_int hr.symm, hw.ext⟩)
theorem idxL_no {l : List StarT} (h : idxL l < 0) {i : Nat} (hi : i < l.length) : (nth l (i : Int)).1.length ≤ 60 := by
  have hr : idxL l = match (List.range l.length).find? (fun i : Nat => longB (nth l (i : Int))) with
    | some k => (k : Int)
    | none => -1 := rfl
  cases hf : (List.range l.length).find? (fun i : Nat => longB (nth l (i : Int))) with
  | none =>
    have h1 := List.find?_eq_none.1 hf i (List.mem_range.2 hi)
    simp only [longB, decide_eq_true_eq] at h1
    omega
  | some k =>
    rw [hf] at hr
    have hr2 : idxL l = (k : Int) := hr
    omega
theorem containsL_c (v : Value) (l : List StarT) (hl : l.length ≤ 1000000) : ContR Tryz.prog [Hl.rd v cSt 4 l] 77 [v, .func (.func 78) #[] #[]] (.bool (decide (0 ≤ idxL l))) := fun w hw0 => by
  have q1 := indexFL_c v l hl
  generalize idxL l = j at q1
  refine enter Tryz.func77 rfl rfl rfl hw0 ?_
  repeat' (first
    | (show YK _ _ _ _ _ _ _; first | refine YK.mk (y_callRA (q1) ⟨rfl, rfl, rfl⟩) ?_)
    | (show YK _ _ _ _ _ _ _; refine YK.ofV vAuto ?_)
    | (show VK _ _ _ _ _ _ _; refine VK.mk vAuto ?_)
    | (show RS _ _ _ _ _ _ _ _; first | (refine nxRS ?_) | (refine nxRS1 fun _ => ?_))
    | (show RM _ _ _ _ _ _ _ _ _ _; first | (refine nxRM ?_) | (refine nxRM1 fun _ => ?_))
    | (show YG _ _ _ _ _ _ _ _; refine YG.mk (fun hb => by (try (have hc := And.left hb; have hb := And.right hb; rw [hc])); (try rw [hb]); first | exact (y_callRA (q1) ⟨rfl, rfl, rfl⟩) | exact V.y vAuto) ?_)
    | (show VG _ _ _ _ _ _ _ _; refine VG.mk (fun hb => by (try (have hc := And.left hb; have hb := And.right hb; rw [hc])); (try rw [hb]); exact vAuto) ?_)
    | (refine nxX ?_)
    | (refine G.condN rfl (fun hc => ?_) (fun hc => ?_) <;> (try first | exact False.elim hc | (exfalso; omega))))
  exact X.ret (vs := [_]) rfl ⟨rfl, rfl⟩ rfl (fun w hw => ⟨ret_bool rfl, hw.ext⟩)
/-- small, for a list of at most 30 stars. -/
theorem small_c (v : Value) (l : List StarT) (hl : l.length ≤ 30) : ContR Tryz.prog [Hl.rd v cSt 4 l] 29 [v] (.bool (decide (idxL l < 0))) := fun w hw0 => by
  have q1 := containsL_c v l (by omega)
  generalize idxL l = j at q1
  refine enter Tryz.func29 rfl rfl rfl hw0 ?_
  repeat' (first
    | (show YK _ _ _ _ _ _ _; first | refine YK.mk (y_callRA (q1) ⟨rfl, rfl, rfl⟩) ?_)
    | (show YK _ _ _ _ _ _ _; refine YK.ofV vAuto ?_)
    | (show VK _ _ _ _ _ _ _; refine VK.mk vAuto ?_)
    | (show RS _ _ _ _ _ _ _ _; first | (refine nxRS ?_) | (refine nxRS1 fun _ => ?_))
    | (show RM _ _ _ _ _ _ _ _ _ _; first | (refine nxRM ?_) | (refine nxRM1 fun _ => ?_))
    | (show YG _ _ _ _ _ _ _ _; refine YG.mk (fun hb => by (try (have hc := And.left hb; have hb := And.right hb; rw [hc])); (try rw [hb]); first | exact (y_callRA (q1) ⟨rfl, rfl, rfl⟩) | exact V.y vAuto) ?_)
    | (show VG _ _ _ _ _ _ _ _; refine VG.mk (fun hb => by (try (have hc := And.left hb; have hb := And.right hb; rw [hc])); (try rw [hb]); exact vAuto) ?_)
    | (refine nxX ?_)
    | (refine G.condN rfl (fun hc => ?_) (fun hc => ?_) <;> (try first | exact False.elim hc | (exfalso; omega))))
  have e : ((decide ((l.length : Int) ≤ 30) || decide ((100 : Int) < l.length) && decide ((l.length : Int) < 105)) && !decide (0 ≤ j)) = decide (j < 0) := by
    rw [decide_eq_true (show (l.length : Int) ≤ 30 by omega), Bool.true_or, Bool.true_and, ← decide_not]
    exact decide_eq_decide.2 (by omega)
  exact X.ret (vs := [_]) rfl ⟨rfl, rfl⟩ rfl (fun w hw => ⟨ret_bool e, hw.ext⟩)
def smB (l : List StarT) : Bool := (decide ((l.length : Int) ≤ 30) || decide ((100 : Int) < l.length) && decide ((l.length : Int) < 105)) && decide (idxL l < 0)
theorem smallB_c (v : Value) (l : List StarT) (hl : l.length ≤ 9223372036854775807) : ContR Tryz.prog [Hl.rd v cSt 4 l] 29 [v] (.bool (smB l)) := fun w hw0 => by
  have q1 : l.length ≤ 1000000 → ContR Tryz.prog [Hl.rd v cSt 4 l] 77 [v, .func (.func 78) #[] #[]] (.bool (decide (0 ≤ idxL l))) := fun h => containsL_c v l h
  have hs : smB l = ((decide ((l.length : Int) ≤ 30) || decide ((100 : Int) < l.length) && decide ((l.length : Int) < 105)) && decide (idxL l < 0)) := rfl
  generalize idxL l = j at q1 hs
  refine enter Tryz.func29 rfl rfl rfl hw0 ?_
  repeat' (first
    | (show YK _ _ _ _ _ _ _; first | refine YK.mk (y_callRA (q1 (by simp only [Bool.or_eq_true, Bool.and_eq_true, decide_eq_true_eq] at hb; omega)) ⟨rfl, rfl, rfl⟩) ?_)
    | (show YK _ _ _ _ _ _ _; refine YK.ofV vAuto ?_)
    | (show VK _ _ _ _ _ _ _; refine VK.mk vAuto ?_)
    | (show RS _ _ _ _ _ _ _ _; first | (refine nxRS ?_) | (refine nxRS1 fun _ => ?_))
    | (show RM _ _ _ _ _ _ _ _ _ _; first | (refine nxRM ?_) | (refine nxRM1 fun _ => ?_))
    | (show YG _ _ _ _ _ _ _ _; refine YG.mk (fun hb => by (try (have hc := And.left hb; have hb := And.right hb; rw [hc])); (try rw [hb]); first | exact (y_callRA (q1 (by simp only [Bool.or_eq_true, Bool.and_eq_true, decide_eq_true_eq] at hb; omega)) ⟨rfl, rfl, rfl⟩) | exact V.y vAuto) ?_)
    | (show VG _ _ _ _ _ _ _ _; refine VG.mk (fun hb => by (try (have hc := And.left hb; have hb := And.right hb; rw [hc])); (try rw [hb]); exact vAuto) ?_)
    | (refine nxX ?_)
    | (refine G.condN rfl (fun hc => ?_) (fun hc => ?_) <;> (try first | exact False.elim hc | (exfalso; omega))))
  have e : ((decide ((l.length : Int) ≤ 30) || decide ((100 : Int) < l.length) && decide ((l.length : Int) < 105)) && !decide (0 ≤ j)) = smB l := by
    rw [hs, ← decide_not]
    congr 1
    exact decide_eq_decide.2 (by omega)
  exact X.ret (vs := [_]) rfl ⟨rfl, rfl⟩ rfl (fun w hw => ⟨ret_bool e, hw.ext⟩)
end Go.Proofs.YtgmolcobhehoeaaGreatDoor
/- The reference of chapter 16: names, stars, Valid, Find, Between, Brightest; catalogue.Find; slices.Equal at ints. -/
set_option linter.unusedVariables false
set_option maxHeartbeats 4000000
namespace Go.Proofs.YtgmolcobhehoeaaGreatDoor
open Go.RowKit

theorem rletter_c (b : Int) : Cont Tryz.prog 133 [.int .u8 b] (.bool (letterB b)) := fun w => by
  refine enter0 Tryz.func133 rfl rfl rfl ?_
  repeat' (first
    | (refine nxV ?_)
    | (show RS _ _ _ _ _ _ _ _; first | (refine nxRS ?_) | (refine nxRS1 fun _ => ?_))
    | (show RM _ _ _ _ _ _ _ _ _ _; first | (refine nxRM ?_) | (refine nxRM1 fun _ => ?_))
    | (refine nxG ?_)
    | (refine nxX ?_)
    | (refine G.condN rfl (fun hc => ?_) (fun hc => ?_) <;> (try first | exact False.elim hc | (exfalso; omega))))
  refine X.ret (vs := [_]) rfl ⟨rfl, rfl⟩ rfl (fun w hw => ⟨ret_bool ?_, hw.ext⟩)
  unfold letterB
  simp
theorem rdigit_c (b : Int) : Cont Tryz.prog 134 [.int .u8 b] (.bool (digitB b)) := fun w => by
  refine enter0 Tryz.func134 rfl rfl rfl ?_
  repeat' (first
    | (refine nxV ?_)
    | (show RS _ _ _ _ _ _ _ _; first | (refine nxRS ?_) | (refine nxRS1 fun _ => ?_))
    | (show RM _ _ _ _ _ _ _ _ _ _; first | (refine nxRM ?_) | (refine nxRM1 fun _ => ?_))
    | (refine nxG ?_)
    | (refine nxX ?_)
    | (refine G.condN rfl (fun hc => ?_) (fun hc => ?_) <;> (try first | exact False.elim hc | (exfalso; omega))))
  refine X.ret (vs := [_]) rfl ⟨rfl, rfl⟩ rfl (fun w hw => ⟨ret_bool ?_, hw.ext⟩)
  unfold digitB
  simp
theorem rname_no {l : List UInt8} (h : l.length = 0 ∨ 20 < l.length ∨ letterB (nth l 0).toNat = false) : nameB l = false := by
  unfold nameB
  rcases h with h | h | h
  · rw [List.eq_nil_of_length_eq_zero h]; rfl
  · rw [decide_eq_false (by omega)]; rfl
  · rw [h]; simp
theorem rname_c (l : List UInt8) (hl : l.length ≤ 1000000) : Cont Tryz.prog 81 [strV l] (.bool (nameB l)) := fun w => by
  by_cases h0 : l.length = 0 ∨ 20 < l.length
  · have e := rname_no (l := l) (by rcases h0 with h | h; exact .inl h; exact .inr (.inl h))
    refine enter0 Tryz.func81 rfl rfl rfl ?_
    repeat' (first
    | (show YK _ _ _ _ _ ⟨_, .call { callee := .builtin .len, args := _, argTypes := #[9] }, _, _, _, _⟩ _; refine YK.ofV (y_lenS (by rfl) StrTy.is) ?_)
    | (show VK _ _ _ _ _ ⟨_, .call { callee := .builtin .len, args := _, argTypes := #[9] }, _, _, _, _⟩ _; refine VK.mk (y_lenS (by rfl) StrTy.is) ?_)
    | (show YG _ _ _ _ _ _ ⟨_, .call { callee := .builtin .len, args := _, argTypes := #[9] }, _, _, _, _⟩ _; refine YG.mk (fun hb => by (try (have hc := And.left hb; have hb := And.right hb; rw [hc])); (try rw [hb]); exact V.y (y_lenS (by rfl) StrTy.is)) ?_)
    | (show VG _ _ _ _ _ _ ⟨_, .call { callee := .builtin .len, args := _, argTypes := #[9] }, _, _, _, _⟩ _; refine VG.mk (fun hb => by (try (have hc := And.left hb; have hb := And.right hb; rw [hc])); (try rw [hb]); exact y_lenS (by rfl) StrTy.is) ?_)
    | (show YG _ _ _ _ _ _ ⟨_, .call { callee := .value _, args := _, argTypes := _ }, _, _, _, _⟩ _; refine YG.mk (v := .bool false) (fun hb => by exfalso; simp only [Bool.or_eq_false_iff, decide_eq_false_iff_not] at hb; omega) ?_)
    | (show YG _ _ _ _ _ _ ⟨_, .index _ _ _, _, _, _, _⟩ _; refine YG.mk (v := .int .u8 0) (fun hb => by exfalso; simp only [Bool.or_eq_false_iff, decide_eq_false_iff_not] at hb; omega) ?_)
    | (refine nxV ?_)
    | (show RS _ _ _ _ _ _ _ _; first | (refine nxRS ?_) | (refine nxRS1 fun _ => ?_))
    | (show RM _ _ _ _ _ _ _ _ _ _; first | (refine nxRM ?_) | (refine nxRM1 fun _ => ?_))
    | (refine nxG ?_)
    | (refine nxVS ?_)
    | (refine nxGS ?_)
    | (refine nxX ?_)
    | (refine G.condN rfl (fun hc => ?_) (fun hc => ?_) <;> (try first | exact False.elim hc | (exfalso; omega))))
    all_goals exact X.ret (vs := [_]) rfl ⟨rfl, rfl⟩ rfl (fun w hw => ⟨ret_bool e.symm, hw.ext⟩)
  · have q0 := rletter_c ((nth l 0).toNat : Int)
    cases hb0 : letterB (nth l 0).toNat with
    | false =>
      have e := rname_no (l := l) (.inr (.inr hb0))
      rw [hb0] at q0
      refine enter0 Tryz.func81 rfl rfl rfl ?_
      repeat' (first
    | (show YK _ _ _ _ _ ⟨_, .call { callee := .builtin .len, args := _, argTypes := #[9] }, _, _, _, _⟩ _; refine YK.ofV (y_lenS (by rfl) StrTy.is) ?_)
    | (show VK _ _ _ _ _ ⟨_, .call { callee := .builtin .len, args := _, argTypes := #[9] }, _, _, _, _⟩ _; refine VK.mk (y_lenS (by rfl) StrTy.is) ?_)
    | (show YG _ _ _ _ _ _ ⟨_, .call { callee := .builtin .len, args := _, argTypes := #[9] }, _, _, _, _⟩ _; refine YG.mk (fun hb => by (try (have hc := And.left hb; have hb := And.right hb; rw [hc])); (try rw [hb]); exact V.y (y_lenS (by rfl) StrTy.is)) ?_)
    | (show VG _ _ _ _ _ _ ⟨_, .call { callee := .builtin .len, args := _, argTypes := #[9] }, _, _, _, _⟩ _; refine VG.mk (fun hb => by (try (have hc := And.left hb; have hb := And.right hb; rw [hc])); (try rw [hb]); exact y_lenS (by rfl) StrTy.is) ?_)
    | (show YK _ _ _ _ _ _ _; first | refine YK.mk (y_callA (q0) ⟨rfl, rfl⟩) ?_)
    | (show YK _ _ _ _ _ _ _; refine YK.ofV vAuto ?_)
    | (show VK _ _ _ _ _ _ _; refine VK.mk vAuto ?_)
    | (show RS _ _ _ _ _ _ _ _; first | (refine nxRS ?_) | (refine nxRS1 fun _ => ?_))
    | (show RM _ _ _ _ _ _ _ _ _ _; first | (refine nxRM ?_) | (refine nxRM1 fun _ => ?_))
    | (show YG _ _ _ _ _ _ _ _; refine YG.mk (fun hb => by (try (have hc := And.left hb; have hb := And.right hb; rw [hc])); (try rw [hb]); first | exact (y_callA (q0) ⟨rfl, rfl⟩) | exact V.y vAuto) ?_)
    | (show VG _ _ _ _ _ _ _ _; refine VG.mk (fun hb => by (try (have hc := And.left hb; have hb := And.right hb; rw [hc])); (try rw [hb]); exact vAuto) ?_)
    | (refine nxVS ?_)
    | (refine nxGS ?_)
    | (refine nxX ?_)
    | (refine G.condN rfl (fun hc => ?_) (fun hc => ?_) <;> (try first | exact False.elim hc | (exfalso; omega))))
      all_goals first
        | exact X.ret (vs := [_]) rfl ⟨rfl, rfl⟩ rfl (fun w hw => ⟨ret_bool e.symm, hw.ext⟩)
        | (exfalso; simp at hc; done)
    | true =>
      rw [hb0] at q0
      refine enter0 Tryz.func81 rfl rfl rfl ?_
      repeat' (first
    | (show YK _ _ _ _ _ ⟨_, .call { callee := .builtin .len, args := _, argTypes := #[9] }, _, _, _, _⟩ _; refine YK.ofV (y_lenS (by rfl) StrTy.is) ?_)
    | (show VK _ _ _ _ _ ⟨_, .call { callee := .builtin .len, args := _, argTypes := #[9] }, _, _, _, _⟩ _; refine VK.mk (y_lenS (by rfl) StrTy.is) ?_)
    | (show YG _ _ _ _ _ _ ⟨_, .call { callee := .builtin .len, args := _, argTypes := #[9] }, _, _, _, _⟩ _; refine YG.mk (fun hb => by (try (have hc := And.left hb; have hb := And.right hb; rw [hc])); (try rw [hb]); exact V.y (y_lenS (by rfl) StrTy.is)) ?_)
    | (show VG _ _ _ _ _ _ ⟨_, .call { callee := .builtin .len, args := _, argTypes := #[9] }, _, _, _, _⟩ _; refine VG.mk (fun hb => by (try (have hc := And.left hb; have hb := And.right hb; rw [hc])); (try rw [hb]); exact y_lenS (by rfl) StrTy.is) ?_)
    | (show YK _ _ _ _ _ _ _; first | refine YK.mk (y_callA (q0) ⟨rfl, rfl⟩) ?_)
    | (show YK _ _ _ _ _ _ _; refine YK.ofV vAuto ?_)
    | (show VK _ _ _ _ _ _ _; refine VK.mk vAuto ?_)
    | (show RS _ _ _ _ _ _ _ _; first | (refine nxRS ?_) | (refine nxRS1 fun _ => ?_))
    | (show RM _ _ _ _ _ _ _ _ _ _; first | (refine nxRM ?_) | (refine nxRM1 fun _ => ?_))
    | (show YG _ _ _ _ _ _ _ _; refine YG.mk (fun hb => by (try (have hc := And.left hb; have hb := And.right hb; rw [hc])); (try rw [hb]); first | exact (y_callA (q0) ⟨rfl, rfl⟩) | exact V.y vAuto) ?_)
    | (show VG _ _ _ _ _ _ _ _; refine VG.mk (fun hb => by (try (have hc := And.left hb; have hb := And.right hb; rw [hc])); (try rw [hb]); exact vAuto) ?_)
    | (refine nxVS ?_)
    | (refine nxGS ?_)
    | (refine nxX ?_)
    | (refine G.condN rfl (fun hc => ?_) (fun hc => ?_) <;> (try first | exact False.elim hc | (exfalso; omega))))
      refine G.loop (ι := Nat) (fun i => [(0, strV l), (3, .int .i64 (i : Int))]) (fun _ => []) (fun i => i ≤ l.length ∧ ∀ k : Nat, k < i → wordB (nth l (k : Int)).toNat = true) (fun i => l.length - i) 0 ⟨Nat.zero_le _, fun k hk => by omega⟩ ⟨rfl, rfl, trivial⟩ (fun w h => h) ?_
      rintro i mx ⟨g1, g2⟩ hmx
      rcases Nat.lt_or_ge i l.length with hi | hi
      · have q1 := rletter_c ((nth l (i : Int)).toNat : Int)
        have q2 := rdigit_c ((nth l (i : Int)).toNat : Int)
        have hw : wordB (nth l (i : Int)).toNat = (letterB (nth l (i : Int)).toNat || digitB (nth l (i : Int)).toNat || decide (((nth l (i : Int)).toNat : Int) = 95)) := rfl
        generalize letterB (nth l (i : Int)).toNat = b1 at q1 hw
        generalize digitB (nth l (i : Int)).toNat = b2 at q2 hw
        repeat' (first
    | (show YK _ _ _ _ _ ⟨_, .call { callee := .builtin .len, args := _, argTypes := #[9] }, _, _, _, _⟩ _; refine YK.ofV (y_lenS (by rfl) StrTy.is) ?_)
    | (show VK _ _ _ _ _ ⟨_, .call { callee := .builtin .len, args := _, argTypes := #[9] }, _, _, _, _⟩ _; refine VK.mk (y_lenS (by rfl) StrTy.is) ?_)
    | (show YG _ _ _ _ _ _ ⟨_, .call { callee := .builtin .len, args := _, argTypes := #[9] }, _, _, _, _⟩ _; refine YG.mk (fun hb => by (try (have hc := And.left hb; have hb := And.right hb; rw [hc])); (try rw [hb]); exact V.y (y_lenS (by rfl) StrTy.is)) ?_)
    | (show VG _ _ _ _ _ _ ⟨_, .call { callee := .builtin .len, args := _, argTypes := #[9] }, _, _, _, _⟩ _; refine VG.mk (fun hb => by (try (have hc := And.left hb; have hb := And.right hb; rw [hc])); (try rw [hb]); exact y_lenS (by rfl) StrTy.is) ?_)
    | (show YK _ _ _ _ _ _ _; first | refine YK.mk (y_callA (q1) ⟨rfl, rfl⟩) ?_ | refine YK.mk (y_callA (q2) ⟨rfl, rfl⟩) ?_)
    | (show YK _ _ _ _ _ _ _; refine YK.ofV vAuto ?_)
    | (show VK _ _ _ _ _ _ _; refine VK.mk vAuto ?_)
    | (show RS _ _ _ _ _ _ _ _; first | (refine nxRS ?_) | (refine nxRS1 fun _ => ?_))
    | (show RM _ _ _ _ _ _ _ _ _ _; first | (refine nxRM ?_) | (refine nxRM1 fun _ => ?_))
    | (show YG _ _ _ _ _ _ _ _; refine YG.mk (fun hb => by (try (have hc := And.left hb; have hb := And.right hb; rw [hc])); (try rw [hb]); first | exact (y_callA (q1) ⟨rfl, rfl⟩) | exact (y_callA (q2) ⟨rfl, rfl⟩) | exact V.y vAuto) ?_)
    | (show VG _ _ _ _ _ _ _ _; refine VG.mk (fun hb => by (try (have hc := And.left hb; have hb := And.right hb; rw [hc])); (try rw [hb]); exact vAuto) ?_)
    | (refine nxVS ?_)
    | (refine nxGS ?_)
    | (refine nxX ?_)
    | (refine G.condN rfl (fun hc => ?_) (fun hc => ?_) <;> (try first | exact False.elim hc | (exfalso; omega))))
        · have e : nameB l = false := by
            unfold nameB
            rw [allP_f hi (by rw [hw]; cases b1 <;> cases b2 <;> simp_all)]
            simp
          exact X.ret (vs := [_]) rfl ⟨rfl, rfl⟩ rfl (fun w hw => ⟨ret_bool e.symm, hw.ext⟩)
        · refine X.again (i + 1) ⟨by omega, fun k hk => ?_⟩ (by omega) ⟨rfl, rfl, trivial⟩ (fun w h => h)
          rcases Nat.lt_or_ge k i with h | h
          · exact g2 k h
          · rw [show k = i by omega, hw]; cases b1 <;> cases b2 <;> simp_all
      · repeat' (first
    | (show YK _ _ _ _ _ ⟨_, .call { callee := .builtin .len, args := _, argTypes := #[9] }, _, _, _, _⟩ _; refine YK.ofV (y_lenS (by rfl) StrTy.is) ?_)
    | (show VK _ _ _ _ _ ⟨_, .call { callee := .builtin .len, args := _, argTypes := #[9] }, _, _, _, _⟩ _; refine VK.mk (y_lenS (by rfl) StrTy.is) ?_)
    | (show YG _ _ _ _ _ _ ⟨_, .call { callee := .builtin .len, args := _, argTypes := #[9] }, _, _, _, _⟩ _; refine YG.mk (fun hb => by (try (have hc := And.left hb; have hb := And.right hb; rw [hc])); (try rw [hb]); exact V.y (y_lenS (by rfl) StrTy.is)) ?_)
    | (show VG _ _ _ _ _ _ ⟨_, .call { callee := .builtin .len, args := _, argTypes := #[9] }, _, _, _, _⟩ _; refine VG.mk (fun hb => by (try (have hc := And.left hb; have hb := And.right hb; rw [hc])); (try rw [hb]); exact y_lenS (by rfl) StrTy.is) ?_)
    | (refine nxV ?_)
    | (show RS _ _ _ _ _ _ _ _; first | (refine nxRS ?_) | (refine nxRS1 fun _ => ?_))
    | (show RM _ _ _ _ _ _ _ _ _ _; first | (refine nxRM ?_) | (refine nxRM1 fun _ => ?_))
    | (refine nxG ?_)
    | (refine nxVS ?_)
    | (refine nxGS ?_)
    | (refine nxX ?_)
    | (refine G.condN rfl (fun hc => ?_) (fun hc => ?_) <;> (try first | exact False.elim hc | (exfalso; omega))))
        have e : nameB l = true := by
          unfold nameB
          rw [allP_t (fun k hk => g2 k (by omega)), decide_eq_true (by omega), hb0, decide_eq_true (by intro g; rw [g] at h0; exact h0 (.inl rfl))]; rfl
        exact X.ret (vs := [_]) rfl ⟨rfl, rfl⟩ rfl (fun w hw => ⟨ret_bool e.symm, hw.ext⟩)
theorem rstar_c (s : StarT) : Cont Tryz.prog 83 [stV s] (.int .i64 (if numB s = true then 0 else 2)) := fun w => by
  have hw : numB s = (decide (0 ≤ s.2.1) && decide (s.2.1 ≤ 215999) && decide (-54000 ≤ s.2.2.1) && decide (s.2.2.1 ≤ 54000) && decide (-20 ≤ s.2.2.2) && decide (s.2.2.2 ≤ 150)) := rfl
  refine enter0 Tryz.func83 rfl rfl rfl ?_
  repeat' (first
    | (show YK _ _ _ _ _ ⟨_, .call { callee := .builtin .len, args := _, argTypes := #[9] }, _, _, _, _⟩ _; refine YK.ofV (y_lenS (by rfl) StrTy.is) ?_)
    | (show VK _ _ _ _ _ ⟨_, .call { callee := .builtin .len, args := _, argTypes := #[9] }, _, _, _, _⟩ _; refine VK.mk (y_lenS (by rfl) StrTy.is) ?_)
    | (show YG _ _ _ _ _ _ ⟨_, .call { callee := .builtin .len, args := _, argTypes := #[9] }, _, _, _, _⟩ _; refine YG.mk (fun hb => by (try (have hc := And.left hb; have hb := And.right hb; rw [hc])); (try rw [hb]); exact V.y (y_lenS (by rfl) StrTy.is)) ?_)
    | (show VG _ _ _ _ _ _ ⟨_, .call { callee := .builtin .len, args := _, argTypes := #[9] }, _, _, _, _⟩ _; refine VG.mk (fun hb => by (try (have hc := And.left hb; have hb := And.right hb; rw [hc])); (try rw [hb]); exact y_lenS (by rfl) StrTy.is) ?_)
    | (refine nxV ?_)
    | (show RS _ _ _ _ _ _ _ _; first | (refine nxRS ?_) | (refine nxRS1 fun _ => ?_))
    | (show RM _ _ _ _ _ _ _ _ _ _; first | (refine nxRM ?_) | (refine nxRM1 fun _ => ?_))
    | (refine nxG ?_)
    | (refine nxVS ?_)
    | (refine nxGS ?_)
    | (refine nxX ?_)
    | (refine G.condN rfl (fun hc => ?_) (fun hc => ?_) <;> (try first | exact False.elim hc | (exfalso; omega))))
  · have e : numB s = false := by
      cases h : numB s with
      | false => rfl
      | true =>
        rw [h] at hw
        have := hw.symm
        simp only [Bool.and_eq_true, decide_eq_true_eq] at this
        omega
    exact X.ret (vs := [_]) rfl ⟨rfl, rfl⟩ rfl (fun w hw => ⟨ret_int (by rw [e]; rfl), hw.ext⟩)
  · have e : numB s = true := by
      rw [hw]
      simp only [Bool.and_eq_true, decide_eq_true_eq]
      omega
    exact X.ret (vs := [_]) rfl ⟨rfl, rfl⟩ rfl (fun w hw => ⟨ret_int (by rw [e]; rfl), hw.ext⟩)
theorem rfind_c (v : Value) (l : List StarT) (nm : List UInt8) (hl : l.length ≤ 1000000) : ContR Tryz.prog [Hl.rd v cSt 4 l] 82 [v, strV nm] (.int .i64 (idxS l nm)) := fun w hw0 => by
  refine enter Tryz.func82 rfl rfl rfl hw0 ?_
  repeat' (first
    | (show YK _ _ _ _ _ ⟨_, .call { callee := .builtin .len, args := _, argTypes := #[9] }, _, _, _, _⟩ _; refine YK.ofV (y_lenS (by rfl) StrTy.is) ?_)
    | (show VK _ _ _ _ _ ⟨_, .call { callee := .builtin .len, args := _, argTypes := #[9] }, _, _, _, _⟩ _; refine VK.mk (y_lenS (by rfl) StrTy.is) ?_)
    | (show YG _ _ _ _ _ _ ⟨_, .call { callee := .builtin .len, args := _, argTypes := #[9] }, _, _, _, _⟩ _; refine YG.mk (fun hb => by (try (have hc := And.left hb; have hb := And.right hb; rw [hc])); (try rw [hb]); exact V.y (y_lenS (by rfl) StrTy.is)) ?_)
    | (show VG _ _ _ _ _ _ ⟨_, .call { callee := .builtin .len, args := _, argTypes := #[9] }, _, _, _, _⟩ _; refine VG.mk (fun hb => by (try (have hc := And.left hb; have hb := And.right hb; rw [hc])); (try rw [hb]); exact y_lenS (by rfl) StrTy.is) ?_)
    | (refine nxV ?_)
    | (show RS _ _ _ _ _ _ _ _; first | (refine nxRS ?_) | (refine nxRS1 fun _ => ?_))
    | (show RM _ _ _ _ _ _ _ _ _ _; first | (refine nxRM ?_) | (refine nxRM1 fun _ => ?_))
    | (refine nxG ?_)
    | (refine nxVS ?_)
    | (refine nxGS ?_)
    | (refine nxX ?_)
    | (refine G.condN rfl (fun hc => ?_) (fun hc => ?_) <;> (try first | exact False.elim hc | (exfalso; omega))))
  refine G.loop (ι := Nat) (fun i => [(0, v), (1, strV nm), (5, .int .i64 (i : Int))]) (fun _ => [Hl.rd v cSt 4 l]) (fun i => i ≤ l.length ∧ ∀ k : Nat, k < i → decide ((nth l (k : Int)).1 = nm) = false) (fun i => l.length - i) 0 ⟨by omega, fun k hk => by omega⟩ ⟨rfl, rfl, rfl, trivial⟩ (fun w h => h) ?_
  rintro i mx ⟨g1, g2⟩ hmx
  have hr : idxS l nm = match (List.range l.length).find? (fun i : Nat => decide ((nth l (i : Int)).1 = nm)) with
    | some k => (k : Int)
    | none => -1 := rfl
  rcases Nat.lt_or_ge i l.length with hi | hi
  · by_cases hq : (nth l (i : Int)).1 = nm
    · repeat' (first
    | (show YK _ _ _ _ _ ⟨_, .call { callee := .builtin .len, args := _, argTypes := #[9] }, _, _, _, _⟩ _; refine YK.ofV (y_lenS (by rfl) StrTy.is) ?_)
    | (show VK _ _ _ _ _ ⟨_, .call { callee := .builtin .len, args := _, argTypes := #[9] }, _, _, _, _⟩ _; refine VK.mk (y_lenS (by rfl) StrTy.is) ?_)
    | (show YG _ _ _ _ _ _ ⟨_, .call { callee := .builtin .len, args := _, argTypes := #[9] }, _, _, _, _⟩ _; refine YG.mk (fun hb => by (try (have hc := And.left hb; have hb := And.right hb; rw [hc])); (try rw [hb]); exact V.y (y_lenS (by rfl) StrTy.is)) ?_)
    | (show VG _ _ _ _ _ _ ⟨_, .call { callee := .builtin .len, args := _, argTypes := #[9] }, _, _, _, _⟩ _; refine VG.mk (fun hb => by (try (have hc := And.left hb; have hb := And.right hb; rw [hc])); (try rw [hb]); exact y_lenS (by rfl) StrTy.is) ?_)
    | (refine nxV ?_)
    | (show RS _ _ _ _ _ _ _ _; first | (refine nxRS ?_) | (refine nxRS1 fun _ => ?_))
    | (show RM _ _ _ _ _ _ _ _ _ _; first | (refine nxRM ?_) | (refine nxRM1 fun _ => ?_))
    | (refine nxG ?_)
    | (refine nxVS ?_)
    | (refine nxGS ?_)
    | (refine nxX ?_)
    | (refine G.condN rfl (fun hc => ?_) (fun hc => ?_) <;> (try first | exact False.elim hc | (exfalso; omega))))
      · rw [findr_some hi g2 (decide_eq_true hq)] at hr
        exact X.ret (vs := [_]) rfl ⟨rfl, rfl⟩ rfl (fun w hw => ⟨ret_int hr.symm, hw.ext⟩)
      all_goals exact absurd hq hc
    · repeat' (first
    | (show YK _ _ _ _ _ ⟨_, .call { callee := .builtin .len, args := _, argTypes := #[9] }, _, _, _, _⟩ _; refine YK.ofV (y_lenS (by rfl) StrTy.is) ?_)
    | (show VK _ _ _ _ _ ⟨_, .call { callee := .builtin .len, args := _, argTypes := #[9] }, _, _, _, _⟩ _; refine VK.mk (y_lenS (by rfl) StrTy.is) ?_)
    | (show YG _ _ _ _ _ _ ⟨_, .call { callee := .builtin .len, args := _, argTypes := #[9] }, _, _, _, _⟩ _; refine YG.mk (fun hb => by (try (have hc := And.left hb; have hb := And.right hb; rw [hc])); (try rw [hb]); exact V.y (y_lenS (by rfl) StrTy.is)) ?_)
    | (show VG _ _ _ _ _ _ ⟨_, .call { callee := .builtin .len, args := _, argTypes := #[9] }, _, _, _, _⟩ _; refine VG.mk (fun hb => by (try (have hc := And.left hb; have hb := And.right hb; rw [hc])); (try rw [hb]); exact y_lenS (by rfl) StrTy.is) ?_)
    | (refine nxV ?_)
    | (show RS _ _ _ _ _ _ _ _; first | (refine nxRS ?_) | (refine nxRS1 fun _ => ?_))
    | (show RM _ _ _ _ _ _ _ _ _ _; first | (refine nxRM ?_) | (refine nxRM1 fun _ => ?_))
    | (refine nxG ?_)
    | (refine nxVS ?_)
    | (refine nxGS ?_)
    | (refine nxX ?_)
    | (refine G.condN rfl (fun hc => ?_) (fun hc => ?_) <;> (try first | exact False.elim hc | (exfalso; omega))))
      · exact absurd hc hq
      · refine X.again (i + 1) ⟨by omega, fun k hk => ?_⟩ (by omega) ⟨rfl, rfl, rfl, trivial⟩ (by exact fun w h => h.sub (by repeat (first | exact List.Sublist.refl _ | apply List.Sublist.cons_cons | apply List.Sublist.cons)))
        rcases Nat.lt_or_ge k i with h | h
        · exact g2 k h
        · rw [show k = i by omega]; exact decide_eq_false hq
  · repeat' (first
    | (show YK _ _ _ _ _ ⟨_, .call { callee := .builtin .len, args := _, argTypes := #[9] }, _, _, _, _⟩ _; refine YK.ofV (y_lenS (by rfl) StrTy.is) ?_)
    | (show VK _ _ _ _ _ ⟨_, .call { callee := .builtin .len, args := _, argTypes := #[9] }, _, _, _, _⟩ _; refine VK.mk (y_lenS (by rfl) StrTy.is) ?_)
    | (show YG _ _ _ _ _ _ ⟨_, .call { callee := .builtin .len, args := _, argTypes := #[9] }, _, _, _, _⟩ _; refine YG.mk (fun hb => by (try (have hc := And.left hb; have hb := And.right hb; rw [hc])); (try rw [hb]); exact V.y (y_lenS (by rfl) StrTy.is)) ?_)
    | (show VG _ _ _ _ _ _ ⟨_, .call { callee := .builtin .len, args := _, argTypes := #[9] }, _, _, _, _⟩ _; refine VG.mk (fun hb => by (try (have hc := And.left hb; have hb := And.right hb; rw [hc])); (try rw [hb]); exact y_lenS (by rfl) StrTy.is) ?_)
    | (refine nxV ?_)
    | (show RS _ _ _ _ _ _ _ _; first | (refine nxRS ?_) | (refine nxRS1 fun _ => ?_))
    | (show RM _ _ _ _ _ _ _ _ _ _; first | (refine nxRM ?_) | (refine nxRM1 fun _ => ?_))
    | (refine nxG ?_)
    | (refine nxVS ?_)
    | (refine nxGS ?_)
    | (refine nxX ?_)
    | (refine G.condN rfl (fun hc => ?_) (fun hc => ?_) <;> (try first | exact False.elim hc | (exfalso; omega))))
    rw [findr_none (fun k hk => g2 k (by omega))] at hr
    exact X.ret (vs := [_]) rfl ⟨rfl, rfl⟩ rfl (fun w hw => ⟨ret_int hr.symm, hw.ext⟩)
theorem rvalid_c (v : Value) (l : List StarT) (hl : l.length ≤ 9223372036854775807) (hn : l.length ≤ 100 → namesOk l) : ContR Tryz.prog [Hl.rd v cSt 4 l] 31 [v] (.bool (validS l)) := fun w hw0 => by
  by_cases h100 : 100 < l.length
  · have e : validS l = false := by
      cases hv : validS l with
      | false => rfl
      | true => have := (validS_t hv).1; omega
    refine enter Tryz.func31 rfl rfl rfl hw0 ?_
    repeat' (first
    | (refine nxV ?_)
    | (show RS _ _ _ _ _ _ _ _; first | (refine nxRS ?_) | (refine nxRS1 fun _ => ?_))
    | (show RM _ _ _ _ _ _ _ _ _ _; first | (refine nxRM ?_) | (refine nxRM1 fun _ => ?_))
    | (refine nxG ?_)
    | (refine nxX ?_)
    | (refine G.condN rfl (fun hc => ?_) (fun hc => ?_) <;> (try first | exact False.elim hc | (exfalso; omega))))
    exact X.ret (vs := [_]) rfl ⟨rfl, rfl⟩ rfl (fun w hw => ⟨ret_bool e.symm, hw.ext⟩)
  · have hn' := hn (by omega)
    refine enter Tryz.func31 rfl rfl rfl hw0 ?_
    repeat' (first
    | (refine nxV ?_)
    | (show RS _ _ _ _ _ _ _ _; first | (refine nxRS ?_) | (refine nxRS1 fun _ => ?_))
    | (show RM _ _ _ _ _ _ _ _ _ _; first | (refine nxRM ?_) | (refine nxRM1 fun _ => ?_))
    | (refine nxG ?_)
    | (refine nxX ?_)
    | (refine G.condN rfl (fun hc => ?_) (fun hc => ?_) <;> (try first | exact False.elim hc | (exfalso; omega))))
    refine G.loop (ι := Nat) (fun i => [(0, v), (3, .int .i64 (i : Int))]) (fun _ => [Hl.rd v cSt 4 l]) (fun i => i ≤ l.length ∧ ∀ k : Nat, k < i → okS l k = true) (fun i => l.length - i) 0 ⟨Nat.zero_le _, fun k hk => by omega⟩ ⟨rfl, rfl, trivial⟩ (by exact fun w h => h.sub (by repeat (first | exact List.Sublist.refl _ | apply List.Sublist.cons_cons | apply List.Sublist.cons))) ?_
    rintro i mx ⟨g1, g2⟩ hmx
    rcases Nat.lt_or_ge i l.length with hi | hi
    · have q1 := rname_c (nth l (i : Int)).1 (hn' i hi)
      have q2 := rstar_c (nth l (i : Int))
      have q3 := rfind_c v l (nth l (i : Int)).1 (by omega)
      have hok : okS l i = (nameB (nth l (i : Int)).1 && numB (nth l (i : Int)) && decide (idxS l (nth l (i : Int)).1 = (i : Int))) := rfl
      generalize nameB (nth l (i : Int)).1 = b1 at q1 hok
      generalize numB (nth l (i : Int)) = b2 at q2 hok
      generalize idxS l (nth l (i : Int)).1 = b3 at q3 hok
      have hk : ∃ k : Int, (if b2 = true then 0 else 2) = k ∧ (b2 = true ∧ k = 0 ∨ b2 = false ∧ k = 2) := by
        cases b2
        · exact ⟨2, rfl, .inr ⟨rfl, rfl⟩⟩
        · exact ⟨0, rfl, .inl ⟨rfl, rfl⟩⟩
      obtain ⟨k2, hk, hk2⟩ := hk
      rw [hk] at q2
      repeat' (first
    | (show YK _ _ _ _ _ ⟨_, .call { callee := .builtin .len, args := _, argTypes := #[9] }, _, _, _, _⟩ _; refine YK.ofV (y_lenS (by rfl) StrTy.is) ?_)
    | (show VK _ _ _ _ _ ⟨_, .call { callee := .builtin .len, args := _, argTypes := #[9] }, _, _, _, _⟩ _; refine VK.mk (y_lenS (by rfl) StrTy.is) ?_)
    | (show YG _ _ _ _ _ _ ⟨_, .call { callee := .builtin .len, args := _, argTypes := #[9] }, _, _, _, _⟩ _; refine YG.mk (fun hb => by (try (have hc := And.left hb; have hb := And.right hb; rw [hc])); (try rw [hb]); exact V.y (y_lenS (by rfl) StrTy.is)) ?_)
    | (show VG _ _ _ _ _ _ ⟨_, .call { callee := .builtin .len, args := _, argTypes := #[9] }, _, _, _, _⟩ _; refine VG.mk (fun hb => by (try (have hc := And.left hb; have hb := And.right hb; rw [hc])); (try rw [hb]); exact y_lenS (by rfl) StrTy.is) ?_)
    | (show YK _ _ _ _ _ _ _; first | refine YK.mk (y_callA (q1) ⟨rfl, rfl⟩) ?_ | refine YK.mk (y_callA (q2) ⟨rfl, rfl⟩) ?_ | refine YK.mk (y_callRA (q3) ⟨rfl, rfl, rfl⟩) ?_)
    | (show YK _ _ _ _ _ _ _; refine YK.ofV vAuto ?_)
    | (show VK _ _ _ _ _ _ _; refine VK.mk vAuto ?_)
    | (show RS _ _ _ _ _ _ _ _; first | (refine nxRS ?_) | (refine nxRS1 fun _ => ?_))
    | (show RM _ _ _ _ _ _ _ _ _ _; first | (refine nxRM ?_) | (refine nxRM1 fun _ => ?_))
    | (show YG _ _ _ _ _ _ _ _; refine YG.mk (fun hb => by (try (have hc := And.left hb; have hb := And.right hb; rw [hc])); (try rw [hb]); first | exact (y_callA (q1) ⟨rfl, rfl⟩) | exact (y_callA (q2) ⟨rfl, rfl⟩) | exact (y_callRA (q3) ⟨rfl, rfl, rfl⟩) | exact V.y vAuto) ?_)
    | (show VG _ _ _ _ _ _ _ _; refine VG.mk (fun hb => by (try (have hc := And.left hb; have hb := And.right hb; rw [hc])); (try rw [hb]); exact vAuto) ?_)
    | (refine nxVS ?_)
    | (refine nxGS ?_)
    | (refine nxX ?_)
    | (refine G.condN rfl (fun hc => ?_) (fun hc => ?_) <;> (try first | exact False.elim hc | (exfalso; omega))))
      · have hf : okS l i = false := by
          rw [hok]
          rcases hc with (h | h) | h
          · rw [h]; rfl
          · rw [decide_eq_false h]; simp
          · rcases hk2 with ⟨_, g⟩ | ⟨g, _⟩
            · exact absurd g h
            · rw [g]; simp
        exact X.ret (vs := [_]) rfl ⟨rfl, rfl⟩ rfl (fun w hw => ⟨ret_bool (validS_f hi hf).symm, hw.ext⟩)
      · have ht : okS l i = true := by
          rcases hk2 with ⟨g, _⟩ | ⟨_, g⟩
          · rw [hok, hc.1.1, g, decide_eq_true hc.1.2]; rfl
          · have := hc.2; omega
        refine X.again (i + 1) ⟨by omega, fun k hk => ?_⟩ (by omega) ⟨rfl, rfl, trivial⟩ (by exact fun w h => h.sub (by repeat (first | exact List.Sublist.refl _ | apply List.Sublist.cons_cons | apply List.Sublist.cons)))
        rcases Nat.lt_or_ge k i with h | h
        · exact g2 k h
        · rw [show k = i by omega]; exact ht
    · repeat' (first
    | (refine nxV ?_)
    | (show RS _ _ _ _ _ _ _ _; first | (refine nxRS ?_) | (refine nxRS1 fun _ => ?_))
    | (show RM _ _ _ _ _ _ _ _ _ _; first | (refine nxRM ?_) | (refine nxRM1 fun _ => ?_))
    | (refine nxG ?_)
    | (refine nxX ?_)
    | (refine G.condN rfl (fun hc => ?_) (fun hc => ?_) <;> (try first | exact False.elim hc | (exfalso; omega))))
      exact X.ret (vs := [_]) rfl ⟨rfl, rfl⟩ rfl (fun w hw => ⟨ret_bool (validS_mk (by omega) (fun k hk => g2 k (by omega))).symm, hw.ext⟩)
theorem rof_c {n : Int} (h : -1000000000 ≤ n ∧ n ≤ 1000000000) : Cont Tryz.prog 85 [.int .i64 n] (.agg [.int .i64 (100 * n - 50), .int .i64 (100 * n + 50)].toArray) := fun w => by
  refine enter0 Tryz.func85 rfl rfl rfl ?_
  repeat' (first
    | (refine nxV ?_)
    | (show RS _ _ _ _ _ _ _ _; first | (refine nxRS ?_) | (refine nxRS1 fun _ => ?_))
    | (show RM _ _ _ _ _ _ _ _ _ _; first | (refine nxRM ?_) | (refine nxRM1 fun _ => ?_))
    | (refine nxG ?_)
    | (refine nxX ?_)
    | (refine G.condN rfl (fun hc => ?_) (fun hc => ?_) <;> (try first | exact False.elim hc | (exfalso; omega))))
  exact X.ret (vs := [_]) rfl ⟨⟨_, _, _, _, rfl, (by exact memA), (by (repeat (first | exact .nil | apply LenIs.cons))), by decide +kernel, rfl⟩, rfl⟩ rfl (fun w hw => ⟨rfl, hw.ext⟩)
end Go.Proofs.YtgmolcobhehoeaaGreatDoor
