/- math/bits: products and quotients of 128 bits. -/
import Derived.Test.YtaglecidaedjfaaDoorTys
import Derived.Test.YtaglecidaedjfaaDoorLen
import Derived.Test.YtaglecidaedjfaaDoorDivPlain
import Derived.Lib.ItoaNum
set_option linter.unusedVariables false
set_option maxHeartbeats 4000000
namespace Go.Proofs.YtaglecidaedjfaaDoor
open Go.RowKit

theorem mul64_c {x y : Int} (h : 0 ≤ x ∧ x ≤ 18446744073709551615 ∧ 0 ≤ y ∧ y ≤ 18446744073709551615) : Cont Tryd.prog 108 [.int .u64 x, .int .u64 y] (.tuple [.int .u64 (x * y / 18446744073709551616), .int .u64 (x * y % 18446744073709551616)].toArray) := fun w => by
  obtain ⟨h1, h2, h3, h4⟩ := h
  have hm : ∀ a b : Int, 0 ≤ a → a ≤ 4294967295 → 0 ≤ b → b ≤ 4294967295 → 0 ≤ a * b ∧ a * b ≤ 18446744065119617025 := fun a b g1 g2 g3 g4 => by
    have := Int.mul_nonneg g1 g3
    have : a * b ≤ 4294967295 * 4294967295 := Int.mul_le_mul g2 g4 g3 (by omega)
    omega
  have b1 := hm (x % 4294967296) (y % 4294967296) (by omega) (by omega) (by omega) (by omega)
  have b2 := hm (x / 4294967296) (y % 4294967296) (by omega) (by omega) (by omega) (by omega)
  have b3 := hm (x % 4294967296) (y / 4294967296) (by omega) (by omega) (by omega) (by omega)
  have b4 := hm (x / 4294967296) (y / 4294967296) (by omega) (by omega) (by omega) (by omega)
  have e : x * y = x / 4294967296 * (y / 4294967296) * 18446744073709551616 + (x / 4294967296 * (y % 4294967296) + x % 4294967296 * (y / 4294967296)) * 4294967296 + x % 4294967296 * (y % 4294967296) := by
    have ex := Int.emod_add_mul_ediv x 4294967296
    have ey := Int.emod_add_mul_ediv y 4294967296
    generalize x / 4294967296 = x1 at *
    generalize x % 4294967296 = x0 at *
    generalize y / 4294967296 = y1 at *
    generalize y % 4294967296 = y0 at *
    subst ex; subst ey
    grind
  have b5 : 0 ≤ x / 4294967296 * (y / 4294967296) + (x / 4294967296 * (y % 4294967296) + x % 4294967296 * (y % 4294967296) / 4294967296) / 4294967296 := by omega
  refine enter0 Tryd.func108 rfl rfl rfl ?_
  repeat' (first
    | (refine nxV ?_)
    | (show RS _ _ _ _ _ _ _ _; first | (refine nxRS ?_) | (refine nxRS1 fun _ => ?_))
    | (show RM _ _ _ _ _ _ _ _ _ _; first | (refine nxRM ?_) | (refine nxRM1 fun _ => ?_))
    | (refine nxG ?_)
    | (refine nxX ?_)
    | (refine G.condN rfl (fun hc => ?_) (fun hc => ?_) <;> (try first | exact False.elim hc | (exfalso; omega))))
  refine X.ret (vs := [_, _]) rfl ⟨rfl, rfl, rfl⟩ rfl (fun w hw => ⟨?_, hw.ext⟩)
  simp only [IntKind.wrap_u64, e]
  congr 2
  refine congrArg Array.mk (List.cons_eq_cons.2 ⟨congrArg (Value.int .u64) ?_, rfl⟩)
  generalize x / 4294967296 * (y / 4294967296) = a at *
  generalize x / 4294967296 * (y % 4294967296) = b at *
  generalize x % 4294967296 * (y / 4294967296) = c at *
  generalize x % 4294967296 * (y % 4294967296) = d at *
  omega
theorem lz_c {x s : Int} (h : 0 < x ∧ x ≤ 18446744073709551615) (hs : s = 64 - (Lib.bitLen x.toNat : Int)) : Cont Tryd.prog 131 [.int .u64 x] (.int .i64 s) := fun w => by
  have hl : Cont Tryd.prog 151 [.int .u64 x] (.int .i64 (Lib.bitLen x.toNat)) := fun w => (Tryd.bits_Len64 x w (by omega) h.2).mono fun e w' he => ⟨he.1, by rw [he.2]; exact Below.refl _ _⟩
  have hb := Lib.bitLen_le x.toNat 64 (by omega) (by omega)
  refine enter0 Tryd.func131 rfl rfl rfl ?_
  repeat' (first
    | (show YK _ _ _ _ _ _ _; first | refine YK.mk (y_callA (hl) ⟨rfl, rfl⟩) ?_)
    | (show YK _ _ _ _ _ _ _; refine YK.ofV vAuto ?_)
    | (show VK _ _ _ _ _ _ _; refine VK.mk vAuto ?_)
    | (show RS _ _ _ _ _ _ _ _; first | (refine nxRS ?_) | (refine nxRS1 fun _ => ?_))
    | (show RM _ _ _ _ _ _ _ _ _ _; first | (refine nxRM ?_) | (refine nxRM1 fun _ => ?_))
    | (show YG _ _ _ _ _ _ _ _; refine YG.mk (fun hb => by (try (have hc := And.left hb; have hb := And.right hb; rw [hc])); (try rw [hb]); first | exact (y_callA (hl) ⟨rfl, rfl⟩) | exact V.y vAuto) ?_)
    | (show VG _ _ _ _ _ _ _ _; refine VG.mk (fun hb => by (try (have hc := And.left hb; have hb := And.right hb; rw [hc])); (try rw [hb]); exact vAuto) ?_)
    | (refine nxX ?_)
    | (refine G.condN rfl (fun hc => ?_) (fun hc => ?_) <;> (try first | exact False.elim hc | (exfalso; omega))))
  exact X.ret (vs := [_]) rfl ⟨rfl, rfl⟩ rfl (fun w hw => ⟨ret_int hs.symm, hw.ext⟩)
/-- Shifts by a number that is not given, under the names of their results. -/
def ShlIs (m c r : Int) : Prop := 0 ≤ c ∧ IntKind.u64.wrap (m * 2 ^ (min c.toNat IntKind.u64.bits)) = r
def ShrIs (m c r : Int) : Prop := 0 ≤ c ∧ m / 2 ^ (min c.toNat IntKind.u64.bits) = r
def OrIs (m m' r : Int) : Prop := bits .or .u64 m m' = r
section
variable {P : Program} {n : Nat} {L : FL} {w0 : World} {H : List Hl} {d : Option Tmp} {ty : TypeId} {pos : String} {af : Array Edge} {g : Option (Nat × Bool)} {x y : Operand} {t t' : TypeId} {m m' r : Int}
theorem y_shlS (hx : evO L x = some (.int .u64 m)) (hy : evO L y = some (.int .u64 m')) (h : ShlIs m m' r) : V P n L w0 H ⟨d, .binOp .shl t x y t', ty, pos, af, g⟩ (.int .u64 r) := h.2 ▸ y_shlV hx hy h.1
theorem y_shrS (hx : evO L x = some (.int .u64 m)) (hy : evO L y = some (.int .u64 m')) (h : ShrIs m m' r) : V P n L w0 H ⟨d, .binOp .shr t x y t', ty, pos, af, g⟩ (.int .u64 r) := h.2 ▸ y_shrV hx hy h.1
theorem y_orS (hx : evO L x = some (.int .u64 m)) (hy : evO L y = some (.int .u64 m')) (h : OrIs m m' r) : V P n L w0 H ⟨d, .binOp .or t x y t', ty, pos, af, g⟩ (.int .u64 r) := by
  unfold OrIs at h
  exact h ▸ y_bor hx hy
end
/-- What the quotient's first lines reckon. -/
theorem div_shifts {hi lo y s : Int} (h : 0 < hi ∧ hi < y ∧ y ≤ 18446744073709551615 ∧ 0 ≤ lo ∧ lo ≤ 18446744073709551615) (hs : s = 64 - (Lib.bitLen y.toNat : Int)) :
    ∃ p r HP LR U U10 : Int, 0 ≤ s ∧ s ≤ 63 ∧ 0 < p ∧ 0 < r ∧ p * r = 18446744073709551616 ∧ 9223372036854775808 ≤ y * p ∧ y * p ≤ 18446744073709551615 ∧ ShlIs y s (y * p) ∧ ShlIs hi s HP ∧ ShrIs lo (64 - s) LR ∧ OrIs HP LR U ∧ U = hi * p + lo / r ∧ 0 ≤ U ∧ U < y * p ∧ ShlIs lo s U10 ∧ U10 = (lo * p) % 18446744073709551616 ∧ 2 ^ (min s.toNat IntKind.u64.bits) = p := by
  obtain ⟨h1, h2, h3, h4, h5⟩ := h
  have hb := Lib.bitLenAux_bounds 64 y.toNat (by omega) (by omega)
  obtain ⟨c1, c2, c3⟩ := hb
  have hle := Lib.bitLen_le y.toNat 64 (by omega) (by omega)
  rw [show Lib.bitLenAux 64 y.toNat = Lib.bitLen y.toNat from rfl] at c1 c2 c3
  generalize hk : Lib.bitLen y.toNat = k at *
  have hs0 : 0 ≤ s ∧ s ≤ 63 := by omega
  have hst : s.toNat = 64 - k := by omega
  have hmin : min s.toNat IntKind.u64.bits = 64 - k := by rw [hst]; exact Nat.min_eq_left (by show 64 - k ≤ 64; omega)
  have hmin2 : min (64 - s).toNat IntKind.u64.bits = k := by rw [show (64 - s).toNat = k by omega]; exact Nat.min_eq_left hle
  have e1 : (2 : Nat) ^ (64 - k) * 2 ^ k = 18446744073709551616 := by rw [← Nat.pow_add, show 64 - k + k = 64 by omega]
  have e2 : (2 : Nat) ^ k = 2 * 2 ^ (k - 1) := by rw [← Nat.pow_succ', show (k - 1).succ = k by omega]
  have hp0 : 0 < (2 : Nat) ^ (64 - k) := Nat.two_pow_pos _
  have hr0 : 0 < (2 : Nat) ^ k := Nat.two_pow_pos _
  have ep : ((2 : Int) ^ (64 - k)) = ((2 ^ (64 - k) : Nat) : Int) := by rw [Int.natCast_pow]; rfl
  have er : ((2 : Int) ^ k) = ((2 ^ k : Nat) : Int) := by rw [Int.natCast_pow]; rfl
  generalize hp : (2 : Nat) ^ (64 - k) = p at *
  generalize hr : (2 : Nat) ^ k = r at *
  generalize (2 : Nat) ^ (k - 1) = r1 at *
  have hyN : (y.toNat : Int) = y := by omega
  have k1 : y.toNat * p ≤ 18446744073709551615 := by
    have h6 : y.toNat + 1 ≤ r := by omega
    have h7 := Nat.mul_le_mul_right p h6
    rw [Nat.mul_comm r p, e1, Nat.add_mul] at h7
    omega
  have k2 : 9223372036854775808 ≤ y.toNat * p := by
    have h7 := Nat.mul_le_mul_right p c2
    have h8 : 2 * (r1 * p) = 18446744073709551616 := by rw [← e1, e2]; rw [Nat.mul_comm p, Nat.mul_assoc]
    omega
  have k1' : y * p ≤ 18446744073709551615 := by rw [← hyN, ← Int.natCast_mul]; omega
  have k2' : 9223372036854775808 ≤ y * p := by rw [← hyN, ← Int.natCast_mul]; omega
  have hhi : hi.toNat * p + p ≤ y.toNat * p := by
    have := Nat.mul_le_mul_right p (show hi.toNat + 1 ≤ y.toNat by omega)
    rw [Nat.add_mul] at this
    omega
  have hlr : lo.toNat / r < p := Nat.div_lt_of_lt_mul (by rw [Nat.mul_comm]; omega)
  have hwr : ∀ z : Int, 0 ≤ z → z ≤ 18446744073709551615 → IntKind.u64.wrap z = z := fun z a b => wrapU ⟨a, b⟩
  have ehi : hi * (p : Int) = ((hi.toNat * p : Nat) : Int) := by rw [Int.natCast_mul, show (hi.toNat : Int) = hi by omega]
  have elo : lo / (r : Int) = ((lo.toNat / r : Nat) : Int) := by rw [Int.natCast_ediv, show (lo.toNat : Int) = lo by omega]
  have eor : (hi.toNat * p) ||| (lo.toNat / r) = hi.toNat * p + lo.toNat / r := by
    rw [Nat.mul_comm hi.toNat p, ← hp]
    rw [← hp] at hlr
    exact (Nat.two_pow_add_eq_or_of_lt hlr hi.toNat).symm
  refine ⟨p, r, hi * p, lo / r, hi * p + lo / r, (lo * p) % 18446744073709551616, hs0.1, hs0.2, by omega, by omega, by rw [← Int.natCast_mul, e1]; rfl, k2', k1', ⟨hs0.1, ?_⟩, ⟨hs0.1, ?_⟩, ⟨by omega, ?_⟩, ?_, rfl, ?_, ?_, ⟨hs0.1, ?_⟩, rfl, by rw [hmin, ep]⟩
  · rw [hmin, ep, hwr _ (by omega) k1']
  · rw [hmin, ep, hwr _ (by rw [ehi]; omega) (by rw [ehi]; omega)]
  · rw [hmin2, er]
  · unfold OrIs
    rw [ehi, elo, bits_or_u64_nat _ _ (by omega) (by omega), eor, Int.natCast_add]
  · rw [ehi, elo]; omega
  · rw [ehi, elo, ← hyN, ← Int.natCast_mul]; omega
  · rw [hmin, ep, IntKind.wrap_u64]
def SubIs (m m' r : Int) : Prop := IntKind.u64.wrap (m - m') = r
theorem y_subS {P : Program} {n : Nat} {L : FL} {w0 : World} {H : List Hl} {d : Option Tmp} {ty : TypeId} {pos : String} {af : Array Edge} {g : Option (Nat × Bool)} {x y : Operand} {t t' : TypeId} {m m' r : Int} (hx : evO L x = some (.int .u64 m)) (hy : evO L y = some (.int .u64 m')) (h : SubIs m m' r) : V P n L w0 H ⟨d, .binOp .sub t x y t', ty, pos, af, g⟩ (.int .u64 r) := by
  unfold SubIs at h
  exact h ▸ y_sub hx hy
theorem subIs {a b c : Int} (h : 0 ≤ a * 4294967296 + b - c ∧ a * 4294967296 + b - c ≤ 18446744073709551615) : SubIs (IntKind.u64.wrap (IntKind.u64.wrap (a * 4294967296) + b)) (IntKind.u64.wrap c) (a * 4294967296 + b - c) := by
  unfold SubIs
  simp only [IntKind.wrap_u64]
  omega
theorem div64_c {hi lo y : Int} (h : 0 ≤ hi ∧ hi < y ∧ y ≤ 18446744073709551615 ∧ 0 ≤ lo ∧ lo ≤ 18446744073709551615) : Cont Tryd.prog 109 [.int .u64 hi, .int .u64 lo, .int .u64 y] (.tuple [.int .u64 ((hi * 18446744073709551616 + lo) / y), .int .u64 ((hi * 18446744073709551616 + lo) % y)].toArray) := fun w => by
  obtain ⟨h1, h2, h3, h4, h5⟩ := h
  rcases Int.lt_or_eq_of_le h1 with h0 | h0
  rotate_left
  · subst h0
    refine enter0 Tryd.func109 rfl rfl rfl ?_
    repeat' (first
    | (refine nxV ?_)
    | (show RS _ _ _ _ _ _ _ _; first | (refine nxRS ?_) | (refine nxRS1 fun _ => ?_))
    | (show RM _ _ _ _ _ _ _ _ _ _; first | (refine nxRM ?_) | (refine nxRM1 fun _ => ?_))
    | (refine nxG ?_)
    | (refine G.mixedA 6 [.go 0, .go 1, .go 2, .go 3, .go 4, .go 5, .go 6, .go 7] ?_)
    | (refine nxX ?_)
    | (refine G.condN rfl (fun hc => ?_) (fun hc => ?_) <;> (try first | exact False.elim hc | (exfalso; omega))))
    exact X.ret (vs := [_, _]) rfl ⟨rfl, rfl, rfl⟩ rfl (fun w hw => ⟨by simp, hw.ext⟩)
  obtain ⟨s, hs⟩ : ∃ s : Int, s = 64 - (Lib.bitLen y.toNat : Int) := ⟨_, rfl⟩
  obtain ⟨p, r, HP, LR, U, U10, s0, s1, hp, hr, hpr, hY1, hY2, sh1, sh2, sh3, or1, eU, hU0, hUy, sh4, eU10, e2p⟩ := div_shifts ⟨h0, h2, h3, h4, h5⟩ hs
  have hwh := @div_whole hi lo y p r U U10
  generalize hY : y * p = Y at *
  have hYe : Y / 4294967296 * 4294967296 + Y % 4294967296 = Y := by omega
  have hm1 := Int.ediv_mul_le U (show Y / 4294967296 ≠ 0 by omega)
  have hm2 := Int.lt_ediv_add_one_mul_self U (show 0 < Y / 4294967296 by omega)
  rw [Int.add_mul, Int.one_mul] at hm2
  have hm3 := Int.mul_nonneg (Int.ediv_nonneg hU0 (show 0 ≤ Y / 4294967296 by omega)) (show 0 ≤ Y / 4294967296 by omega)
  have hq0 := Int.ediv_nonneg hU0 (show 0 ≤ Y / 4294967296 by omega)
  have hU10 : 0 ≤ U10 ∧ U10 ≤ 18446744073709551615 := by omega
  refine enter0 Tryd.func109 rfl rfl rfl ?_
  repeat' (first
    | (refine YK.ofV (y_shlS (by rfl) (by rfl) (by assumption)) ?_)
    | (refine YK.ofV (y_shrS (by rfl) (by rfl) (by assumption)) ?_)
    | (refine YK.ofV (y_orS (by rfl) (by rfl) (by assumption)) ?_)
    | (show YK _ _ _ _ _ _ _; first | refine YK.mk (y_callA (lz_c (s := s) (by omega) hs) ⟨rfl, rfl⟩) ?_)
    | (show YK _ _ _ _ _ _ _; refine YK.ofV vAuto ?_)
    | (show VK _ _ _ _ _ _ _; refine VK.mk vAuto ?_)
    | (show RS _ _ _ _ _ _ _ _; first | (refine nxRS ?_) | (refine nxRS1 fun _ => ?_))
    | (show RM _ _ _ _ _ _ _ _ _ _; first | (refine nxRM ?_) | (refine nxRM1 fun _ => ?_))
    | (show YG _ _ _ _ _ _ _ _; refine YG.mk (fun hb => by (try (have hc := And.left hb; have hb := And.right hb; rw [hc])); (try rw [hb]); first | exact (y_callA (lz_c (s := s) (by omega) hs) ⟨rfl, rfl⟩) | exact V.y vAuto) ?_)
    | (show VG _ _ _ _ _ _ _ _; refine VG.mk (fun hb => by (try (have hc := And.left hb; have hb := And.right hb; rw [hc])); (try rw [hb]); exact vAuto) ?_)
    | (refine G.mixedA 6 [.go 0, .go 1, .go 2, .go 3, .go 4, .go 5, .go 6, .go 7] ?_)
    | (refine nxX ?_)
    | (refine G.condN rfl (fun hc => ?_) (fun hc => ?_) <;> (try first | exact False.elim hc | (exfalso; omega))))
  have hd1 : 0 ≤ U10 / 4294967296 ∧ U10 / 4294967296 < 4294967296 := by omega
  obtain ⟨Q1, hQ1⟩ : ∃ Q1, (U * 4294967296 + U10 / 4294967296) / Y = Q1 := ⟨_, rfl⟩
  have hge1 := digit_ge (u := U) (d := U10 / 4294967296) (y1 := Y / 4294967296) (y0 := Y % 4294967296) hU0 hd1.1 hd1.2 (by omega) (by omega)
  rw [hYe, hQ1] at hge1
  have hle1 := digit_le (u := U) (y := Y) (y1 := Y / 4294967296) (y0 := Y % 4294967296) hU0 hUy hYe.symm (by omega) (by omega) (by omega)
  have hlt1 := digit_lt (u := U) (d := U10 / 4294967296) (y := Y) (by omega) hd1.2 hUy
  rw [hQ1] at hlt1
  have hnn1 : 0 ≤ Q1 := hQ1 ▸ Int.ediv_nonneg (by omega) (by omega)
  refine G.mid [(2, .int .u64 Y), (8, .int .u64 s), (9, .int .u64 (Y / 4294967296)), (10, .int .u64 (Y % 4294967296)), (13, .int .u64 (U10 / 4294967296)), (14, .int .u64 (U10 % 4294967296)), (11, .int .u64 U), (15, .int .u64 Q1)] [] ?_ ?_
  · refine G.loop (ι := Int × Int) (fun x => [(2, .int .u64 Y), (8, .int .u64 s), (9, .int .u64 (Y / 4294967296)), (10, .int .u64 (Y % 4294967296)), (13, .int .u64 (U10 / 4294967296)), (14, .int .u64 (U10 % 4294967296)), (11, .int .u64 U), (15, .int .u64 x.1), (16, .int .u64 x.2)]) (fun _ => []) (fun x => Q1 ≤ x.1 ∧ x.1 ≤ 4294967297 ∧ x.2 = U - x.1 * (Y / 4294967296) ∧ 0 ≤ x.2 ∧ x.2 < 4294967296) (fun x => (x.1 - Q1).toNat)
      (U / (Y / 4294967296), U - U / (Y / 4294967296) * (Y / 4294967296)) ⟨hge1, hle1, rfl, by dsimp only; omega, by dsimp only; omega⟩ ⟨rfl, rfl, rfl, rfl, rfl, rfl, rfl, rfl, rfl, trivial⟩ (fun w h => h) ?_
    rintro ⟨q, r⟩ mx ⟨g1, g2, g3, g4, g5⟩ hmx
    dsimp only at g1 g2 g3 g4 g5 hmx ⊢
    have ft := digit_test (u := U) (d := (U10 / 4294967296)) (y1 := Y / 4294967296) (y0 := Y % 4294967296) (q := q) (r := r) (by omega) g3
    rw [hYe, hQ1] at ft
    have f1 : 4294967296 ≤ q ∨ (0 ≤ q * (Y % 4294967296) ∧ q * (Y % 4294967296) ≤ 18446744073709551615) := by
      rcases Int.lt_or_le q 4294967296 with h | h
      · have a1 := Int.mul_nonneg (show 0 ≤ q by omega) (show 0 ≤ Y % 4294967296 by omega)
        have a2 : q * (Y % 4294967296) ≤ 4294967295 * 4294967295 := Int.mul_le_mul (by omega) (by omega) (by omega) (by omega)
        exact .inr ⟨a1, by omega⟩
      · exact .inl h
    have e1 : (q - 1) * (Y / 4294967296) = q * (Y / 4294967296) - Y / 4294967296 := by rw [Int.sub_mul, Int.one_mul]
    repeat' (first
    | (refine nxV ?_)
    | (show RS _ _ _ _ _ _ _ _; first | (refine nxRS ?_) | (refine nxRS1 fun _ => ?_))
    | (show RM _ _ _ _ _ _ _ _ _ _; first | (refine nxRM ?_) | (refine nxRM1 fun _ => ?_))
    | (refine nxG ?_)
    | (refine G.mixedA 6 [.go 0, .go 1, .go 2, .go 3, .go 4, .go 5, .go 6, .go 7] ?_)
    | (refine nxX ?_)
    | (refine G.condN rfl (fun hc => ?_) (fun hc => ?_) <;> (try first | exact False.elim hc | (exfalso; omega))))
    · have fs := digit_stop (u := U) (d := (U10 / 4294967296)) (y1 := Y / 4294967296) (y0 := Y % 4294967296) (q := q - 1) (r := r + Y / 4294967296) (by omega) (by omega) (by omega) (by omega) (by omega) (by omega) (by omega) (by omega)
      rw [hYe, hQ1] at fs
      have e2 : q - 1 = Q1 := by omega
      exact X.mid ⟨rfl, rfl, rfl, rfl, rfl, rfl, rfl, by show some _ = some _; rw [e2], trivial⟩ (fun w h => h)
    · exact X.again (q - 1, r + Y / 4294967296) ⟨by dsimp only; omega, by dsimp only; omega, by dsimp only; omega, by dsimp only; omega, by dsimp only; omega⟩ (by dsimp only; omega) ⟨rfl, rfl, rfl, rfl, rfl, rfl, rfl, rfl, rfl, trivial⟩ (fun w h => h)
    · have e2 : q = Q1 := by omega
      exact X.mid ⟨rfl, rfl, rfl, rfl, rfl, rfl, rfl, by show some _ = some _; rw [e2], trivial⟩ (fun w h => h)
  have r1a := Int.ediv_mul_le (U * 4294967296 + U10 / 4294967296) (show Y ≠ 0 by omega)
  have r1b := Int.lt_ediv_add_one_mul_self (U * 4294967296 + U10 / 4294967296) (show 0 < Y by omega)
  rw [hQ1] at r1a r1b
  rw [Int.add_mul, Int.one_mul] at r1b
  have sb1 := subIs (a := U) (b := U10 / 4294967296) (c := Q1 * Y) ⟨by omega, by omega⟩
  obtain ⟨R1, hR1⟩ : ∃ R1, U * 4294967296 + U10 / 4294967296 - Q1 * Y = R1 := ⟨_, rfl⟩
  rw [hR1] at sb1
  have hR10 : 0 ≤ R1 := by omega
  have hR1y : R1 < Y := by omega
  have hm1' := Int.ediv_mul_le R1 (show Y / 4294967296 ≠ 0 by omega)
  have hm2' := Int.lt_ediv_add_one_mul_self R1 (show 0 < Y / 4294967296 by omega)
  rw [Int.add_mul, Int.one_mul] at hm2'
  have hm3' := Int.mul_nonneg (Int.ediv_nonneg hR10 (show 0 ≤ Y / 4294967296 by omega)) (show 0 ≤ Y / 4294967296 by omega)
  have hd2 : 0 ≤ U10 % 4294967296 ∧ U10 % 4294967296 < 4294967296 := by omega
  obtain ⟨Q2, hQ2⟩ : ∃ Q2, (R1 * 4294967296 + U10 % 4294967296) / Y = Q2 := ⟨_, rfl⟩
  have hge2 := digit_ge (u := R1) (d := U10 % 4294967296) (y1 := Y / 4294967296) (y0 := Y % 4294967296) hR10 hd2.1 hd2.2 (by omega) (by omega)
  rw [hYe, hQ2] at hge2
  have hle2 := digit_le (u := R1) (y := Y) (y1 := Y / 4294967296) (y0 := Y % 4294967296) hR10 hR1y hYe.symm (by omega) (by omega) (by omega)
  have hlt2 := digit_lt (u := R1) (d := U10 % 4294967296) (y := Y) (by omega) hd2.2 hR1y
  rw [hQ2] at hlt2
  have hnn2 : 0 ≤ Q2 := hQ2 ▸ Int.ediv_nonneg (by omega) (by omega)
  repeat' (first
    | (refine YK.ofV (y_subS (by rfl) (by rfl) (by assumption)) ?_)
    | (refine nxV ?_)
    | (show RS _ _ _ _ _ _ _ _; first | (refine nxRS ?_) | (refine nxRS1 fun _ => ?_))
    | (show RM _ _ _ _ _ _ _ _ _ _; first | (refine nxRM ?_) | (refine nxRM1 fun _ => ?_))
    | (refine nxG ?_)
    | (refine G.mixedA 6 [.go 0, .go 1, .go 2, .go 3, .go 4, .go 5, .go 6, .go 7] ?_)
    | (refine nxX ?_)
    | (refine G.condN rfl (fun hc => ?_) (fun hc => ?_) <;> (try first | exact False.elim hc | (exfalso; omega))))
  refine G.mid [(2, .int .u64 Y), (8, .int .u64 s), (9, .int .u64 (Y / 4294967296)), (10, .int .u64 (Y % 4294967296)), (14, .int .u64 (U10 % 4294967296)), (15, .int .u64 Q1), (17, .int .u64 R1), (18, .int .u64 Q2)] [] ?_ ?_
  · refine G.loop (ι := Int × Int) (fun x => [(2, .int .u64 Y), (8, .int .u64 s), (9, .int .u64 (Y / 4294967296)), (10, .int .u64 (Y % 4294967296)), (14, .int .u64 (U10 % 4294967296)), (15, .int .u64 Q1), (17, .int .u64 R1), (18, .int .u64 x.1), (16, .int .u64 x.2)]) (fun _ => []) (fun x => Q2 ≤ x.1 ∧ x.1 ≤ 4294967297 ∧ x.2 = R1 - x.1 * (Y / 4294967296) ∧ 0 ≤ x.2 ∧ x.2 < 4294967296) (fun x => (x.1 - Q2).toNat)
      (R1 / (Y / 4294967296), R1 - R1 / (Y / 4294967296) * (Y / 4294967296)) ⟨hge2, hle2, rfl, by dsimp only; omega, by dsimp only; omega⟩ ⟨rfl, rfl, rfl, rfl, rfl, rfl, rfl, rfl, rfl, trivial⟩ (fun w h => h) ?_
    rintro ⟨q, r⟩ mx ⟨g1, g2, g3, g4, g5⟩ hmx
    dsimp only at g1 g2 g3 g4 g5 hmx ⊢
    have ft := digit_test (u := R1) (d := (U10 % 4294967296)) (y1 := Y / 4294967296) (y0 := Y % 4294967296) (q := q) (r := r) (by omega) g3
    rw [hYe, hQ2] at ft
    have f1 : 4294967296 ≤ q ∨ (0 ≤ q * (Y % 4294967296) ∧ q * (Y % 4294967296) ≤ 18446744073709551615) := by
      rcases Int.lt_or_le q 4294967296 with h | h
      · have a1 := Int.mul_nonneg (show 0 ≤ q by omega) (show 0 ≤ Y % 4294967296 by omega)
        have a2 : q * (Y % 4294967296) ≤ 4294967295 * 4294967295 := Int.mul_le_mul (by omega) (by omega) (by omega) (by omega)
        exact .inr ⟨a1, by omega⟩
      · exact .inl h
    have e1 : (q - 1) * (Y / 4294967296) = q * (Y / 4294967296) - Y / 4294967296 := by rw [Int.sub_mul, Int.one_mul]
    repeat' (first
    | (refine nxV ?_)
    | (show RS _ _ _ _ _ _ _ _; first | (refine nxRS ?_) | (refine nxRS1 fun _ => ?_))
    | (show RM _ _ _ _ _ _ _ _ _ _; first | (refine nxRM ?_) | (refine nxRM1 fun _ => ?_))
    | (refine nxG ?_)
    | (refine G.mixedA 6 [.go 0, .go 1, .go 2, .go 3, .go 4, .go 5, .go 6, .go 7] ?_)
    | (refine nxX ?_)
    | (refine G.condN rfl (fun hc => ?_) (fun hc => ?_) <;> (try first | exact False.elim hc | (exfalso; omega))))
    · have fs := digit_stop (u := R1) (d := (U10 % 4294967296)) (y1 := Y / 4294967296) (y0 := Y % 4294967296) (q := q - 1) (r := r + Y / 4294967296) (by omega) (by omega) (by omega) (by omega) (by omega) (by omega) (by omega) (by omega)
      rw [hYe, hQ2] at fs
      have e2 : q - 1 = Q2 := by omega
      exact X.mid ⟨rfl, rfl, rfl, rfl, rfl, rfl, rfl, by show some _ = some _; rw [e2], trivial⟩ (fun w h => h)
    · exact X.again (q - 1, r + Y / 4294967296) ⟨by dsimp only; omega, by dsimp only; omega, by dsimp only; omega, by dsimp only; omega, by dsimp only; omega⟩ (by dsimp only; omega) ⟨rfl, rfl, rfl, rfl, rfl, rfl, rfl, rfl, rfl, trivial⟩ (fun w h => h)
    · have e2 : q = Q2 := by omega
      exact X.mid ⟨rfl, rfl, rfl, rfl, rfl, rfl, rfl, by show some _ = some _; rw [e2], trivial⟩ (fun w h => h)
  have r2a := Int.ediv_mul_le (R1 * 4294967296 + U10 % 4294967296) (show Y ≠ 0 by omega)
  have r2b := Int.lt_ediv_add_one_mul_self (R1 * 4294967296 + U10 % 4294967296) (show 0 < Y by omega)
  rw [hQ2] at r2a r2b
  rw [Int.add_mul, Int.one_mul] at r2b
  have sb2 := subIs (a := R1) (b := U10 % 4294967296) (c := Q2 * Y) ⟨by omega, by omega⟩
  repeat' (first
    | (refine YK.ofV (y_subS (by rfl) (by rfl) (by assumption)) ?_)
    | (refine nxV ?_)
    | (show RS _ _ _ _ _ _ _ _; first | (refine nxRS ?_) | (refine nxRS1 fun _ => ?_))
    | (show RM _ _ _ _ _ _ _ _ _ _; first | (refine nxRM ?_) | (refine nxRM1 fun _ => ?_))
    | (refine nxG ?_)
    | (refine G.mixedA 6 [.go 0, .go 1, .go 2, .go 3, .go 4, .go 5, .go 6, .go 7] ?_)
    | (refine nxX ?_)
    | (refine G.condN rfl (fun hc => ?_) (fun hc => ?_) <;> (try first | exact False.elim hc | (exfalso; omega))))
  have hfin := hwh (un1 := U10 / 4294967296) (un0 := U10 % 4294967296) (q1 := Q1) (q0 := Q2) (u21 := R1) (R := R1 * 4294967296 + U10 % 4294967296 - Q2 * Y) hp hpr hr (by omega) hY2 h1 h2 h4 eU eU10 (by omega) hR1.symm rfl (by omega) (by omega)
  exact X.ret (vs := [_, _]) rfl ⟨rfl, rfl, rfl⟩ rfl (fun w hw => ⟨by rw [hfin.1, hfin.2, e2p], hw.ext⟩)
end Go.Proofs.YtaglecidaedjfaaDoor
