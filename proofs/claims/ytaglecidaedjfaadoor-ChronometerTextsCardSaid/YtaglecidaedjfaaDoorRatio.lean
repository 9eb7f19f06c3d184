/- Fractions: the greatest common divisor, Make, Valid; and the reference's. -/
import Derived.Test.YtaglecidaedjfaaDoorTys
set_option linter.unusedVariables false
set_option maxHeartbeats 4000000
namespace Go.Proofs.YtaglecidaedjfaaDoor
open Go.RowKit

theorem gcd_emod (x y : Int) (hx : 0 ≤ x) (hy : 0 ≤ y) : Int.gcd (x % y) y = Int.gcd x y := by
  obtain ⟨a, rfl⟩ := Int.eq_ofNat_of_zero_le hx
  obtain ⟨b, rfl⟩ := Int.eq_ofNat_of_zero_le hy
  rw [← Int.natCast_emod]
  simp only [Int.gcd, Int.natAbs_natCast]
  rw [← Nat.gcd_rec, Nat.gcd_comm]
abbrev fracV (n d : Int) : Value := .agg [.int .i64 n, .int .i64 d].toArray
theorem gcd_c {a b : Int} (h : 0 ≤ a ∧ a ≤ 18446744073709551615 ∧ 0 ≤ b ∧ b ≤ 18446744073709551615) : Cont Tryd.prog 111 [.int .u64 a, .int .u64 b] (.int .u64 (Int.gcd a b)) := fun w => by
  refine enter0 Tryd.func111 rfl rfl rfl ?_
  repeat' (first
    | (refine nxV ?_)
    | (show RS _ _ _ _ _ _ _ _; first | (refine nxRS ?_) | (refine nxRS1 fun _ => ?_))
    | (show RM _ _ _ _ _ _ _ _ _ _; first | (refine nxRM ?_) | (refine nxRM1 fun _ => ?_))
    | (refine nxG ?_)
    | (refine G.mixedA 2 [.go 0, .go 1, .go 2, .go 3, .go 4, .go 5] ?_)
    | (refine nxX ?_)
    | (refine G.condN rfl (fun hc => ?_) (fun hc => ?_) <;> (try first | exact False.elim hc | (exfalso; omega))))
  refine G.loop (ι := Int × Int) (fun x => [(0, .int .u64 x.1), (1, .int .u64 x.2)]) (fun _ => []) (fun x => 0 ≤ x.1 ∧ x.1 ≤ 18446744073709551615 ∧ 0 ≤ x.2 ∧ x.2 ≤ 18446744073709551615 ∧ Int.gcd x.1 x.2 = Int.gcd a b) (fun x => x.2.toNat) (a, b) ⟨h.1, h.2.1, h.2.2.1, h.2.2.2, rfl⟩ ⟨rfl, rfl, trivial⟩ (fun w h => h) ?_
  rintro ⟨x, y⟩ mx ⟨h1, h2, h3, h4, h5⟩ hmx
  dsimp only at h1 h2 h3 h4 h5 hmx ⊢
  rcases Int.lt_or_eq_of_le h3 with h0 | h0
  · have hm := Int.emod_nonneg x (show y ≠ 0 by omega)
    have hl := Int.emod_lt_of_pos x h0
    repeat' (first
    | (refine nxV ?_)
    | (show RS _ _ _ _ _ _ _ _; first | (refine nxRS ?_) | (refine nxRS1 fun _ => ?_))
    | (show RM _ _ _ _ _ _ _ _ _ _; first | (refine nxRM ?_) | (refine nxRM1 fun _ => ?_))
    | (refine nxG ?_)
    | (refine G.mixedA 2 [.go 0, .go 1, .go 2, .go 3, .go 4, .go 5] ?_)
    | (refine nxX ?_)
    | (refine G.condN rfl (fun hc => ?_) (fun hc => ?_) <;> (try first | exact False.elim hc | (exfalso; omega))))
    exact X.again (y, x % y) ⟨h3, h4, hm, by dsimp only; omega, by dsimp only; rw [← h5, Int.gcd_comm y]; exact gcd_emod x y h1 h3⟩ (by dsimp only; omega) ⟨rfl, rfl, trivial⟩ (fun w h => h)
  · subst h0
    repeat' (first
    | (refine nxV ?_)
    | (show RS _ _ _ _ _ _ _ _; first | (refine nxRS ?_) | (refine nxRS1 fun _ => ?_))
    | (show RM _ _ _ _ _ _ _ _ _ _; first | (refine nxRM ?_) | (refine nxRM1 fun _ => ?_))
    | (refine nxG ?_)
    | (refine G.mixedA 2 [.go 0, .go 1, .go 2, .go 3, .go 4, .go 5] ?_)
    | (refine nxX ?_)
    | (refine G.condN rfl (fun hc => ?_) (fun hc => ?_) <;> (try first | exact False.elim hc | (exfalso; omega))))
    exact X.ret (vs := [_]) rfl ⟨rfl, rfl⟩ rfl (fun w hw => ⟨ret_int (by rw [← h5, Int.gcd_zero_right]; omega), hw.ext⟩)
theorem size_c {n : Int} (h : -9223372036854775808 ≤ n ∧ n ≤ 9223372036854775807) : Cont Tryd.prog 110 [.int .i64 n] (.int .u64 n.natAbs) := fun w => by
  refine enter0 Tryd.func110 rfl rfl rfl ?_
  repeat' (first
    | (refine nxV ?_)
    | (show RS _ _ _ _ _ _ _ _; first | (refine nxRS ?_) | (refine nxRS1 fun _ => ?_))
    | (show RM _ _ _ _ _ _ _ _ _ _; first | (refine nxRM ?_) | (refine nxRM1 fun _ => ?_))
    | (refine nxG ?_)
    | (refine nxX ?_)
    | (refine G.condN rfl (fun hc => ?_) (fun hc => ?_) <;> (try first | exact False.elim hc | (exfalso; omega))))
  · exact X.ret (vs := [_]) rfl ⟨rfl, rfl⟩ rfl (fun w hw => ⟨ret_int (by simp only [IntKind.wrap_u64]; omega), hw.ext⟩)
  · exact X.ret (vs := [_]) rfl ⟨rfl, rfl⟩ rfl (fun w hw => ⟨ret_int (by omega), hw.ext⟩)
/-- A fraction in lowest terms, not too great. -/
def validF (n d : Int) : Bool := decide (1 ≤ d) && decide (d ≤ 1073741824) && decide (-1073741824 ≤ n) && decide (n ≤ 1073741824) && decide (Int.gcd n d = 1)
theorem rvalid_c {n d : Int} (h : (-9223372036854775808 ≤ n ∧ n ≤ 9223372036854775807) ∧ -9223372036854775808 ≤ d ∧ d ≤ 9223372036854775807) : Cont Tryd.prog 112 [fracV n d] (.bool (validF n d)) := fun w => by
  obtain ⟨h1, h2⟩ := h
  refine enter0 Tryd.func112 rfl rfl rfl ?_
  repeat' (first
    | (show YK _ _ _ _ _ _ _; first | refine YK.mk (y_callP size_c ⟨rfl, rfl⟩) ?_ | refine YK.mk (y_callP gcd_c ⟨rfl, rfl, rfl⟩) ?_)
    | (show YK _ _ _ _ _ _ _; refine YK.ofV vAuto ?_)
    | (show VK _ _ _ _ _ _ _; refine VK.mk vAuto ?_)
    | (show RS _ _ _ _ _ _ _ _; first | (refine nxRS ?_) | (refine nxRS1 fun _ => ?_))
    | (show RM _ _ _ _ _ _ _ _ _ _; first | (refine nxRM ?_) | (refine nxRM1 fun _ => ?_))
    | (show YG _ _ _ _ _ _ _ _; refine YG.mk (fun hb => by (try (have hc := And.left hb; have hb := And.right hb; rw [hc])); (try rw [hb]); first | exact (y_callP size_c ⟨rfl, rfl⟩) | exact (y_callP gcd_c ⟨rfl, rfl, rfl⟩) | exact V.y vAuto) ?_)
    | (show VG _ _ _ _ _ _ _ _; refine VG.mk (fun hb => by (try (have hc := And.left hb; have hb := And.right hb; rw [hc])); (try rw [hb]); exact vAuto) ?_)
    | (refine G.mixedA 1 [.go 0, .go 1, .go 2, .go 3, .go 4, .go 5, .go 6, .go 7, .go 8, .go 9, .go 10, .go 11, .go 12, .go 13, .go 14, .go 15, .go 16, .go 17, .go 18, .go 19, .go 20, .go 22, .go 23, .go 21, .go 24, .go 25, .go 26, .go 27, .go 28] ?_)
    | (refine nxX ?_)
    | (refine G.condN rfl (fun hc => ?_) (fun hc => ?_) <;> (try first | exact False.elim hc | (exfalso; omega))))
  have e : (decide (((Int.gcd (n.natAbs : Int) (d.natAbs : Int) : Nat) : Int) = 1)) = decide (Int.gcd n d = 1) := by
    rw [decide_eq_decide]; simp only [Int.gcd, Int.natAbs_natCast]; omega
  exact X.ret (vs := [_]) rfl ⟨rfl, rfl⟩ rfl (fun w hw => ⟨ret_bool (by rw [e]; rfl), hw.ext⟩)
/-- The fraction with a value, and the error's number. -/
def makeF (n d : Int) : (Int × Int) × Int :=
  if d = 0 then ((0, 0), 16) else
  let g := Int.gcd n d
  if n.natAbs / g > 1073741824 ∨ d.natAbs / g > 1073741824 then ((0, 0), 5) else
  ((if (n < 0) = (d < 0) then ((n.natAbs / g : Nat) : Int) else -((n.natAbs / g : Nat) : Int), ((d.natAbs / g : Nat) : Int)), 0)
theorem gcd_pos' {n d : Int} (h : d ≠ 0) : 0 < Int.gcd n d := Nat.pos_of_ne_zero fun e => h (Int.gcd_eq_zero_iff.1 e).2
abbrev mkV (r : (Int × Int) × Int) : Value := .tuple [fracV r.1.1 r.1.2, .int .i64 r.2].toArray
theorem rmake_c {n d : Int} (h : (-9223372036854775808 ≤ n ∧ n ≤ 9223372036854775807) ∧ -9223372036854775808 ≤ d ∧ d ≤ 9223372036854775807) : Cont Tryd.prog 82 [.int .i64 n, .int .i64 d] (mkV (makeF n d)) := fun w => by
  obtain ⟨h1, h2⟩ := h
  by_cases hd : d = 0
  · subst hd
    refine enter0 Tryd.func82 rfl rfl rfl ?_
    repeat' (first
    | (refine nxV ?_)
    | (show RS _ _ _ _ _ _ _ _; first | (refine nxRS ?_) | (refine nxRS1 fun _ => ?_))
    | (show RM _ _ _ _ _ _ _ _ _ _; first | (refine nxRM ?_) | (refine nxRM1 fun _ => ?_))
    | (refine nxG ?_)
    | (refine G.mixedA 5 [.go 0, .go 1, .go 2, .go 3, .go 4, .go 5, .go 6, .go 7] ?_)
    | (refine nxX ?_)
    | (refine G.condN rfl (fun hc => ?_) (fun hc => ?_) <;> (try first | exact False.elim hc | (exfalso; omega))))
    exact X.ret (vs := [_, _]) rfl ⟨⟨_, _, _, _, rfl, (by exact memA), (by (repeat (first | exact .nil | apply LenIs.cons))), by decide +kernel, rfl⟩, rfl, rfl⟩ rfl (fun w hw => ⟨rfl, hw.ext⟩)
  have hg := gcd_pos' (n := n) hd
  have eg : Int.gcd (n.natAbs : Int) (d.natAbs : Int) = Int.gcd n d := by simp only [Int.gcd, Int.natAbs_natCast]
  obtain ⟨N, hN⟩ : ∃ N, n.natAbs / Int.gcd n d = N := ⟨_, rfl⟩
  obtain ⟨E, hE⟩ : ∃ E, d.natAbs / Int.gcd n d = E := ⟨_, rfl⟩
  have ea : (n.natAbs : Int) / (Int.gcd (n.natAbs : Int) (d.natAbs : Int) : Int) = (N : Int) := by rw [eg, ← hN]; exact (Int.natCast_ediv _ _).symm
  have eb : (d.natAbs : Int) / (Int.gcd (n.natAbs : Int) (d.natAbs : Int) : Int) = (E : Int) := by rw [eg, ← hE]; exact (Int.natCast_ediv _ _).symm
  have hgm : Int.gcd n d ≤ 9223372036854775808 := by
    have := Nat.le_of_dvd (show 0 < d.natAbs by omega) (Nat.gcd_dvd_right n.natAbs d.natAbs)
    simp only [Int.gcd] at *; omega
  have hmk : makeF n d = if N > 1073741824 ∨ E > 1073741824 then ((0, 0), 5) else ((if (n < 0) = (d < 0) then (N : Int) else -(N : Int), (E : Int)), 0) := by
    unfold makeF
    rw [if_neg hd]; dsimp only
    rw [hN, hE]
  rw [← eg] at hg hgm
  refine enter0 Tryd.func82 rfl rfl rfl ?_
  repeat' (first
    | (show YK _ _ _ _ _ _ _; first | refine YK.mk (y_callP size_c ⟨rfl, rfl⟩) ?_ | refine YK.mk (y_callP gcd_c ⟨rfl, rfl, rfl⟩) ?_)
    | (show YK _ _ _ _ _ _ _; refine YK.ofV vAuto ?_)
    | (show VK _ _ _ _ _ _ _; refine VK.mk vAuto ?_)
    | (show RS _ _ _ _ _ _ _ _; first | (refine nxRS ?_) | (refine nxRS1 fun _ => ?_))
    | (show RM _ _ _ _ _ _ _ _ _ _; first | (refine nxRM ?_) | (refine nxRM1 fun _ => ?_))
    | (show YG _ _ _ _ _ _ _ _; refine YG.mk (fun hb => by (try (have hc := And.left hb; have hb := And.right hb; rw [hc])); (try rw [hb]); first | exact (y_callP size_c ⟨rfl, rfl⟩) | exact (y_callP gcd_c ⟨rfl, rfl, rfl⟩) | exact V.y vAuto) ?_)
    | (show VG _ _ _ _ _ _ _ _; refine VG.mk (fun hb => by (try (have hc := And.left hb; have hb := And.right hb; rw [hc])); (try rw [hb]); exact vAuto) ?_)
    | (refine G.mixedA 5 [.go 0, .go 1, .go 2, .go 3, .go 4, .go 5, .go 6, .go 7] ?_)
    | (refine nxX ?_)
    | (refine G.condN rfl (fun hc => ?_) (fun hc => ?_) <;> (try first | exact False.elim hc | (exfalso; omega))))
  · rw [ea, eb] at hc
    rw [if_pos (by omega)] at hmk
    exact X.ret (vs := [_, _]) rfl ⟨⟨_, _, _, _, rfl, (by exact memA), (by (repeat (first | exact .nil | apply LenIs.cons))), by decide +kernel, rfl⟩, rfl, rfl⟩ rfl (fun w hw => ⟨by rw [hmk], hw.ext⟩)
  · rename_i _ hr _
    rw [ea, eb] at hr
    rw [if_neg (by omega), if_neg (by simpa using hc)] at hmk
    refine X.ret (vs := [_, _]) rfl ⟨⟨_, _, _, _, rfl, (by exact memA), (by (repeat (first | exact .nil | apply LenIs.cons))), by decide +kernel, rfl⟩, rfl, rfl⟩ rfl (fun w hw => ⟨?_, hw.ext⟩)
    rw [hmk]
    (simp only [ea, eb]) <;> rfl
  · rename_i _ hr _
    rw [ea, eb] at hr
    rw [if_neg (by omega), if_pos (by simpa using hc)] at hmk
    refine X.ret (vs := [_, _]) rfl ⟨⟨_, _, _, _, rfl, (by exact memA), (by (repeat (first | exact .nil | apply LenIs.cons))), by decide +kernel, rfl⟩, rfl, rfl⟩ rfl (fun w hw => ⟨?_, hw.ext⟩)
    rw [hmk]
    (simp only [ea, eb]) <;> rfl
theorem tmod_neg' (a b : Int) (ha : a ≤ 0) (hb : b < 0) : a.tmod b = -((a.natAbs % b.natAbs : Nat) : Int) := by
  obtain ⟨x, rfl⟩ : ∃ x : Nat, a = -(x : Int) := ⟨a.natAbs, by omega⟩
  obtain ⟨y, rfl⟩ : ∃ y : Nat, b = -(y : Int) := ⟨b.natAbs, by omega⟩
  rw [Int.neg_tmod, Int.tmod_neg, Int.natAbs_neg, Int.natAbs_neg, Int.natAbs_natCast, Int.natAbs_natCast]
  rfl
theorem tdiv_neg' (a : Int) (g : Nat) (hg : 0 < g) : a.tdiv (-(g : Int)) = if 0 < a then -((a.natAbs / g : Nat) : Int) else ((a.natAbs / g : Nat) : Int) := by
  rw [Int.tdiv_neg]
  split
  · rename_i h
    obtain ⟨x, rfl⟩ := Int.eq_ofNat_of_zero_le (show 0 ≤ a by omega)
    rfl
  · obtain ⟨x, rfl⟩ : ∃ x : Nat, a = -(x : Int) := ⟨a.natAbs, by omega⟩
    rw [Int.neg_tdiv, Int.neg_neg, Int.natAbs_neg]
    rfl
def QuoIs (m m' r : Int) : Prop := m' ≠ 0 ∧ IntKind.i64.wrap (m.tdiv m') = r
theorem y_quoS {P : Program} {n : Nat} {L : FL} {w0 : World} {H : List Hl} {d : Option Tmp} {ty : TypeId} {pos : String} {af : Array Edge} {g : Option (Nat × Bool)} {x y : Operand} {t t' : TypeId} {m m' r : Int} (hx : evO L x = some (.int .i64 m)) (hy : evO L y = some (.int .i64 m')) (h : QuoIs m m' r) : V P n L w0 H ⟨d, .binOp .quo t x y t', ty, pos, af, g⟩ (.int .i64 r) := h.2 ▸ y_quo hx hy h.1
theorem mk_ok {a b a' b' : Int} (h1 : a = a') (h2 : b = b') : Ending.returned (mkV ((a, b), 0)) = Ending.returned (mkV ((a', b'), 0)) := by rw [h1, h2]
/-- The reference's Valid. -/
theorem makeF_valid {n d : Int} (h1 : -1073741824 ≤ n ∧ n ≤ 1073741824) (h2 : 1 ≤ d ∧ d ≤ 1073741824) : (makeF n d).1 = (n / (Int.gcd n d : Int), d / (Int.gcd n d : Int)) := by
  have hg := gcd_pos' (n := n) (d := d) (by omega)
  have ha := Nat.div_le_self n.natAbs (Int.gcd n d)
  have hb := Nat.div_le_self d.natAbs (Int.gcd n d)
  have hdv : (Int.gcd n d : Int) ∣ n := Int.gcd_dvd_left n d
  have e2 : ((d.natAbs / Int.gcd n d : Nat) : Int) = d / (Int.gcd n d : Int) := by rw [Int.natCast_ediv]; congr 1; omega
  have e1 : (if (n < 0) = (d < 0) then ((n.natAbs / Int.gcd n d : Nat) : Int) else -((n.natAbs / Int.gcd n d : Nat) : Int)) = n / (Int.gcd n d : Int) := by
    split
    · rename_i hs
      rw [eq_iff_iff] at hs
      rw [Int.natCast_ediv]; congr 1; omega
    · rename_i hs
      rw [eq_iff_iff] at hs
      rw [Int.natCast_ediv, show (n.natAbs : Int) = -n by omega, Int.neg_ediv_of_dvd hdv, Int.neg_neg]
  unfold makeF
  rw [if_neg (by omega)]; dsimp only
  rw [if_neg (by omega)]; dsimp only
  rw [e1, e2]
theorem div_gcd_one {n d : Int} (hd : 1 ≤ d) : (n / (Int.gcd n d : Int) = n ∧ d / (Int.gcd n d : Int) = d) ↔ Int.gcd n d = 1 := by
  have hg := gcd_pos' (n := n) (d := d) (by omega)
  constructor
  · rintro ⟨_, h⟩
    have h1 : (Int.gcd n d : Int) ∣ d := Int.gcd_dvd_right n d
    have h2 := Int.ediv_mul_cancel h1
    rw [h] at h2
    have h3 : d * ((Int.gcd n d : Int) - 1) = 0 := by rw [Int.mul_sub, h2]; omega
    rcases Int.mul_eq_zero.1 h3 with h4 | h4 <;> omega
  · intro h
    rw [h]; simp
/-- Which is greater: products. -/
def cmpF (a b c d : Int) : Int := if a * d < c * b then -1 else if c * b < a * d then 1 else 0
end Go.Proofs.YtaglecidaedjfaaDoor
