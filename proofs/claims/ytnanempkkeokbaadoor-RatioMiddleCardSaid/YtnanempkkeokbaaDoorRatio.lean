/- Fractions: the greatest common divisor, Make, Valid; and the reference's. -/
import Derived.Test.YtnanempkkeokbaaDoorTys
set_option linter.unusedVariables false
set_option maxHeartbeats 4000000
namespace Go.Proofs.YtnanempkkeokbaaDoor
open Go.RowKit

theorem gcd_emod (x y : Int) (hx : 0 ≤ x) (hy : 0 ≤ y) : Int.gcd (x % y) y = Int.gcd x y := by
  obtain ⟨a, rfl⟩ := Int.eq_ofNat_of_zero_le hx
  obtain ⟨b, rfl⟩ := Int.eq_ofNat_of_zero_le hy
  rw [← Int.natCast_emod]
  simp only [Int.gcd, Int.natAbs_natCast]
  rw [← Nat.gcd_rec, Nat.gcd_comm]
abbrev fracV (n d : Int) : Value := .agg [.int .i64 n, .int .i64 d].toArray
theorem gcd_c {a b : Int} (h : 0 ≤ a ∧ a ≤ 18446744073709551615 ∧ 0 ≤ b ∧ b ≤ 18446744073709551615) : Cont Tryd.prog 45 [.int .u64 a, .int .u64 b] (.int .u64 (Int.gcd a b)) := fun w => by
  refine enter0 Tryd.func45 rfl rfl rfl ?_
  repeat' (first
    | (refine nxV ?_)
    | (show RS _ _ _ _ _ _ _ _; first | (refine nxRS ?_) | (refine nxRS1 fun _ => ?_))
    | (show RM _ _ _ _ _ _ _ _ _ _; first | (refine nxRM ?_) | (refine nxRM1 fun _ => ?_))
    | (refine nxG ?_)
    | (refine G.mixedA 2 [.go 0, .go 1, .go 2, .go 3, .go 4, .go 5] ?_)
    | (refine nxX ?_)
    | (refine G.condN rfl (fun hc => ?_) (fun hc => ?_) <;> (try first | exact False.elim hc | (exfalso; omega))))
  refine G.loop (ι := Int × Int) (fun x => [(0, .int .u64 x.1), (1, .int .u64 x.2)]) (fun _ => []) (fun x => 0 ≤ x.1 ∧ x.1 ≤ 18446744073709551615 ∧ 0 ≤ x.2 ∧ x.2 ≤ 18446744073709551615 ∧ Int.gcd x.1 x.2 = Int.gcd a b) (fun x => x.2.toNat) (a, b) ⟨h.1, h.2.1, h.2.2.1, h.2.2.2, rfl⟩ ⟨rfl, rfl, trivial⟩ (fun w h => h) ?_
  rintro ⟨x, y⟩ mx ⟨h1, h2, h3, h4, h5⟩ hmx
  dsimp only at h1 h2 h3 h4 h5 hmx ⊢
  rcases Int.lt_or_eq_of_le h3 with h0 | h0
  · have hm := Int.emod_nonneg x (show y ≠ 0 by omega)
    have hl := Int.emod_lt_of_pos x h0
    repeat' (first
    | (refine nxV ?_)
    | (show RS _ _ _ _ _ _ _ _; first | (refine nxRS ?_) | (refine nxRS1 fun _ => ?_))
    | (show RM _ _ _ _ _ _ _ _ _ _; first | (refine nxRM ?_) | (refine nxRM1 fun _ => ?_))
    | (refine nxG ?_)
    | (refine G.mixedA 2 [.go 0, .go 1, .go 2, .go 3, .go 4, .go 5] ?_)
    | (refine nxX ?_)
    | (refine G.condN rfl (fun hc => ?_) (fun hc => ?_) <;> (try first | exact False.elim hc | (exfalso; omega))))
    exact X.again (y, x % y) ⟨h3, h4, hm, by dsimp only; omega, by dsimp only; rw [← h5, Int.gcd_comm y]; exact gcd_emod x y h1 h3⟩ (by dsimp only; omega) ⟨rfl, rfl, trivial⟩ (fun w h => h)
  · subst h0
    repeat' (first
    | (refine nxV ?_)
    | (show RS _ _ _ _ _ _ _ _; first | (refine nxRS ?_) | (refine nxRS1 fun _ => ?_))
    | (show RM _ _ _ _ _ _ _ _ _ _; first | (refine nxRM ?_) | (refine nxRM1 fun _ => ?_))
    | (refine nxG ?_)
    | (refine G.mixedA 2 [.go 0, .go 1, .go 2, .go 3, .go 4, .go 5] ?_)
    | (refine nxX ?_)
    | (refine G.condN rfl (fun hc => ?_) (fun hc => ?_) <;> (try first | exact False.elim hc | (exfalso; omega))))
    exact X.ret (vs := [_]) rfl ⟨rfl, rfl⟩ rfl (fun w hw => ⟨ret_int (by rw [← h5, Int.gcd_zero_right]; omega), hw.ext⟩)
theorem size_c {n : Int} (h : -9223372036854775808 ≤ n ∧ n ≤ 9223372036854775807) : Cont Tryd.prog 44 [.int .i64 n] (.int .u64 n.natAbs) := fun w => by
  refine enter0 Tryd.func44 rfl rfl rfl ?_
  repeat' (first
    | (refine nxV ?_)
    | (show RS _ _ _ _ _ _ _ _; first | (refine nxRS ?_) | (refine nxRS1 fun _ => ?_))
    | (show RM _ _ _ _ _ _ _ _ _ _; first | (refine nxRM ?_) | (refine nxRM1 fun _ => ?_))
    | (refine nxG ?_)
    | (refine nxX ?_)
    | (refine G.condN rfl (fun hc => ?_) (fun hc => ?_) <;> (try first | exact False.elim hc | (exfalso; omega))))
  · exact X.ret (vs := [_]) rfl ⟨rfl, rfl⟩ rfl (fun w hw => ⟨ret_int (by simp only [IntKind.wrap_u64]; omega), hw.ext⟩)
  · exact X.ret (vs := [_]) rfl ⟨rfl, rfl⟩ rfl (fun w hw => ⟨ret_int (by omega), hw.ext⟩)
/-- A fraction in lowest terms, not too great. -/
def validF (n d : Int) : Bool := decide (1 ≤ d) && decide (d ≤ 1073741824) && decide (-1073741824 ≤ n) && decide (n ≤ 1073741824) && decide (Int.gcd n d = 1)
theorem rvalid_c {n d : Int} (h : (-9223372036854775808 ≤ n ∧ n ≤ 9223372036854775807) ∧ -9223372036854775808 ≤ d ∧ d ≤ 9223372036854775807) : Cont Tryd.prog 15 [fracV n d] (.bool (validF n d)) := fun w => by
  obtain ⟨h1, h2⟩ := h
  refine enter0 Tryd.func15 rfl rfl rfl ?_
  repeat' (first
    | (show YK _ _ _ _ _ _ _; first | refine YK.mk (y_callP size_c ⟨rfl, rfl⟩) ?_ | refine YK.mk (y_callP gcd_c ⟨rfl, rfl, rfl⟩) ?_)
    | (show YK _ _ _ _ _ _ _; refine YK.ofV vAuto ?_)
    | (show VK _ _ _ _ _ _ _; refine VK.mk vAuto ?_)
    | (show RS _ _ _ _ _ _ _ _; first | (refine nxRS ?_) | (refine nxRS1 fun _ => ?_))
    | (show RM _ _ _ _ _ _ _ _ _ _; first | (refine nxRM ?_) | (refine nxRM1 fun _ => ?_))
    | (show YG _ _ _ _ _ _ _ _; refine YG.mk (fun hb => by (try (have hc := And.left hb; have hb := And.right hb; rw [hc])); (try rw [hb]); first | exact (y_callP size_c ⟨rfl, rfl⟩) | exact (y_callP gcd_c ⟨rfl, rfl, rfl⟩) | exact V.y vAuto) ?_)
    | (show VG _ _ _ _ _ _ _ _; refine VG.mk (fun hb => by (try (have hc := And.left hb; have hb := And.right hb; rw [hc])); (try rw [hb]); exact vAuto) ?_)
    | (refine G.mixedA 1 [.go 0, .go 1, .go 2, .go 3, .go 4, .go 5, .go 6, .go 7, .go 8, .go 9, .go 10, .go 11, .go 12, .go 13, .go 14, .go 15, .go 16, .go 17, .go 18, .go 19, .go 20, .go 22, .go 23, .go 21, .go 24, .go 25, .go 26, .go 27, .go 28] ?_)
    | (refine nxX ?_)
    | (refine G.condN rfl (fun hc => ?_) (fun hc => ?_) <;> (try first | exact False.elim hc | (exfalso; omega))))
  have e : (decide (((Int.gcd (n.natAbs : Int) (d.natAbs : Int) : Nat) : Int) = 1)) = decide (Int.gcd n d = 1) := by
    rw [decide_eq_decide]; simp only [Int.gcd, Int.natAbs_natCast]; omega
  exact X.ret (vs := [_]) rfl ⟨rfl, rfl⟩ rfl (fun w hw => ⟨ret_bool (by rw [e]; rfl), hw.ext⟩)
/-- The fraction with a value, and the error's number. -/
def makeF (n d : Int) : (Int × Int) × Int :=
  if d = 0 then ((0, 0), 16) else
  let g := Int.gcd n d
  if n.natAbs / g > 1073741824 ∨ d.natAbs / g > 1073741824 then ((0, 0), 5) else
  ((if (n < 0) = (d < 0) then ((n.natAbs / g : Nat) : Int) else -((n.natAbs / g : Nat) : Int), ((d.natAbs / g : Nat) : Int)), 0)
theorem gcd_pos' {n d : Int} (h : d ≠ 0) : 0 < Int.gcd n d := Nat.pos_of_ne_zero fun e => h (Int.gcd_eq_zero_iff.1 e).2
abbrev mkV (r : (Int × Int) × Int) : Value := .tuple [fracV r.1.1 r.1.2, .int .i64 r.2].toArray
theorem rmake_c {n d : Int} (h : (-9223372036854775808 ≤ n ∧ n ≤ 9223372036854775807) ∧ -9223372036854775808 ≤ d ∧ d ≤ 9223372036854775807) : Cont Tryd.prog 13 [.int .i64 n, .int .i64 d] (mkV (makeF n d)) := fun w => by
  obtain ⟨h1, h2⟩ := h
  by_cases hd : d = 0
  · subst hd
    refine enter0 Tryd.func13 rfl rfl rfl ?_
    repeat' (first
    | (refine nxV ?_)
    | (show RS _ _ _ _ _ _ _ _; first | (refine nxRS ?_) | (refine nxRS1 fun _ => ?_))
    | (show RM _ _ _ _ _ _ _ _ _ _; first | (refine nxRM ?_) | (refine nxRM1 fun _ => ?_))
    | (refine nxG ?_)
    | (refine G.mixedA 5 [.go 0, .go 1, .go 2, .go 3, .go 4, .go 5, .go 6, .go 7] ?_)
    | (refine nxX ?_)
    | (refine G.condN rfl (fun hc => ?_) (fun hc => ?_) <;> (try first | exact False.elim hc | (exfalso; omega))))
    exact X.ret (vs := [_, _]) rfl ⟨⟨_, _, _, _, rfl, (by exact memA), (by (repeat (first | exact .nil | apply LenIs.cons))), by decide +kernel, rfl⟩, rfl, rfl⟩ rfl (fun w hw => ⟨rfl, hw.ext⟩)
  have hg := gcd_pos' (n := n) hd
  have eg : Int.gcd (n.natAbs : Int) (d.natAbs : Int) = Int.gcd n d := by simp only [Int.gcd, Int.natAbs_natCast]
  obtain ⟨N, hN⟩ : ∃ N, n.natAbs / Int.gcd n d = N := ⟨_, rfl⟩
  obtain ⟨E, hE⟩ : ∃ E, d.natAbs / Int.gcd n d = E := ⟨_, rfl⟩
  have ea : (n.natAbs : Int) / (Int.gcd (n.natAbs : Int) (d.natAbs : Int) : Int) = (N : Int) := by rw [eg, ← hN]; exact (Int.natCast_ediv _ _).symm
  have eb : (d.natAbs : Int) / (Int.gcd (n.natAbs : Int) (d.natAbs : Int) : Int) = (E : Int) := by rw [eg, ← hE]; exact (Int.natCast_ediv _ _).symm
  have hgm : Int.gcd n d ≤ 9223372036854775808 := by
    have := Nat.le_of_dvd (show 0 < d.natAbs by omega) (Nat.gcd_dvd_right n.natAbs d.natAbs)
    simp only [Int.gcd] at *; omega
  have hmk : makeF n d = if N > 1073741824 ∨ E > 1073741824 then ((0, 0), 5) else ((if (n < 0) = (d < 0) then (N : Int) else -(N : Int), (E : Int)), 0) := by
    unfold makeF
    rw [if_neg hd]; dsimp only
    rw [hN, hE]
  rw [← eg] at hg hgm
  refine enter0 Tryd.func13 rfl rfl rfl ?_
  repeat' (first
    | (show YK _ _ _ _ _ _ _; first | refine YK.mk (y_callP size_c ⟨rfl, rfl⟩) ?_ | refine YK.mk (y_callP gcd_c ⟨rfl, rfl, rfl⟩) ?_)
    | (show YK _ _ _ _ _ _ _; refine YK.ofV vAuto ?_)
    | (show VK _ _ _ _ _ _ _; refine VK.mk vAuto ?_)
    | (show RS _ _ _ _ _ _ _ _; first | (refine nxRS ?_) | (refine nxRS1 fun _ => ?_))
    | (show RM _ _ _ _ _ _ _ _ _ _; first | (refine nxRM ?_) | (refine nxRM1 fun _ => ?_))
    | (show YG _ _ _ _ _ _ _ _; refine YG.mk (fun hb => by (try (have hc := And.left hb; have hb := And.right hb; rw [hc])); (try rw [hb]); first | exact (y_callP size_c ⟨rfl, rfl⟩) | exact (y_callP gcd_c ⟨rfl, rfl, rfl⟩) | exact V.y vAuto) ?_)
    | (show VG _ _ _ _ _ _ _ _; refine VG.mk (fun hb => by (try (have hc := And.left hb; have hb := And.right hb; rw [hc])); (try rw [hb]); exact vAuto) ?_)
    | (refine G.mixedA 5 [.go 0, .go 1, .go 2, .go 3, .go 4, .go 5, .go 6, .go 7] ?_)
    | (refine nxX ?_)
    | (refine G.condN rfl (fun hc => ?_) (fun hc => ?_) <;> (try first | exact False.elim hc | (exfalso; omega))))
  · rw [ea, eb] at hc
    rw [if_pos (by omega)] at hmk
    exact X.ret (vs := [_, _]) rfl ⟨⟨_, _, _, _, rfl, (by exact memA), (by (repeat (first | exact .nil | apply LenIs.cons))), by decide +kernel, rfl⟩, rfl, rfl⟩ rfl (fun w hw => ⟨by rw [hmk], hw.ext⟩)
  · rename_i _ hr _
    rw [ea, eb] at hr
    rw [if_neg (by omega), if_neg (by simpa using hc)] at hmk
    refine X.ret (vs := [_, _]) rfl ⟨⟨_, _, _, _, rfl, (by exact memA), (by (repeat (first | exact .nil | apply LenIs.cons))), by decide +kernel, rfl⟩, rfl, rfl⟩ rfl (fun w hw => ⟨?_, hw.ext⟩)
    rw [hmk]
    (simp only [ea, eb]) <;> rfl
  · rename_i _ hr _
    rw [ea, eb] at hr
    rw [if_neg (by omega), if_pos (by simpa using hc)] at hmk
    refine X.ret (vs := [_, _]) rfl ⟨⟨_, _, _, _, rfl, (by exact memA), (by (repeat (first | exact .nil | apply LenIs.cons))), by decide +kernel, rfl⟩, rfl, rfl⟩ rfl (fun w hw => ⟨?_, hw.ext⟩)
    rw [hmk]
    (simp only [ea, eb]) <;> rfl
theorem tmod_neg' (a b : Int) (ha : a ≤ 0) (hb : b < 0) : a.tmod b = -((a.natAbs % b.natAbs : Nat) : Int) := by
  obtain ⟨x, rfl⟩ : ∃ x : Nat, a = -(x : Int) := ⟨a.natAbs, by omega⟩
  obtain ⟨y, rfl⟩ : ∃ y : Nat, b = -(y : Int) := ⟨b.natAbs, by omega⟩
  rw [Int.neg_tmod, Int.tmod_neg, Int.natAbs_neg, Int.natAbs_neg, Int.natAbs_natCast, Int.natAbs_natCast]
  rfl
theorem tdiv_neg' (a : Int) (g : Nat) (hg : 0 < g) : a.tdiv (-(g : Int)) = if 0 < a then -((a.natAbs / g : Nat) : Int) else ((a.natAbs / g : Nat) : Int) := by
  rw [Int.tdiv_neg]
  split
  · rename_i h
    obtain ⟨x, rfl⟩ := Int.eq_ofNat_of_zero_le (show 0 ≤ a by omega)
    rfl
  · obtain ⟨x, rfl⟩ : ∃ x : Nat, a = -(x : Int) := ⟨a.natAbs, by omega⟩
    rw [Int.neg_tdiv, Int.neg_neg, Int.natAbs_neg]
    rfl
def QuoIs (m m' r : Int) : Prop := m' ≠ 0 ∧ IntKind.i64.wrap (m.tdiv m') = r
theorem y_quoS {P : Program} {n : Nat} {L : FL} {w0 : World} {H : List Hl} {d : Option Tmp} {ty : TypeId} {pos : String} {af : Array Edge} {g : Option (Nat × Bool)} {x y : Operand} {t t' : TypeId} {m m' r : Int} (hx : evO L x = some (.int .i64 m)) (hy : evO L y = some (.int .i64 m')) (h : QuoIs m m' r) : V P n L w0 H ⟨d, .binOp .quo t x y t', ty, pos, af, g⟩ (.int .i64 r) := h.2 ▸ y_quo hx hy h.1
theorem mk_ok {a b a' b' : Int} (h1 : a = a') (h2 : b = b') : Ending.returned (mkV ((a, b), 0)) = Ending.returned (mkV ((a', b'), 0)) := by rw [h1, h2]
theorem make3_c {n d : Int} (h : (-9223372036854775808 ≤ n ∧ n ≤ 9223372036854775807) ∧ -9223372036854775808 ≤ d ∧ d ≤ 9223372036854775807) : Cont Tryd.prog 14 [.int .i64 n, .int .i64 d] (mkV (makeF n d)) := fun w => by
  obtain ⟨h1, h2⟩ := h
  by_cases hd : d = 0
  · subst hd
    refine enter0 Tryd.func14 rfl rfl rfl ?_
    repeat' (first
    | (refine nxV ?_)
    | (show RS _ _ _ _ _ _ _ _; first | (refine nxRS ?_) | (refine nxRS1 fun _ => ?_))
    | (show RM _ _ _ _ _ _ _ _ _ _; first | (refine nxRM ?_) | (refine nxRM1 fun _ => ?_))
    | (refine nxG ?_)
    | (refine G.mixedA 10 [.go 0, .go 1, .go 2, .go 3, .go 4, .go 5] ?_)
    | (refine nxX ?_)
    | (refine G.condN rfl (fun hc => ?_) (fun hc => ?_) <;> (try first | exact False.elim hc | (exfalso; omega))))
    exact X.ret (vs := [_, _]) rfl ⟨⟨_, _, _, _, rfl, (by exact memA), (by (repeat (first | exact .nil | apply LenIs.cons))), by decide +kernel, rfl⟩, rfl, rfl⟩ rfl (fun w hw => ⟨rfl, hw.ext⟩)
  have hg := gcd_pos' (n := n) hd
  obtain ⟨N, hN⟩ : ∃ N, n.natAbs / Int.gcd n d = N := ⟨_, rfl⟩
  obtain ⟨E, hE⟩ : ∃ E, d.natAbs / Int.gcd n d = E := ⟨_, rfl⟩
  have hN1 : N ≤ n.natAbs := hN ▸ Nat.div_le_self _ _
  have hE1 : E ≤ d.natAbs := hE ▸ Nat.div_le_self _ _
  have hE0 : 0 < E := by
    have h3 := Nat.gcd_dvd_right n.natAbs d.natAbs
    have h4 := Nat.le_of_dvd (show 0 < d.natAbs by omega) h3
    rw [← hE]
    exact Nat.div_pos h4 hg
  have hgm : Int.gcd n d ≤ 9223372036854775808 := by
    have := Nat.le_of_dvd (show 0 < d.natAbs by omega) (Nat.gcd_dvd_right n.natAbs d.natAbs)
    simp only [Int.gcd] at *; omega
  have hmk : makeF n d = if N > 1073741824 ∨ E > 1073741824 then ((0, 0), 5) else ((if (n < 0) = (d < 0) then (N : Int) else -(N : Int), (E : Int)), 0) := by
    unfold makeF
    rw [if_neg hd]; dsimp only
    rw [hN, hE]
  have hq1 : QuoIs n (-(Int.gcd n d : Int)) (IntKind.i64.wrap (if 0 < n then -(N : Int) else (N : Int))) := ⟨by omega, by rw [tdiv_neg' _ _ hg, hN]⟩
  have hq2 : QuoIs d (-(Int.gcd n d : Int)) (IntKind.i64.wrap (if 0 < d then -(E : Int) else (E : Int))) := ⟨by omega, by rw [tdiv_neg' _ _ hg, hE]⟩
  obtain ⟨n1, hn1⟩ : ∃ n1, IntKind.i64.wrap (if 0 < n then -(N : Int) else (N : Int)) = n1 := ⟨_, rfl⟩
  obtain ⟨d1, hd1⟩ : ∃ d1, IntKind.i64.wrap (if 0 < d then -(E : Int) else (E : Int)) = d1 := ⟨_, rfl⟩
  rw [hn1] at hq1
  rw [hd1] at hq2
  rw [IntKind.wrap_i64] at hn1 hd1
  have hn2 : (0 < n ∧ (-(N : Int) + 9223372036854775808) % 18446744073709551616 - 9223372036854775808 = n1) ∨ (n ≤ 0 ∧ ((N : Int) + 9223372036854775808) % 18446744073709551616 - 9223372036854775808 = n1) := by split at hn1 <;> omega
  have hd2 : (0 < d ∧ (-(E : Int) + 9223372036854775808) % 18446744073709551616 - 9223372036854775808 = d1) ∨ (d ≤ 0 ∧ ((E : Int) + 9223372036854775808) % 18446744073709551616 - 9223372036854775808 = d1) := by split at hd1 <;> omega
  clear hn1 hd1 hN hE
  generalize hG : Int.gcd n d = g at *
  refine enter0 Tryd.func14 rfl rfl rfl ?_
  repeat' (first
    | (refine nxV ?_)
    | (show RS _ _ _ _ _ _ _ _; first | (refine nxRS ?_) | (refine nxRS1 fun _ => ?_))
    | (show RM _ _ _ _ _ _ _ _ _ _; first | (refine nxRM ?_) | (refine nxRM1 fun _ => ?_))
    | (refine nxG ?_)
    | (refine G.mixedA 10 [.go 0, .go 1, .go 2, .go 3, .go 4, .go 5] ?_)
    | (refine nxX ?_)
    | (refine G.condN rfl (fun hc => ?_) (fun hc => ?_) <;> (try first | exact False.elim hc | (exfalso; omega))))
  all_goals
    rename_i b4 _ _
    refine G.weakL [(0, .int .i64 n), (1, .int .i64 d), (4, .pointer (some ⟨b4, 0, none⟩)), (6, .int .i64 (-(n.natAbs : Int))), (7, .int .i64 (-(d.natAbs : Int)))] ⟨rfl, rfl, rfl, by show some (Value.int .i64 _) = some (Value.int .i64 _); congr 2; omega, by show some (Value.int .i64 _) = some (Value.int .i64 _); congr 2; omega, trivial⟩ ?_
    refine G.mid [(0, .int .i64 n), (1, .int .i64 d), (4, .pointer (some ⟨b4, 0, none⟩)), (6, .int .i64 (-(g : Int)))] [.blk b4 24 [.int .i64 0, .int .i64 0]] ?_ ?_
    · refine G.loop (ι := Nat × Nat) (fun x => [(0, .int .i64 n), (1, .int .i64 d), (4, .pointer (some ⟨b4, 0, none⟩)), (6, .int .i64 (-(x.1 : Int))), (7, .int .i64 (-(x.2 : Int)))]) (fun _ => [.blk b4 24 [.int .i64 0, .int .i64 0]]) (fun x => Nat.gcd x.1 x.2 = g ∧ x.1 ≤ 9223372036854775808 ∧ x.2 ≤ 9223372036854775808) (fun x => x.2) (n.natAbs, d.natAbs)
        ⟨hG, by dsimp only; omega, by dsimp only; omega⟩ ⟨rfl, rfl, rfl, rfl, rfl, trivial⟩ (fun w h => h) ?_
      rintro ⟨x, y⟩ mx ⟨g1, g2, g3⟩ hmx
      dsimp only at g1 g2 g3 hmx ⊢
      rcases Nat.eq_zero_or_pos y with h0 | h0
      · subst h0
        repeat' (first
    | (refine nxV ?_)
    | (show RS _ _ _ _ _ _ _ _; first | (refine nxRS ?_) | (refine nxRS1 fun _ => ?_))
    | (show RM _ _ _ _ _ _ _ _ _ _; first | (refine nxRM ?_) | (refine nxRM1 fun _ => ?_))
    | (refine nxG ?_)
    | (refine G.mixedA 10 [.go 0, .go 1, .go 2, .go 3, .go 4, .go 5] ?_)
    | (refine nxX ?_)
    | (refine G.condN rfl (fun hc => ?_) (fun hc => ?_) <;> (try first | exact False.elim hc | (exfalso; omega))))
        rw [Nat.gcd_zero_right] at g1
        exact X.mid ⟨rfl, rfl, rfl, by rw [← g1]; rfl, trivial⟩ (fun w h => h)
      · have e := tmod_neg' (-(x : Int)) (-(y : Int)) (by omega) (by omega)
        rw [Int.natAbs_neg, Int.natAbs_neg, Int.natAbs_natCast, Int.natAbs_natCast] at e
        have hlt := Nat.mod_lt x h0
        repeat' (first
    | (refine nxV ?_)
    | (show RS _ _ _ _ _ _ _ _; first | (refine nxRS ?_) | (refine nxRS1 fun _ => ?_))
    | (show RM _ _ _ _ _ _ _ _ _ _; first | (refine nxRM ?_) | (refine nxRM1 fun _ => ?_))
    | (refine nxG ?_)
    | (refine G.mixedA 10 [.go 0, .go 1, .go 2, .go 3, .go 4, .go 5] ?_)
    | (refine nxX ?_)
    | (refine G.condN rfl (fun hc => ?_) (fun hc => ?_) <;> (try first | exact False.elim hc | (exfalso; omega))))
        exact X.again (y, x % y) ⟨by dsimp only; rw [← g1, Nat.gcd_comm y (x % y), ← Nat.gcd_rec y x, Nat.gcd_comm], g3, by dsimp only; omega⟩ (by dsimp only; omega) ⟨rfl, rfl, rfl, rfl, by rw [← e]; rfl, trivial⟩ (fun w h => h)
    · repeat' (first
    | (refine YK.ofV (y_quoS (by rfl) (by rfl) (by assumption)) ?_)
    | (refine nxV ?_)
    | (show RS _ _ _ _ _ _ _ _; first | (refine nxRS ?_) | (refine nxRS1 fun _ => ?_))
    | (show RM _ _ _ _ _ _ _ _ _ _; first | (refine nxRM ?_) | (refine nxRM1 fun _ => ?_))
    | (refine nxG ?_)
    | (refine G.mixedA 10 [.go 0, .go 1, .go 2, .go 3, .go 4, .go 5] ?_)
    | (refine nxX ?_)
    | (refine G.condN rfl (fun hc => ?_) (fun hc => ?_) <;> (try first | exact False.elim hc | (exfalso; omega))))
      all_goals (have hw1 := IntKind.wrap_i64 (0 - n1); have hw2 := IntKind.wrap_i64 (0 - d1); generalize IntKind.i64.wrap (0 - n1) = W1 at *; generalize IntKind.i64.wrap (0 - d1) = W2 at *)
      all_goals first
        | (exfalso; omega)
        | exact X.ret (vs := [_, _]) rfl ⟨⟨_, _, _, _, rfl, (by exact memA), (by (repeat (first | exact .nil | apply LenIs.cons))), by decide +kernel, rfl⟩, rfl, rfl⟩ rfl (fun w hw => ⟨by rw [hmk, if_pos (by omega)], hw.ext⟩)
        | exact X.ret (vs := [_, _]) rfl ⟨⟨_, _, _, _, rfl, (by exact memA), (by (repeat (first | exact .nil | apply LenIs.cons))), by decide +kernel, rfl⟩, rfl, rfl⟩ rfl (fun w hw => ⟨by rw [hmk, if_neg (by omega)]; exact mk_ok (by split <;> (rename_i hs; rw [eq_iff_iff] at hs; omega)) (by omega), hw.ext⟩)
/-- The reference's Valid. -/
theorem makeF_valid {n d : Int} (h1 : -1073741824 ≤ n ∧ n ≤ 1073741824) (h2 : 1 ≤ d ∧ d ≤ 1073741824) : (makeF n d).1 = (n / (Int.gcd n d : Int), d / (Int.gcd n d : Int)) := by
  have hg := gcd_pos' (n := n) (d := d) (by omega)
  have ha := Nat.div_le_self n.natAbs (Int.gcd n d)
  have hb := Nat.div_le_self d.natAbs (Int.gcd n d)
  have hdv : (Int.gcd n d : Int) ∣ n := Int.gcd_dvd_left n d
  have e2 : ((d.natAbs / Int.gcd n d : Nat) : Int) = d / (Int.gcd n d : Int) := by rw [Int.natCast_ediv]; congr 1; omega
  have e1 : (if (n < 0) = (d < 0) then ((n.natAbs / Int.gcd n d : Nat) : Int) else -((n.natAbs / Int.gcd n d : Nat) : Int)) = n / (Int.gcd n d : Int) := by
    split
    · rename_i hs
      rw [eq_iff_iff] at hs
      rw [Int.natCast_ediv]; congr 1; omega
    · rename_i hs
      rw [eq_iff_iff] at hs
      rw [Int.natCast_ediv, show (n.natAbs : Int) = -n by omega, Int.neg_ediv_of_dvd hdv, Int.neg_neg]
  unfold makeF
  rw [if_neg (by omega)]; dsimp only
  rw [if_neg (by omega)]; dsimp only
  rw [e1, e2]
theorem div_gcd_one {n d : Int} (hd : 1 ≤ d) : (n / (Int.gcd n d : Int) = n ∧ d / (Int.gcd n d : Int) = d) ↔ Int.gcd n d = 1 := by
  have hg := gcd_pos' (n := n) (d := d) (by omega)
  constructor
  · rintro ⟨_, h⟩
    have h1 : (Int.gcd n d : Int) ∣ d := Int.gcd_dvd_right n d
    have h2 := Int.ediv_mul_cancel h1
    rw [h] at h2
    have h3 : d * ((Int.gcd n d : Int) - 1) = 0 := by rw [Int.mul_sub, h2]; omega
    rcases Int.mul_eq_zero.1 h3 with h4 | h4 <;> omega
  · intro h
    rw [h]; simp
theorem valid3_c {n d : Int} (h : (-9223372036854775808 ≤ n ∧ n ≤ 9223372036854775807) ∧ -9223372036854775808 ≤ d ∧ d ≤ 9223372036854775807) : Cont Tryd.prog 16 [fracV n d] (.bool (validF n d)) := fun w => by
  refine enter0 Tryd.func16 rfl rfl rfl ?_
  repeat' (first
    | (show YK _ _ _ _ _ _ _; first | refine YK.mk (y_callP make3_c ⟨rfl, rfl, rfl⟩) ?_)
    | (show YK _ _ _ _ _ _ _; refine YK.ofV vAuto ?_)
    | (show VK _ _ _ _ _ _ _; refine VK.mk vAuto ?_)
    | (show RS _ _ _ _ _ _ _ _; first | (refine nxRS ?_) | (refine nxRS1 fun _ => ?_))
    | (show RM _ _ _ _ _ _ _ _ _ _; first | (refine nxRM ?_) | (refine nxRM1 fun _ => ?_))
    | (show YG _ _ _ _ _ _ _ _; refine YG.mk (fun hb => by (try (have hc := And.left hb; have hb := And.right hb; rw [hc])); (try rw [hb]); first | exact (y_callP make3_c ⟨rfl, rfl, rfl⟩) | exact V.y vAuto) ?_)
    | (show VG _ _ _ _ _ _ _ _; refine VG.mk (fun hb => by (try (have hc := And.left hb; have hb := And.right hb; rw [hc])); (try rw [hb]); exact vAuto) ?_)
    | (refine nxX ?_)
    | (refine G.condN rfl (fun hc => ?_) (fun hc => ?_) <;> (try first | exact False.elim hc | (exfalso; omega))))
  · have e : validF n d = false := by
      unfold validF
      rw [Bool.eq_false_iff]
      intro hv
      simp only [Bool.and_eq_true, decide_eq_true_eq] at hv
      omega
    exact X.ret (vs := [_]) rfl ⟨rfl, rfl⟩ rfl (fun w hw => ⟨ret_bool e.symm, hw.ext⟩)
  · have e1 := makeF_valid (n := n) (d := d) hc.1.1 ⟨hc.1.2, hc.2⟩
    have e2 := div_gcd_one (n := n) (d := d) hc.1.2
    have e : eqCells [Value.int IntKind.i64 (makeF n d).1.1, Value.int IntKind.i64 (makeF n d).1.2] [Value.int IntKind.i64 n, Value.int IntKind.i64 d] = validF n d := by
      simp only [eqCells, vEq, e1]
      unfold validF
      rw [Bool.eq_iff_iff]
      simp only [Bool.and_eq_true, decide_eq_true_eq]
      rw [e2]
      omega
    exact X.ret (vs := [_]) rfl ⟨rfl, rfl⟩ rfl (fun w hw => ⟨ret_bool e, hw.ext⟩)
theorem neg3_c {n d : Int} (h : -9223372036854775807 ≤ n ∧ n ≤ 9223372036854775807) : Cont Tryd.prog 48 [fracV n d] (fracV (-n) d) := fun w => by
  refine enter0 Tryd.func48 rfl rfl rfl ?_
  repeat' (first
    | (refine nxV ?_)
    | (show RS _ _ _ _ _ _ _ _; first | (refine nxRS ?_) | (refine nxRS1 fun _ => ?_))
    | (show RM _ _ _ _ _ _ _ _ _ _; first | (refine nxRM ?_) | (refine nxRM1 fun _ => ?_))
    | (refine nxG ?_)
    | (refine nxX ?_)
    | (refine G.condN rfl (fun hc => ?_) (fun hc => ?_) <;> (try first | exact False.elim hc | (exfalso; omega))))
  exact X.ret (vs := [_]) rfl ⟨⟨_, _, _, _, rfl, (by exact memA), (by (repeat (first | exact .nil | apply LenIs.cons))), by decide +kernel, rfl⟩, rfl⟩ rfl (fun w hw => ⟨rfl, hw.ext⟩)
/-- Which is greater: products. -/
def cmpF (a b c d : Int) : Int := if a * d < c * b then -1 else if c * b < a * d then 1 else 0
theorem cmp3_c {a b c d : Int} (h : (-9223372036854775808 ≤ a * d ∧ a * d ≤ 9223372036854775807) ∧ -9223372036854775808 ≤ c * b ∧ c * b ≤ 9223372036854775807) : Cont Tryd.prog 30 [fracV a b, fracV c d] (.int .i64 (cmpF a b c d)) := fun w => by
  refine enter0 Tryd.func30 rfl rfl rfl ?_
  repeat' (first
    | (refine nxV ?_)
    | (show RS _ _ _ _ _ _ _ _; first | (refine nxRS ?_) | (refine nxRS1 fun _ => ?_))
    | (show RM _ _ _ _ _ _ _ _ _ _; first | (refine nxRM ?_) | (refine nxRM1 fun _ => ?_))
    | (refine nxG ?_)
    | (refine nxX ?_)
    | (refine G.condN rfl (fun hc => ?_) (fun hc => ?_) <;> (try first | exact False.elim hc | (exfalso; omega))))
  · exact X.ret (vs := [_]) rfl ⟨rfl, rfl⟩ rfl (fun w hw => ⟨ret_int (by unfold cmpF; rw [if_pos hc]), hw.ext⟩)
  · exact X.ret (vs := [_]) rfl ⟨rfl, rfl⟩ rfl (fun w hw => ⟨ret_int (by unfold cmpF; rw [if_neg (by omega), if_pos hc]), hw.ext⟩)
  · exact X.ret (vs := [_]) rfl ⟨rfl, rfl⟩ rfl (fun w hw => ⟨ret_int (by unfold cmpF; rw [if_neg (by omega), if_neg (by omega)]), hw.ext⟩)
end Go.Proofs.YtnanempkkeokbaaDoor
