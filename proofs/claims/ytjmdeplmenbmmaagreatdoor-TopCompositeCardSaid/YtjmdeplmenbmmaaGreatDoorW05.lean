/- Joined texts: Span, SpCm. -/
import Derived.Test.YtjmdeplmenbmmaaGreatDoorW03
import Derived.Test.YtjmdeplmenbmmaaGreatDoorW04
import Derived.Handy
import Derived.WalkKit
import Derived.LoopN
import Derived.StillTailTactics
import Derived.Sort.Grow
set_option linter.unusedVariables false
set_option maxHeartbeats 8000000
namespace Go.Proofs.YtjmdeplmenbmmaaGreatDoor
open Go.RowKit
section
variable {P : Program} {n : Nat} {L : FL} {w0 : World} {H : List Hl} {d : Option Tmp} {ty : TypeId} {pos : String} {af : Array Edge} {g : Option (Nat × Bool)} {x y : Operand} {t t' : TypeId} {k' : IntKind}
theorem y_shrA {m j a : Nat} {c : Int} (hx : evO L x = some (.int .i64 (m : Int))) (hy : evO L y = some (.int k' c)) (hc : c = (j : Int)) (hj : j ≤ 64) (ha : m / 2 ^ j = a) : V P n L w0 H ⟨d, .binOp .shr t x y t', ty, pos, af, g⟩ (.int .i64 (a : Int)) := by
  subst hc
  have h := y_shr (P := P) (n := n) (w0 := w0) (H := H) (d := d) (ty := ty) (pos := pos) (af := af) (g := g) (t := t) (t' := t') (q := ((2 ^ j : Nat) : Int)) hx hy (by omega) (by show (2 : Int) ^ (min (j : Int).toNat 64) = _; rw [Int.toNat_natCast, Nat.min_eq_left hj]; simp)
  rw [← ha]
  exact h
theorem y_shlA {m j a : Nat} {c : Int} (hx : evO L x = some (.int .i64 (m : Int))) (hy : evO L y = some (.int k' c)) (hc : c = (j : Int)) (hj : j ≤ 64) (ha : m * 2 ^ j = a) (hb : a ≤ 4611686018427387904) : V P n L w0 H ⟨d, .binOp .shl t x y t', ty, pos, af, g⟩ (.int .i64 (a : Int)) := by
  subst hc
  have e : (m : Int) * ((2 ^ j : Nat) : Int) = (a : Int) := by rw [← ha]; simp
  exact y_shl (q := ((2 ^ j : Nat) : Int)) hx hy (by omega) (by show (2 : Int) ^ (min (j : Int).toNat 64) = _; rw [Int.toNat_natCast, Nat.min_eq_left hj]; simp) (by rw [e]; exact IntWalk.i64_in _ (by omega))
theorem and_low {a k : Nat} (h : a ≤ 4611686018427387904) (hk : 2 ^ k ≤ 4611686018427387904) : bits .and .i64 (a : Int) ((2 ^ k - 1 : Nat) : Int) = ((a % 2 ^ k : Nat) : Int) := by
  have e : ∀ m : Nat, m < 18446744073709551616 → (BitVec.ofInt 64 (m : Int)).toNat = m := fun m hm => by
    rw [BitVec.toNat_ofInt]
    have := Int.emod_eq_of_lt (a := (m : Int)) (b := ((2 ^ 64 : Nat) : Int)) (by omega) (by omega)
    omega
  have h0 := Nat.mod_le a (2 ^ k)
  have h1 : (BitVec.ofInt 64 (a : Int) &&& BitVec.ofInt 64 ((2 ^ k - 1 : Nat) : Int)).toNat = a % 2 ^ k := by
    rw [BitVec.toNat_and, e _ (by omega), e _ (by omega)]
    exact Nat.and_two_pow_sub_one_eq_mod a k
  show IntKind.i64.wrap ((BitVec.ofInt 64 (a : Int) &&& BitVec.ofInt 64 ((2 ^ k - 1 : Nat) : Int)).toNat : Int) = _
  rw [h1, IntWalk.i64_in _ (by omega)]
theorem y_and1 {a : Nat} (hx : evO L x = some (.int .i64 (a : Int))) (hy : evO L y = some (.int .i64 1)) (h : a ≤ 4611686018427387904) : V P n L w0 H ⟨d, .binOp .and t x y t', ty, pos, af, g⟩ (.int .i64 ((a % 2 : Nat) : Int)) := by
  have := y_band (P := P) (n := n) (w0 := w0) (H := H) (d := d) (ty := ty) (pos := pos) (af := af) (g := g) (t := t) (t' := t') hx hy
  have e : bits .and .i64 (a : Int) 1 = ((a % 2 : Nat) : Int) := and_low (k := 1) h (by decide)
  rwa [e] at this
theorem y_and3 {a : Nat} (hx : evO L x = some (.int .i64 (a : Int))) (hy : evO L y = some (.int .i64 3)) (h : a ≤ 4611686018427387904) : V P n L w0 H ⟨d, .binOp .and t x y t', ty, pos, af, g⟩ (.int .i64 ((a % 4 : Nat) : Int)) := by
  have := y_band (P := P) (n := n) (w0 := w0) (H := H) (d := d) (ty := ty) (pos := pos) (af := af) (g := g) (t := t) (t' := t') hx hy
  have e : bits .and .i64 (a : Int) 3 = ((a % 4 : Nat) : Int) := and_low (k := 2) h (by decide)
  rwa [e] at this
theorem y_orA {a b c : Nat} (hx : evO L x = some (.int .i64 (a : Int))) (hy : evO L y = some (.int .i64 (b : Int))) (h : a ||| b = c) (h1 : a ≤ 4611686018427387904) (h2 : b ≤ 4611686018427387904) (h3 : c ≤ 4611686018427387904) : V P n L w0 H ⟨d, .binOp .or t x y t', ty, pos, af, g⟩ (.int .i64 (c : Int)) := by
  have := y_bor (P := P) (n := n) (w0 := w0) (H := H) (d := d) (ty := ty) (pos := pos) (af := af) (g := g) (t := t) (t' := t') hx hy
  have e0 : ∀ m : Nat, m < 18446744073709551616 → (BitVec.ofInt 64 (m : Int)).toNat = m := fun m hm => by
    rw [BitVec.toNat_ofInt]
    have := Int.emod_eq_of_lt (a := (m : Int)) (b := ((2 ^ 64 : Nat) : Int)) (by omega) (by omega)
    omega
  have e : bits .or .i64 (a : Int) (b : Int) = (c : Int) := by
    have h1 : (BitVec.ofInt 64 (a : Int) ||| BitVec.ofInt 64 (b : Int)).toNat = c := by
      rw [BitVec.toNat_or, e0 _ (by omega), e0 _ (by omega), h]
    show IntKind.i64.wrap ((BitVec.ofInt 64 (a : Int) ||| BitVec.ofInt 64 (b : Int)).toNat : Int) = _
    rw [h1, IntWalk.i64_in _ (by omega)]
  rwa [e] at this
end
abbrev spnV (a b : Int) : Value := .agg [.int .i64 a, .int .i64 b].toArray
theorem mc_bd {x : RR.CellT} (ok : RR.okC x) {j : Nat} (h : j ≤ x.lv) : RR.mc (x.lv - j) (x.r / 2 ^ j) (x.c / 2 ^ j) < 8589934592 := by
  obtain ⟨h1, h2, h3⟩ := ok
  have e : 2 ^ x.lv = 2 ^ (x.lv - j) * 2 ^ j := by rw [← Nat.pow_add]; congr 1; omega
  have g1 : x.r / 2 ^ j < 2 ^ (x.lv - j) := (Nat.div_lt_iff_lt_mul (Nat.pow_pos (by decide))).2 (by rw [← e]; exact h2)
  have g2 : x.c / 2 ^ j < 2 * 2 ^ (x.lv - j) := (Nat.div_lt_iff_lt_mul (Nat.pow_pos (by decide))).2 (by rw [Nat.mul_assoc, ← e]; exact h3)
  have g3 := RR.mc_lt _ _ _ g1 g2
  have g4 : 4 ^ (x.lv - j) ≤ 4 ^ 16 := Nat.pow_le_pow_right (by decide) (by omega)
  omega
theorem sz_two {lv : Nat} (h : lv ≤ 16) : 1 * 2 ^ (2 * (16 - lv)) = RR.sz lv := by
  unfold RR.sz
  rw [Nat.one_mul, Nat.pow_mul]
theorem sz_bd (lv : Nat) : 1 ≤ RR.sz lv ∧ RR.sz lv ≤ 4294967296 := by
  refine ⟨RR.sz_pos lv, ?_⟩
  have : RR.sz lv ≤ 4 ^ 16 := Nat.pow_le_pow_right (by decide) (by omega)
  omega
theorem okC_bd {x : RR.CellT} (ok : RR.okC x) : x.lv ≤ 16 ∧ x.r < 65536 ∧ x.c < 131072 := by
  obtain ⟨h1, h2, h3⟩ := ok
  have g : 2 ^ x.lv ≤ 2 ^ 16 := Nat.pow_le_pow_right (by decide) h1
  omega
theorem spanOf_c {x : RR.CellT} (ok : RR.okC x) : Cont Tryz.prog 205 [celV x.lv x.r x.c] (spnV (RR.fr x) (RR.to x)) := fun w => by
  have hbd := okC_bd ok
  have hsp := RR.okC_span ok
  have hs := sz_two hbd.1
  have hsb := sz_bd x.lv
  have hc0 : x.c / 2 ^ x.lv = x.c / 2 ^ x.lv := rfl
  generalize hA : x.c / 2 ^ x.lv = a0 at hc0
  have hA2 : a0 ≤ 131072 := by rw [← hA]; exact Nat.le_trans (Nat.div_le_self _ _) (by omega)
  refine enter0 Tryz.func205 rfl rfl rfl ?_
  repeat' (first
    | (show VK _ _ _ _ _ ⟨_, .binOp .shr _ _ _ _, _, _, _, _⟩ _; refine VK.mk (y_shrA (m := x.c) (j := x.lv) (by rfl) (by rfl) (by omega) (by omega) hA) ?_)
    | (show YK _ _ _ _ _ ⟨_, .binOp .shr _ _ _ _, _, _, _, _⟩ _; refine YK.ofV (y_shrA (m := x.c) (j := x.lv) (by rfl) (by rfl) (by omega) (by omega) hA) ?_)
    | (show VG _ _ _ _ _ _ ⟨_, .binOp .shr _ _ _ _, _, _, _, _⟩ _; refine VG.mk (fun hb => by (try (have hc := And.left hb; have hb := And.right hb; rw [hc])); (try rw [hb]); exact y_shrA (m := x.c) (j := x.lv) (by rfl) (by rfl) (by omega) (by omega) hA) ?_)
    | (show YG _ _ _ _ _ _ ⟨_, .binOp .shr _ _ _ _, _, _, _, _⟩ _; refine YG.mk (fun hb => by (try (have hc := And.left hb; have hb := And.right hb; rw [hc])); (try rw [hb]); exact V.y (y_shrA (m := x.c) (j := x.lv) (by rfl) (by rfl) (by omega) (by omega) hA)) ?_)
    | (refine nxV ?_)
    | (refine nxRS ?_) | (refine nxRS1 fun _ => ?_)
    | (refine nxRM ?_) | (refine nxRM1 fun _ => ?_)
    | (refine nxG ?_)
    | (refine G.mixedA 5 [.go 0, .go 1, .go 2, .go 3, .go 4, .go 5, .go 6, .go 7, .go 8, .go 9, .go 10, .go 11, .go 12, .go 13, .go 14, .go 15] ?_)
    | (refine nxX ?_)
    | (refine G.condN rfl (fun hc => ?_) (fun hc => ?_) <;> (try first | exact False.elim hc | (exfalso; omega))))
  rename_i b1 b2
  have hM0 := fun j (h : j ≤ x.lv) => mc_bd ok h
  refine G.loop (ι := Nat) (fun j => [(1, .pointer (some ⟨b1, 0, none⟩)), (2, .pointer (some ⟨b2, 0, none⟩)), (3, .int .i64 ((RR.mc (x.lv - j) (x.r / 2 ^ j) (x.c / 2 ^ j) : Nat) : Int)), (4, .int .i64 ((j : Int) - 1))]) (fun _ => [Hl.blk b2 235 [.int .i64 0, .int .i64 0], Hl.blk b1 73 [.int .i64 x.lv, .int .i64 x.r, .int .i64 x.c]]) (fun j => j ≤ x.lv) (fun j => j) x.lv (Nat.le_refl _) ⟨rfl, rfl, (by rw [RR.mc_top, hA]; rfl), rfl, trivial⟩ (by exact fun w h => h.sub (by repeat (first | exact List.Sublist.refl _ | apply List.Sublist.cons_cons | apply List.Sublist.cons))) ?_
  rintro j mx hj hmx
  have hM := hM0 j hj
  cases j with
  | succ j =>
    have hd := RR.mc_down (lv := x.lv) (r := x.r) (c := x.c) (j := j) (by omega)
    have hr1 : x.r / 2 ^ j ≤ x.r := Nat.div_le_self _ _
    have hc1 : x.c / 2 ^ j ≤ x.c := Nat.div_le_self _ _
    generalize hR : x.r / 2 ^ j = rr at *
    generalize hC : x.c / 2 ^ j = cc at *
    generalize RR.mc (x.lv - (j + 1)) (x.r / 2 ^ (j + 1)) (x.c / 2 ^ (j + 1)) = M at *
    repeat' (first
    | (show VK _ _ _ _ _ ⟨_, .binOp .shr _ _ _ _, _, _, _, _⟩ _; refine VK.mk (y_shrA (m := x.r) (j := j) (by rfl) (by rfl) (by omega) (by omega) hR) ?_)
    | (show YK _ _ _ _ _ ⟨_, .binOp .shr _ _ _ _, _, _, _, _⟩ _; refine YK.ofV (y_shrA (m := x.r) (j := j) (by rfl) (by rfl) (by omega) (by omega) hR) ?_)
    | (show VG _ _ _ _ _ _ ⟨_, .binOp .shr _ _ _ _, _, _, _, _⟩ _; refine VG.mk (fun hb => by (try (have hc := And.left hb; have hb := And.right hb; rw [hc])); (try rw [hb]); exact y_shrA (m := x.r) (j := j) (by rfl) (by rfl) (by omega) (by omega) hR) ?_)
    | (show YG _ _ _ _ _ _ ⟨_, .binOp .shr _ _ _ _, _, _, _, _⟩ _; refine YG.mk (fun hb => by (try (have hc := And.left hb; have hb := And.right hb; rw [hc])); (try rw [hb]); exact V.y (y_shrA (m := x.r) (j := j) (by rfl) (by rfl) (by omega) (by omega) hR)) ?_)
    | (show VK _ _ _ _ _ ⟨_, .binOp .shr _ _ _ _, _, _, _, _⟩ _; refine VK.mk (y_shrA (m := x.c) (j := j) (by rfl) (by rfl) (by omega) (by omega) hC) ?_)
    | (show YK _ _ _ _ _ ⟨_, .binOp .shr _ _ _ _, _, _, _, _⟩ _; refine YK.ofV (y_shrA (m := x.c) (j := j) (by rfl) (by rfl) (by omega) (by omega) hC) ?_)
    | (show VG _ _ _ _ _ _ ⟨_, .binOp .shr _ _ _ _, _, _, _, _⟩ _; refine VG.mk (fun hb => by (try (have hc := And.left hb; have hb := And.right hb; rw [hc])); (try rw [hb]); exact y_shrA (m := x.c) (j := j) (by rfl) (by rfl) (by omega) (by omega) hC) ?_)
    | (show YG _ _ _ _ _ _ ⟨_, .binOp .shr _ _ _ _, _, _, _, _⟩ _; refine YG.mk (fun hb => by (try (have hc := And.left hb; have hb := And.right hb; rw [hc])); (try rw [hb]); exact V.y (y_shrA (m := x.c) (j := j) (by rfl) (by rfl) (by omega) (by omega) hC)) ?_)
    | (show VK _ _ _ _ _ ⟨_, .binOp .and _ _ _ _, _, _, _, _⟩ _; refine VK.mk (y_and1 (a := rr) (by rfl) (by rfl) (by omega)) ?_)
    | (show YK _ _ _ _ _ ⟨_, .binOp .and _ _ _ _, _, _, _, _⟩ _; refine YK.ofV (y_and1 (a := rr) (by rfl) (by rfl) (by omega)) ?_)
    | (show VG _ _ _ _ _ _ ⟨_, .binOp .and _ _ _ _, _, _, _, _⟩ _; refine VG.mk (fun hb => by (try (have hc := And.left hb; have hb := And.right hb; rw [hc])); (try rw [hb]); exact y_and1 (a := rr) (by rfl) (by rfl) (by omega)) ?_)
    | (show YG _ _ _ _ _ _ ⟨_, .binOp .and _ _ _ _, _, _, _, _⟩ _; refine YG.mk (fun hb => by (try (have hc := And.left hb; have hb := And.right hb; rw [hc])); (try rw [hb]); exact V.y (y_and1 (a := rr) (by rfl) (by rfl) (by omega))) ?_)
    | (show VK _ _ _ _ _ ⟨_, .binOp .and _ _ _ _, _, _, _, _⟩ _; refine VK.mk (y_and1 (a := cc) (by rfl) (by rfl) (by omega)) ?_)
    | (show YK _ _ _ _ _ ⟨_, .binOp .and _ _ _ _, _, _, _, _⟩ _; refine YK.ofV (y_and1 (a := cc) (by rfl) (by rfl) (by omega)) ?_)
    | (show VG _ _ _ _ _ _ ⟨_, .binOp .and _ _ _ _, _, _, _, _⟩ _; refine VG.mk (fun hb => by (try (have hc := And.left hb; have hb := And.right hb; rw [hc])); (try rw [hb]); exact y_and1 (a := cc) (by rfl) (by rfl) (by omega)) ?_)
    | (show YG _ _ _ _ _ _ ⟨_, .binOp .and _ _ _ _, _, _, _, _⟩ _; refine YG.mk (fun hb => by (try (have hc := And.left hb; have hb := And.right hb; rw [hc])); (try rw [hb]); exact V.y (y_and1 (a := cc) (by rfl) (by rfl) (by omega))) ?_)
    | (refine nxV ?_)
    | (refine nxRS ?_) | (refine nxRS1 fun _ => ?_)
    | (refine nxRM ?_) | (refine nxRM1 fun _ => ?_)
    | (refine nxG ?_)
    | (refine G.mixedA 5 [.go 0, .go 1, .go 2, .go 3, .go 4, .go 5, .go 6, .go 7, .go 8, .go 9, .go 10, .go 11, .go 12, .go 13, .go 14, .go 15] ?_)
    | (refine nxX ?_)
    | (refine G.condN rfl (fun hc => ?_) (fun hc => ?_) <;> (try first | exact False.elim hc | (exfalso; omega))))
    refine X.again j (by omega) (by omega) ⟨rfl, rfl, ?_, ?_, trivial⟩ (by exact fun w h => h.sub (by repeat (first | exact List.Sublist.refl _ | apply List.Sublist.cons_cons | apply List.Sublist.cons)))
    · rw [hR, hC, hd]
      exact congrArg (fun z => some (Value.int .i64 z)) (by omega)
    · exact congrArg (fun z => some (Value.int .i64 z)) (by omega)
  | zero =>
    have e1 : RR.mc (x.lv - 0) (x.r / 2 ^ 0) (x.c / 2 ^ 0) = RR.mc x.lv x.r x.c := by simp
    rw [e1] at hM ⊢
    have f1 : ((RR.mc x.lv x.r x.c : Nat) : Int) * ((RR.sz x.lv : Nat) : Int) = ((RR.fr x : Nat) : Int) := by unfold RR.fr; simp
    have f2 : (((RR.mc x.lv x.r x.c : Nat) : Int) + 1) * ((RR.sz x.lv : Nat) : Int) = ((RR.to x : Nat) : Int) := by unfold RR.to; simp
    have g1 : RR.fr x < RR.to x := hsp.1
    have g2 : RR.to x ≤ 8589934592 := hsp.2
    clear hsp
    generalize RR.fr x = A at *
    generalize RR.to x = B at *
    generalize RR.mc x.lv x.r x.c = M at *
    generalize RR.sz x.lv = S at *
    repeat' (first
    | (show VK _ _ _ _ _ ⟨_, .binOp .shl _ _ _ _, _, _, _, _⟩ _; refine VK.mk (y_shlA (m := 1) (j := 2 * (16 - x.lv)) (by rfl) (by rfl) (by omega) (by omega) hs (by omega)) ?_)
    | (show YK _ _ _ _ _ ⟨_, .binOp .shl _ _ _ _, _, _, _, _⟩ _; refine YK.ofV (y_shlA (m := 1) (j := 2 * (16 - x.lv)) (by rfl) (by rfl) (by omega) (by omega) hs (by omega)) ?_)
    | (show VG _ _ _ _ _ _ ⟨_, .binOp .shl _ _ _ _, _, _, _, _⟩ _; refine VG.mk (fun hb => by (try (have hc := And.left hb; have hb := And.right hb; rw [hc])); (try rw [hb]); exact y_shlA (m := 1) (j := 2 * (16 - x.lv)) (by rfl) (by rfl) (by omega) (by omega) hs (by omega)) ?_)
    | (show YG _ _ _ _ _ _ ⟨_, .binOp .shl _ _ _ _, _, _, _, _⟩ _; refine YG.mk (fun hb => by (try (have hc := And.left hb; have hb := And.right hb; rw [hc])); (try rw [hb]); exact V.y (y_shlA (m := 1) (j := 2 * (16 - x.lv)) (by rfl) (by rfl) (by omega) (by omega) hs (by omega))) ?_)
    | (refine nxV ?_)
    | (refine nxRS ?_) | (refine nxRS1 fun _ => ?_)
    | (refine nxRM ?_) | (refine nxRM1 fun _ => ?_)
    | (refine nxG ?_)
    | (refine G.mixedA 5 [.go 0, .go 1, .go 2, .go 3, .go 4, .go 5, .go 6, .go 7, .go 8, .go 9, .go 10, .go 11, .go 12, .go 13, .go 14, .go 15] ?_)
    | (refine nxX ?_)
    | (refine G.condN rfl (fun hc => ?_) (fun hc => ?_) <;> (try first | exact False.elim hc | (exfalso; omega))))
    refine X.ret (vs := [_]) rfl ⟨⟨_, _, _, _, rfl, (by exact memA), (by (repeat (first | exact .nil | apply LenIs.cons))), by decide +kernel, rfl⟩, rfl⟩ rfl (fun w hw => ⟨?_, hw.ext⟩)
    dsimp only
    rw [f2, f1]
theorem cellOf_c {n lv : Nat} (hl : lv ≤ 16) (hn : n < 2 * 4 ^ lv) : Cont Tryz.prog 204 [.int .i64 (n : Int), .int .i64 (lv : Int)] (celV lv (RR.drow lv n) (RR.dcol lv n)) := fun w => by
  have h4 : 4 ^ lv ≤ 4 ^ 16 := Nat.pow_le_pow_right (by decide) hl
  have hn2 : n < 8589934592 := by omega
  refine enter0 Tryz.func204 rfl rfl rfl ?_
  repeat' (first
    | (refine nxN ?_)
    | (refine nxV ?_)
    | (refine nxRS ?_) | (refine nxRS1 fun _ => ?_)
    | (refine nxRM ?_) | (refine nxRM1 fun _ => ?_)
    | (refine nxG ?_)
    | (refine G.mixedA 6 [.go 0, .go 1, .go 2, .go 3, .go 4, .go 5, .go 6, .go 7, .go 8] ?_)
    | (refine G.mixedA 7 [.go 0, .go 1, .go 2, .go 3, .go 4, .go 5, .go 6, .go 7, .go 8] ?_)
    | (refine G.mixedA 9 [.go 0, .go 1, .go 2, .go 3, .go 4, .go 5, .go 6, .go 7, .go 8, .go 9, .go 10] ?_)
    | (refine nxX ?_)
    | (refine G.condN rfl (fun hc => ?_) (fun hc => ?_) <;> (try first | exact False.elim hc | (exfalso; omega))))
  rename_i b1 b2
  refine G.loop (ι := Nat) (fun k => [(0, .int .i64 (n : Int)), (1, .int .i64 (lv : Int)), (4, .pointer (some ⟨b1, 0, none⟩)), (5, .pointer (some ⟨b2, 0, none⟩)), (10, .int .i64 (lv : Int)), (11, .int .i64 (k : Int))]) (fun k => [Hl.blk b2 73 [.int .i64 lv, .int .i64 (RR.drow k n : Nat), .int .i64 (RR.dlow k n : Nat)], Hl.blk b1 73 [.int .i64 0, .int .i64 0, .int .i64 0]]) (fun k => k ≤ lv) (fun k => lv - k) 0 (Nat.zero_le _) ⟨rfl, rfl, rfl, rfl, rfl, rfl, trivial⟩ (by exact fun w h => h.sub (by repeat (first | exact List.Sublist.refl _ | apply List.Sublist.cons_cons | apply List.Sublist.cons))) ?_
  rintro k mx hk hmx
  (try dsimp only at hk hmx ⊢)
  have p1 := RR.drow_lt k n
  have p2 := RR.dlow_lt k n
  have p3 : 2 ^ k ≤ 2 ^ 16 := Nat.pow_le_pow_right (by decide) (by omega)
  rcases Nat.lt_or_ge k lv with hi | hi
  · have s1 := RR.drow_step k n
    have s2 := RR.dlow_step k n
    have e4 : n / 2 ^ (2 * k) = n / 4 ^ k := by rw [Nat.pow_mul]
    have hq : n / 2 ^ (2 * k) ≤ n := Nat.div_le_self _ _
    rw [← e4] at s1 s2
    generalize hQ : n / 2 ^ (2 * k) = q at *
    have o1 := RR.or_up (b := q % 4 / 2) p1
    have o2 := RR.or_up (b := q % 4 % 2) p2
    rw [← s1] at o1
    rw [show q % 4 % 2 = q % 2 by omega, ← s2] at o2
    have t1 := RR.drow_lt (k + 1) n
    have t2 := RR.dlow_lt (k + 1) n
    have t3 : 2 ^ (k + 1) ≤ 2 ^ 17 := Nat.pow_le_pow_right (by decide) (by omega)
    have u1 : q % 4 / 2 * 2 ^ k ≤ 65536 := by
      have : q % 4 / 2 * 2 ^ k ≤ 1 * 2 ^ k := Nat.mul_le_mul_right _ (by omega)
      omega
    have u2 : q % 2 * 2 ^ k ≤ 65536 := by
      have : q % 2 * 2 ^ k ≤ 1 * 2 ^ k := Nat.mul_le_mul_right _ (by omega)
      omega
    have e2 : q % 4 % 2 = q % 2 := by omega
    generalize hd1 : q % 4 / 2 = d1 at *
    generalize hd2 : q % 2 = d2 at *
    generalize hz1 : d1 * 2 ^ k = z1 at *
    generalize hz2 : d2 * 2 ^ k = z2 at *
    generalize RR.drow k n = A at *
    generalize RR.dlow k n = B at *
    generalize hA' : RR.drow (k + 1) n = A' at *
    generalize hB' : RR.dlow (k + 1) n = B' at *
    repeat' (first
    | (refine nxN ?_)
    | (show VK _ _ _ _ _ ⟨_, .binOp .shr _ _ _ _, _, _, _, _⟩ _; refine VK.mk (y_shrA (m := n) (j := 2 * k) (by rfl) (by rfl) (by omega) (by omega) hQ) ?_)
    | (show YK _ _ _ _ _ ⟨_, .binOp .shr _ _ _ _, _, _, _, _⟩ _; refine YK.ofV (y_shrA (m := n) (j := 2 * k) (by rfl) (by rfl) (by omega) (by omega) hQ) ?_)
    | (show VG _ _ _ _ _ _ ⟨_, .binOp .shr _ _ _ _, _, _, _, _⟩ _; refine VG.mk (fun hb => by (try (have hc := And.left hb; have hb := And.right hb; rw [hc])); (try rw [hb]); exact y_shrA (m := n) (j := 2 * k) (by rfl) (by rfl) (by omega) (by omega) hQ) ?_)
    | (show YG _ _ _ _ _ _ ⟨_, .binOp .shr _ _ _ _, _, _, _, _⟩ _; refine YG.mk (fun hb => by (try (have hc := And.left hb; have hb := And.right hb; rw [hc])); (try rw [hb]); exact V.y (y_shrA (m := n) (j := 2 * k) (by rfl) (by rfl) (by omega) (by omega) hQ)) ?_)
    | (show VFrK _ _ _ _ _ ⟨_, .binOp .shr _ _ _ _, _, _, _, _⟩ _; refine VFrK.mk (vf_of fun _ => y_shrA (m := n) (j := 2 * k) (by rfl) (by rfl) (by omega) (by omega) hQ) ?_)
    | (show VK _ _ _ _ _ ⟨_, .binOp .shr _ _ _ _, _, _, _, _⟩ _; refine VK.mk (y_shrA (m := q % 4) (j := 1) (by rfl) (by rfl) (by omega) (by omega) hd1) ?_)
    | (show YK _ _ _ _ _ ⟨_, .binOp .shr _ _ _ _, _, _, _, _⟩ _; refine YK.ofV (y_shrA (m := q % 4) (j := 1) (by rfl) (by rfl) (by omega) (by omega) hd1) ?_)
    | (show VG _ _ _ _ _ _ ⟨_, .binOp .shr _ _ _ _, _, _, _, _⟩ _; refine VG.mk (fun hb => by (try (have hc := And.left hb; have hb := And.right hb; rw [hc])); (try rw [hb]); exact y_shrA (m := q % 4) (j := 1) (by rfl) (by rfl) (by omega) (by omega) hd1) ?_)
    | (show YG _ _ _ _ _ _ ⟨_, .binOp .shr _ _ _ _, _, _, _, _⟩ _; refine YG.mk (fun hb => by (try (have hc := And.left hb; have hb := And.right hb; rw [hc])); (try rw [hb]); exact V.y (y_shrA (m := q % 4) (j := 1) (by rfl) (by rfl) (by omega) (by omega) hd1)) ?_)
    | (show VFrK _ _ _ _ _ ⟨_, .binOp .shr _ _ _ _, _, _, _, _⟩ _; refine VFrK.mk (vf_of fun _ => y_shrA (m := q % 4) (j := 1) (by rfl) (by rfl) (by omega) (by omega) hd1) ?_)
    | (show VK _ _ _ _ _ ⟨_, .binOp .and _ _ _ _, _, _, _, _⟩ _; refine VK.mk (y_and3 (a := q) (by rfl) (by rfl) (by omega)) ?_)
    | (show YK _ _ _ _ _ ⟨_, .binOp .and _ _ _ _, _, _, _, _⟩ _; refine YK.ofV (y_and3 (a := q) (by rfl) (by rfl) (by omega)) ?_)
    | (show VG _ _ _ _ _ _ ⟨_, .binOp .and _ _ _ _, _, _, _, _⟩ _; refine VG.mk (fun hb => by (try (have hc := And.left hb; have hb := And.right hb; rw [hc])); (try rw [hb]); exact y_and3 (a := q) (by rfl) (by rfl) (by omega)) ?_)
    | (show YG _ _ _ _ _ _ ⟨_, .binOp .and _ _ _ _, _, _, _, _⟩ _; refine YG.mk (fun hb => by (try (have hc := And.left hb; have hb := And.right hb; rw [hc])); (try rw [hb]); exact V.y (y_and3 (a := q) (by rfl) (by rfl) (by omega))) ?_)
    | (show VFrK _ _ _ _ _ ⟨_, .binOp .and _ _ _ _, _, _, _, _⟩ _; refine VFrK.mk (vf_of fun _ => y_and3 (a := q) (by rfl) (by rfl) (by omega)) ?_)
    | (show VK _ _ _ _ _ ⟨_, .binOp .and _ _ _ _, _, _, _, _⟩ _; refine VK.mk (y_and1 (a := q % 4) (by rfl) (by rfl) (by omega)) ?_)
    | (show YK _ _ _ _ _ ⟨_, .binOp .and _ _ _ _, _, _, _, _⟩ _; refine YK.ofV (y_and1 (a := q % 4) (by rfl) (by rfl) (by omega)) ?_)
    | (show VG _ _ _ _ _ _ ⟨_, .binOp .and _ _ _ _, _, _, _, _⟩ _; refine VG.mk (fun hb => by (try (have hc := And.left hb; have hb := And.right hb; rw [hc])); (try rw [hb]); exact y_and1 (a := q % 4) (by rfl) (by rfl) (by omega)) ?_)
    | (show YG _ _ _ _ _ _ ⟨_, .binOp .and _ _ _ _, _, _, _, _⟩ _; refine YG.mk (fun hb => by (try (have hc := And.left hb; have hb := And.right hb; rw [hc])); (try rw [hb]); exact V.y (y_and1 (a := q % 4) (by rfl) (by rfl) (by omega))) ?_)
    | (show VFrK _ _ _ _ _ ⟨_, .binOp .and _ _ _ _, _, _, _, _⟩ _; refine VFrK.mk (vf_of fun _ => y_and1 (a := q % 4) (by rfl) (by rfl) (by omega)) ?_)
    | (show VK _ _ _ _ _ ⟨_, .binOp .shl _ _ _ _, _, _, _, _⟩ _; refine VK.mk (y_shlA (m := d1) (j := k) (by rfl) (by rfl) (by omega) (by omega) hz1 (by omega)) ?_)
    | (show YK _ _ _ _ _ ⟨_, .binOp .shl _ _ _ _, _, _, _, _⟩ _; refine YK.ofV (y_shlA (m := d1) (j := k) (by rfl) (by rfl) (by omega) (by omega) hz1 (by omega)) ?_)
    | (show VG _ _ _ _ _ _ ⟨_, .binOp .shl _ _ _ _, _, _, _, _⟩ _; refine VG.mk (fun hb => by (try (have hc := And.left hb; have hb := And.right hb; rw [hc])); (try rw [hb]); exact y_shlA (m := d1) (j := k) (by rfl) (by rfl) (by omega) (by omega) hz1 (by omega)) ?_)
    | (show YG _ _ _ _ _ _ ⟨_, .binOp .shl _ _ _ _, _, _, _, _⟩ _; refine YG.mk (fun hb => by (try (have hc := And.left hb; have hb := And.right hb; rw [hc])); (try rw [hb]); exact V.y (y_shlA (m := d1) (j := k) (by rfl) (by rfl) (by omega) (by omega) hz1 (by omega))) ?_)
    | (show VFrK _ _ _ _ _ ⟨_, .binOp .shl _ _ _ _, _, _, _, _⟩ _; refine VFrK.mk (vf_of fun _ => y_shlA (m := d1) (j := k) (by rfl) (by rfl) (by omega) (by omega) hz1 (by omega)) ?_)
    | (show VK _ _ _ _ _ ⟨_, .binOp .shl _ _ _ _, _, _, _, _⟩ _; refine VK.mk (y_shlA (m := q % 4 % 2) (j := k) (by rfl) (by rfl) (by omega) (by omega) (e2.symm ▸ hz2) (by omega)) ?_)
    | (show YK _ _ _ _ _ ⟨_, .binOp .shl _ _ _ _, _, _, _, _⟩ _; refine YK.ofV (y_shlA (m := q % 4 % 2) (j := k) (by rfl) (by rfl) (by omega) (by omega) (e2.symm ▸ hz2) (by omega)) ?_)
    | (show VG _ _ _ _ _ _ ⟨_, .binOp .shl _ _ _ _, _, _, _, _⟩ _; refine VG.mk (fun hb => by (try (have hc := And.left hb; have hb := And.right hb; rw [hc])); (try rw [hb]); exact y_shlA (m := q % 4 % 2) (j := k) (by rfl) (by rfl) (by omega) (by omega) (e2.symm ▸ hz2) (by omega)) ?_)
    | (show YG _ _ _ _ _ _ ⟨_, .binOp .shl _ _ _ _, _, _, _, _⟩ _; refine YG.mk (fun hb => by (try (have hc := And.left hb; have hb := And.right hb; rw [hc])); (try rw [hb]); exact V.y (y_shlA (m := q % 4 % 2) (j := k) (by rfl) (by rfl) (by omega) (by omega) (e2.symm ▸ hz2) (by omega))) ?_)
    | (show VFrK _ _ _ _ _ ⟨_, .binOp .shl _ _ _ _, _, _, _, _⟩ _; refine VFrK.mk (vf_of fun _ => y_shlA (m := q % 4 % 2) (j := k) (by rfl) (by rfl) (by omega) (by omega) (e2.symm ▸ hz2) (by omega)) ?_)
    | (show VK _ _ _ _ _ ⟨_, .binOp .or _ _ _ _, _, _, _, _⟩ _; refine VK.mk (y_orA (by rfl) (by rfl) o1 (by omega) (by omega) (by omega)) ?_)
    | (show YK _ _ _ _ _ ⟨_, .binOp .or _ _ _ _, _, _, _, _⟩ _; refine YK.ofV (y_orA (by rfl) (by rfl) o1 (by omega) (by omega) (by omega)) ?_)
    | (show VG _ _ _ _ _ _ ⟨_, .binOp .or _ _ _ _, _, _, _, _⟩ _; refine VG.mk (fun hb => by (try (have hc := And.left hb; have hb := And.right hb; rw [hc])); (try rw [hb]); exact y_orA (by rfl) (by rfl) o1 (by omega) (by omega) (by omega)) ?_)
    | (show YG _ _ _ _ _ _ ⟨_, .binOp .or _ _ _ _, _, _, _, _⟩ _; refine YG.mk (fun hb => by (try (have hc := And.left hb; have hb := And.right hb; rw [hc])); (try rw [hb]); exact V.y (y_orA (by rfl) (by rfl) o1 (by omega) (by omega) (by omega))) ?_)
    | (show VFrK _ _ _ _ _ ⟨_, .binOp .or _ _ _ _, _, _, _, _⟩ _; refine VFrK.mk (vf_of fun _ => y_orA (by rfl) (by rfl) o1 (by omega) (by omega) (by omega)) ?_)
    | (show VK _ _ _ _ _ ⟨_, .binOp .or _ _ _ _, _, _, _, _⟩ _; refine VK.mk (y_orA (by rfl) (by rfl) o2 (by omega) (by omega) (by omega)) ?_)
    | (show YK _ _ _ _ _ ⟨_, .binOp .or _ _ _ _, _, _, _, _⟩ _; refine YK.ofV (y_orA (by rfl) (by rfl) o2 (by omega) (by omega) (by omega)) ?_)
    | (show VG _ _ _ _ _ _ ⟨_, .binOp .or _ _ _ _, _, _, _, _⟩ _; refine VG.mk (fun hb => by (try (have hc := And.left hb; have hb := And.right hb; rw [hc])); (try rw [hb]); exact y_orA (by rfl) (by rfl) o2 (by omega) (by omega) (by omega)) ?_)
    | (show YG _ _ _ _ _ _ ⟨_, .binOp .or _ _ _ _, _, _, _, _⟩ _; refine YG.mk (fun hb => by (try (have hc := And.left hb; have hb := And.right hb; rw [hc])); (try rw [hb]); exact V.y (y_orA (by rfl) (by rfl) o2 (by omega) (by omega) (by omega))) ?_)
    | (show VFrK _ _ _ _ _ ⟨_, .binOp .or _ _ _ _, _, _, _, _⟩ _; refine VFrK.mk (vf_of fun _ => y_orA (by rfl) (by rfl) o2 (by omega) (by omega) (by omega)) ?_)
    | (refine G.mixedFH 6 [.go 0, .go 1, .go 2, .go 3, .go 4, .go 5, .go 6, .go 7, .go 8] ?_)
    | (refine G.mixedFH 7 [.go 0, .go 1, .go 2, .go 3, .go 4, .go 5, .go 6, .go 7, .go 8] ?_)
    | (refine nxRF ?_)
    | (refine nxVF ?_)
    | (refine nxV ?_)
    | (refine nxRS ?_) | (refine nxRS1 fun _ => ?_)
    | (refine nxRM ?_) | (refine nxRM1 fun _ => ?_)
    | (refine nxG ?_)
    | (refine G.mixedA 9 [.go 0, .go 1, .go 2, .go 3, .go 4, .go 5, .go 6, .go 7, .go 8, .go 9, .go 10] ?_)
    | (refine nxX ?_)
    | (refine G.condN rfl (fun hc => ?_) (fun hc => ?_) <;> (try first | exact False.elim hc | (exfalso; omega))))
    exact X.again (k + 1) (by omega) (by omega) ⟨rfl, rfl, rfl, rfl, rfl, rfl, trivial⟩ (by rw [hA', hB']; exact fun w h => h.sub (by repeat (first | exact List.Sublist.refl _ | apply List.Sublist.cons_cons | apply List.Sublist.cons)))
  · obtain rfl : k = lv := by omega
    have s3 := RR.dcol_low k n
    have e4 : n / 2 ^ (2 * k) = n / 4 ^ k := by rw [Nat.pow_mul]
    have hq : n / 2 ^ (2 * k) ≤ n := Nat.div_le_self _ _
    have o3 := RR.or_up (b := n / 2 ^ (2 * k)) p2
    rw [← e4] at s3
    rw [← s3] at o3
    have hdc := (RR.mc_drow k n hn).2.2
    have p4 : n / 2 ^ (2 * k) * 2 ^ k ≤ 131072 := by omega
    generalize hQ : n / 2 ^ (2 * k) = q at *
    generalize hz : q * 2 ^ k = zz at *
    generalize RR.dlow k n = B at *
    generalize RR.drow k n = A at *
    generalize RR.dcol k n = C at *
    repeat' (first
    | (refine nxN ?_)
    | (show VK _ _ _ _ _ ⟨_, .binOp .shr _ _ _ _, _, _, _, _⟩ _; refine VK.mk (y_shrA (m := n) (j := 2 * k) (by rfl) (by rfl) (by omega) (by omega) hQ) ?_)
    | (show YK _ _ _ _ _ ⟨_, .binOp .shr _ _ _ _, _, _, _, _⟩ _; refine YK.ofV (y_shrA (m := n) (j := 2 * k) (by rfl) (by rfl) (by omega) (by omega) hQ) ?_)
    | (show VG _ _ _ _ _ _ ⟨_, .binOp .shr _ _ _ _, _, _, _, _⟩ _; refine VG.mk (fun hb => by (try (have hc := And.left hb; have hb := And.right hb; rw [hc])); (try rw [hb]); exact y_shrA (m := n) (j := 2 * k) (by rfl) (by rfl) (by omega) (by omega) hQ) ?_)
    | (show YG _ _ _ _ _ _ ⟨_, .binOp .shr _ _ _ _, _, _, _, _⟩ _; refine YG.mk (fun hb => by (try (have hc := And.left hb; have hb := And.right hb; rw [hc])); (try rw [hb]); exact V.y (y_shrA (m := n) (j := 2 * k) (by rfl) (by rfl) (by omega) (by omega) hQ)) ?_)
    | (show VFrK _ _ _ _ _ ⟨_, .binOp .shr _ _ _ _, _, _, _, _⟩ _; refine VFrK.mk (vf_of fun _ => y_shrA (m := n) (j := 2 * k) (by rfl) (by rfl) (by omega) (by omega) hQ) ?_)
    | (show VK _ _ _ _ _ ⟨_, .binOp .shl _ _ _ _, _, _, _, _⟩ _; refine VK.mk (y_shlA (m := q) (j := k) (by rfl) (by rfl) (by omega) (by omega) hz (by omega)) ?_)
    | (show YK _ _ _ _ _ ⟨_, .binOp .shl _ _ _ _, _, _, _, _⟩ _; refine YK.ofV (y_shlA (m := q) (j := k) (by rfl) (by rfl) (by omega) (by omega) hz (by omega)) ?_)
    | (show VG _ _ _ _ _ _ ⟨_, .binOp .shl _ _ _ _, _, _, _, _⟩ _; refine VG.mk (fun hb => by (try (have hc := And.left hb; have hb := And.right hb; rw [hc])); (try rw [hb]); exact y_shlA (m := q) (j := k) (by rfl) (by rfl) (by omega) (by omega) hz (by omega)) ?_)
    | (show YG _ _ _ _ _ _ ⟨_, .binOp .shl _ _ _ _, _, _, _, _⟩ _; refine YG.mk (fun hb => by (try (have hc := And.left hb; have hb := And.right hb; rw [hc])); (try rw [hb]); exact V.y (y_shlA (m := q) (j := k) (by rfl) (by rfl) (by omega) (by omega) hz (by omega))) ?_)
    | (show VFrK _ _ _ _ _ ⟨_, .binOp .shl _ _ _ _, _, _, _, _⟩ _; refine VFrK.mk (vf_of fun _ => y_shlA (m := q) (j := k) (by rfl) (by rfl) (by omega) (by omega) hz (by omega)) ?_)
    | (show VK _ _ _ _ _ ⟨_, .binOp .or _ _ _ _, _, _, _, _⟩ _; refine VK.mk (y_orA (by rfl) (by rfl) o3 (by omega) (by omega) (by omega)) ?_)
    | (show YK _ _ _ _ _ ⟨_, .binOp .or _ _ _ _, _, _, _, _⟩ _; refine YK.ofV (y_orA (by rfl) (by rfl) o3 (by omega) (by omega) (by omega)) ?_)
    | (show VG _ _ _ _ _ _ ⟨_, .binOp .or _ _ _ _, _, _, _, _⟩ _; refine VG.mk (fun hb => by (try (have hc := And.left hb; have hb := And.right hb; rw [hc])); (try rw [hb]); exact y_orA (by rfl) (by rfl) o3 (by omega) (by omega) (by omega)) ?_)
    | (show YG _ _ _ _ _ _ ⟨_, .binOp .or _ _ _ _, _, _, _, _⟩ _; refine YG.mk (fun hb => by (try (have hc := And.left hb; have hb := And.right hb; rw [hc])); (try rw [hb]); exact V.y (y_orA (by rfl) (by rfl) o3 (by omega) (by omega) (by omega))) ?_)
    | (show VFrK _ _ _ _ _ ⟨_, .binOp .or _ _ _ _, _, _, _, _⟩ _; refine VFrK.mk (vf_of fun _ => y_orA (by rfl) (by rfl) o3 (by omega) (by omega) (by omega)) ?_)
    | (refine G.mixedFH 9 [.go 0, .go 1, .go 2, .go 3, .go 4, .go 5, .go 6, .go 7, .go 8, .go 9, .go 10] ?_)
    | (refine nxRF ?_)
    | (refine nxVF ?_)
    | (refine nxV ?_)
    | (refine nxRS ?_) | (refine nxRS1 fun _ => ?_)
    | (refine nxRM ?_) | (refine nxRM1 fun _ => ?_)
    | (refine nxG ?_)
    | (refine G.mixedA 6 [.go 0, .go 1, .go 2, .go 3, .go 4, .go 5, .go 6, .go 7, .go 8] ?_)
    | (refine G.mixedA 7 [.go 0, .go 1, .go 2, .go 3, .go 4, .go 5, .go 6, .go 7, .go 8] ?_)
    | (refine nxX ?_)
    | (refine G.condN rfl (fun hc => ?_) (fun hc => ?_) <;> (try first | exact False.elim hc | (exfalso; omega))))
    dsimp only [List.set_cons_succ, List.set_cons_zero]
    exact X.ret (vs := [_]) rfl ⟨⟨_, _, _, _, rfl, (by exact memA), (by (repeat (first | exact .nil | apply LenIs.cons))), by decide +kernel, rfl⟩, rfl⟩ rfl (fun w hw => ⟨rfl, hw.ext⟩)
end Go.Proofs.YtjmdeplmenbmmaaGreatDoor
namespace Go.Proofs.YtjmdeplmenbmmaaGreatDoor
open Go.RowKit Go.Sort
def cmpS3 (a b : Int) : Int := if a < b then -1 else if a > b then 1 else 0
set_option maxHeartbeats 1000000 in
theorem cmpS3_world (a b : Int) (W : World) : Calls Tryz.prog 130 #[.int .i64 a, .int .i64 b] W fun e w' => e = .returned (.int .i64 (cmpS3 a b)) ∧ w' = W := by
  go_enter Tryz.func130, Tryz.ntmps130
  go_wp2
  all_goals go_ret
  all_goals refine ⟨?_, rfl⟩
  all_goals (congr 2; unfold cmpS3; (repeat' split) <;> first | rfl | omega | (simp_all; omega) | trace_state)
def orI (x y : Int) : Int := if x = 0 then y else x
set_option maxHeartbeats 1000000 in
theorem or_world (b : Nat) (x y : Int) (W : World) (h0 : W.cell? ⟨b, 0, none⟩ = some (.int .i64 x)) (h1 : W.cell? ⟨b, 1, none⟩ = some (.int .i64 y)) : Calls Tryz.prog 208 #[.slice (some ⟨b, 0, none⟩) 2 2] W fun e w' => e = .returned (.int .i64 (orI x y)) ∧ w' = W := by
  go_enter Tryz.func208, Tryz.ntmps208
  go_wp2
  refine wp_loop_rounds 3 ?_
  rw [rounds_succ]
  go_wp2
  · rename_i hx
    have hx' : x ≠ 0 := by simpa using hx
    go_ret
    exact ⟨by unfold orI; rw [if_neg hx']; rfl, rfl⟩
  · rename_i hx
    have hx' : x = 0 := by simpa using hx
    rw [rounds_succ]
    go_wp2
    · go_ret
      exact ⟨by unfold orI; rw [if_pos hx']; rfl, rfl⟩
    · rename_i hy
      have hy' : y = 0 := by simpa using hy
      rw [rounds_succ]
      go_wp2
      go_ret
      exact ⟨by unfold orI; rw [if_pos hx', hy']; rfl, rfl⟩
theorem al_old {W : World} {o : Obj} {k i : Nat} (h : k < W.heap.size) : (W.alloc o).cell? ⟨k, i, none⟩ = W.cell? ⟨k, i, none⟩ := by
  show (match (W.alloc o).heap[k]? with | some (.cells c _ _) => if (none : Option Nat).isSome then none else c[i]? | _ => none) = (match W.heap[k]? with | some (.cells c _ _) => if (none : Option Nat).isSome then none else c[i]? | _ => none)
  rw [Below.heap_alloc W o k h]
theorem al_new {W : World} {cs : Array Value} {t : TypeId} {fr : Nat × Nat} {i : Nat} : (W.alloc (.cells cs t fr)).cell? ⟨W.heap.size, i, none⟩ = cs[i]? := by
  show (match (W.heap.push (.cells cs t fr))[W.heap.size]? with | some (.cells c _ _) => if (none : Option Nat).isSome then none else c[i]? | _ => none) = _
  rw [Array.getElem?_push_size]; rfl
def cfI (a b c d : Int) : Int := orI (cmpS3 a c) (cmpS3 d b)
set_option maxRecDepth 100000 in
set_option maxHeartbeats 1000000 in
theorem cover1_world (a b c d : Int) (W : World) : Calls Tryz.prog 207 #[.agg #[.int .i64 a, .int .i64 b], .agg #[.int .i64 c, .int .i64 d]] W fun e w' => e = .returned (.int .i64 (cfI a b c d)) ∧ ∃ q os', w' = grow (W.drewN q) os' := by
  go_enter Tryz.func207, Tryz.ntmps207
  go_wp2
  go_still_tail 10, (by kernel_rfl)
  change wpStill _ _ (((W.alloc (Obj.cells #[Value.int IntKind.i64 a, Value.int IntKind.i64 b] 235)).alloc (Obj.cells #[Value.int IntKind.i64 c, Value.int IntKind.i64 d] 235)).drew) _ _ _
  have hs1 : (W.alloc (Obj.cells #[Value.int IntKind.i64 a, Value.int IntKind.i64 b] 235)).heap.size = W.heap.size + 1 := Array.size_push _
  obtain ⟨W2, hW2⟩ : ∃ W2, W2 = ((W.alloc (Obj.cells #[Value.int IntKind.i64 a, Value.int IntKind.i64 b] 235)).alloc (Obj.cells #[Value.int IntKind.i64 c, Value.int IntKind.i64 d] 235)).drew := ⟨_, rfl⟩
  have c0 : W2.cell? ⟨W.heap.size, 0, none⟩ = some (.int .i64 a) := by rw [hW2]; exact (al_old (by rw [hs1]; omega)).trans al_new
  have c1 : W2.cell? ⟨W.heap.size, 1, none⟩ = some (.int .i64 b) := by rw [hW2]; exact (al_old (by rw [hs1]; omega)).trans al_new
  have d0 : W2.cell? ⟨W.heap.size + 1, 0, none⟩ = some (.int .i64 c) := by rw [hW2, ← hs1]; exact al_new
  have d1 : W2.cell? ⟨W.heap.size + 1, 1, none⟩ = some (.int .i64 d) := by rw [hW2, ← hs1]; exact al_new
  rw [← hW2]
  repeat still_step
  still_call (cmpS3_world _ _ _)
  repeat still_step
  still_call (cmpS3_world _ _ _)
  refine wpStill_nil ?_
  have hs2 : W2.heap.size = W.heap.size + 1 + 1 := by rw [hW2]; exact (Array.size_push _).trans (congrArg (· + 1) hs1)
  have hnew : ∀ (cs : Array Value) (t : TypeId) (fr : Nat × Nat) (i : Nat), (W2.alloc (.cells cs t fr)).cell? ⟨W.heap.size + 1 + 1, i, none⟩ = cs[i]? := fun cs t fr i => by rw [← hs2]; exact al_new
  rw [hW2] at hnew
  go_wp2_with (go_at_call 208; refine (or_world _ _ _ _ ((hnew _ _ _ 0).trans rfl) ((hnew _ _ _ 1).trans rfl)).mono ?_; rintro e w' ⟨rfl, rfl⟩)
  go_ret
  refine ⟨rfl, 1, #[Obj.cells #[Value.int IntKind.i64 a, Value.int IntKind.i64 b] 235, Obj.cells #[Value.int IntKind.i64 c, Value.int IntKind.i64 d] 235, Obj.cells #[Value.int IntKind.i64 (cmpS3 a c), Value.int IntKind.i64 (cmpS3 d b)] 3], ?_⟩
  have e : ∀ (h : Array Obj) (x y z : Obj), ((h.push x).push y).push z = h ++ #[x, y, z] := fun h x y z => by apply Array.ext'; simp
  show ({ W with heap := ((W.heap.push _).push _).push _, drawn := W.drawn + 1 } : World) = { W with heap := W.heap ++ _, drawn := W.drawn + 1 }
  rw [e]
end Go.Proofs.YtjmdeplmenbmmaaGreatDoor
