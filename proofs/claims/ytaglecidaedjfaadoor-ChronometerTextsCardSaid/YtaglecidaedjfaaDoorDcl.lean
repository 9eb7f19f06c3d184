/- The reference's Decimal of chapter 11; numbers in decimal over the whole range. -/
import Derived.Test.YtaglecidaedjfaaDoorDec
import Derived.Test.YtaglecidaedjfaaDoorLib2
import Derived.Test.YtaglecidaedjfaaDoorTys
import Derived.Laws.Runes
set_option linter.unusedVariables false
set_option maxHeartbeats 4000000
namespace Go.Proofs.YtaglecidaedjfaaDoor
open Go.RowKit

theorem y_runeStr {P : Program} {n : Nat} {L : FL} {w0 : World} {H : List Hl} {d : Option Tmp} {ty : TypeId} {pos : String} {af : Array Edge} {g : Option (Nat × Bool)} {x : Operand} {t t' : TypeId} {k : IntKind} {m : Int} {c : UInt8} (hx : evO L x = some (.int k m)) (hs : (P.underlying t).isSome = true) (hd : P.underlying t' = some .string) (hm : 0 ≤ m ∧ m < 128) (hc : UInt8.ofNat m.toNat = c) : V P n L w0 H ⟨d, .convert t t' x, ty, pos, af, g⟩ (strV [c]) := by
  subst hc
  unfold V
  intro a w ha hw
  have e : Utf8.encode m = ⟨#[UInt8.ofNat m.toNat]⟩ := by
    have hv : Utf8.valid m = true := by simp [Utf8.valid]; omega
    unfold Utf8.encode
    simp only [hv, if_true]
    rw [if_pos (by omega)]
  simp only [execOp, ha.eval hx]
  simp [run_convert_int_string w t t' k m hs hd, e]
theorem itoa_pos {n : Nat} (h : 10 ≤ n) : Lib.itoa (n : Int) = Lib.itoa ((n / 10 : Nat) : Int) ++ [dgt (n % 10)] := by rw [itoa_of_nat, itoa_of_nat, deci_ge h]
theorem itoa_neg {n : Nat} (h : 10 ≤ n) : Lib.itoa (-(n : Int)) = Lib.itoa (-((n / 10 : Nat) : Int)) ++ [dgt (n % 10)] := by rw [itoa_of_neg (by omega), itoa_of_neg (by omega), deci_ge h]; rfl
theorem dec_p0 {n : Nat} (h : n < 10) : Cont Tryd.prog 60 [.int .i64 (n : Int)] (strV (Lib.itoa n)) := fun w => by
  have e : Lib.itoa (n : Int) = [dgt n] := by rw [itoa_of_nat, deci_lt h]
  have hb : UInt8.ofNat (48 + (n : Int) % 10).toNat = dgt n := by unfold dgt; congr 1 <;> omega
  rw [e]
  refine enter0 Tryd.func60 rfl rfl rfl ?_
  repeat' (first
    | (show YK _ _ _ _ _ ⟨_, .convert _ 21 _, _, _, _, _⟩ _; refine YK.ofV (y_conv (by kernel_rfl) (by kernel_rfl) (by rfl) (IntWalk.i32_in _ (by omega))) ?_)
    | (show YK _ _ _ _ _ ⟨_, .convert 21 9 _, _, _, _, _⟩ _; refine YK.ofV (y_runeStr (by rfl) (by kernel_rfl) (by kernel_rfl) (by omega) hb) ?_)
    | (refine nxV ?_)
    | (show RS _ _ _ _ _ _ _ _; first | (refine nxRS ?_) | (refine nxRS1 fun _ => ?_))
    | (show RM _ _ _ _ _ _ _ _ _ _; first | (refine nxRM ?_) | (refine nxRM1 fun _ => ?_))
    | (refine nxG ?_)
    | (refine nxVS ?_)
    | (refine nxGS ?_)
    | (refine nxX ?_)
    | (refine G.condN rfl (fun hc => ?_) (fun hc => ?_) <;> (try first | exact False.elim hc | (exfalso; omega))))
  exact X.ret (vs := [_]) rfl ⟨rfl, rfl⟩ rfl (fun w hw => ⟨rfl, hw.ext⟩)
theorem dec_p1 {n : Nat} (h : 10 ≤ n ∧ n ≤ 9223372036854775807) (q1 : Cont Tryd.prog 60 [.int .i64 ((n : Int) / 10)] (strV (Lib.itoa ((n / 10 : Nat) : Int)))) : Cont Tryd.prog 60 [.int .i64 (n : Int)] (strV (Lib.itoa n)) := fun w => by
  have hb : UInt8.ofNat (48 + (n : Int) % 10).toNat = dgt (n % 10) := by unfold dgt; congr 1 <;> omega
  have hl := itoa_len (n := ((n / 10 : Nat) : Int)) (by omega)
  rw [itoa_pos h.1]
  generalize Lib.itoa ((n / 10 : Nat) : Int) = z at q1 hl
  refine enter0 Tryd.func60 rfl rfl rfl ?_
  repeat' (first
    | (show YK _ _ _ _ _ ⟨_, .convert _ 21 _, _, _, _, _⟩ _; refine YK.ofV (y_conv (by kernel_rfl) (by kernel_rfl) (by rfl) (IntWalk.i32_in _ (by omega))) ?_)
    | (show YK _ _ _ _ _ ⟨_, .convert 21 9 _, _, _, _, _⟩ _; refine YK.ofV (y_runeStr (by rfl) (by kernel_rfl) (by kernel_rfl) (by omega) hb) ?_)
    | (show YK _ _ _ _ _ _ _; first | refine YK.mk (y_callA (q1) ⟨rfl, rfl⟩) ?_)
    | (show YK _ _ _ _ _ _ _; refine YK.ofV vAuto ?_)
    | (show VK _ _ _ _ _ _ _; refine VK.mk vAuto ?_)
    | (show RS _ _ _ _ _ _ _ _; first | (refine nxRS ?_) | (refine nxRS1 fun _ => ?_))
    | (show RM _ _ _ _ _ _ _ _ _ _; first | (refine nxRM ?_) | (refine nxRM1 fun _ => ?_))
    | (show YG _ _ _ _ _ _ _ _; refine YG.mk (fun hb => by (try (have hc := And.left hb; have hb := And.right hb; rw [hc])); (try rw [hb]); first | exact (y_callA (q1) ⟨rfl, rfl⟩) | exact V.y vAuto) ?_)
    | (show VG _ _ _ _ _ _ _ _; refine VG.mk (fun hb => by (try (have hc := And.left hb; have hb := And.right hb; rw [hc])); (try rw [hb]); exact vAuto) ?_)
    | (refine nxVS ?_)
    | (refine nxGS ?_)
    | (refine nxX ?_)
    | (refine G.condN rfl (fun hc => ?_) (fun hc => ?_) <;> (try first | exact False.elim hc | (exfalso; omega))))
  exact X.ret (vs := [_]) rfl ⟨rfl, rfl⟩ rfl (fun w hw => ⟨rfl, hw.ext⟩)
theorem dec_n0 {n : Nat} (h : 0 < n ∧ n < 10) : Cont Tryd.prog 60 [.int .i64 (-(n : Int))] (strV (Lib.itoa (-(n : Int)))) := fun w => by
  have e : Lib.itoa (-(n : Int)) = [45, dgt n] := by rw [itoa_of_neg h.1, deci_lt h.2]
  have hb : UInt8.ofNat (48 - -(n : Int)).toNat = dgt n := by unfold dgt; congr 1 <;> omega
  rw [e]
  refine enter0 Tryd.func60 rfl rfl rfl ?_
  repeat' (first
    | (show YK _ _ _ _ _ ⟨_, .convert _ 21 _, _, _, _, _⟩ _; refine YK.ofV (y_conv (by kernel_rfl) (by kernel_rfl) (by rfl) (IntWalk.i32_in _ (by omega))) ?_)
    | (show YK _ _ _ _ _ ⟨_, .convert 21 9 _, _, _, _, _⟩ _; refine YK.ofV (y_runeStr (by rfl) (by kernel_rfl) (by kernel_rfl) (by omega) hb) ?_)
    | (refine nxV ?_)
    | (show RS _ _ _ _ _ _ _ _; first | (refine nxRS ?_) | (refine nxRS1 fun _ => ?_))
    | (show RM _ _ _ _ _ _ _ _ _ _; first | (refine nxRM ?_) | (refine nxRM1 fun _ => ?_))
    | (refine nxG ?_)
    | (refine nxVS ?_)
    | (refine nxGS ?_)
    | (refine nxX ?_)
    | (refine G.condN rfl (fun hc => ?_) (fun hc => ?_) <;> (try first | exact False.elim hc | (exfalso; omega))))
  exact X.ret (vs := [_]) rfl ⟨rfl, rfl⟩ rfl (fun w hw => ⟨rfl, hw.ext⟩)
theorem dec_n1 {n : Nat} {m q r : Int} (hm : m = -(n : Int)) (h : 10 ≤ n ∧ n ≤ 9223372036854775808) (hq : m.tdiv 10 = q) (hr : m.tmod 10 = r) (hr2 : r = -((n % 10 : Nat) : Int)) (q1 : Cont Tryd.prog 60 [.int .i64 (IntKind.i64.wrap (m.tdiv 10))] (strV (Lib.itoa (-((n / 10 : Nat) : Int))))) : Cont Tryd.prog 60 [.int .i64 m] (strV (Lib.itoa m)) := fun w => by
  have hb : UInt8.ofNat (48 - m.tmod 10).toNat = dgt (n % 10) := by rw [hr]; unfold dgt; congr 1 <;> omega
  have hb1 : 0 ≤ 48 - m.tmod 10 ∧ 48 - m.tmod 10 < 128 := by omega
  have hl := itoa_len (n := (-((n / 10 : Nat) : Int))) (by omega)
  rw [hm, itoa_neg h.1, ← hm]
  generalize Lib.itoa (-((n / 10 : Nat) : Int)) = z at q1 hl
  refine enter0 Tryd.func60 rfl rfl rfl ?_
  repeat' (first
    | (show YK _ _ _ _ _ ⟨_, .convert _ 21 _, _, _, _, _⟩ _; refine YK.ofV (y_conv (by kernel_rfl) (by kernel_rfl) (by rfl) (IntWalk.i32_in _ (by omega))) ?_)
    | (show YK _ _ _ _ _ ⟨_, .convert 21 9 _, _, _, _, _⟩ _; refine YK.ofV (y_runeStr (by rfl) (by kernel_rfl) (by kernel_rfl) (by omega) hb) ?_)
    | (show YK _ _ _ _ _ _ _; first | refine YK.mk (y_callA (q1) ⟨rfl, rfl⟩) ?_)
    | (show YK _ _ _ _ _ _ _; refine YK.ofV vAuto ?_)
    | (show VK _ _ _ _ _ _ _; refine VK.mk vAuto ?_)
    | (show RS _ _ _ _ _ _ _ _; first | (refine nxRS ?_) | (refine nxRS1 fun _ => ?_))
    | (show RM _ _ _ _ _ _ _ _ _ _; first | (refine nxRM ?_) | (refine nxRM1 fun _ => ?_))
    | (show YG _ _ _ _ _ _ _ _; refine YG.mk (fun hb => by (try (have hc := And.left hb; have hb := And.right hb; rw [hc])); (try rw [hb]); first | exact (y_callA (q1) ⟨rfl, rfl⟩) | exact V.y vAuto) ?_)
    | (show VG _ _ _ _ _ _ _ _; refine VG.mk (fun hb => by (try (have hc := And.left hb; have hb := And.right hb; rw [hc])); (try rw [hb]); exact vAuto) ?_)
    | (refine nxVS ?_)
    | (refine nxGS ?_)
    | (refine nxX ?_)
    | (refine G.condN rfl (fun hc => ?_) (fun hc => ?_) <;> (try first | exact False.elim hc | (exfalso; omega))))
  exact X.ret (vs := [_]) rfl ⟨rfl, rfl⟩ rfl (fun w hw => ⟨rfl, hw.ext⟩)

theorem decimal_k : ∀ (k : Nat) (n : Nat), n ≤ k → n ≤ 9223372036854775808 → (n ≤ 9223372036854775807 → Cont Tryd.prog 60 [.int .i64 (n : Int)] (strV (Lib.itoa n))) ∧ Cont Tryd.prog 60 [.int .i64 (-(n : Int))] (strV (Lib.itoa (-(n : Int))))
  | 0, n, h, hb => by
    obtain rfl : n = 0 := by omega
    exact ⟨fun _ => dec_p0 (n := 0) (by omega), dec_p0 (n := 0) (by omega)⟩
  | k + 1, n, h, hb => by
    by_cases h1 : n < 10
    · refine ⟨fun _ => dec_p0 h1, ?_⟩
      by_cases h0 : n = 0
      · subst h0; exact dec_p0 (n := 0) (by omega)
      · exact dec_n0 ⟨by omega, h1⟩
    · obtain ⟨i1, i2⟩ := decimal_k k (n / 10) (by omega) (by omega)
      refine ⟨fun hp => dec_p1 ⟨by omega, hp⟩ ?_, ?_⟩
      · rw [show (n : Int) / 10 = ((n / 10 : Nat) : Int) by omega]; exact i1 (by omega)
      · have e1 : (-(n : Int)).tdiv 10 = -((n / 10 : Nat) : Int) := by
          rw [Int.neg_tdiv, Int.tdiv_eq_ediv_of_nonneg (by omega)]; omega
        have e2 : (-(n : Int)).tmod 10 = -((n % 10 : Nat) : Int) := by
          rw [Int.neg_tmod, Int.tmod_eq_emod_of_nonneg (by omega)]; omega
        refine dec_n1 rfl ⟨by omega, hb⟩ e1 e2 rfl ?_
        rw [e1, IntWalk.i64_in _ (by omega)]
        exact i2
abbrev I64 (n : Int) : Prop := -9223372036854775808 ≤ n ∧ n ≤ 9223372036854775807
theorem decimal_c {n : Int} (h : I64 n) : Cont Tryd.prog 60 [.int .i64 n] (strV (Lib.itoa n)) := by
  have h1 := decimal_k n.natAbs n.natAbs (Nat.le_refl _) (by omega)
  rcases Int.lt_or_le n 0 with h0 | h0
  · have e : n = -(n.natAbs : Int) := by omega
    rw [e]; exact h1.2
  · have e : n = (n.natAbs : Int) := by omega
    rw [e]; exact h1.1 (by omega)
/-! ### Numbers read back over the whole range -/
theorem parse_dgt2 {acc x : Nat} (h : x < 10) (ha : acc * 10 + x ≤ 18446744073709551615) (r : List UInt8) : Lib.parseUint10 acc (dgt x :: r) = Lib.parseUint10 (acc * 10 + x) r := by
  have e := dgt_nat h
  conv => lhs; unfold Lib.parseUint10
  rw [e, if_pos (by omega), if_neg (by omega), if_neg (by omega), show 48 + x - 48 = x by omega]
theorem parse_deci2 : ∀ (k u : Nat), u ≤ k → u ≤ 18446744073709551615 → ∀ r, Lib.parseUint10 0 (Lib.decDigits u ++ r) = Lib.parseUint10 u r
  | 0, u, h, hb, r => by
    rw [deci_lt (by omega), List.singleton_append, parse_dgt2 (by omega) (by omega)]
    rw [show 0 * 10 + u = u by omega]
  | k + 1, u, h, hb, r => by
    by_cases h1 : u < 10
    · rw [deci_lt h1, List.singleton_append, parse_dgt2 h1 (by omega), show 0 * 10 + u = u by omega]
    · rw [deci_ge (by omega), List.append_assoc, parse_deci2 k (u / 10) (by omega) (by omega), List.singleton_append, parse_dgt2 (by omega) (by omega), show u / 10 * 10 + u % 10 = u by omega]
theorem mag_deci2 {u : Nat} (h : u ≤ 18446744073709551615) : Lib.parseMag (Lib.decDigits u) = .ok u := by
  unfold Lib.parseMag
  rw [if_neg (deci_ne u)]
  have := parse_deci2 u u (Nat.le_refl _) h []
  rw [List.append_nil] at this
  rw [this]; rfl
theorem atoi_itoa2 {n : Int} (h : I64 n) : Lib.atoiAll (Lib.itoa n) = .ok n := by
  rcases Int.lt_or_le n 0 with h0 | h0
  · obtain ⟨u, rfl, hu⟩ : ∃ u : Nat, n = -(u : Int) ∧ 0 < u := ⟨n.natAbs, by omega, by omega⟩
    rw [itoa_of_neg hu]
    unfold Lib.atoiAll
    dsimp only
    rw [if_pos (.inr rfl), mag_deci2 (by omega)]
    dsimp only
    rw [if_neg (by simp), if_neg (by omega)]
    rfl
  · obtain ⟨u, rfl⟩ := Int.eq_ofNat_of_zero_le h0
    rw [itoa_of_nat]
    have hm := mag_deci2 (u := u) (by omega)
    obtain ⟨x, r, hx, e⟩ := deci_head u
    rw [e] at hm ⊢
    have hd := dgt_nat hx
    unfold Lib.atoiAll
    dsimp only
    rw [if_neg (by omega), hm]
    dsimp only
    rw [if_neg (by omega), if_neg (by omega), if_neg (by omega)]
end Go.Proofs.YtaglecidaedjfaaDoor
