/- The reference of chapter 11: Int, words, line. -/
import Derived.Test.YtaglecidaedjfaaDoorDcl
import Derived.Test.YtaglecidaedjfaaDoorLine
import Derived.Test.YtaglecidaedjfaaDoorConv
import Derived.Test.YtaglecidaedjfaaDoorChron
import Derived.Laws.BitsLemmas
set_option linter.unusedVariables false
set_option maxHeartbeats 4000000
namespace Go.Proofs.YtaglecidaedjfaaDoor
open Go.RowKit

theorem wrap_rng (n : Int) : I64 (IntKind.i64.wrap n) := by
  rw [IntKind.wrap_i64]; unfold I64; omega
def rstep (n : Int) (b : UInt8) : Int := IntKind.i64.wrap (IntKind.i64.wrap (10 * n) - ((b.toNat : Int) - 48))
def bodyI : List UInt8 → List UInt8 × Bool
  | [] => ([], false)
  | b :: r => if b = 45 then (r, true) else (b :: r, false)
def numI (s : List UInt8) : Int := if (bodyI s).2 = true then (bodyI s).1.foldl rstep 0 else IntKind.i64.wrap (0 - (bodyI s).1.foldl rstep 0)
def rInt (s : List UInt8) : Int × Bool :=
  if s.length = 0 ∨ 20 < s.length then (0, false)
  else if (bodyI s).1.all isDg = true then (numI s, decide (Lib.itoa (numI s) = s))
  else (0, false)
theorem fold_rng : ∀ (l : List UInt8) (n : Int), I64 n → I64 (l.foldl rstep n)
  | [], n, h => h
  | b :: r, n, h => fold_rng r _ (wrap_rng _)
theorem numI_rng (s : List UInt8) : I64 (numI s) := by
  unfold numI
  split
  · exact fold_rng _ 0 (by unfold I64; omega)
  · exact wrap_rng _
/-! ### Both read the same numbers -/
theorem intW_iff {s : List UInt8} {v : Int} : intW s = some v ↔ I64 v ∧ Lib.itoa v = s := by
  constructor
  · intro h
    unfold intW at h
    split at h
    · rename_i u hu
      split at h
      · rename_i g
        obtain rfl := Option.some.inj h
        exact ⟨atoi_bd hu, g⟩
      · cases h
    · cases h
  · rintro ⟨h1, rfl⟩
    unfold intW
    rw [atoi_itoa2 h1]
    dsimp only
    rw [if_pos rfl]
theorem fold_deci : ∀ (k u : Nat), u ≤ k → u ≤ 9223372036854775808 → (Lib.decDigits u).foldl rstep 0 = -(u : Int)
  | 0, u, h, hb => by
    obtain rfl : u = 0 := by omega
    decide +kernel
  | k + 1, u, h, hb => by
    by_cases h1 : u < 10
    · rw [deci_lt h1]
      have hd := dgt_nat h1
      show rstep 0 (dgt u) = _
      unfold rstep
      rw [hd, IntWalk.i64_in (10 * 0) (by omega), IntWalk.i64_in _ (by omega)]
      omega
    · rw [deci_ge (by omega), List.foldl_append, fold_deci k (u / 10) (by omega) (by omega)]
      have hd := dgt_nat (x := u % 10) (by omega)
      show rstep _ (dgt (u % 10)) = _
      unfold rstep
      rw [hd, IntWalk.i64_in (10 * -((u / 10 : Nat) : Int)) (by omega), IntWalk.i64_in _ (by omega)]
      omega
theorem deci_alldg (u : Nat) : (Lib.decDigits u).all isDg = true := by
  rw [List.all_eq_true]
  exact fun b hb => deci_dg hb
theorem rInt_itoa {v : Int} (h : I64 v) : rInt (Lib.itoa v) = (v, true) := by
  have hl := itoa_len h
  have key : bodyI (Lib.itoa v) = (Lib.decDigits v.natAbs, decide (v < 0)) ∧ (Lib.itoa v).length ≠ 0 := by
    rcases Int.lt_or_le v 0 with h0 | h0
    · obtain ⟨u, rfl, hu⟩ : ∃ u : Nat, v = -(u : Int) ∧ 0 < u := ⟨v.natAbs, by omega, by omega⟩
      rw [itoa_of_neg hu, decide_eq_true h0, show (-(u : Int)).natAbs = u by omega]
      exact ⟨rfl, by simp⟩
    · obtain ⟨u, rfl⟩ := Int.eq_ofNat_of_zero_le h0
      rw [itoa_of_nat, decide_eq_false (by omega), show ((u : Int)).natAbs = u by omega]
      obtain ⟨x, r, hx, e⟩ := deci_head u
      rw [e]
      refine ⟨?_, by simp⟩
      show (if dgt x = 45 then _ else _) = _
      rw [if_neg]
      intro g
      have := isDg_dgt hx
      rw [g] at this; cases this
  have hn : numI (Lib.itoa v) = v := by
    unfold numI
    rw [key.1]
    dsimp only
    rw [fold_deci v.natAbs v.natAbs (Nat.le_refl _) (by unfold I64 at h; omega)]
    by_cases h0 : v < 0
    · rw [if_pos (decide_eq_true h0)]; omega
    · rw [if_neg (by simpa using h0), IntWalk.i64_in _ (by unfold I64 at h; omega)]; omega
  unfold rInt
  rw [if_neg (by have := key.2; omega), hn, key.1]
  dsimp only
  rw [if_pos (deci_alldg _), decide_eq_true rfl]
theorem rInt_some {s : List UInt8} {v : Int} (h : intW s = some v) : rInt s = (v, true) := by
  obtain ⟨h1, rfl⟩ := intW_iff.1 h
  exact rInt_itoa h1
theorem rInt_none {s : List UInt8} (h : intW s = none) : (rInt s).2 = false := by
  cases hb : (rInt s).2 with
  | false => rfl
  | true =>
    unfold rInt at hb
    split at hb
    · cases hb
    · split at hb
      · have := intW_iff.2 ⟨numI_rng s, of_decide_eq_true hb⟩
        rw [h] at this; cases this
      · cases hb
/-! ### The walks -/
theorem drop_consR {l : List UInt8} {i : Nat} (h : i < l.length) : l.drop i = nth l (i : Int) :: l.drop (i + 1) := by
  have e := nth_some (l := l) (m := (i : Int)) (by omega) (by omega)
  rw [Int.toNat_natCast, List.getElem?_eq_getElem h] at e
  rw [List.drop_eq_getElem_cons h, Option.some.inj e]
theorem isDg_int (b : UInt8) : isDg b = (decide ((48 : Int) ≤ b.toNat) && decide ((b.toNat : Int) ≤ 57)) := by
  unfold isDg
  congr 1 <;> exact decide_eq_decide.2 (by omega)
theorem rInt_short {s : List UInt8} (h : s.length = 0 ∨ 20 < s.length) : Cont Tryd.prog 93 [strV s] (.tuple [.int .i64 0, .bool false].toArray) := fun w => by
  refine enter0 Tryd.func93 rfl rfl rfl ?_
  repeat' (first
    | (refine nxV ?_)
    | (show RS _ _ _ _ _ _ _ _; first | (refine nxRS ?_) | (refine nxRS1 fun _ => ?_))
    | (show RM _ _ _ _ _ _ _ _ _ _; first | (refine nxRM ?_) | (refine nxRM1 fun _ => ?_))
    | (refine nxG ?_)
    | (refine nxVS ?_)
    | (refine nxGS ?_)
    | (refine nxX ?_)
    | (refine G.condN rfl (fun hc => ?_) (fun hc => ?_) <;> (try first | exact False.elim hc | (exfalso; omega))))
  all_goals first
    | exact X.ret (vs := [_, _]) rfl ⟨rfl, rfl, rfl⟩ rfl (fun w hw => ⟨rfl, hw.ext⟩)
    | (exfalso; omega)
theorem dall_f {s : List UInt8} {i k : Nat} (hk : i ≤ k ∧ k < s.length) (h : isDg (nth s (k : Int)) = false) : (s.drop i).all isDg = false := by
  rw [List.all_eq_false]
  refine ⟨nth s (k : Int), ?_, by simp [h]⟩
  rw [List.mem_iff_getElem?]
  exact ⟨k - i, by rw [List.getElem?_drop, show i + (k - i) = k by omega]; have e := nth_some (l := s) (m := (k : Int)) (by omega) (by omega); rwa [Int.toNat_natCast] at e⟩
theorem dall_t {s : List UInt8} {i : Nat} (h : ∀ k : Nat, i ≤ k → k < s.length → isDg (nth s (k : Int)) = true) : (s.drop i).all isDg = true := by
  rw [List.all_eq_true]
  intro b hb
  obtain ⟨k, hk, rfl⟩ := List.getElem_of_mem hb
  rw [List.length_drop] at hk
  rw [List.getElem_drop]
  have e := nth_some (l := s) (m := ((i + k : Nat) : Int)) (by omega) (by omega)
  rw [Int.toNat_natCast, List.getElem?_eq_getElem (by omega)] at e
  rw [Option.some.inj e]
  exact h (i + k) (by omega) (by omega)
theorem rInt_w0 {s : List UInt8} {r : Int × Bool} (h : s.length ≠ 0 ∧ s.length ≤ 20) (h45 : ¬ ((nth s 0).toNat : Int) = 45)
    (h1 : (s.drop 0).all isDg = false → r = (0, false)) (h2 : (s.drop 0).all isDg = true → r = (IntKind.i64.wrap (0 - (s.drop 0).foldl rstep 0), decide (Lib.itoa (IntKind.i64.wrap (0 - (s.drop 0).foldl rstep 0)) = s))) :
    Cont Tryd.prog 93 [strV s] (.tuple [.int .i64 r.1, .bool r.2].toArray) := fun w => by
  refine enter0 Tryd.func93 rfl rfl rfl ?_
  repeat' (first
    | (refine nxV ?_)
    | (show RS _ _ _ _ _ _ _ _; first | (refine nxRS ?_) | (refine nxRS1 fun _ => ?_))
    | (show RM _ _ _ _ _ _ _ _ _ _; first | (refine nxRM ?_) | (refine nxRM1 fun _ => ?_))
    | (refine nxG ?_)
    | (refine nxVS ?_)
    | (refine nxGS ?_)
    | (refine nxX ?_)
    | (refine G.condN rfl (fun hc => ?_) (fun hc => ?_) <;> (try first | exact False.elim hc | (exfalso; omega))))
  have hF := fold_rng (s.drop 0) 0 (by unfold I64; omega)
  obtain ⟨F, hFe⟩ : ∃ F, (s.drop 0).foldl rstep 0 = F := ⟨_, rfl⟩
  rw [hFe] at h2 hF
  refine G.loop (ι := Nat × Int) (fun x => [(0, strV s), (4, .int .i64 0), (5, .int .i64 x.2), (6, .int .i64 (x.1 : Int))]) (fun _ => []) (fun x => (0 ≤ x.1 ∧ x.1 ≤ s.length) ∧ (∀ k : Nat, 0 ≤ k → k < x.1 → isDg (nth s (k : Int)) = true) ∧ (s.drop x.1).foldl rstep x.2 = F) (fun x => s.length - x.1) (0, 0) ⟨⟨Nat.le_refl _, by dsimp only; omega⟩, fun k hk hk2 => by dsimp only at hk2; omega, hFe⟩ ⟨rfl, rfl, rfl, rfl, trivial⟩ (fun w h => h) ?_
  rintro ⟨k, n⟩ mx ⟨g1, g2, g3⟩ hmx
  dsimp only at g1 g2 g3 hmx ⊢
  rcases Nat.lt_or_ge k s.length with hi | hi
  · have hb0 : (nth s (k : Int)).toNat < 256 := UInt8.toNat_lt _
    have hdg := isDg_int (nth s (k : Int))
    clear h2
    rw [drop_consR hi, List.foldl_cons] at g3
    repeat' (first
    | (show YK _ _ _ _ _ ⟨_, .binOp .sub 5 _ _ _, _, _, _, _⟩ _; refine YK.ofV (V.int_ (y_sub (by rfl) (by rfl)) (IntWalk.u8_in _ (by omega))) ?_)
    | (refine nxV ?_)
    | (show RS _ _ _ _ _ _ _ _; first | (refine nxRS ?_) | (refine nxRS1 fun _ => ?_))
    | (show RM _ _ _ _ _ _ _ _ _ _; first | (refine nxRM ?_) | (refine nxRM1 fun _ => ?_))
    | (refine nxG ?_)
    | (refine nxVS ?_)
    | (refine nxGS ?_)
    | (refine nxX ?_)
    | (refine G.condN rfl (fun hc => ?_) (fun hc => ?_) <;> (try first | exact False.elim hc | (exfalso; omega))))
    · have h3 := h1 (dall_f ⟨g1.1, hi⟩ (by rw [hdg]; rcases hc with h | h; rw [decide_eq_false (by omega)]; rfl; rw [decide_eq_false (show ¬ ((nth s (k : Int)).toNat : Int) ≤ 57 by omega), Bool.and_false]))
      exact X.ret (vs := [_, _]) rfl ⟨rfl, rfl, rfl⟩ rfl (fun w hw => ⟨by rw [h3], hw.ext⟩)
    · refine X.again (k + 1, rstep n (nth s (k : Int))) ⟨⟨by dsimp only; omega, by dsimp only; omega⟩, fun j hj hj2 => ?_, g3⟩ (by dsimp only; omega) ⟨rfl, rfl, rfl, rfl, trivial⟩ (fun w h => h)
      dsimp only at hj2
      rcases Nat.lt_or_ge j k with h | h
      · exact g2 j hj h
      · rw [show j = k by omega, hdg, decide_eq_true (by omega), decide_eq_true (by omega)]; rfl
  · obtain rfl : k = s.length := by omega
    rw [List.drop_length] at g3
    obtain rfl : n = F := g3
    have h3 := h2 (dall_t (fun k hk hk2 => g2 k hk hk2))
    clear h2 h1
    have q1 := decimal_c hF
    have q2 := decimal_c (wrap_rng (0 - n))
    have l1 := itoa_len hF
    have l2 := itoa_len (wrap_rng (0 - n))
    repeat' (first
    | (show YK _ _ _ _ _ _ _; first | refine YK.mk (y_callA (q2) ⟨rfl, rfl⟩) ?_)
    | (show YK _ _ _ _ _ _ _; refine YK.ofV vAuto ?_)
    | (show VK _ _ _ _ _ _ _; refine VK.mk vAuto ?_)
    | (show RS _ _ _ _ _ _ _ _; first | (refine nxRS ?_) | (refine nxRS1 fun _ => ?_))
    | (show RM _ _ _ _ _ _ _ _ _ _; first | (refine nxRM ?_) | (refine nxRM1 fun _ => ?_))
    | (show YG _ _ _ _ _ _ _ _; refine YG.mk (fun hb => by (try (have hc := And.left hb; have hb := And.right hb; rw [hc])); (try rw [hb]); first | exact (y_callA (q2) ⟨rfl, rfl⟩) | exact V.y vAuto) ?_)
    | (show VG _ _ _ _ _ _ _ _; refine VG.mk (fun hb => by (try (have hc := And.left hb; have hb := And.right hb; rw [hc])); (try rw [hb]); exact vAuto) ?_)
    | (refine nxVS ?_)
    | (refine nxGS ?_)
    | (refine nxX ?_)
    | (refine G.condN rfl (fun hc => ?_) (fun hc => ?_) <;> (try first | exact False.elim hc | (exfalso; omega))))
    exact X.ret (vs := [_, _]) rfl ⟨rfl, rfl, rfl⟩ rfl (fun w hw => ⟨by rw [h3], hw.ext⟩)
theorem rInt_w1 {s : List UInt8} {r : Int × Bool} (h : s.length ≠ 0 ∧ s.length ≤ 20) (h45 : ((nth s 0).toNat : Int) = 45)
    (h1 : (s.drop 1).all isDg = false → r = (0, false)) (h2 : (s.drop 1).all isDg = true → r = ((s.drop 1).foldl rstep 0, decide (Lib.itoa ((s.drop 1).foldl rstep 0) = s))) :
    Cont Tryd.prog 93 [strV s] (.tuple [.int .i64 r.1, .bool r.2].toArray) := fun w => by
  refine enter0 Tryd.func93 rfl rfl rfl ?_
  repeat' (first
    | (refine nxV ?_)
    | (show RS _ _ _ _ _ _ _ _; first | (refine nxRS ?_) | (refine nxRS1 fun _ => ?_))
    | (show RM _ _ _ _ _ _ _ _ _ _; first | (refine nxRM ?_) | (refine nxRM1 fun _ => ?_))
    | (refine nxG ?_)
    | (refine nxVS ?_)
    | (refine nxGS ?_)
    | (refine nxX ?_)
    | (refine G.condN rfl (fun hc => ?_) (fun hc => ?_) <;> (try first | exact False.elim hc | (exfalso; omega))))
  have hF := fold_rng (s.drop 1) 0 (by unfold I64; omega)
  obtain ⟨F, hFe⟩ : ∃ F, (s.drop 1).foldl rstep 0 = F := ⟨_, rfl⟩
  rw [hFe] at h2 hF
  refine G.loop (ι := Nat × Int) (fun x => [(0, strV s), (4, .int .i64 1), (5, .int .i64 x.2), (6, .int .i64 (x.1 : Int))]) (fun _ => []) (fun x => (1 ≤ x.1 ∧ x.1 ≤ s.length) ∧ (∀ k : Nat, 1 ≤ k → k < x.1 → isDg (nth s (k : Int)) = true) ∧ (s.drop x.1).foldl rstep x.2 = F) (fun x => s.length - x.1) (1, 0) ⟨⟨Nat.le_refl _, by dsimp only; omega⟩, fun k hk hk2 => by dsimp only at hk2; omega, hFe⟩ ⟨rfl, rfl, rfl, rfl, trivial⟩ (fun w h => h) ?_
  rintro ⟨k, n⟩ mx ⟨g1, g2, g3⟩ hmx
  dsimp only at g1 g2 g3 hmx ⊢
  rcases Nat.lt_or_ge k s.length with hi | hi
  · have hb0 : (nth s (k : Int)).toNat < 256 := UInt8.toNat_lt _
    have hdg := isDg_int (nth s (k : Int))
    clear h2
    rw [drop_consR hi, List.foldl_cons] at g3
    repeat' (first
    | (show YK _ _ _ _ _ ⟨_, .binOp .sub 5 _ _ _, _, _, _, _⟩ _; refine YK.ofV (V.int_ (y_sub (by rfl) (by rfl)) (IntWalk.u8_in _ (by omega))) ?_)
    | (refine nxV ?_)
    | (show RS _ _ _ _ _ _ _ _; first | (refine nxRS ?_) | (refine nxRS1 fun _ => ?_))
    | (show RM _ _ _ _ _ _ _ _ _ _; first | (refine nxRM ?_) | (refine nxRM1 fun _ => ?_))
    | (refine nxG ?_)
    | (refine nxVS ?_)
    | (refine nxGS ?_)
    | (refine nxX ?_)
    | (refine G.condN rfl (fun hc => ?_) (fun hc => ?_) <;> (try first | exact False.elim hc | (exfalso; omega))))
    · have h3 := h1 (dall_f ⟨g1.1, hi⟩ (by rw [hdg]; rcases hc with h | h; rw [decide_eq_false (by omega)]; rfl; rw [decide_eq_false (show ¬ ((nth s (k : Int)).toNat : Int) ≤ 57 by omega), Bool.and_false]))
      exact X.ret (vs := [_, _]) rfl ⟨rfl, rfl, rfl⟩ rfl (fun w hw => ⟨by rw [h3], hw.ext⟩)
    · refine X.again (k + 1, rstep n (nth s (k : Int))) ⟨⟨by dsimp only; omega, by dsimp only; omega⟩, fun j hj hj2 => ?_, g3⟩ (by dsimp only; omega) ⟨rfl, rfl, rfl, rfl, trivial⟩ (fun w h => h)
      dsimp only at hj2
      rcases Nat.lt_or_ge j k with h | h
      · exact g2 j hj h
      · rw [show j = k by omega, hdg, decide_eq_true (by omega), decide_eq_true (by omega)]; rfl
  · obtain rfl : k = s.length := by omega
    rw [List.drop_length] at g3
    obtain rfl : n = F := g3
    have h3 := h2 (dall_t (fun k hk hk2 => g2 k hk hk2))
    clear h2 h1
    have q1 := decimal_c hF
    have q2 := decimal_c (wrap_rng (0 - n))
    have l1 := itoa_len hF
    have l2 := itoa_len (wrap_rng (0 - n))
    repeat' (first
    | (show YK _ _ _ _ _ _ _; first | refine YK.mk (y_callA (q1) ⟨rfl, rfl⟩) ?_)
    | (show YK _ _ _ _ _ _ _; refine YK.ofV vAuto ?_)
    | (show VK _ _ _ _ _ _ _; refine VK.mk vAuto ?_)
    | (show RS _ _ _ _ _ _ _ _; first | (refine nxRS ?_) | (refine nxRS1 fun _ => ?_))
    | (show RM _ _ _ _ _ _ _ _ _ _; first | (refine nxRM ?_) | (refine nxRM1 fun _ => ?_))
    | (show YG _ _ _ _ _ _ _ _; refine YG.mk (fun hb => by (try (have hc := And.left hb; have hb := And.right hb; rw [hc])); (try rw [hb]); first | exact (y_callA (q1) ⟨rfl, rfl⟩) | exact V.y vAuto) ?_)
    | (show VG _ _ _ _ _ _ _ _; refine VG.mk (fun hb => by (try (have hc := And.left hb; have hb := And.right hb; rw [hc])); (try rw [hb]); exact vAuto) ?_)
    | (refine nxVS ?_)
    | (refine nxGS ?_)
    | (refine nxX ?_)
    | (refine G.condN rfl (fun hc => ?_) (fun hc => ?_) <;> (try first | exact False.elim hc | (exfalso; omega))))
    exact X.ret (vs := [_, _]) rfl ⟨rfl, rfl, rfl⟩ rfl (fun w hw => ⟨by rw [h3], hw.ext⟩)
theorem rint_c (s : List UInt8) : Cont Tryd.prog 93 [strV s] (.tuple [.int .i64 (rInt s).1, .bool (rInt s).2].toArray) := by
  by_cases hs : s.length = 0 ∨ 20 < s.length
  · have e : rInt s = (0, false) := by unfold rInt; rw [if_pos hs]
    rw [e]; exact rInt_short hs
  · have e : rInt s = if (bodyI s).1.all isDg = true then (numI s, decide (Lib.itoa (numI s) = s)) else (0, false) := by unfold rInt; rw [if_neg hs]
    match s, hs, e with
    | [], hs, _ => exact absurd (.inl rfl) hs
    | b :: r, hs, e =>
      have hn : nth (b :: r) 0 = b := rfl
      by_cases h45 : b = 45
      · have eb : bodyI (b :: r) = (r, true) := by
          show (if b = 45 then (r, true) else (b :: r, false)) = _
          rw [if_pos h45]
        have en : numI (b :: r) = r.foldl rstep 0 := by unfold numI; rw [eb, if_pos rfl]
        rw [eb, en] at e
        refine rInt_w1 (by omega) (by rw [hn, h45]; rfl) (fun h => ?_) (fun h => ?_)
        · rw [e]; exact if_neg (show ¬ r.all isDg = true by rw [show r.all isDg = false from h]; decide)
        · rw [e]; exact (if_pos (show (r, true).1.all isDg = true from h)).trans rfl
      · have eb : bodyI (b :: r) = (b :: r, false) := by
          show (if b = 45 then (r, true) else (b :: r, false)) = _
          rw [if_neg h45]
        have en : numI (b :: r) = IntKind.i64.wrap (0 - (b :: r).foldl rstep 0) := by unfold numI; rw [eb, if_neg (by simp)]
        rw [eb, en] at e
        have hb : ¬ (b.toNat : Int) = 45 := fun g => h45 (UInt8.toNat_inj.1 (by rw [show b.toNat = 45 by omega]; rfl))
        refine rInt_w0 (by omega) (by rw [hn]; exact hb) (fun h => ?_) (fun h => ?_)
        · rw [e]; exact if_neg (show ¬ (b :: r).all isDg = true by rw [show (b :: r).all isDg = false from h]; decide)
        · rw [e]; exact (if_pos (show ((b :: r), false).1.all isDg = true from h)).trans rfl
theorem RS.lit1W {P : Program} {ops : Array Oper} {Q : Exit → Act → World → Prop} {n : Nat} {L : FL} {w0 : World} {H : List Hl} {dd : Tmp} {ty : TypeId} {pos : String} {af : Array Edge} {t e : TypeId} {bytes : Nat} {x : Operand} {a : List UInt8} {rest : List Oper} (h : ∀ v' : Sl, RS P ops Q n ((dd, v'.v) :: L) w0 (Hl.rw v'.v e cS 1 [a] :: H) rest) (hx : evO L x = some (strV a) := by rfl) [ht : RowTy P t e 1 bytes] (hd : Nat.blt dd n = true := by rfl) :
    RS P ops Q n L w0 H (⟨some dd, .buildSlice t 1 #[(0, x)], ty, pos, af, none⟩ :: rest) := RS.actX rfl (x_lit (parts := [(0, x)]) (vs := [strV a]) (f := cS) (l := [a]) ⟨hx, rfl⟩ rfl rfl rfl rfl rfl rfl (rowTy_B ht.is) hd) fun v' _ => h v'
theorem words_c (s : List UInt8) (hs : s.length ≤ 1000000) : ContX Tryd.prog [] 92 [strV s] (fun _ : Sl => True) (fun x => x.v) (fun x => [Hl.nw x.v cS 1 (Lib.split s [32])]) := fun w hw0 => by
  have hcn := split_cntB s [32]
  refine enter Tryd.func92 rfl rfl rfl hw0 ?_
  repeat' (first
    | (refine nxV ?_)
    | (show RS _ _ _ _ _ _ _ _; first | (refine nxRS ?_) | (refine nxRS1 fun _ => ?_))
    | (show RM _ _ _ _ _ _ _ _ _ _; first | (refine nxRM ?_) | (refine nxRM1 fun _ => ?_))
    | (refine nxG ?_)
    | (refine nxVS ?_)
    | (refine nxGS ?_)
    | (refine nxX ?_)
    | (refine G.condN rfl (fun hc => ?_) (fun hc => ?_) <;> (try first | exact False.elim hc | (exfalso; omega))))
  refine G.loop (ι := Nat × List (List UInt8) × List UInt8 × Sl) (fun x => [(0, strV s), (3, x.2.2.2.v), (4, strV x.2.2.1), (5, .int .i64 (x.1 : Int))]) (fun x => [Hl.rw x.2.2.2.v 9 cS 1 x.2.1]) (fun x => (x.1 ≤ s.length ∧ x.2.2.1.length ≤ x.1 ∧ x.2.1.length ≤ x.1) ∧ (32 : UInt8) ∉ x.2.2.1 ∧ x.2.1 ++ Lib.split (x.2.2.1 ++ s.drop x.1) [32] = Lib.split s [32]) (fun x => s.length - x.1) (0, [], [], ⟨none, 0, 0⟩) ⟨⟨Nat.zero_le _, Nat.le_refl _, Nat.le_refl _⟩, by simp, rfl⟩ ⟨rfl, rfl, rfl, rfl, trivial⟩ (fun w h => by have h2 := St.nilRow 9 cS 1 h; exact h2) ?_
  rintro ⟨i, o, c, x⟩ mx ⟨⟨g1, g2, g5⟩, g3, g4⟩ hmx
  dsimp only at g1 g2 g3 g4 g5 hmx ⊢
  rcases Nat.lt_or_ge i s.length with hi | hi
  · rw [drop_consR hi] at g4
    have hsl : (s.drop (i : Int).toNat).take (((i : Int) + 1).toNat - (i : Int).toNat) = [nth s (i : Int)] := by
      rw [Int.toNat_natCast, show ((i : Int) + 1).toNat - i = 1 by omega, drop_consR hi]; rfl
    repeat' (first
    | (show RS _ _ _ _ _ _ _ (⟨_, .buildSlice _ _ _, _, _, _, _⟩ :: _); refine RS.lit1W (a := c) ?_; intro z1)
    | (refine nxV ?_)
    | (show RS _ _ _ _ _ _ _ _; first | (refine nxRS ?_) | (refine nxRS1 fun _ => ?_))
    | (show RM _ _ _ _ _ _ _ _ _ _; first | (refine nxRM ?_) | (refine nxRM1 fun _ => ?_))
    | (refine nxG ?_)
    | (refine nxVS ?_)
    | (refine nxGS ?_)
    | (refine nxX ?_)
    | (refine G.condN rfl (fun hc => ?_) (fun hc => ?_) <;> (try first | exact False.elim hc | (exfalso; omega))))
    · have hb : nth s (i : Int) = 32 := UInt8.toNat_inj.1 (by rw [show (nth s (i : Int)).toNat = 32 by omega]; rfl)
      rw [hb, split_atB _ g3] at g4
      rename_i y
      refine X.again (i + 1, o ++ [c], [], y) ⟨⟨by dsimp only; omega, Nat.zero_le _, by dsimp only; rw [List.length_append, List.length_singleton]; omega⟩, by simp, by dsimp only; rw [List.append_assoc]; exact g4⟩ (by dsimp only; omega) ⟨rfl, rfl, rfl, rfl, trivial⟩ (fun w h => ?_)
      exact h.sub (by repeat (first | exact List.Sublist.refl _ | apply List.Sublist.cons_cons | apply List.Sublist.cons))
    · have hb : ¬ nth s (i : Int) = 32 := fun g => hc (by rw [g]; rfl)
      refine X.again (i + 1, o, c ++ (s.drop (i : Int).toNat).take (((i : Int) + 1).toNat - (i : Int).toNat), x) ⟨⟨by dsimp only; omega, by dsimp only; rw [hsl, List.length_append, List.length_singleton]; omega, by dsimp only; omega⟩, ?_, ?_⟩ (by dsimp only; omega) ⟨rfl, rfl, rfl, rfl, trivial⟩ (by exact fun w h => h.sub (by repeat (first | exact List.Sublist.refl _ | apply List.Sublist.cons_cons | apply List.Sublist.cons)))
      · dsimp only
        rw [hsl, List.mem_append, List.mem_singleton, not_or]
        exact ⟨g3, fun g => hb g.symm⟩
      · dsimp only
        rw [hsl, List.append_assoc]
        exact g4
  · obtain rfl : i = s.length := by omega
    rw [List.drop_length, List.append_nil, split_notB g3] at g4
    repeat' (first
    | (show RS _ _ _ _ _ _ _ (⟨_, .buildSlice _ _ _, _, _, _, _⟩ :: _); refine RS.lit1W (a := c) ?_; intro z1)
    | (refine nxV ?_)
    | (show RS _ _ _ _ _ _ _ _; first | (refine nxRS ?_) | (refine nxRS1 fun _ => ?_))
    | (show RM _ _ _ _ _ _ _ _ _ _; first | (refine nxRM ?_) | (refine nxRM1 fun _ => ?_))
    | (refine nxG ?_)
    | (refine nxVS ?_)
    | (refine nxGS ?_)
    | (refine nxX ?_)
    | (refine G.condN rfl (fun hc => ?_) (fun hc => ?_) <;> (try first | exact False.elim hc | (exfalso; omega))))
    rename_i y
    refine X.retN (vs := [_]) y rfl ⟨rfl, rfl⟩ rfl trivial rfl ?_
    rw [← g4]
    exact NewIn.rw (by exact memA) NewIn.nil
def lineC (s : List UInt8) : Chk := ⟨(lineP s).1.1, (lineP s).1.2.1, (lineP s).1.2.2⟩
def rlineP (s : List UInt8) : Chk × Bool := match Lib.split s [32] with
  | [x, y, z] => (⟨(rInt x).1, (rInt y).1, (rInt z).1⟩, (rInt x).2 && (rInt y).2 && (rInt z).2)
  | _ => (⟨0, 0, 0⟩, false)
theorem lineP_len {s : List UInt8} (h : (Lib.split s [32]).length ≠ 3) : lineP s = ((0, 0, 0), false) := by
  unfold lineP
  split
  · rename_i e
    have := congrArg List.length e
    simp at this
    exact absurd this h
  · rfl
theorem rlineP_len {s : List UInt8} (h : (Lib.split s [32]).length ≠ 3) : rlineP s = (⟨0, 0, 0⟩, false) := by
  unfold rlineP
  split
  · rename_i e
    rw [e] at h
    exact absurd rfl h
  · rfl
theorem line_rel (s : List UInt8) : (rlineP s).2 = (lineP s).2 ∧ ((lineP s).2 = true → (rlineP s).1 = lineC s) := by
  by_cases hl : (Lib.split s [32]).length = 3
  · unfold lineC rlineP lineP
    match h : Lib.split s [32], hl with
    | [x, y, z], _ =>
      simp only [List.map_cons, List.map_nil]
      cases hx : intW x with
      | none => simp [rInt_none hx]
      | some a =>
        cases hy : intW y with
        | none => simp [rInt_none hy]
        | some b =>
          cases hz : intW z with
          | none => simp [rInt_none hz]
          | some c => simp [rInt_some hx, rInt_some hy, rInt_some hz]
  · rw [rlineP_len hl, lineP_len hl]
    exact ⟨rfl, fun h => by cases h⟩
theorem rline_c (s : List UInt8) (hs : s.length ≤ 1000000) : Cont Tryd.prog 56 [strV s] (.tuple [chkV (rlineP s).1, .bool (rlineP s).2].toArray) := fun w => by
  have p1 := words_c s hs
  have hcn := split_cntB s [32]
  unfold rlineP
  generalize Lib.split s [32] = ws at p1 hcn
  by_cases hl : ws.length = 3
  · match ws, hl with
    | [x, y, z], _ =>
      have q1 := rint_c x
      have q2 := rint_c y
      have q3 := rint_c z
      dsimp only
      generalize rInt x = X1 at q1 ⊢
      generalize rInt y = X2 at q2 ⊢
      generalize rInt z = X3 at q3 ⊢
      refine enter0 Tryd.func56 rfl rfl rfl ?_
      repeat' (first
    | (show YK _ _ _ _ _ _ _; first | refine YK.mk (y_callA (q1) ⟨rfl, rfl⟩) ?_ | refine YK.mk (y_callA (q2) ⟨rfl, rfl⟩) ?_ | refine YK.mk (y_callA (q3) ⟨rfl, rfl⟩) ?_)
    | (show YK _ _ _ _ _ _ _; refine YK.ofV vAuto ?_)
    | (show VK _ _ _ _ _ _ _; refine VK.mk vAuto ?_)
    | (show RS _ _ _ _ _ _ _ _; first | (refine RS.callX (p1) ⟨rfl, rfl⟩ ?_; rintro v _) | (refine RS.callXG (fun _ : True => p1) ⟨rfl, rfl⟩ ?_; rintro v _) | (refine nxRS ?_) | (refine nxRS1 fun _ => ?_))
    | (show RM _ _ _ _ _ _ _ _ _ _; first | (refine RM.callX (p1) ?_; rintro v _) | (refine RM.callXG (fun _ : True => p1) ?_; rintro v _) | (refine nxRM ?_) | (refine nxRM1 fun _ => ?_))
    | (show YG _ _ _ _ _ _ _ _; refine YG.mk (fun hb => by (try (have hc := And.left hb; have hb := And.right hb; rw [hc])); (try rw [hb]); first | exact (y_callA (q1) ⟨rfl, rfl⟩) | exact (y_callA (q2) ⟨rfl, rfl⟩) | exact (y_callA (q3) ⟨rfl, rfl⟩) | exact V.y vAuto) ?_)
    | (show VG _ _ _ _ _ _ _ _; refine VG.mk (fun hb => by (try (have hc := And.left hb; have hb := And.right hb; rw [hc])); (try rw [hb]); exact vAuto) ?_)
    | (refine nxVS ?_)
    | (refine nxGS ?_)
    | (refine nxX ?_)
    | (refine G.condN rfl (fun hc => ?_) (fun hc => ?_) <;> (try first | exact False.elim hc | (exfalso; omega))))
      exact X.ret (vs := [_, _]) rfl ⟨⟨_, _, _, _, rfl, (by exact memA), (by (repeat (first | exact .nil | apply LenIs.cons))), by decide +kernel, rfl⟩, rfl, rfl⟩ rfl (fun w hw => ⟨rfl, hw.ext⟩)
  · have e : (match ws with
      | [x, y, z] => ((⟨(rInt x).1, (rInt y).1, (rInt z).1⟩ : Chk), (rInt x).2 && (rInt y).2 && (rInt z).2)
      | _ => (⟨0, 0, 0⟩, false)) = (⟨0, 0, 0⟩, false) := by
      match ws, hl with
      | [], _ => rfl
      | [_], _ => rfl
      | [_, _], _ => rfl
      | [_, _, _], hl => exact absurd rfl hl
      | _ :: _ :: _ :: _ :: _, _ => rfl
    rw [e]
    refine enter0 Tryd.func56 rfl rfl rfl ?_
    repeat' (first
    | (refine nxV ?_)
    | (show RS _ _ _ _ _ _ _ _; first | (refine RS.callX (p1) ⟨rfl, rfl⟩ ?_; rintro v _) | (refine RS.callXG (fun _ : True => p1) ⟨rfl, rfl⟩ ?_; rintro v _) | (refine nxRS ?_) | (refine nxRS1 fun _ => ?_))
    | (show RM _ _ _ _ _ _ _ _ _ _; first | (refine RM.callX (p1) ?_; rintro v _) | (refine RM.callXG (fun _ : True => p1) ?_; rintro v _) | (refine nxRM ?_) | (refine nxRM1 fun _ => ?_))
    | (refine nxG ?_)
    | (refine nxVS ?_)
    | (refine nxGS ?_)
    | (refine nxX ?_)
    | (refine G.condN rfl (fun hc => ?_) (fun hc => ?_) <;> (try first | exact False.elim hc | (exfalso; omega))))
    exact X.ret (vs := [_, _]) rfl ⟨⟨_, _, _, _, rfl, (by exact memA), (by (repeat (first | exact .nil | apply LenIs.cons))), by decide +kernel, rfl⟩, rfl, rfl⟩ rfl (fun w hw => ⟨rfl, hw.ext⟩)
end Go.Proofs.YtaglecidaedjfaaDoor
