/- Fractions' texts: ratio.Text, and the reference's Decimal, Text, digits, Parse. -/
import Derived.Test.YtnanempkkeokbaaDoorDec
import Derived.Test.YtnanempkkeokbaaDoorRat3
import Derived.Test.YtnanempkkeokbaaDoorLaidT
import Derived.Laws.Runes
set_option linter.unusedVariables false
set_option maxHeartbeats 4000000
namespace Go.Proofs.YtnanempkkeokbaaDoor
open Go.RowKit

theorem y_runeStr {P : Program} {n : Nat} {L : FL} {w0 : World} {H : List Hl} {d : Option Tmp} {ty : TypeId} {pos : String} {af : Array Edge} {g : Option (Nat × Bool)} {x : Operand} {t t' : TypeId} {k : IntKind} {m : Int} {c : UInt8} (hx : evO L x = some (.int k m)) (hs : (P.underlying t).isSome = true) (hd : P.underlying t' = some .string) (hm : 0 ≤ m ∧ m < 128) (hc : UInt8.ofNat m.toNat = c) : V P n L w0 H ⟨d, .convert t t' x, ty, pos, af, g⟩ (strV [c]) := by
  subst hc
  unfold V
  intro a w ha hw
  have e : Utf8.encode m = ⟨#[UInt8.ofNat m.toNat]⟩ := by
    have hv : Utf8.valid m = true := by simp [Utf8.valid]; omega
    unfold Utf8.encode
    simp only [hv, if_true]
    rw [if_pos (by omega)]
  simp only [execOp, ha.eval hx]
  simp [run_convert_int_string w t t' k m hs hd, e]
def txtF (a b : Int) : List UInt8 := if b = 1 then Lib.itoa a else Lib.itoa a ++ (47 :: Lib.itoa b)
theorem itoa_len' {n : Int} (h : -9223372036854775808 ≤ n ∧ n ≤ 9223372036854775807) : (Lib.itoa n).length ≤ 20 := itoa_len h
theorem itoa_pos {n : Nat} (h : 10 ≤ n) : Lib.itoa (n : Int) = Lib.itoa ((n / 10 : Nat) : Int) ++ [dgt (n % 10)] := by rw [itoa_of_nat, itoa_of_nat, deci_ge h]
theorem itoa_neg {n : Nat} (h : 10 ≤ n) : Lib.itoa (-(n : Int)) = Lib.itoa (-((n / 10 : Nat) : Int)) ++ [dgt (n % 10)] := by rw [itoa_of_neg (by omega), itoa_of_neg (by omega), deci_ge h]; rfl
theorem dec_p0 {n : Nat} (h : n < 10) : Cont Tryd.prog 59 [.int .i64 (n : Int)] (strV (Lib.itoa n)) := fun w => by
  have e : Lib.itoa (n : Int) = [dgt n] := by rw [itoa_of_nat, deci_lt h]
  have hb : UInt8.ofNat (48 + (n : Int) % 10).toNat = dgt n := by unfold dgt; congr 1 <;> omega
  rw [e]
  refine enter0 Tryd.func59 rfl rfl rfl ?_
  repeat' (first
    | (show YK _ _ _ _ _ ⟨_, .convert _ 21 _, _, _, _, _⟩ _; refine YK.ofV (y_conv (by kernel_rfl) (by kernel_rfl) (by rfl) (IntWalk.i32_in _ (by omega))) ?_)
    | (show YK _ _ _ _ _ ⟨_, .convert 21 9 _, _, _, _, _⟩ _; refine YK.ofV (y_runeStr (by rfl) (by kernel_rfl) (by kernel_rfl) (by omega) hb) ?_)
    | (refine nxV ?_)
    | (show RS _ _ _ _ _ _ _ _; first | (refine nxRS ?_) | (refine nxRS1 fun _ => ?_))
    | (show RM _ _ _ _ _ _ _ _ _ _; first | (refine nxRM ?_) | (refine nxRM1 fun _ => ?_))
    | (refine nxG ?_)
    | (refine nxVS ?_)
    | (refine nxGS ?_)
    | (refine nxX ?_)
    | (refine G.condN rfl (fun hc => ?_) (fun hc => ?_) <;> (try first | exact False.elim hc | (exfalso; omega))))
  exact X.ret (vs := [_]) rfl ⟨rfl, rfl⟩ rfl (fun w hw => ⟨rfl, hw.ext⟩)
theorem dec_p1 {n : Nat} (h : 10 ≤ n ∧ n ≤ 1000000000000) (q1 : Cont Tryd.prog 59 [.int .i64 ((n : Int) / 10)] (strV (Lib.itoa ((n / 10 : Nat) : Int)))) : Cont Tryd.prog 59 [.int .i64 (n : Int)] (strV (Lib.itoa n)) := fun w => by
  have hb : UInt8.ofNat (48 + (n : Int) % 10).toNat = dgt (n % 10) := by unfold dgt; congr 1 <;> omega
  have hl := itoa_len (n := ((n / 10 : Nat) : Int)) (by omega)
  rw [itoa_pos h.1]
  generalize Lib.itoa ((n / 10 : Nat) : Int) = z at q1 hl
  refine enter0 Tryd.func59 rfl rfl rfl ?_
  repeat' (first
    | (show YK _ _ _ _ _ ⟨_, .convert _ 21 _, _, _, _, _⟩ _; refine YK.ofV (y_conv (by kernel_rfl) (by kernel_rfl) (by rfl) (IntWalk.i32_in _ (by omega))) ?_)
    | (show YK _ _ _ _ _ ⟨_, .convert 21 9 _, _, _, _, _⟩ _; refine YK.ofV (y_runeStr (by rfl) (by kernel_rfl) (by kernel_rfl) (by omega) hb) ?_)
    | (show YK _ _ _ _ _ _ _; first | refine YK.mk (y_callA (q1) ⟨rfl, rfl⟩) ?_)
    | (show YK _ _ _ _ _ _ _; refine YK.ofV vAuto ?_)
    | (show VK _ _ _ _ _ _ _; refine VK.mk vAuto ?_)
    | (show RS _ _ _ _ _ _ _ _; first | (refine nxRS ?_) | (refine nxRS1 fun _ => ?_))
    | (show RM _ _ _ _ _ _ _ _ _ _; first | (refine nxRM ?_) | (refine nxRM1 fun _ => ?_))
    | (show YG _ _ _ _ _ _ _ _; refine YG.mk (fun hb => by (try (have hc := And.left hb; have hb := And.right hb; rw [hc])); (try rw [hb]); first | exact (y_callA (q1) ⟨rfl, rfl⟩) | exact V.y vAuto) ?_)
    | (show VG _ _ _ _ _ _ _ _; refine VG.mk (fun hb => by (try (have hc := And.left hb; have hb := And.right hb; rw [hc])); (try rw [hb]); exact vAuto) ?_)
    | (refine nxVS ?_)
    | (refine nxGS ?_)
    | (refine nxX ?_)
    | (refine G.condN rfl (fun hc => ?_) (fun hc => ?_) <;> (try first | exact False.elim hc | (exfalso; omega))))
  exact X.ret (vs := [_]) rfl ⟨rfl, rfl⟩ rfl (fun w hw => ⟨rfl, hw.ext⟩)
theorem dec_n0 {n : Nat} (h : 0 < n ∧ n < 10) : Cont Tryd.prog 59 [.int .i64 (-(n : Int))] (strV (Lib.itoa (-(n : Int)))) := fun w => by
  have e : Lib.itoa (-(n : Int)) = [45, dgt n] := by rw [itoa_of_neg h.1, deci_lt h.2]
  have hb : UInt8.ofNat (48 - -(n : Int)).toNat = dgt n := by unfold dgt; congr 1 <;> omega
  rw [e]
  refine enter0 Tryd.func59 rfl rfl rfl ?_
  repeat' (first
    | (show YK _ _ _ _ _ ⟨_, .convert _ 21 _, _, _, _, _⟩ _; refine YK.ofV (y_conv (by kernel_rfl) (by kernel_rfl) (by rfl) (IntWalk.i32_in _ (by omega))) ?_)
    | (show YK _ _ _ _ _ ⟨_, .convert 21 9 _, _, _, _, _⟩ _; refine YK.ofV (y_runeStr (by rfl) (by kernel_rfl) (by kernel_rfl) (by omega) hb) ?_)
    | (refine nxV ?_)
    | (show RS _ _ _ _ _ _ _ _; first | (refine nxRS ?_) | (refine nxRS1 fun _ => ?_))
    | (show RM _ _ _ _ _ _ _ _ _ _; first | (refine nxRM ?_) | (refine nxRM1 fun _ => ?_))
    | (refine nxG ?_)
    | (refine nxVS ?_)
    | (refine nxGS ?_)
    | (refine nxX ?_)
    | (refine G.condN rfl (fun hc => ?_) (fun hc => ?_) <;> (try first | exact False.elim hc | (exfalso; omega))))
  exact X.ret (vs := [_]) rfl ⟨rfl, rfl⟩ rfl (fun w hw => ⟨rfl, hw.ext⟩)
theorem dec_n1 {n : Nat} {m q r : Int} (hm : m = -(n : Int)) (h : 10 ≤ n ∧ n ≤ 1000000000000) (hq : m.tdiv 10 = q) (hr : m.tmod 10 = r) (hr2 : r = -((n % 10 : Nat) : Int)) (q1 : Cont Tryd.prog 59 [.int .i64 (IntKind.i64.wrap (m.tdiv 10))] (strV (Lib.itoa (-((n / 10 : Nat) : Int))))) : Cont Tryd.prog 59 [.int .i64 m] (strV (Lib.itoa m)) := fun w => by
  have hb : UInt8.ofNat (48 - m.tmod 10).toNat = dgt (n % 10) := by rw [hr]; unfold dgt; congr 1 <;> omega
  have hb1 : 0 ≤ 48 - m.tmod 10 ∧ 48 - m.tmod 10 < 128 := by omega
  have hl := itoa_len (n := (-((n / 10 : Nat) : Int))) (by omega)
  rw [hm, itoa_neg h.1, ← hm]
  generalize Lib.itoa (-((n / 10 : Nat) : Int)) = z at q1 hl
  refine enter0 Tryd.func59 rfl rfl rfl ?_
  repeat' (first
    | (show YK _ _ _ _ _ ⟨_, .convert _ 21 _, _, _, _, _⟩ _; refine YK.ofV (y_conv (by kernel_rfl) (by kernel_rfl) (by rfl) (IntWalk.i32_in _ (by omega))) ?_)
    | (show YK _ _ _ _ _ ⟨_, .convert 21 9 _, _, _, _, _⟩ _; refine YK.ofV (y_runeStr (by rfl) (by kernel_rfl) (by kernel_rfl) (by omega) hb) ?_)
    | (show YK _ _ _ _ _ _ _; first | refine YK.mk (y_callA (q1) ⟨rfl, rfl⟩) ?_)
    | (show YK _ _ _ _ _ _ _; refine YK.ofV vAuto ?_)
    | (show VK _ _ _ _ _ _ _; refine VK.mk vAuto ?_)
    | (show RS _ _ _ _ _ _ _ _; first | (refine nxRS ?_) | (refine nxRS1 fun _ => ?_))
    | (show RM _ _ _ _ _ _ _ _ _ _; first | (refine nxRM ?_) | (refine nxRM1 fun _ => ?_))
    | (show YG _ _ _ _ _ _ _ _; refine YG.mk (fun hb => by (try (have hc := And.left hb; have hb := And.right hb; rw [hc])); (try rw [hb]); first | exact (y_callA (q1) ⟨rfl, rfl⟩) | exact V.y vAuto) ?_)
    | (show VG _ _ _ _ _ _ _ _; refine VG.mk (fun hb => by (try (have hc := And.left hb; have hb := And.right hb; rw [hc])); (try rw [hb]); exact vAuto) ?_)
    | (refine nxVS ?_)
    | (refine nxGS ?_)
    | (refine nxX ?_)
    | (refine G.condN rfl (fun hc => ?_) (fun hc => ?_) <;> (try first | exact False.elim hc | (exfalso; omega))))
  exact X.ret (vs := [_]) rfl ⟨rfl, rfl⟩ rfl (fun w hw => ⟨rfl, hw.ext⟩)

theorem decimal_k : ∀ (k : Nat) (n : Nat), n ≤ k → n ≤ 1000000000000 → Cont Tryd.prog 59 [.int .i64 (n : Int)] (strV (Lib.itoa n)) ∧ Cont Tryd.prog 59 [.int .i64 (-(n : Int))] (strV (Lib.itoa (-(n : Int))))
  | 0, n, h, hb => by
    obtain rfl : n = 0 := by omega
    exact ⟨dec_p0 (n := 0) (by omega), dec_p0 (n := 0) (by omega)⟩
  | k + 1, n, h, hb => by
    by_cases h1 : n < 10
    · refine ⟨dec_p0 h1, ?_⟩
      by_cases h0 : n = 0
      · subst h0; exact dec_p0 (n := 0) (by omega)
      · exact dec_n0 ⟨by omega, h1⟩
    · obtain ⟨i1, i2⟩ := decimal_k k (n / 10) (by omega) (by omega)
      refine ⟨dec_p1 ⟨by omega, hb⟩ ?_, ?_⟩
      · rw [show (n : Int) / 10 = ((n / 10 : Nat) : Int) by omega]; exact i1
      · have e1 : (-(n : Int)).tdiv 10 = -((n / 10 : Nat) : Int) := by
          rw [Int.neg_tdiv, Int.tdiv_eq_ediv_of_nonneg (by omega)]; omega
        have e2 : (-(n : Int)).tmod 10 = -((n % 10 : Nat) : Int) := by
          rw [Int.neg_tmod, Int.tmod_eq_emod_of_nonneg (by omega)]; omega
        refine dec_n1 rfl ⟨by omega, hb⟩ e1 e2 rfl ?_
        rw [e1, IntWalk.i64_in _ (by omega)]
        exact i2
theorem decimal_c {n : Int} (h : -1000000000000 ≤ n ∧ n ≤ 1000000000000) : Cont Tryd.prog 59 [.int .i64 n] (strV (Lib.itoa n)) := by
  have h1 := decimal_k n.natAbs n.natAbs (Nat.le_refl _) (by omega)
  rcases Int.lt_or_le n 0 with h0 | h0
  · have e : n = -(n.natAbs : Int) := by omega
    rw [e]; exact h1.2
  · have e : n = (n.natAbs : Int) := by omega
    rw [e]; exact h1.1
abbrev Q40 (n : Int) : Prop := -1000000000000 ≤ n ∧ n ≤ 1000000000000
theorem txtF_len {a b : Int} (h : Q40 a ∧ Q40 b) : (txtF a b).length ≤ 41 := by
  have h1 := itoa_len (n := a) (by omega)
  have h2 := itoa_len (n := b) (by omega)
  unfold txtF
  split
  · omega
  · rw [List.length_append, List.length_cons]; omega
theorem txt1 {a : Int} : txtF a 1 = Lib.itoa a := by unfold txtF; rw [if_pos rfl]
theorem txt2 {a b : Int} (h : b ≠ 1) : txtF a b = Lib.itoa a ++ [47] ++ Lib.itoa b := by unfold txtF; rw [if_neg h]; simp
theorem rtext_c {a b : Int} (h : Q40 a ∧ Q40 b) : Cont Tryd.prog 43 [fracV a b] (strV (txtF a b)) := fun w => by
  have q1 := decimal_c h.1
  have q2 := decimal_c h.2
  have l1 := itoa_len (n := a) (by omega)
  have l2 := itoa_len (n := b) (by omega)
  by_cases hb : b = 1
  · subst hb
    rw [txt1]
    generalize Lib.itoa a = x at q1 l1 ⊢
    refine enter0 Tryd.func43 rfl rfl rfl ?_
    repeat' (first
    | (show YK _ _ _ _ _ _ _; first | refine YK.mk (y_callA (q1) ⟨rfl, rfl⟩) ?_)
    | (show YK _ _ _ _ _ _ _; refine YK.ofV vAuto ?_)
    | (show VK _ _ _ _ _ _ _; refine VK.mk vAuto ?_)
    | (show RS _ _ _ _ _ _ _ _; first | (refine nxRS ?_) | (refine nxRS1 fun _ => ?_))
    | (show RM _ _ _ _ _ _ _ _ _ _; first | (refine nxRM ?_) | (refine nxRM1 fun _ => ?_))
    | (show YG _ _ _ _ _ _ _ _; refine YG.mk (fun hb => by (try (have hc := And.left hb; have hb := And.right hb; rw [hc])); (try rw [hb]); first | exact (y_callA (q1) ⟨rfl, rfl⟩) | exact V.y vAuto) ?_)
    | (show VG _ _ _ _ _ _ _ _; refine VG.mk (fun hb => by (try (have hc := And.left hb; have hb := And.right hb; rw [hc])); (try rw [hb]); exact vAuto) ?_)
    | (refine nxVS ?_)
    | (refine nxGS ?_)
    | (refine nxX ?_)
    | (refine G.condN rfl (fun hc => ?_) (fun hc => ?_) <;> (try first | exact False.elim hc | (exfalso; omega))))
    exact X.ret (vs := [_]) rfl ⟨rfl, rfl⟩ rfl (fun w hw => ⟨rfl, hw.ext⟩)
  · rw [txt2 hb]
    generalize Lib.itoa a = x at q1 l1 ⊢
    generalize Lib.itoa b = y at q2 l2 ⊢
    refine enter0 Tryd.func43 rfl rfl rfl ?_
    repeat' (first
    | (show YK _ _ _ _ _ _ _; first | refine YK.mk (y_callA (q1) ⟨rfl, rfl⟩) ?_ | refine YK.mk (y_callA (q2) ⟨rfl, rfl⟩) ?_)
    | (show YK _ _ _ _ _ _ _; refine YK.ofV vAuto ?_)
    | (show VK _ _ _ _ _ _ _; refine VK.mk vAuto ?_)
    | (show RS _ _ _ _ _ _ _ _; first | (refine nxRS ?_) | (refine nxRS1 fun _ => ?_))
    | (show RM _ _ _ _ _ _ _ _ _ _; first | (refine nxRM ?_) | (refine nxRM1 fun _ => ?_))
    | (show YG _ _ _ _ _ _ _ _; refine YG.mk (fun hb => by (try (have hc := And.left hb; have hb := And.right hb; rw [hc])); (try rw [hb]); first | exact (y_callA (q1) ⟨rfl, rfl⟩) | exact (y_callA (q2) ⟨rfl, rfl⟩) | exact V.y vAuto) ?_)
    | (show VG _ _ _ _ _ _ _ _; refine VG.mk (fun hb => by (try (have hc := And.left hb; have hb := And.right hb; rw [hc])); (try rw [hb]); exact vAuto) ?_)
    | (refine nxVS ?_)
    | (refine nxGS ?_)
    | (refine nxX ?_)
    | (refine G.condN rfl (fun hc => ?_) (fun hc => ?_) <;> (try first | exact False.elim hc | (exfalso; omega))))
    exact X.ret (vs := [_]) rfl ⟨rfl, rfl⟩ rfl (fun w hw => ⟨rfl, hw.ext⟩)
theorem Text_no {a b : Int} (h : J64 a ∧ J64 b) (hv : validF a b = false) : ContIn Tryd.prog LaidT 42 [fracV a b] (.tuple [strV [], .int .i64 1].toArray) := fun w hI => by
  have h1 := rvalid_c h
  rw [hv] at h1
  refine enter0 Tryd.func42 rfl rfl rfl ?_
  repeat' (first
    | (show YK _ _ _ _ _ _ _; first | refine YK.mk (y_callA (h1) ⟨rfl, rfl⟩) ?_)
    | (show YK _ _ _ _ _ _ _; refine YK.ofV vAuto ?_)
    | (show VK _ _ _ _ _ _ _; refine VK.mk vAuto ?_)
    | (show RS _ _ _ _ _ _ _ _; first | (refine nxRS ?_) | (refine nxRS1 fun _ => ?_))
    | (show RM _ _ _ _ _ _ _ _ _ _; first | (refine nxRM ?_) | (refine nxRM1 fun _ => ?_))
    | (show YG _ _ _ _ _ _ _ _; refine YG.mk (fun hb => by (try (have hc := And.left hb; have hb := And.right hb; rw [hc])); (try rw [hb]); first | exact (y_callA (h1) ⟨rfl, rfl⟩) | exact V.y vAuto) ?_)
    | (show VG _ _ _ _ _ _ _ _; refine VG.mk (fun hb => by (try (have hc := And.left hb; have hb := And.right hb; rw [hc])); (try rw [hb]); exact vAuto) ?_)
    | (refine nxVS ?_)
    | (refine nxGS ?_)
    | (refine nxX ?_)
    | (refine G.condN rfl (fun hc => ?_) (fun hc => ?_) <;> (try first | exact False.elim hc | (exfalso; omega))))
  exact X.ret (vs := [_, _]) rfl ⟨rfl, rfl, rfl⟩ rfl (fun w hw => ⟨rfl, hw.ext⟩)
theorem Text_one {a : Int} (hv : validF a 1 = true) : ContIn Tryd.prog LaidT 42 [fracV a 1] (.tuple [strV (txtF a 1), .int .i64 0].toArray) := fun w hI => by
  have g := validF_bd hv
  have h1 := rvalid_c (n := a) (d := 1) (by omega)
  rw [hv] at h1
  have h2 := itoaT_c (n := a) (by omega)
  rw [txt1]
  refine enter0 Tryd.func42 rfl rfl rfl ?_
  repeat' (first
    | (show YK _ _ _ _ _ _ _; first | refine YK.mk (y_callA (h1) ⟨rfl, rfl⟩) ?_ | refine YK.mk (y_callIn (h2) (fun _ hw => hI.keep hw.ext) ⟨rfl, rfl⟩ (by decide +kernel)) ?_)
    | (show YK _ _ _ _ _ _ _; refine YK.ofV vAuto ?_)
    | (show VK _ _ _ _ _ _ _; refine VK.mk vAuto ?_)
    | (show RS _ _ _ _ _ _ _ _; first | (refine nxRS ?_) | (refine nxRS1 fun _ => ?_))
    | (show RM _ _ _ _ _ _ _ _ _ _; first | (refine nxRM ?_) | (refine nxRM1 fun _ => ?_))
    | (show YG _ _ _ _ _ _ _ _; refine YG.mk (fun hb => by (try (have hc := And.left hb; have hb := And.right hb; rw [hc])); (try rw [hb]); first | exact (y_callA (h1) ⟨rfl, rfl⟩) | exact (y_callIn (h2) (fun _ hw => hI.keep hw.ext) ⟨rfl, rfl⟩ (by decide +kernel)) | exact V.y vAuto) ?_)
    | (show VG _ _ _ _ _ _ _ _; refine VG.mk (fun hb => by (try (have hc := And.left hb; have hb := And.right hb; rw [hc])); (try rw [hb]); exact vAuto) ?_)
    | (refine nxVS ?_)
    | (refine nxGS ?_)
    | (refine nxX ?_)
    | (refine G.condN rfl (fun hc => ?_) (fun hc => ?_) <;> (try first | exact False.elim hc | (exfalso; omega))))
  exact X.ret (vs := [_, _]) rfl ⟨rfl, rfl, rfl⟩ rfl (fun w hw => ⟨rfl, hw.ext⟩)
theorem Text_two {a b : Int} (hv : validF a b = true) (hb : b ≠ 1) : ContIn Tryd.prog LaidT 42 [fracV a b] (.tuple [strV (txtF a b), .int .i64 0].toArray) := fun w hI => by
  have g := validF_bd hv
  have h1 := rvalid_c (n := a) (d := b) (by omega)
  rw [hv] at h1
  have h2 := itoaT_c (n := a) (by omega)
  have h3 := itoaT_c (n := b) (by omega)
  have l2 := itoa_len (n := a) (by omega)
  have l3 := itoa_len (n := b) (by omega)
  have e : txtF a b = Lib.itoa a ++ ([47] ++ Lib.itoa b) := by unfold txtF; rw [if_neg hb]; simp
  rw [e]
  generalize Lib.itoa a = x at h2 l2 ⊢
  generalize Lib.itoa b = y at h3 l3 ⊢
  refine enter0 Tryd.func42 rfl rfl rfl ?_
  repeat' (first
    | (show YK _ _ _ _ _ _ _; first | refine YK.mk (y_callA (h1) ⟨rfl, rfl⟩) ?_ | refine YK.mk (y_callIn (h2) (fun _ hw => hI.keep hw.ext) ⟨rfl, rfl⟩ (by decide +kernel)) ?_ | refine YK.mk (y_callIn (h3) (fun _ hw => hI.keep hw.ext) ⟨rfl, rfl⟩ (by decide +kernel)) ?_)
    | (show YK _ _ _ _ _ _ _; refine YK.ofV vAuto ?_)
    | (show VK _ _ _ _ _ _ _; refine VK.mk vAuto ?_)
    | (show RS _ _ _ _ _ _ _ _; first | (refine nxRS ?_) | (refine nxRS1 fun _ => ?_))
    | (show RM _ _ _ _ _ _ _ _ _ _; first | (refine nxRM ?_) | (refine nxRM1 fun _ => ?_))
    | (show YG _ _ _ _ _ _ _ _; refine YG.mk (fun hb => by (try (have hc := And.left hb; have hb := And.right hb; rw [hc])); (try rw [hb]); first | exact (y_callA (h1) ⟨rfl, rfl⟩) | exact (y_callIn (h2) (fun _ hw => hI.keep hw.ext) ⟨rfl, rfl⟩ (by decide +kernel)) | exact (y_callIn (h3) (fun _ hw => hI.keep hw.ext) ⟨rfl, rfl⟩ (by decide +kernel)) | exact V.y vAuto) ?_)
    | (show VG _ _ _ _ _ _ _ _; refine VG.mk (fun hb => by (try (have hc := And.left hb; have hb := And.right hb; rw [hc])); (try rw [hb]); exact vAuto) ?_)
    | (refine nxVS ?_)
    | (refine nxGS ?_)
    | (refine nxX ?_)
    | (refine G.condN rfl (fun hc => ?_) (fun hc => ?_) <;> (try first | exact False.elim hc | (exfalso; omega))))
  exact X.ret (vs := [_, _]) rfl ⟨rfl, rfl, rfl⟩ rfl (fun w hw => ⟨rfl, hw.ext⟩)
/-- What Text returns. -/
def textP (a b : Int) : List UInt8 × Int := if validF a b = true then (txtF a b, 0) else ([], 1)
theorem Text_c {a b : Int} (h : J64 a ∧ J64 b) : ContIn Tryd.prog LaidT 42 [fracV a b] (.tuple [strV (textP a b).1, .int .i64 (textP a b).2].toArray) := by
  unfold textP
  rcases vcases a b with hv | hv
  · rw [if_neg (by rw [hv]; decide)]
    exact Text_no h hv
  · rw [if_pos hv]
    by_cases hb : b = 1
    · subst hb; exact Text_one hv
    · exact Text_two hv hb
/-! ### The reference's digits -/
theorem ipow_le {a b : Nat} (h : a ≤ b) : (10 : Int) ^ a ≤ 10 ^ b := by
  have h1 := Nat.pow_le_pow_right (show 0 < 10 by decide) h
  have e : ∀ k : Nat, ((10 ^ k : Nat) : Int) = 10 ^ k := fun k => Int.natCast_pow 10 k
  rw [← e, ← e]; omega
def scan : Nat → Int → List UInt8 → Int × Nat
  | 0, n, _ => (n, 0)
  | _ + 1, n, [] => (n, 0)
  | f + 1, n, b :: r => if isDg b = true then ((scan f (10 * n + (b.toNat - 48)) r).1, (scan f (10 * n + (b.toNat - 48)) r).2 + 1) else (n, 0)
theorem scan_zero (n : Int) (l : List UInt8) : scan 0 n l = (n, 0) := by unfold scan; rfl
theorem scan_nil (f : Nat) (n : Int) : scan f n [] = (n, 0) := by cases f <;> (unfold scan; rfl)
theorem scan_no {f : Nat} {n : Int} {b : UInt8} {r : List UInt8} (h : isDg b = false) : scan f n (b :: r) = (n, 0) := by
  cases f with
  | zero => exact scan_zero ..
  | succ f => unfold scan; rw [if_neg (by rw [h]; decide)]
theorem scan_yes {f : Nat} {n : Int} {b : UInt8} {r : List UInt8} (h : isDg b = true) : scan (f + 1) n (b :: r) = ((scan f (10 * n + (b.toNat - 48)) r).1, (scan f (10 * n + (b.toNat - 48)) r).2 + 1) := by
  conv => lhs; unfold scan
  rw [if_pos h]
theorem scan_bd : ∀ (f : Nat) (n : Int) (l : List UInt8) (k : Nat), 0 ≤ n → n < 10 ^ k → 0 ≤ (scan f n l).1 ∧ (scan f n l).1 < 10 ^ (k + f) ∧ (scan f n l).2 ≤ l.length
  | 0, n, l, k, h0, h1 => by rw [scan_zero]; exact ⟨h0, by simpa using h1, Nat.zero_le _⟩
  | f + 1, n, [], k, h0, h1 => by
    rw [scan_nil]
    exact ⟨h0, Int.lt_of_lt_of_le h1 (ipow_le (by omega)), Nat.zero_le _⟩
  | f + 1, n, b :: r, k, h0, h1 => by
    by_cases hb : isDg b = true
    · rw [scan_yes hb]
      simp only [isDg, Bool.and_eq_true, decide_eq_true_eq] at hb
      have := scan_bd f (10 * n + (b.toNat - 48)) r (k + 1) (by omega) (by rw [Int.pow_succ]; omega)
      rw [show k + (f + 1) = k + 1 + f by omega]
      exact ⟨this.1, this.2.1, by simpa using this.2.2⟩
    · rw [scan_no (by simpa using hb)]
      exact ⟨h0, Int.lt_of_lt_of_le h1 (ipow_le (by omega)), Nat.zero_le _⟩
theorem scan_deci : ∀ (k u : Nat), u ≤ k → ∀ (f : Nat) (r : List UInt8), (Lib.decDigits u).length ≤ f → scan f 0 (Lib.decDigits u ++ r) = ((scan (f - (Lib.decDigits u).length) u r).1, (scan (f - (Lib.decDigits u).length) u r).2 + (Lib.decDigits u).length)
  | k, u, h, f, r, hf => by
    by_cases h1 : u < 10
    · rw [deci_lt h1] at hf ⊢
      obtain ⟨g, rfl⟩ : ∃ g, f = g + 1 := ⟨f - 1, by simp at hf; omega⟩
      rw [List.singleton_append, scan_yes (isDg_dgt h1), dgt_nat h1, List.length_singleton, show g + 1 - 1 = g by omega, show (10 * 0 + (((48 + u : Nat) : Int) - 48)) = (u : Int) by omega]
    · rw [deci_ge (by omega)] at hf ⊢
      rw [List.length_append, List.length_singleton] at hf ⊢
      obtain ⟨k', rfl⟩ : ∃ k', k = k' + 1 := ⟨k - 1, by omega⟩
      rw [List.append_assoc, scan_deci k' (u / 10) (by omega) f _ (by omega), List.singleton_append]
      obtain ⟨g, hg⟩ : ∃ g, f - (Lib.decDigits (u / 10)).length = g + 1 := ⟨f - (Lib.decDigits (u / 10)).length - 1, by omega⟩
      rw [hg, scan_yes (isDg_dgt (by omega)), dgt_nat (by omega), show (10 * ((u / 10 : Nat) : Int) + (((48 + u % 10 : Nat) : Int) - 48)) = (u : Int) by omega, show f - ((Lib.decDigits (u / 10)).length + 1) = g by omega]
      exact Prod.ext rfl (by dsimp only; omega)
theorem drop_consB {l : List UInt8} {i : Nat} (h : i < l.length) : l.drop i = nth l (i : Int) :: l.drop (i + 1) := by
  have e := nth_some (l := l) (m := (i : Int)) (by omega) (by omega)
  rw [Int.toNat_natCast, List.getElem?_eq_getElem h] at e
  rw [List.drop_eq_getElem_cons h, Option.some.inj e]
theorem isDg_iff {b : UInt8} : isDg b = true ↔ 48 ≤ (b.toNat : Int) ∧ (b.toNat : Int) ≤ 57 := by
  simp only [isDg, Bool.and_eq_true, decide_eq_true_eq]; omega
theorem digits3_c {l : List UInt8} {i : Nat} (hl : l.length ≤ 1000) (hi : i ≤ l.length) : Cont Tryd.prog 57 [strV l, .int .i64 (i : Int)] (.tuple [.int .i64 (scan 11 0 (l.drop i)).1, .int .i64 (i + (scan 11 0 (l.drop i)).2 : Int)].toArray) := fun w => by
  refine enter0 Tryd.func57 rfl rfl rfl ?_
  repeat' (first
    | (refine nxV ?_)
    | (show RS _ _ _ _ _ _ _ _; first | (refine nxRS ?_) | (refine nxRS1 fun _ => ?_))
    | (show RM _ _ _ _ _ _ _ _ _ _; first | (refine nxRM ?_) | (refine nxRM1 fun _ => ?_))
    | (refine nxG ?_)
    | (refine nxVS ?_)
    | (refine nxGS ?_)
    | (refine nxX ?_)
    | (refine G.condN rfl (fun hc => ?_) (fun hc => ?_) <;> (try first | exact False.elim hc | (exfalso; omega))))
  refine G.loop (ι := Nat × Int) (fun x => [(0, strV l), (1, .int .i64 (i : Int)), (6, .int .i64 x.2), (7, .int .i64 ((i + x.1 : Nat) : Int))]) (fun _ => []) (fun x => x.1 ≤ 11 ∧ i + x.1 ≤ l.length ∧ (0 ≤ x.2 ∧ x.2 < 10 ^ x.1) ∧ (scan 11 0 (l.drop i)).1 = (scan (11 - x.1) x.2 (l.drop (i + x.1))).1 ∧ (scan 11 0 (l.drop i)).2 = (scan (11 - x.1) x.2 (l.drop (i + x.1))).2 + x.1) (fun x => 11 - x.1) (0, 0) ⟨by decide, hi, by decide, rfl, rfl⟩ ⟨rfl, rfl, rfl, rfl, trivial⟩ (fun w h => h) ?_
  rintro ⟨j, n⟩ mx ⟨g1, g2, g3, g4, g5⟩ hmx
  dsimp only at g1 g2 g3 g4 g5 hmx ⊢
  have hp : n < 1000000000000 := Int.lt_of_lt_of_le g3.2 (Int.le_trans (ipow_le g1) (show (10 : Int) ^ 11 ≤ 1000000000000 by decide))
  have stop : (11 ≤ j ∨ l.length ≤ i + j ∨ (i + j < l.length ∧ isDg (nth l ((i + j : Nat) : Int)) = false)) → (scan 11 0 (l.drop i)).1 = n ∧ (scan 11 0 (l.drop i)).2 = j := fun h => by
    have : scan (11 - j) n (l.drop (i + j)) = (n, 0) := by
      rcases h with h | h | ⟨h, h2⟩
      · rw [show 11 - j = 0 by omega, scan_zero]
      · rw [List.drop_eq_nil_of_le h, scan_nil]
      · rw [drop_consB h, scan_no h2]
    rw [g4, g5, this]; exact ⟨rfl, by simp⟩
  by_cases hc : j < 11 ∧ i + j < l.length
  · cases hd : isDg (nth l ((i + j : Nat) : Int)) with
    | true =>
      have hd2 := isDg_iff.1 hd
      obtain ⟨g, hg⟩ : ∃ g, 11 - j = g + 1 := ⟨10 - j, by omega⟩
      rw [drop_consB hc.2, hg, scan_yes hd] at g4 g5
      repeat' (first
    | (refine nxV ?_)
    | (show RS _ _ _ _ _ _ _ _; first | (refine nxRS ?_) | (refine nxRS1 fun _ => ?_))
    | (show RM _ _ _ _ _ _ _ _ _ _; first | (refine nxRM ?_) | (refine nxRM1 fun _ => ?_))
    | (refine nxG ?_)
    | (refine nxVS ?_)
    | (refine nxGS ?_)
    | (refine nxX ?_)
    | (refine G.condN rfl (fun hc => ?_) (fun hc => ?_) <;> (try first | exact False.elim hc | (exfalso; omega))))
      have e3 : i + (j + 1) = i + j + 1 := by omega
      have ew : IntKind.i64.wrap (10 * n + IntKind.i64.wrap (IntKind.u8.wrap (((nth l ((i + j : Nat) : Int)).toNat : Int) - 48))) = 10 * n + (((nth l ((i + j : Nat) : Int)).toNat : Int) - 48) := by rw [IntWalk.u8_in _ (by omega), IntWalk.i64_in (((nth l ((i + j : Nat) : Int)).toNat : Int) - 48) (by omega), IntWalk.i64_in _ (by omega)]
      refine X.again (j + 1, 10 * n + (((nth l ((i + j : Nat) : Int)).toNat : Int) - 48)) ⟨by dsimp only; omega, by dsimp only; omega, ⟨by dsimp only; omega, by dsimp only; rw [Int.pow_succ]; omega⟩, by dsimp only; rw [show 11 - (j + 1) = g by omega, e3]; exact g4, by dsimp only; rw [show 11 - (j + 1) = g by omega, e3, g5]; omega⟩ (by dsimp only; omega) ⟨rfl, rfl, congrArg (fun z => some (Value.int .i64 z)) ew, rfl, trivial⟩ (fun w h => h.sub (List.Sublist.refl _))
    | false =>
      have hd2 : ¬ (48 ≤ ((nth l ((i + j : Nat) : Int)).toNat : Int) ∧ ((nth l ((i + j : Nat) : Int)).toNat : Int) ≤ 57) := fun h => by rw [isDg_iff.2 h] at hd; cases hd
      obtain ⟨e1, e2⟩ := stop (.inr (.inr ⟨hc.2, hd⟩))
      repeat' (first
    | (refine nxV ?_)
    | (show RS _ _ _ _ _ _ _ _; first | (refine nxRS ?_) | (refine nxRS1 fun _ => ?_))
    | (show RM _ _ _ _ _ _ _ _ _ _; first | (refine nxRM ?_) | (refine nxRM1 fun _ => ?_))
    | (refine nxG ?_)
    | (refine nxVS ?_)
    | (refine nxGS ?_)
    | (refine nxX ?_)
    | (refine G.condN rfl (fun hc => ?_) (fun hc => ?_) <;> (try first | exact False.elim hc | (exfalso; omega))))
      exact X.ret (vs := [_, _]) rfl ⟨rfl, rfl, rfl⟩ rfl (fun w hw => ⟨by rw [e1, e2, Int.natCast_add], hw.ext⟩)
  · obtain ⟨e1, e2⟩ := stop (by omega)
    repeat' (first
    | (refine nxV ?_)
    | (show RS _ _ _ _ _ _ _ _; first | (refine nxRS ?_) | (refine nxRS1 fun _ => ?_))
    | (show RM _ _ _ _ _ _ _ _ _ _; first | (refine nxRM ?_) | (refine nxRM1 fun _ => ?_))
    | (refine nxG ?_)
    | (refine nxVS ?_)
    | (refine nxGS ?_)
    | (refine nxX ?_)
    | (refine G.condN rfl (fun hc => ?_) (fun hc => ?_) <;> (try first | exact False.elim hc | (exfalso; omega))))
    exact X.ret (vs := [_, _]) rfl ⟨rfl, rfl, rfl⟩ rfl (fun w hw => ⟨by rw [e1, e2, Int.natCast_add], hw.ext⟩)
end Go.Proofs.YtnanempkkeokbaaDoor
