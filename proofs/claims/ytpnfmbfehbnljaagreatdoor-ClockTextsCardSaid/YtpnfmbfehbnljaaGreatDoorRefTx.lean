/- The calendar's reference functions on texts: what each returns. -/
import Derived.Test.YtpnfmbfehbnljaaGreatDoorDateP
import Derived.Test.YtpnfmbfehbnljaaGreatDoorBytes
import Derived.Test.YtpnfmbfehbnljaaGreatDoorNumber
set_option linter.unusedVariables false
set_option maxHeartbeats 4000000
namespace Go.Proofs.YtpnfmbfehbnljaaGreatDoor
open Go.RowKit

theorem RS.lit1B {P : Program} {ops : Array Oper} {Q : Exit → Act → World → Prop} {n : Nat} {L : FL} {w0 : World} {H : List Hl} {dd : Tmp} {ty : TypeId} {pos : String} {af : Array Edge} {t e : TypeId} {bytes : Nat} {x : Operand} {b : Int} {rest : List Oper} (h : ∀ v' : Sl, RS P ops Q n ((dd, v'.v) :: L) w0 (Hl.rw v'.v e cB 1 [b] :: H) rest) (hx : evO L x = some (.int .u8 b) := by rfl) [ht : RowTy P t e 1 bytes] (hd : Nat.blt dd n = true := by rfl) :
    RS P ops Q n L w0 H (⟨some dd, .buildSlice t 1 #[(0, x)], ty, pos, af, none⟩ :: rest) := RS.actX rfl (x_lit (parts := [(0, x)]) (vs := [.int .u8 b]) (f := cB) (l := [b]) (k := 1) ⟨hx, rfl⟩ rfl rfl rfl rfl rfl rfl (rowTy_B ht.is) hd) fun v' _ => h v'
theorem y_strOf1 {P : Program} {n : Nat} {L : FL} {w0 : World} {H : List Hl} {d : Option Tmp} {ty : TypeId} {pos : String} {af : Array Edge} {g : Option (Nat × Bool)} {x : Operand} {t t' e : TypeId} {v : Value} {b : Int} {c : UInt8} (hx : evO L x = some v) (h : RdT H v cB 1 [b]) (h1 : P.underlying t = some (.slice e)) (h2 : P.underlying e = some (.int .u8)) (h3 : P.underlying t' = some .string) (hb : UInt8.ofNat b.toNat = c) : V P n L w0 H ⟨d, .convert t t' x, ty, pos, af, g⟩ (strV [c]) := by
  subst hb
  exact y_strOf hx h h1 h2 h3 (by simp)
/-- The digits of a number, at least so many. -/
def rD (n l : Nat) : List UInt8 := if h : n = 0 ∧ l = 0 then [] else rD (n / 10) (l - 1) ++ [dg (n % 10)]
termination_by n + l
decreasing_by omega
theorem rD_zero : rD 0 0 = [] := by unfold rD; rfl
theorem rD_step {n l : Nat} (h : ¬ (n = 0 ∧ l = 0)) : rD n l = rD (n / 10) (l - 1) ++ [dg (n % 10)] := by
  conv => lhs; unfold rD
  rw [dif_neg h]
theorem rdigits_c {n l : Nat} (h : n ≤ 1000000000 ∧ l ≤ 20) : Cont Tryz.prog 76 [.int .i64 (n : Int), .int .i64 (l : Int)] (strV (rD n l)) := fun w => by
  refine enter0 Tryz.func76 rfl rfl rfl ?_
  repeat' (first
    | (refine nxV ?_)
    | (show RS _ _ _ _ _ _ _ _; first | (refine nxRS ?_) | (refine nxRS1 fun _ => ?_))
    | (show RM _ _ _ _ _ _ _ _ _ _; first | (refine nxRM ?_) | (refine nxRM1 fun _ => ?_))
    | (refine nxG ?_)
    | (refine nxVS ?_)
    | (refine nxGS ?_)
    | (refine nxX ?_)
    | (refine G.condN rfl (fun hc => ?_) (fun hc => ?_) <;> (try first | exact False.elim hc | (exfalso; omega))))
  refine G.loop (ι := Nat × Int × List UInt8) (fun x => [(0, .int .i64 (x.1 : Int)), (1, .int .i64 x.2.1), (5, strV x.2.2)]) (fun _ => []) (fun x => (-1000000000 + (x.1 : Int) ≤ x.2.1 ∧ x.2.1 ≤ 20) ∧ x.1 ≤ 1000000000 ∧ x.2.2.length + x.1 + x.2.1.toNat ≤ 1000000020 ∧ rD x.1 x.2.1.toNat ++ x.2.2 = rD n l) (fun x => x.1 + x.2.1.toNat) (n, (l : Int), []) ⟨by dsimp only; omega, by dsimp only; omega, by dsimp only [List.length_nil]; omega, by simp⟩ ⟨rfl, rfl, rfl, trivial⟩ (fun w h => h) ?_
  rintro ⟨a, b, s⟩ mx ⟨g1, g2, g3, g4⟩ hmx
  dsimp only at g1 g2 g3 g4 hmx ⊢
  by_cases hz : (a : Int) ≤ 0 ∧ b ≤ 0
  · have e : rD n l = s := by rw [← g4, show a = 0 by omega, show b.toNat = 0 by omega, rD_zero, List.nil_append]
    repeat' (first
    | (refine nxV ?_)
    | (show RS _ _ _ _ _ _ _ _; first | (refine nxRS ?_) | (refine nxRS1 fun _ => ?_))
    | (show RM _ _ _ _ _ _ _ _ _ _; first | (refine nxRM ?_) | (refine nxRM1 fun _ => ?_))
    | (refine nxG ?_)
    | (refine nxVS ?_)
    | (refine nxGS ?_)
    | (refine nxX ?_)
    | (refine G.condN rfl (fun hc => ?_) (fun hc => ?_) <;> (try first | exact False.elim hc | (exfalso; omega))))
    exact X.ret (vs := [_]) rfl ⟨rfl, rfl⟩ rfl (fun w hw => ⟨by rw [e], hw.ext⟩)
  · have hb : (UInt8.ofNat (48 + (a : Int) % 10).toNat) = dg (a % 10) := by unfold dg; congr 1 <;> omega
    rw [rD_step (by omega), List.append_assoc] at g4
    have hc1 : 0 ≤ 48 + (a : Int) % 10 ∧ 48 + (a : Int) % 10 ≤ 255 := by omega
    repeat' (first
    | (show RS _ _ _ _ _ _ _ (⟨some _, .buildSlice _ _ _, _, _, _, _⟩ :: _); refine RS.lit1B (fun v' => ?_))
    | (show YK _ _ _ _ _ ⟨_, .convert 78 _ _, _, _, _, _⟩ _; refine YK.ofV (y_strOf1 (e := 5) (b := 48 + (a : Int) % 10) (by rfl) (by exact rdA) (by kernel_rfl) (by kernel_rfl) (by kernel_rfl) hb) ?_)
    | (refine nxV ?_)
    | (show RS _ _ _ _ _ _ _ _; first | (refine nxRS ?_) | (refine nxRS1 fun _ => ?_))
    | (show RM _ _ _ _ _ _ _ _ _ _; first | (refine nxRM ?_) | (refine nxRM1 fun _ => ?_))
    | (refine nxG ?_)
    | (refine nxVS ?_)
    | (refine nxGS ?_)
    | (refine nxX ?_)
    | (refine G.condN rfl (fun hc => ?_) (fun hc => ?_) <;> (try first | exact False.elim hc | (exfalso; omega))))
    refine X.again (a / 10, b - 1, dg (a % 10) :: s) ⟨by dsimp only; omega, by dsimp only; omega, by dsimp only [List.length_cons]; omega, by dsimp only; rw [show (b - 1).toNat = b.toNat - 1 by omega]; exact g4⟩ (by dsimp only; omega) ⟨rfl, rfl, rfl, trivial⟩ ?_
    exact fun w h => h.sub (by repeat (first | exact List.Sublist.refl _ | apply List.Sublist.cons_cons | apply List.Sublist.cons))
theorem rD_small : ∀ (k n : Nat), n ≤ k → 0 < n → rD n 0 = Lib.decDigits n
  | 0, n, h, h0 => by omega
  | k + 1, n, h, h0 => by
    rw [rD_step (by omega)]
    by_cases hn : n < 10
    · rw [show n / 10 = 0 by omega, rD_zero, dec_lt hn, show n % 10 = n by omega]; rfl
    · rw [dec_ge (by omega), rD_small k (n / 10) (by omega) (by omega)]
theorem rD_one (n : Nat) : rD n 1 = Lib.decDigits n := by
  rw [rD_step (by omega)]
  by_cases hn : n < 10
  · rw [show n / 10 = 0 by omega, rD_zero, dec_lt hn, show n % 10 = n by omega]; rfl
  · rw [dec_ge (by omega), rD_small (n / 10) (n / 10) (Nat.le_refl _) (by omega)]
theorem rpower_c : Cont Tryz.prog 77 [.int .i64 0] (.int .i64 1) := fun w => by
  refine enter0 Tryz.func77 rfl rfl rfl ?_
  repeat' (first
    | (refine nxV ?_)
    | (show RS _ _ _ _ _ _ _ _; first | (refine nxRS ?_) | (refine nxRS1 fun _ => ?_))
    | (show RM _ _ _ _ _ _ _ _ _ _; first | (refine nxRM ?_) | (refine nxRM1 fun _ => ?_))
    | (refine nxG ?_)
    | (refine nxX ?_)
    | (refine G.condN rfl (fun hc => ?_) (fun hc => ?_) <;> (try first | exact False.elim hc | (exfalso; omega))))
  refine G.loop (ι := Unit) (fun _ => [(0, .int .i64 0), (3, .int .i64 1), (4, .int .i64 0)]) (fun _ => []) (fun _ => True) (fun _ => 0) () trivial ⟨rfl, rfl, rfl, trivial⟩ (fun w h => h) ?_
  rintro ⟨⟩ mx - -
  repeat' (first
    | (refine nxV ?_)
    | (show RS _ _ _ _ _ _ _ _; first | (refine nxRS ?_) | (refine nxRS1 fun _ => ?_))
    | (show RM _ _ _ _ _ _ _ _ _ _; first | (refine nxRM ?_) | (refine nxRM1 fun _ => ?_))
    | (refine nxG ?_)
    | (refine nxX ?_)
    | (refine G.condN rfl (fun hc => ?_) (fun hc => ?_) <;> (try first | exact False.elim hc | (exfalso; omega))))
  exact X.ret (vs := [_]) rfl ⟨rfl, rfl⟩ rfl (fun w hw => ⟨rfl, hw.ext⟩)
theorem rformat_c {n : Nat} (h : n ≤ 1000000000) : Cont Tryz.prog 65 [.int .i64 (n : Int), .int .i64 0] (strV (Lib.itoa (n : Int))) := fun w => by
  have h1 := rdigits_c (n := n) (l := 1) (by omega)
  rw [rD_one, ← itoa_nat] at h1
  have h1' : Cont Tryz.prog 76 [.int .i64 ((n : Int) / 1), .int .i64 1] (strV (Lib.itoa (n : Int))) := by rw [Int.ediv_one]; exact h1
  have hb : (Lib.itoa (n : Int)).length ≤ 100 := by
    have := pad_len (n := (n : Int)) (k := 0) (by omega) (by decide)
    unfold padL at this
    rw [List.length_append] at this
    omega
  refine enter0 Tryz.func65 rfl rfl rfl ?_
  repeat' (first
    | (show YK _ _ _ _ _ _ _; first | refine YK.mk (y_callA (rpower_c) ⟨rfl, rfl⟩) ?_ | refine YK.mk (y_callA (h1') ⟨rfl, rfl, rfl⟩) ?_)
    | (show YK _ _ _ _ _ _ _; refine YK.ofV vAuto ?_)
    | (show VK _ _ _ _ _ _ _; refine VK.mk vAuto ?_)
    | (show RS _ _ _ _ _ _ _ _; first | (refine nxRS ?_) | (refine nxRS1 fun _ => ?_))
    | (show RM _ _ _ _ _ _ _ _ _ _; first | (refine nxRM ?_) | (refine nxRM1 fun _ => ?_))
    | (show YG _ _ _ _ _ _ _ _; refine YG.mk (fun hb => by (try (have hc := And.left hb; have hb := And.right hb; rw [hc])); (try rw [hb]); first | exact (y_callA (rpower_c) ⟨rfl, rfl⟩) | exact (y_callA (h1') ⟨rfl, rfl, rfl⟩) | exact V.y vAuto) ?_)
    | (show VG _ _ _ _ _ _ _ _; refine VG.mk (fun hb => by (try (have hc := And.left hb; have hb := And.right hb; rw [hc])); (try rw [hb]); exact vAuto) ?_)
    | (refine nxVS ?_)
    | (refine nxGS ?_)
    | (refine nxX ?_)
    | (refine G.condN rfl (fun hc => ?_) (fun hc => ?_) <;> (try first | exact False.elim hc | (exfalso; omega))))
  exact X.ret (vs := [_]) rfl ⟨rfl, rfl⟩ rfl (fun w hw => ⟨rfl, hw.ext⟩)
theorem repeat_one (c : UInt8) : ∀ j : Nat, Lib.repeatL [c] j = List.replicate j c
  | 0 => by unfold Lib.repeatL; rfl
  | j + 1 => by
    show [c] ++ Lib.repeatL [c] j = _
    rw [repeat_one c j]; rfl
theorem rpadded_c {n : Nat} {k : Int} (h : n ≤ 1000000000) (hk : 0 ≤ k ∧ k ≤ 10) : Cont Tryz.prog 49 [.int .i64 (n : Int), .int .i64 k] (strV (padL (n : Int) k)) := fun w => by
  have h1 := rformat_c h
  have hb : (Lib.itoa (n : Int)).length ≤ 100 := by
    have := pad_len (n := (n : Int)) (k := 0) (by omega) (by decide)
    unfold padL at this
    rw [List.length_append] at this
    omega
  unfold padL
  rw [repeat_one]
  obtain ⟨s0, hs⟩ : ∃ s0, Lib.itoa (n : Int) = s0 := ⟨_, rfl⟩
  rw [hs] at h1 hb ⊢
  refine enter0 Tryz.func49 rfl rfl rfl ?_
  repeat' (first
    | (show YK _ _ _ _ _ _ _; first | refine YK.mk (y_callA (h1) ⟨rfl, rfl, rfl⟩) ?_)
    | (show YK _ _ _ _ _ _ _; refine YK.ofV vAuto ?_)
    | (show VK _ _ _ _ _ _ _; refine VK.mk vAuto ?_)
    | (show RS _ _ _ _ _ _ _ _; first | (refine nxRS ?_) | (refine nxRS1 fun _ => ?_))
    | (show RM _ _ _ _ _ _ _ _ _ _; first | (refine nxRM ?_) | (refine nxRM1 fun _ => ?_))
    | (show YG _ _ _ _ _ _ _ _; refine YG.mk (fun hb => by (try (have hc := And.left hb; have hb := And.right hb; rw [hc])); (try rw [hb]); first | exact (y_callA (h1) ⟨rfl, rfl, rfl⟩) | exact V.y vAuto) ?_)
    | (show VG _ _ _ _ _ _ _ _; refine VG.mk (fun hb => by (try (have hc := And.left hb; have hb := And.right hb; rw [hc])); (try rw [hb]); exact vAuto) ?_)
    | (refine nxX ?_)
    | (refine G.condN rfl (fun hc => ?_) (fun hc => ?_) <;> (try first | exact False.elim hc | (exfalso; omega))))
  refine G.loop (ι := Nat) (fun j => [(1, .int .i64 k), (5, strV (List.replicate j 48 ++ s0))]) (fun _ => []) (fun j => j = 0 ∨ (j : Int) + s0.length ≤ k) (fun j => 20 - j) 0 (.inl rfl) ⟨rfl, rfl, trivial⟩ (fun w h => h) ?_
  rintro j mx g1 hmx
  have hl : (List.replicate j (48 : UInt8) ++ s0).length = j + s0.length := by simp
  by_cases hj : (j : Int) + s0.length < k
  · repeat' (first
    | (refine nxV ?_)
    | (show RS _ _ _ _ _ _ _ _; first | (refine nxRS ?_) | (refine nxRS1 fun _ => ?_))
    | (show RM _ _ _ _ _ _ _ _ _ _; first | (refine nxRM ?_) | (refine nxRM1 fun _ => ?_))
    | (refine nxG ?_)
    | (refine nxVS ?_)
    | (refine nxGS ?_)
    | (refine nxX ?_)
    | (refine G.condN rfl (fun hc => ?_) (fun hc => ?_) <;> (try first | exact False.elim hc | (exfalso; omega))))
    refine X.again (j + 1) (.inr (by omega)) (by omega) ⟨rfl, rfl, trivial⟩ ?_
    exact fun w h => h.sub (by repeat (first | exact List.Sublist.refl _ | apply List.Sublist.cons_cons | apply List.Sublist.cons))
  · have e : (max 0 (k - (s0.length : Int))).toNat = j := by omega
    repeat' (first
    | (refine nxV ?_)
    | (show RS _ _ _ _ _ _ _ _; first | (refine nxRS ?_) | (refine nxRS1 fun _ => ?_))
    | (show RM _ _ _ _ _ _ _ _ _ _; first | (refine nxRM ?_) | (refine nxRM1 fun _ => ?_))
    | (refine nxG ?_)
    | (refine nxVS ?_)
    | (refine nxGS ?_)
    | (refine nxX ?_)
    | (refine G.condN rfl (fun hc => ?_) (fun hc => ?_) <;> (try first | exact False.elim hc | (exfalso; omega))))
    exact X.ret (vs := [_]) rfl ⟨rfl, rfl⟩ rfl (fun w hw => ⟨by rw [e], hw.ext⟩)
theorem rtext_c {y m d : Int} (hv : validB y m d = true) : Cont Tryz.prog 27 [dateV y m d] (strV (dateL y m d)) := fun w => by
  obtain ⟨hy, hm, hd⟩ := valid_of hv
  have hdm := dim_bd y m
  obtain ⟨Y, rfl⟩ := Int.eq_ofNat_of_zero_le (show 0 ≤ y by omega)
  obtain ⟨M, rfl⟩ := Int.eq_ofNat_of_zero_le (show 0 ≤ m by omega)
  obtain ⟨D, rfl⟩ := Int.eq_ofNat_of_zero_le (show 0 ≤ d by omega)
  have h1 := rpadded_c (n := Y) (k := 4) (by omega) (by decide)
  have h2 := rpadded_c (n := M) (k := 2) (by omega) (by decide)
  have h3 := rpadded_c (n := D) (k := 2) (by omega) (by decide)
  have l1 := pad_len (n := (Y : Int)) (k := 4) (by omega) (by decide)
  have l2 := pad_len (n := (M : Int)) (k := 2) (by omega) (by decide)
  have l3 := pad_len (n := (D : Int)) (k := 2) (by omega) (by decide)
  refine enter0 Tryz.func27 rfl rfl rfl ?_
  repeat' (first
    | (show YK _ _ _ _ _ _ _; first | refine YK.mk (y_callA (h1) ⟨rfl, rfl, rfl⟩) ?_ | refine YK.mk (y_callA (h2) ⟨rfl, rfl, rfl⟩) ?_ | refine YK.mk (y_callA (h3) ⟨rfl, rfl, rfl⟩) ?_)
    | (show YK _ _ _ _ _ _ _; refine YK.ofV vAuto ?_)
    | (show VK _ _ _ _ _ _ _; refine VK.mk vAuto ?_)
    | (show RS _ _ _ _ _ _ _ _; first | (refine nxRS ?_) | (refine nxRS1 fun _ => ?_))
    | (show RM _ _ _ _ _ _ _ _ _ _; first | (refine nxRM ?_) | (refine nxRM1 fun _ => ?_))
    | (show YG _ _ _ _ _ _ _ _; refine YG.mk (fun hb => by (try (have hc := And.left hb; have hb := And.right hb; rw [hc])); (try rw [hb]); first | exact (y_callA (h1) ⟨rfl, rfl, rfl⟩) | exact (y_callA (h2) ⟨rfl, rfl, rfl⟩) | exact (y_callA (h3) ⟨rfl, rfl, rfl⟩) | exact V.y vAuto) ?_)
    | (show VG _ _ _ _ _ _ _ _; refine VG.mk (fun hb => by (try (have hc := And.left hb; have hb := And.right hb; rw [hc])); (try rw [hb]); exact vAuto) ?_)
    | (refine nxVS ?_)
    | (refine nxGS ?_)
    | (refine G.mixedA 1 [.go 0, .go 1, .go 4, .go 5, .go 9, .go 10, .go 2, .go 3, .go 6, .go 7, .go 8, .go 11, .go 12, .go 13] ?_)
    | (refine nxX ?_)
    | (refine G.condN rfl (fun hc => ?_) (fun hc => ?_) <;> (try first | exact False.elim hc | (exfalso; omega))))
  exact X.ret (vs := [_]) rfl ⟨rfl, rfl⟩ rfl (fun w hw => ⟨rfl, hw.ext⟩)
/-- The number of some digits; -1: another byte. -/
def numQ (acc : Int) : List UInt8 → Int
  | [] => acc
  | b :: r => if (b.toNat : Int) < 48 ∨ 57 < (b.toNat : Int) then -1 else numQ (10 * acc + ((b.toNat : Int) - 48)) r
theorem rnum_c (l : List UInt8) (hl : l.length ≤ 10) : Cont Tryz.prog 54 [strV l] (.int .i64 (numQ 0 l)) := fun w => by
  refine enter0 Tryz.func54 rfl rfl rfl ?_
  repeat' (first
    | (refine nxV ?_)
    | (show RS _ _ _ _ _ _ _ _; first | (refine nxRS ?_) | (refine nxRS1 fun _ => ?_))
    | (show RM _ _ _ _ _ _ _ _ _ _; first | (refine nxRM ?_) | (refine nxRM1 fun _ => ?_))
    | (refine nxG ?_)
    | (refine nxVS ?_)
    | (refine nxGS ?_)
    | (refine nxX ?_)
    | (refine G.condN rfl (fun hc => ?_) (fun hc => ?_) <;> (try first | exact False.elim hc | (exfalso; omega))))
  refine G.loop (ι := Nat × Int) (fun x => [(0, strV l), (3, .int .i64 x.2), (4, .int .i64 (x.1 : Int))]) (fun _ => []) (fun x => x.1 ≤ l.length ∧ (0 ≤ x.2 ∧ x.2 < 10 ^ x.1) ∧ numQ x.2 (l.drop x.1) = numQ 0 l) (fun x => l.length - x.1) (0, 0) ⟨Nat.zero_le _, by decide, rfl⟩ ⟨rfl, rfl, rfl, trivial⟩ (fun w h => h) ?_
  rintro ⟨i, acc⟩ mx ⟨g1, g2, g3⟩ hmx
  dsimp only at g1 g2 g3 hmx ⊢
  have hp : (10 : Int) ^ i ≤ 10000000000 := by
    have : (10 : Nat) ^ i ≤ 10000000000 := Nat.pow_le_pow_right (n := 10) (by decide) (show i ≤ 10 by omega)
    have h2 : ((10 ^ i : Nat) : Int) = (10 : Int) ^ i := by simp
    have h3 : ((10 ^ i : Nat) : Int) ≤ ((10000000000 : Nat) : Int) := Int.ofNat_le.2 this
    rw [← h2]; omega
  rcases Nat.lt_or_ge i l.length with hi | hi
  · rw [drop_cons hi] at g3
    have hb : (nth l (i : Int)).toNat < 256 := UInt8.toNat_lt _
    repeat' (first
    | (show YK _ _ _ _ _ ⟨_, .binOp .sub 5 _ _ _, _, _, _, _⟩ _; refine YK.ofV (V.int_ (y_sub (by rfl) (by rfl)) (IntWalk.u8_in _ (by omega))) ?_)
    | (refine nxV ?_)
    | (show RS _ _ _ _ _ _ _ _; first | (refine nxRS ?_) | (refine nxRS1 fun _ => ?_))
    | (show RM _ _ _ _ _ _ _ _ _ _; first | (refine nxRM ?_) | (refine nxRM1 fun _ => ?_))
    | (refine nxG ?_)
    | (refine nxVS ?_)
    | (refine nxGS ?_)
    | (refine nxX ?_)
    | (refine G.condN rfl (fun hc => ?_) (fun hc => ?_) <;> (try first | exact False.elim hc | (exfalso; omega))))
    · have e : numQ 0 l = -1 := by rw [← g3]; unfold numQ; rw [if_pos hc]
      exact X.ret (vs := [_]) rfl ⟨rfl, rfl⟩ rfl (fun w hw => ⟨by rw [e], hw.ext⟩)
    · have e : numQ (10 * acc + (((nth l (i : Int)).toNat : Int) - 48)) (l.drop (i + 1)) = numQ 0 l := by
        rw [← g3]
        conv => rhs; unfold numQ
        rw [if_neg (by omega)]
      refine X.again (i + 1, 10 * acc + (((nth l (i : Int)).toNat : Int) - 48)) ⟨by dsimp only; omega, by dsimp only; rw [Int.pow_succ]; omega, e⟩ (by dsimp only; omega) ⟨rfl, rfl, rfl, trivial⟩ ?_
      exact fun w h => h.sub (by repeat (first | exact List.Sublist.refl _ | apply List.Sublist.cons_cons | apply List.Sublist.cons))
  · obtain rfl : i = l.length := by omega
    rw [List.drop_length] at g3
    have e : numQ 0 l = acc := g3.symm
    repeat' (first
    | (refine nxV ?_)
    | (show RS _ _ _ _ _ _ _ _; first | (refine nxRS ?_) | (refine nxRS1 fun _ => ?_))
    | (show RM _ _ _ _ _ _ _ _ _ _; first | (refine nxRM ?_) | (refine nxRM1 fun _ => ?_))
    | (refine nxG ?_)
    | (refine nxVS ?_)
    | (refine nxGS ?_)
    | (refine nxX ?_)
    | (refine G.condN rfl (fun hc => ?_) (fun hc => ?_) <;> (try first | exact False.elim hc | (exfalso; omega))))
    exact X.ret (vs := [_]) rfl ⟨rfl, rfl⟩ rfl (fun w hw => ⟨by rw [e], hw.ext⟩)
def rparse (l : List UInt8) : Option (Int × Int × Int) := if l.length = 10 ∧ ((nth l 4).toNat : Int) = 45 ∧ ((nth l 7).toNat : Int) = 45 then
  if validB (numQ 0 (l.take 4)) (numQ 0 ((l.drop 5).take 2)) (numQ 0 (l.drop 8)) = true then some (numQ 0 (l.take 4), numQ 0 ((l.drop 5).take 2), numQ 0 (l.drop 8)) else none else none
def rparseV (r : Option (Int × Int × Int)) : Value := match r with
  | some x => .tuple [dateV x.1 x.2.1 x.2.2, .bool true].toArray
  | none => .tuple [dateV 0 0 0, .bool false].toArray
theorem rparse_c (l : List UInt8) : Cont Tryz.prog 32 [strV l] (rparseV (rparse l)) := fun w => by
  by_cases h0 : l.length = 10 ∧ ((nth l 4).toNat : Int) = 45 ∧ ((nth l 7).toNat : Int) = 45
  · have n1 := rnum_c (l.take 4) (by rw [List.length_take]; omega)
    have n2 := rnum_c ((l.drop 5).take 2) (by rw [List.length_take]; omega)
    have n3 := rnum_c (l.drop 8) (by rw [List.length_drop]; omega)
    have n4 := rvalid_c (numQ 0 (l.take 4)) (numQ 0 ((l.drop 5).take 2)) (numQ 0 (l.drop 8))
    cases hv : validB (numQ 0 (l.take 4)) (numQ 0 ((l.drop 5).take 2)) (numQ 0 (l.drop 8)) with
    | true =>
      have e : rparse l = some (numQ 0 (l.take 4), numQ 0 ((l.drop 5).take 2), numQ 0 (l.drop 8)) := by unfold rparse; rw [if_pos h0, if_pos hv]
      rw [hv] at n4
      refine enter0 Tryz.func32 rfl rfl rfl ?_
      repeat' (first
    | (show YK _ _ _ _ _ _ _; first | refine YK.mk (y_callA (n1) ⟨rfl, rfl⟩) ?_ | refine YK.mk (y_callA (n2) ⟨rfl, rfl⟩) ?_ | refine YK.mk (y_callA (n3) ⟨rfl, rfl⟩) ?_ | refine YK.mk (y_callA (n4) ⟨rfl, rfl⟩) ?_)
    | (show YK _ _ _ _ _ _ _; refine YK.ofV vAuto ?_)
    | (show VK _ _ _ _ _ _ _; refine VK.mk vAuto ?_)
    | (show RS _ _ _ _ _ _ _ _; first | (refine nxRS ?_) | (refine nxRS1 fun _ => ?_))
    | (show RM _ _ _ _ _ _ _ _ _ _; first | (refine nxRM ?_) | (refine nxRM1 fun _ => ?_))
    | (show YG _ _ _ _ _ _ _ _; refine YG.mk (fun hb => by (try (have hc := And.left hb; have hb := And.right hb; rw [hc])); (try rw [hb]); first | exact (y_callA (n1) ⟨rfl, rfl⟩) | exact (y_callA (n2) ⟨rfl, rfl⟩) | exact (y_callA (n3) ⟨rfl, rfl⟩) | exact (y_callA (n4) ⟨rfl, rfl⟩) | exact V.y vAuto) ?_)
    | (show VG _ _ _ _ _ _ _ _; refine VG.mk (fun hb => by (try (have hc := And.left hb; have hb := And.right hb; rw [hc])); (try rw [hb]); exact vAuto) ?_)
    | (refine nxVS ?_)
    | (refine nxGS ?_)
    | (refine G.mixedA 3 [.go 0, .go 1, .go 3, .go 4, .go 6, .go 7, .pend 10, .go 2, .go 5, .go 8, .go 9, .done, .go 11] ?_)
    | (refine nxX ?_)
    | (refine G.condN rfl (fun hc => ?_) (fun hc => ?_) <;> (try first | exact False.elim hc | (exfalso; omega))))
      exact X.ret (vs := [_, _]) rfl ⟨⟨_, _, _, _, rfl, (by exact memA), (by (repeat (first | exact .nil | apply LenIs.cons))), by decide +kernel, rfl⟩, rfl, rfl⟩ rfl (fun w hw => ⟨by rw [e]; rfl, hw.ext⟩)
    | false =>
      have e : rparse l = none := by unfold rparse; rw [if_pos h0, if_neg (by rw [hv]; decide)]
      rw [hv] at n4
      refine enter0 Tryz.func32 rfl rfl rfl ?_
      repeat' (first
    | (show YK _ _ _ _ _ _ _; first | refine YK.mk (y_callA (n1) ⟨rfl, rfl⟩) ?_ | refine YK.mk (y_callA (n2) ⟨rfl, rfl⟩) ?_ | refine YK.mk (y_callA (n3) ⟨rfl, rfl⟩) ?_ | refine YK.mk (y_callA (n4) ⟨rfl, rfl⟩) ?_)
    | (show YK _ _ _ _ _ _ _; refine YK.ofV vAuto ?_)
    | (show VK _ _ _ _ _ _ _; refine VK.mk vAuto ?_)
    | (show RS _ _ _ _ _ _ _ _; first | (refine nxRS ?_) | (refine nxRS1 fun _ => ?_))
    | (show RM _ _ _ _ _ _ _ _ _ _; first | (refine nxRM ?_) | (refine nxRM1 fun _ => ?_))
    | (show YG _ _ _ _ _ _ _ _; refine YG.mk (fun hb => by (try (have hc := And.left hb; have hb := And.right hb; rw [hc])); (try rw [hb]); first | exact (y_callA (n1) ⟨rfl, rfl⟩) | exact (y_callA (n2) ⟨rfl, rfl⟩) | exact (y_callA (n3) ⟨rfl, rfl⟩) | exact (y_callA (n4) ⟨rfl, rfl⟩) | exact V.y vAuto) ?_)
    | (show VG _ _ _ _ _ _ _ _; refine VG.mk (fun hb => by (try (have hc := And.left hb; have hb := And.right hb; rw [hc])); (try rw [hb]); exact vAuto) ?_)
    | (refine nxVS ?_)
    | (refine nxGS ?_)
    | (refine G.mixedA 3 [.go 0, .go 1, .go 3, .go 4, .go 6, .go 7, .pend 10, .go 2, .go 5, .go 8, .go 9, .done, .go 11] ?_)
    | (refine nxX ?_)
    | (refine G.condN rfl (fun hc => ?_) (fun hc => ?_) <;> (try first | exact False.elim hc | (exfalso; omega))))
      exact X.ret (vs := [_, _]) rfl ⟨⟨_, _, _, _, rfl, (by exact memA), (by (repeat (first | exact .nil | apply LenIs.cons))), by decide +kernel, rfl⟩, rfl, rfl⟩ rfl (fun w hw => ⟨by rw [e]; rfl, hw.ext⟩)
  · have e : rparse l = none := by unfold rparse; rw [if_neg h0]
    refine enter0 Tryz.func32 rfl rfl rfl ?_
    repeat' (first
    | (refine nxV ?_)
    | (show RS _ _ _ _ _ _ _ _; first | (refine nxRS ?_) | (refine nxRS1 fun _ => ?_))
    | (show RM _ _ _ _ _ _ _ _ _ _; first | (refine nxRM ?_) | (refine nxRM1 fun _ => ?_))
    | (refine nxG ?_)
    | (refine nxVS ?_)
    | (refine nxGS ?_)
    | (refine G.mixedA 3 [.go 0, .go 1, .go 3, .go 4, .go 6, .go 7, .pend 10, .go 2, .go 5, .go 8, .go 9, .done, .go 11] ?_)
    | (refine nxX ?_)
    | (refine G.condN rfl (fun hc => ?_) (fun hc => ?_) <;> (try first | exact False.elim hc | (exfalso; omega))))
    all_goals first | (exfalso; omega) | exact X.ret (vs := [_, _]) rfl ⟨⟨_, _, _, _, rfl, (by exact memA), (by (repeat (first | exact .nil | apply LenIs.cons))), by decide +kernel, rfl⟩, rfl, rfl⟩ rfl (fun w hw => ⟨by rw [e]; rfl, hw.ext⟩)
end Go.Proofs.YtpnfmbfehbnljaaGreatDoor
