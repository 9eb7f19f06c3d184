/- Joined texts: Rf6, Rf6b, Rf6c, Rf7, Rf7b, RfD, LawAp. -/
import Derived.Test.YtgmolcobhehoeaaGreatDoorWh
import Derived.Test.YtgmolcobhehoeaaGreatDoorWg
import Derived.Test.YtgmolcobhehoeaaGreatDoorWt
import Derived.Test.YtgmolcobhehoeaaGreatDoorWb
/- The reference's sines: the walks. -/
set_option linter.unusedVariables false
set_option maxHeartbeats 8000000
namespace Go.Proofs.YtgmolcobhehoeaaGreatDoor
open Go.RowKit
section
variable {P : Program} {n : Nat} {L : FL} {w0 : World} {H : List Hl} {d : Option Tmp} {ty : TypeId} {pos : String} {af : Array Edge} {g : Option (Nat × Bool)} {x y : Operand} {t t' : TypeId} {m m' r : Int}
theorem mask31 {m : Int} (h : 0 ≤ m ∧ m ≤ 9223372036854775807) : bits .and .i64 m 2147483647 = m % 2147483648 := by
  have h1 : (BitVec.ofInt 64 m &&& BitVec.ofInt 64 2147483647).toNat = m.toNat % 2147483648 := by
    rw [BitVec.toNat_and, BitVec.toNat_ofInt, BitVec.toNat_ofInt]
    have e1 : (m % ((2 ^ 64 : Nat) : Int)).toNat = m.toNat := by
      have := Int.emod_eq_of_lt (a := m) (b := ((2 ^ 64 : Nat) : Int)) (by omega) (by omega)
      omega
    rw [e1]
    exact Nat.and_two_pow_sub_one_eq_mod m.toNat 31
  show IntKind.i64.wrap ((BitVec.ofInt 64 m &&& BitVec.ofInt 64 2147483647).toNat : Int) = _
  rw [h1, IntWalk.i64_in _ (by omega)]; omega
theorem y_mask31 (hx : evO L x = some (.int .i64 m)) (hy : evO L y = some (.int .i64 2147483647)) (h : 0 ≤ m ∧ m ≤ 9223372036854775807) : V P n L w0 H ⟨d, .binOp .and t x y t', ty, pos, af, g⟩ (.int .i64 (m % 2147483648)) := by
  have := y_band (P := P) (n := n) (w0 := w0) (H := H) (d := d) (ty := ty) (pos := pos) (af := af) (g := g) (t := t) (t' := t') hx hy
  rwa [mask31 h] at this
theorem y_quoN (hx : evO L x = some (.int .i64 m)) (hy : evO L y = some (.int .i64 m')) (h : m.tdiv m' = r) (h0 : m' ≠ 0) (hr : -9223372036854775808 ≤ r ∧ r ≤ 9223372036854775807) : V P n L w0 H ⟨d, .binOp .quo t x y t', ty, pos, af, g⟩ (.int .i64 r) := by
  have := y_quo (P := P) (n := n) (w0 := w0) (H := H) (d := d) (ty := ty) (pos := pos) (af := af) (g := g) (t := t) (t' := t') hx hy h0
  rwa [h, IntWalk.i64_in r hr] at this
theorem y_remN (hx : evO L x = some (.int .i64 m)) (hy : evO L y = some (.int .i64 m')) (h : m.tmod m' = r) (h0 : m' ≠ 0) : V P n L w0 H ⟨d, .binOp .rem t x y t', ty, pos, af, g⟩ (.int .i64 r) := by
  have := y_rem (P := P) (n := n) (w0 := w0) (H := H) (d := d) (ty := ty) (pos := pos) (af := af) (g := g) (t := t) (t' := t') hx hy h0
  rwa [h] at this
theorem y_addN (hx : evO L x = some (.int .i64 m)) (hy : evO L y = some (.int .i64 m')) (h : m + m' = r) (hr : -9223372036854775808 ≤ r ∧ r ≤ 9223372036854775807) : V P n L w0 H ⟨d, .binOp .add t x y t', ty, pos, af, g⟩ (.int .i64 r) := by
  have := y_add (P := P) (n := n) (w0 := w0) (H := H) (d := d) (ty := ty) (pos := pos) (af := af) (g := g) (t := t) (t' := t') hx hy
  rwa [h, IntWalk.i64_in r hr] at this
end
theorem hi62_int (a b : Nat) : ((TT.hi62 a b : Nat) : Int) = (a : Int) / 2147483648 * ((b : Int) / 2147483648) + (a : Int) / 2147483648 * ((b : Int) % 2147483648) / 2147483648 + (a : Int) % 2147483648 * ((b : Int) / 2147483648) / 2147483648 := by
  unfold TT.hi62
  simp only [Int.natCast_add, Int.natCast_mul, Int.natCast_ediv, Int.natCast_emod]
  rfl
theorem high_c {a b : Nat} (ha : a ≤ TT.W62) (hb : b ≤ TT.W62) : Cont Tryz.prog 262 [.int .i64 (a : Int), .int .i64 (b : Int)] (.int .i64 ((TT.hi62 a b : Nat) : Int)) := fun w => by
  have e := hi62_int a b
  have ha' : a ≤ 4611686018427387904 := ha
  have hb' : b ≤ 4611686018427387904 := hb
  have k1 := TT.abs_mul_le (A := 2147483648) (u := 2147483648) (a := (a : Int) / 2147483648) (t := (b : Int) / 2147483648) (by omega) (by omega)
  have k2 := TT.abs_mul_le (A := 2147483648) (u := 2147483648) (a := (a : Int) / 2147483648) (t := (b : Int) % 2147483648) (by omega) (by omega)
  have k3 := TT.abs_mul_le (A := 2147483648) (u := 2147483648) (a := (a : Int) % 2147483648) (t := (b : Int) / 2147483648) (by omega) (by omega)
  refine enter0 Tryz.func262 rfl rfl rfl ?_
  repeat' (first
    | (show YK _ _ _ _ _ ⟨_, .binOp .and _ _ _ _, _, _, _, _⟩ _; refine YK.ofV (y_mask31 (by rfl) (by rfl) (by omega)) ?_)
    | (refine nxV ?_)
    | (show RS _ _ _ _ _ _ _ _; first | (refine nxRS ?_) | (refine nxRS1 fun _ => ?_))
    | (show RM _ _ _ _ _ _ _ _ _ _; first | (refine nxRM ?_) | (refine nxRM1 fun _ => ?_))
    | (refine nxG ?_)
    | (refine nxX ?_)
    | (refine G.condN rfl (fun hc => ?_) (fun hc => ?_) <;> (try first | exact False.elim hc | (exfalso; omega))))
  exact X.ret (vs := [_]) rfl ⟨rfl, rfl⟩ rfl (fun w hw => ⟨congrArg Ending.returned (congrArg (Value.int .i64) e.symm), hw.ext⟩)
/-- What the loop of a quick series leans on. -/
structure QF (t : Nat → Nat) (s o : Nat) (R : Int) : Prop where
  rec' : ∀ i, t (i + 1) = TT.hi62 (t i) s / TT.dd o i
  dec : ∀ i, t (i + 1) ≤ t i
  bd : t 0 ≤ TT.W62
  fin : t 12 = 0
  ans : ∀ k, k ≤ 12 → t k = 0 → R = TT.sq t 0 k
  hs : s ≤ TT.W62
  ho : o ≤ 1
theorem QF.le {t : Nat → Nat} {s o : Nat} {R : Int} (h : QF t s o R) : ∀ i, t i ≤ TT.W62
  | 0 => h.bd
  | i + 1 => Nat.le_trans (h.dec i) (h.le i)
theorem qf_of {o r : Nat} (ho : o ≤ 1) (hr : r ≤ 2700000) : QF (TT.tq o (TT.radQ r) (TT.hi62 (TT.radQ r) (TT.radQ r))) (TT.hi62 (TT.radQ r) (TT.radQ r)) o (TT.quickF o r) where
  rec' := fun i => rfl
  dec := fun i => by
    have := TT.tq_dec (o := o) (x := TT.radQ r) (s := TT.hi62 (TT.radQ r) (TT.radQ r)) (Nat.le_trans (TT.sqQ_le hr) (by decide)) i
    omega
  bd := by
    have := TT.radQ_le hr
    unfold TT.tq
    split
    · exact Nat.le_trans this (by decide)
    · exact Nat.le_refl _
  fin := TT.tq_end ho hr
  ans := fun k hk h => TT.quick_at hr hk h
  hs := Nat.le_trans (TT.sqQ_le hr) (by decide)
  ho := ho
theorem dd_int (o i : Nat) : ((TT.dd o i : Nat) : Int) = (2 * (i : Int) + 1 + o) * (2 * (i : Int) + 2 + o) := by
  unfold TT.dd
  simp only [Int.natCast_add, Int.natCast_mul]
  rfl
theorem quo_int {a b : Nat} {D : Int} (h : ((b : Nat) : Int) = D) : ((a : Nat) : Int).tdiv D = ((a / b : Nat) : Int) := by
  subst h
  rw [Int.tdiv_eq_ediv_of_nonneg (by omega)]; rfl
theorem quickG_c {rn : Nat} (hr : rn ≤ 2700000) {c : Bool} {o : Nat} (hco : c = true ∧ o = 0 ∨ c = false ∧ o = 1) : Cont Tryz.prog 239 [.int .i64 (rn : Int), .bool c] (.int .i64 (TT.quickF o rn)) := fun w => by
  have hq := qf_of (o := o) (by omega) hr
  have ht0 : TT.tq o (TT.radQ rn) (TT.hi62 (TT.radQ rn) (TT.radQ rn)) 0 = if o = 1 then TT.radQ rn else 4611686018427387904 := rfl
  have hxl := TT.radQ_le hr
  have hx : (rn : Int) * 2620088056 * 512 + (rn : Int) * 658911831 / 4194304 = ((TT.radQ rn : Nat) : Int) := by
    unfold TT.radQ
    simp only [Int.natCast_add, Int.natCast_mul, Int.natCast_ediv]
    rfl
  have q0 := high_c (a := TT.radQ rn) (b := TT.radQ rn) (by unfold TT.W62; omega) (by unfold TT.W62; omega)
  generalize TT.quickF o rn = R at *
  generalize TT.tq o (TT.radQ rn) (TT.hi62 (TT.radQ rn) (TT.radQ rn)) = t at *
  generalize TT.hi62 (TT.radQ rn) (TT.radQ rn) = s at *
  generalize TT.radQ rn = x at *
  rcases hco with ⟨rfl, rfl⟩ | ⟨rfl, rfl⟩
  · rw [if_neg (by decide)] at ht0
    refine enter0 Tryz.func239 rfl rfl rfl ?_
    repeat' (first
    | (show YK _ _ _ _ _ ⟨_, .binOp .shl _ _ _ _, _, _, _, _⟩ _; refine YK.ofV (y_shl (q := 512) (by rfl) (by rfl) (by decide) (by decide) (IntWalk.i64_in _ (by omega))) ?_)
    | (show YK _ _ _ _ _ ⟨_, .binOp .shr _ _ _ _, _, _, _, _⟩ _; refine YK.ofV (y_shr (q := 4194304) (by rfl) (by rfl) (by decide) (by decide)) ?_)
    | (show YK _ _ _ _ _ ⟨some 16, .binOp .add _ _ _ _, _, _, _, _⟩ _; refine YK.ofV (y_addN (by rfl) (by rfl) hx (by omega)) ?_)
    | (show YK _ _ _ _ _ _ _; first | refine YK.mk (y_callA (q0) ⟨rfl, rfl, rfl⟩) ?_)
    | (show YK _ _ _ _ _ _ _; refine YK.ofV vAuto ?_)
    | (show VK _ _ _ _ _ _ _; refine VK.mk vAuto ?_)
    | (show RS _ _ _ _ _ _ _ _; first | (refine nxRS ?_) | (refine nxRS1 fun _ => ?_))
    | (show RM _ _ _ _ _ _ _ _ _ _; first | (refine nxRM ?_) | (refine nxRM1 fun _ => ?_))
    | (show YG _ _ _ _ _ _ _ _; refine YG.mk (fun hb => by (try (have hc := And.left hb; have hb := And.right hb; rw [hc])); (try rw [hb]); first | exact (y_callA (q0) ⟨rfl, rfl, rfl⟩) | exact V.y vAuto) ?_)
    | (show VG _ _ _ _ _ _ _ _; refine VG.mk (fun hb => by (try (have hc := And.left hb; have hb := And.right hb; rw [hc])); (try rw [hb]); exact vAuto) ?_)
    | (refine nxX ?_)
    | (refine G.condN rfl (fun hc => ?_) (fun hc => ?_) <;> (try first | exact False.elim hc | (exfalso; omega))))
    refine G.loop (ι := Nat) (fun j => [(6, .int .i64 (s : Int)), (7, .int .i64 ((t (2 * j) : Nat) : Int)), (8, .int .i64 (4 * (j : Int) + 1 + ((0 : Nat) : Int))), (9, .int .i64 (TT.sq t 0 (2 * j)))]) (fun _ => []) (fun j => 2 * j ≤ 12) (fun j => 12 - 2 * j) 0 (by omega) ⟨rfl, congrArg (fun z : Nat => some (Value.int .i64 (z : Int))) ht0.symm, rfl, rfl, trivial⟩ (by exact fun w h => h.sub (by repeat (first | exact List.Sublist.refl _ | apply List.Sublist.cons_cons | apply List.Sublist.cons))) ?_
    rintro j mx g1 hmx
    (try dsimp only at g1 hmx ⊢)
    rcases Nat.eq_zero_or_pos (t (2 * j)) with hz | hz
    · have hR := hq.ans (2 * j) g1 hz
      repeat' (first
    | (refine nxV ?_)
    | (show RS _ _ _ _ _ _ _ _; first | (refine nxRS ?_) | (refine nxRS1 fun _ => ?_))
    | (show RM _ _ _ _ _ _ _ _ _ _; first | (refine nxRM ?_) | (refine nxRM1 fun _ => ?_))
    | (refine nxG ?_)
    | (refine nxX ?_)
    | (refine G.condN rfl (fun hc => ?_) (fun hc => ?_) <;> (try first | exact False.elim hc | (exfalso; omega))))
      exact X.ret (vs := [_]) rfl ⟨rfl, rfl⟩ rfl (fun w hw => ⟨congrArg Ending.returned (congrArg (Value.int .i64) hR.symm), hw.ext⟩)
    · have hj : 2 * j < 12 := by
        rcases Nat.lt_or_ge (2 * j) 12 with h | h
        · exact h
        · have e : 2 * j = 12 := by omega
          have hf := hq.fin
          rw [e] at hz
          omega
      have l0 := hq.le (2 * j)
      have l1 := hq.le (2 * j + 1)
      have q1 := high_c (a := t (2 * j)) (b := s) l0 hq.hs
      have q2 := high_c (a := t (2 * j + 1)) (b := s) l1 hq.hs
      have b0 := TT.sq_bd hq.dec (2 * j) 0
      have b1 := TT.sq_bd hq.dec (2 * j + 1) 0
      have b2 := TT.sq_bd hq.dec (2 * j + 2) 0
      have s1 : TT.sq t 0 (2 * j + 1) = TT.sq t 0 (2 * j) + ((t (2 * j) : Nat) : Int) := by
        rw [TT.sq_snoc, if_pos (by omega), Nat.zero_add]
      have s2 : TT.sq t 0 (2 * j + 2) = TT.sq t 0 (2 * j + 1) + -((t (2 * j + 1) : Nat) : Int) := by
        rw [TT.sq_snoc (m := 2 * j + 1), if_neg (by omega), Nat.zero_add]
      have d1 := dd_int 0 (2 * j)
      have d2 := dd_int 0 (2 * j + 1)
      have r1 := hq.rec' (2 * j)
      have r2 := hq.rec' (2 * j + 1)
      have bd := hq.bd
      obtain ⟨d, hd⟩ : ∃ d : Int, 4 * (j : Int) + 1 + ((0 : Nat) : Int) = d := ⟨_, rfl⟩
      rw [show (2 * ((2 * j : Nat) : Int) + 1 + ((0 : Nat) : Int)) = d by omega, show (2 * ((2 * j : Nat) : Int) + 2 + ((0 : Nat) : Int)) = d + 1 by omega] at d1
      rw [show (2 * ((2 * j + 1 : Nat) : Int) + 1 + ((0 : Nat) : Int)) = d + 2 by omega, show (2 * ((2 * j + 1 : Nat) : Int) + 2 + ((0 : Nat) : Int)) = d + 3 by omega] at d2
      have m1 := quo_int (a := TT.hi62 (t (2 * j)) s) d1
      have m2 := quo_int (a := TT.hi62 (t (2 * j + 1)) s) d2
      rw [← r1] at m1
      rw [← r2] at m2
      have hd0 : 1 ≤ d ∧ d ≤ 30 := by omega
      have n1 := TT.abs_mul_le (A := 100) (u := 100) (a := d) (t := d + 1) (by omega) (by omega)
      have n2 := TT.abs_mul_le (A := 100) (u := 100) (a := d + 2) (t := d + 3) (by omega) (by omega)
      have p1 : d * (d + 1) ≠ 0 := Int.ne_of_gt (Int.mul_pos (by omega) (by omega))
      have p2 : (d + 2) * (d + 3) ≠ 0 := Int.ne_of_gt (Int.mul_pos (by omega) (by omega))
      have hS : TT.sq t 0 (2 * j) + ((t (2 * j) : Nat) : Int) - ((t (2 * j + 1) : Nat) : Int) = TT.sq t 0 (2 * (j + 1)) := by
        show _ = TT.sq t 0 (2 * j + 2)
        omega
      have hdn : d + 4 = 4 * ((j + 1 : Nat) : Int) + 1 + ((0 : Nat) : Int) := by omega
      have l2 := hq.le (2 * j + 1 + 1)
      unfold TT.W62 at l0 l1 l2 bd
      rw [hd]
      clear d1 d2 r1 r2 hq ht0 hx hxl q0 hd
      repeat' (first
    | (show YK _ _ _ _ _ ⟨some 34, .binOp .quo _ _ _ _, _, _, _, _⟩ _; refine YK.ofV (y_quoN (by rfl) (by rfl) m1 p1 (by omega)) ?_)
    | (show YK _ _ _ _ _ ⟨some 46, .binOp .quo _ _ _ _, _, _, _, _⟩ _; refine YK.ofV (y_quoN (by rfl) (by rfl) m2 p2 (by omega)) ?_)
    | (show YK _ _ _ _ _ _ _; first | refine YK.mk (y_callA (q1) ⟨rfl, rfl, rfl⟩) ?_ | refine YK.mk (y_callA (q2) ⟨rfl, rfl, rfl⟩) ?_)
    | (show YK _ _ _ _ _ _ _; refine YK.ofV vAuto ?_)
    | (show VK _ _ _ _ _ _ _; refine VK.mk vAuto ?_)
    | (show RS _ _ _ _ _ _ _ _; first | (refine nxRS ?_) | (refine nxRS1 fun _ => ?_))
    | (show RM _ _ _ _ _ _ _ _ _ _; first | (refine nxRM ?_) | (refine nxRM1 fun _ => ?_))
    | (show YG _ _ _ _ _ _ _ _; refine YG.mk (fun hb => by (try (have hc := And.left hb; have hb := And.right hb; rw [hc])); (try rw [hb]); first | exact (y_callA (q1) ⟨rfl, rfl, rfl⟩) | exact (y_callA (q2) ⟨rfl, rfl, rfl⟩) | exact V.y vAuto) ?_)
    | (show VG _ _ _ _ _ _ _ _; refine VG.mk (fun hb => by (try (have hc := And.left hb; have hb := And.right hb; rw [hc])); (try rw [hb]); exact vAuto) ?_)
    | (refine nxX ?_)
    | (refine G.condN rfl (fun hc => ?_) (fun hc => ?_) <;> (try first | exact False.elim hc | (exfalso; omega))))
      exact X.again (j + 1) (by omega) (by omega) ⟨rfl, rfl, congrArg (fun z => some (Value.int .i64 z)) hdn, congrArg (fun z => some (Value.int .i64 z)) hS, trivial⟩ (by exact fun w h => h.sub (by repeat (first | exact List.Sublist.refl _ | apply List.Sublist.cons_cons | apply List.Sublist.cons)))
  · rw [if_pos rfl] at ht0
    refine enter0 Tryz.func239 rfl rfl rfl ?_
    repeat' (first
    | (show YK _ _ _ _ _ ⟨_, .binOp .shl _ _ _ _, _, _, _, _⟩ _; refine YK.ofV (y_shl (q := 512) (by rfl) (by rfl) (by decide) (by decide) (IntWalk.i64_in _ (by omega))) ?_)
    | (show YK _ _ _ _ _ ⟨_, .binOp .shr _ _ _ _, _, _, _, _⟩ _; refine YK.ofV (y_shr (q := 4194304) (by rfl) (by rfl) (by decide) (by decide)) ?_)
    | (show YK _ _ _ _ _ ⟨some 16, .binOp .add _ _ _ _, _, _, _, _⟩ _; refine YK.ofV (y_addN (by rfl) (by rfl) hx (by omega)) ?_)
    | (show YK _ _ _ _ _ _ _; first | refine YK.mk (y_callA (q0) ⟨rfl, rfl, rfl⟩) ?_)
    | (show YK _ _ _ _ _ _ _; refine YK.ofV vAuto ?_)
    | (show VK _ _ _ _ _ _ _; refine VK.mk vAuto ?_)
    | (show RS _ _ _ _ _ _ _ _; first | (refine nxRS ?_) | (refine nxRS1 fun _ => ?_))
    | (show RM _ _ _ _ _ _ _ _ _ _; first | (refine nxRM ?_) | (refine nxRM1 fun _ => ?_))
    | (show YG _ _ _ _ _ _ _ _; refine YG.mk (fun hb => by (try (have hc := And.left hb; have hb := And.right hb; rw [hc])); (try rw [hb]); first | exact (y_callA (q0) ⟨rfl, rfl, rfl⟩) | exact V.y vAuto) ?_)
    | (show VG _ _ _ _ _ _ _ _; refine VG.mk (fun hb => by (try (have hc := And.left hb; have hb := And.right hb; rw [hc])); (try rw [hb]); exact vAuto) ?_)
    | (refine nxX ?_)
    | (refine G.condN rfl (fun hc => ?_) (fun hc => ?_) <;> (try first | exact False.elim hc | (exfalso; omega))))
    refine G.loop (ι := Nat) (fun j => [(6, .int .i64 (s : Int)), (7, .int .i64 ((t (2 * j) : Nat) : Int)), (8, .int .i64 (4 * (j : Int) + 1 + ((1 : Nat) : Int))), (9, .int .i64 (TT.sq t 0 (2 * j)))]) (fun _ => []) (fun j => 2 * j ≤ 12) (fun j => 12 - 2 * j) 0 (by omega) ⟨rfl, congrArg (fun z : Nat => some (Value.int .i64 (z : Int))) ht0.symm, rfl, rfl, trivial⟩ (by exact fun w h => h.sub (by repeat (first | exact List.Sublist.refl _ | apply List.Sublist.cons_cons | apply List.Sublist.cons))) ?_
    rintro j mx g1 hmx
    (try dsimp only at g1 hmx ⊢)
    rcases Nat.eq_zero_or_pos (t (2 * j)) with hz | hz
    · have hR := hq.ans (2 * j) g1 hz
      repeat' (first
    | (refine nxV ?_)
    | (show RS _ _ _ _ _ _ _ _; first | (refine nxRS ?_) | (refine nxRS1 fun _ => ?_))
    | (show RM _ _ _ _ _ _ _ _ _ _; first | (refine nxRM ?_) | (refine nxRM1 fun _ => ?_))
    | (refine nxG ?_)
    | (refine nxX ?_)
    | (refine G.condN rfl (fun hc => ?_) (fun hc => ?_) <;> (try first | exact False.elim hc | (exfalso; omega))))
      exact X.ret (vs := [_]) rfl ⟨rfl, rfl⟩ rfl (fun w hw => ⟨congrArg Ending.returned (congrArg (Value.int .i64) hR.symm), hw.ext⟩)
    · have hj : 2 * j < 12 := by
        rcases Nat.lt_or_ge (2 * j) 12 with h | h
        · exact h
        · have e : 2 * j = 12 := by omega
          have hf := hq.fin
          rw [e] at hz
          omega
      have l0 := hq.le (2 * j)
      have l1 := hq.le (2 * j + 1)
      have q1 := high_c (a := t (2 * j)) (b := s) l0 hq.hs
      have q2 := high_c (a := t (2 * j + 1)) (b := s) l1 hq.hs
      have b0 := TT.sq_bd hq.dec (2 * j) 0
      have b1 := TT.sq_bd hq.dec (2 * j + 1) 0
      have b2 := TT.sq_bd hq.dec (2 * j + 2) 0
      have s1 : TT.sq t 0 (2 * j + 1) = TT.sq t 0 (2 * j) + ((t (2 * j) : Nat) : Int) := by
        rw [TT.sq_snoc, if_pos (by omega), Nat.zero_add]
      have s2 : TT.sq t 0 (2 * j + 2) = TT.sq t 0 (2 * j + 1) + -((t (2 * j + 1) : Nat) : Int) := by
        rw [TT.sq_snoc (m := 2 * j + 1), if_neg (by omega), Nat.zero_add]
      have d1 := dd_int 1 (2 * j)
      have d2 := dd_int 1 (2 * j + 1)
      have r1 := hq.rec' (2 * j)
      have r2 := hq.rec' (2 * j + 1)
      have bd := hq.bd
      obtain ⟨d, hd⟩ : ∃ d : Int, 4 * (j : Int) + 1 + ((1 : Nat) : Int) = d := ⟨_, rfl⟩
      rw [show (2 * ((2 * j : Nat) : Int) + 1 + ((1 : Nat) : Int)) = d by omega, show (2 * ((2 * j : Nat) : Int) + 2 + ((1 : Nat) : Int)) = d + 1 by omega] at d1
      rw [show (2 * ((2 * j + 1 : Nat) : Int) + 1 + ((1 : Nat) : Int)) = d + 2 by omega, show (2 * ((2 * j + 1 : Nat) : Int) + 2 + ((1 : Nat) : Int)) = d + 3 by omega] at d2
      have m1 := quo_int (a := TT.hi62 (t (2 * j)) s) d1
      have m2 := quo_int (a := TT.hi62 (t (2 * j + 1)) s) d2
      rw [← r1] at m1
      rw [← r2] at m2
      have hd0 : 1 ≤ d ∧ d ≤ 30 := by omega
      have n1 := TT.abs_mul_le (A := 100) (u := 100) (a := d) (t := d + 1) (by omega) (by omega)
      have n2 := TT.abs_mul_le (A := 100) (u := 100) (a := d + 2) (t := d + 3) (by omega) (by omega)
      have p1 : d * (d + 1) ≠ 0 := Int.ne_of_gt (Int.mul_pos (by omega) (by omega))
      have p2 : (d + 2) * (d + 3) ≠ 0 := Int.ne_of_gt (Int.mul_pos (by omega) (by omega))
      have hS : TT.sq t 0 (2 * j) + ((t (2 * j) : Nat) : Int) - ((t (2 * j + 1) : Nat) : Int) = TT.sq t 0 (2 * (j + 1)) := by
        show _ = TT.sq t 0 (2 * j + 2)
        omega
      have hdn : d + 4 = 4 * ((j + 1 : Nat) : Int) + 1 + ((1 : Nat) : Int) := by omega
      have l2 := hq.le (2 * j + 1 + 1)
      unfold TT.W62 at l0 l1 l2 bd
      rw [hd]
      clear d1 d2 r1 r2 hq ht0 hx hxl q0 hd
      repeat' (first
    | (show YK _ _ _ _ _ ⟨some 34, .binOp .quo _ _ _ _, _, _, _, _⟩ _; refine YK.ofV (y_quoN (by rfl) (by rfl) m1 p1 (by omega)) ?_)
    | (show YK _ _ _ _ _ ⟨some 46, .binOp .quo _ _ _ _, _, _, _, _⟩ _; refine YK.ofV (y_quoN (by rfl) (by rfl) m2 p2 (by omega)) ?_)
    | (show YK _ _ _ _ _ _ _; first | refine YK.mk (y_callA (q1) ⟨rfl, rfl, rfl⟩) ?_ | refine YK.mk (y_callA (q2) ⟨rfl, rfl, rfl⟩) ?_)
    | (show YK _ _ _ _ _ _ _; refine YK.ofV vAuto ?_)
    | (show VK _ _ _ _ _ _ _; refine VK.mk vAuto ?_)
    | (show RS _ _ _ _ _ _ _ _; first | (refine nxRS ?_) | (refine nxRS1 fun _ => ?_))
    | (show RM _ _ _ _ _ _ _ _ _ _; first | (refine nxRM ?_) | (refine nxRM1 fun _ => ?_))
    | (show YG _ _ _ _ _ _ _ _; refine YG.mk (fun hb => by (try (have hc := And.left hb; have hb := And.right hb; rw [hc])); (try rw [hb]); first | exact (y_callA (q1) ⟨rfl, rfl, rfl⟩) | exact (y_callA (q2) ⟨rfl, rfl, rfl⟩) | exact V.y vAuto) ?_)
    | (show VG _ _ _ _ _ _ _ _; refine VG.mk (fun hb => by (try (have hc := And.left hb; have hb := And.right hb; rw [hc])); (try rw [hb]); exact vAuto) ?_)
    | (refine nxX ?_)
    | (refine G.condN rfl (fun hc => ?_) (fun hc => ?_) <;> (try first | exact False.elim hc | (exfalso; omega))))
      exact X.again (j + 1) (by omega) (by omega) ⟨rfl, rfl, congrArg (fun z => some (Value.int .i64 z)) hdn, congrArg (fun z => some (Value.int .i64 z)) hS, trivial⟩ (by exact fun w h => h.sub (by repeat (first | exact List.Sublist.refl _ | apply List.Sublist.cons_cons | apply List.Sublist.cons)))
end Go.Proofs.YtgmolcobhehoeaaGreatDoor
/- The reference's sines: Exact, Quick, Floor, Below, the enclosures. -/
set_option linter.unusedVariables false
set_option maxHeartbeats 8000000
namespace Go.Proofs.YtgmolcobhehoeaaGreatDoor
open Go.RowKit
theorem quick_c {r : Int} (h : 0 ≤ r ∧ r ≤ 2700000) {c : Bool} {o : Nat} (hco : c = true ∧ o = 0 ∨ c = false ∧ o = 1) : Cont Tryz.prog 239 [.int .i64 r, .bool c] (.int .i64 (TT.quickF o r.toNat)) := by
  have q := quickG_c (rn := r.toNat) (by omega) hco
  rwa [Int.toNat_of_nonneg h.1] at q
theorem quickF_bd {o r : Nat} (ho : o ≤ 1) (hr : r ≤ 2700000) : 0 ≤ TT.quickF o r ∧ TT.quickF o r ≤ 4611686018427387904 := by
  have hq := qf_of ho hr
  have h := TT.sq_bd hq.dec 12 0
  have e := hq.ans 12 (by omega) hq.fin
  have hb : TT.tq o (TT.radQ r) (TT.hi62 (TT.radQ r) (TT.radQ r)) 0 ≤ 4611686018427387904 := hq.bd
  rw [e]; omega
def quickV (q r : Int) : Int :=
  let c := decide (q % 2 = 1)
  let v := if r > 2700000 then TT.quickF (if c then 1 else 0) (5400000 - r).toNat else TT.quickF (if c then 0 else 1) r.toNat
  if q ≥ 2 then 0 - v else v
theorem quickI_V (n : Int) : TT.quickI n = quickV (TT.turnI n / 5400000) (TT.turnI n % 5400000) := rfl
theorem quickQ_c {n a q r : Int} (hn : -4611686018427387904 ≤ n ∧ n ≤ 4611686018427387904) (ha : n.tmod 21600000 < 0 ∧ n.tmod 21600000 + 21600000 = a ∨ 0 ≤ n.tmod 21600000 ∧ n.tmod 21600000 = a) (hb : -21600000 < n.tmod 21600000 ∧ n.tmod 21600000 < 21600000) (hq : a.tdiv 5400000 = q) (hr : a.tmod 5400000 = r) (q4 : 0 ≤ q ∧ q ≤ 3) (r0 : 0 ≤ r ∧ r < 5400000) :
    Cont Tryz.prog 210 [.int .i64 n] (.int .i64 (quickV q r)) := fun w => by
  have hq' : q = 0 ∨ q = 1 ∨ q = 2 ∨ q = 3 := by omega
  by_cases hg : r > 2700000
  · have b0 := quickF_bd (o := 0) (r := (5400000 - r).toNat) (by omega) (by omega)
    have b1 := quickF_bd (o := 1) (r := (5400000 - r).toNat) (by omega) (by omega)
    have q1 := quick_c (r := 5400000 - r) (by omega) (c := true) (o := 0) (.inl ⟨rfl, rfl⟩)
    have q2 := quick_c (r := 5400000 - r) (by omega) (c := false) (o := 1) (.inr ⟨rfl, rfl⟩)
    have e0 : quickV 0 r = TT.quickF 0 (5400000 - r).toNat := by unfold quickV; dsimp only; rw [if_pos hg, if_neg (show ¬ (0 : Int) ≥ 2 by decide), if_neg (show ¬ (decide ((0 : Int) % 2 = 1) = true) by decide)]
    have e1 : quickV 1 r = TT.quickF 1 (5400000 - r).toNat := by unfold quickV; dsimp only; rw [if_pos hg, if_neg (show ¬ (1 : Int) ≥ 2 by decide), if_pos (show decide ((1 : Int) % 2 = 1) = true by decide)]
    have e2 : quickV 2 r = 0 - TT.quickF 0 (5400000 - r).toNat := by unfold quickV; dsimp only; rw [if_pos hg, if_pos (show (2 : Int) ≥ 2 by decide), if_neg (show ¬ (decide ((2 : Int) % 2 = 1) = true) by decide)]
    have e3 : quickV 3 r = 0 - TT.quickF 1 (5400000 - r).toNat := by unfold quickV; dsimp only; rw [if_pos hg, if_pos (show (3 : Int) ≥ 2 by decide), if_pos (show decide ((3 : Int) % 2 = 1) = true by decide)]
    generalize TT.quickF 0 (5400000 - r).toNat = v0 at *
    generalize TT.quickF 1 (5400000 - r).toNat = v1 at *
    rcases hq' with rfl | rfl | rfl | rfl <;> rcases ha with ⟨h1, h2⟩ | ⟨h1, h2⟩ <;> subst h2 <;> (
      first | rw [e0] | rw [e1] | rw [e2] | rw [e3]
      clear e0 e1 e2 e3
      refine enter0 Tryz.func210 rfl rfl rfl ?_
      repeat' (first
    | (show YK _ _ _ _ _ ⟨some 14, .binOp .quo _ _ _ _, _, _, _, _⟩ _; refine YK.ofV (y_quoN (by rfl) (by rfl) hq (by decide) (by omega)) ?_)
    | (show YK _ _ _ _ _ ⟨some 16, .binOp .rem _ _ _ _, _, _, _, _⟩ _; refine YK.ofV (y_remN (by rfl) (by rfl) hr (by decide)) ?_)
    | (show YK _ _ _ _ _ _ _; first | refine YK.mk (y_callA (q1) ⟨rfl, rfl, rfl⟩) ?_ | refine YK.mk (y_callA (q2) ⟨rfl, rfl, rfl⟩) ?_)
    | (show YK _ _ _ _ _ _ _; refine YK.ofV vAuto ?_)
    | (show VK _ _ _ _ _ _ _; refine VK.mk vAuto ?_)
    | (show RS _ _ _ _ _ _ _ _; first | (refine nxRS ?_) | (refine nxRS1 fun _ => ?_))
    | (show RM _ _ _ _ _ _ _ _ _ _; first | (refine nxRM ?_) | (refine nxRM1 fun _ => ?_))
    | (show YG _ _ _ _ _ _ _ _; refine YG.mk (fun hb => by (try (have hc := And.left hb; have hb := And.right hb; rw [hc])); (try rw [hb]); first | exact (y_callA (q1) ⟨rfl, rfl, rfl⟩) | exact (y_callA (q2) ⟨rfl, rfl, rfl⟩) | exact V.y vAuto) ?_)
    | (show VG _ _ _ _ _ _ _ _; refine VG.mk (fun hb => by (try (have hc := And.left hb; have hb := And.right hb; rw [hc])); (try rw [hb]); exact vAuto) ?_)
    | (refine nxX ?_)
    | (refine G.condN rfl (fun hc => ?_) (fun hc => ?_) <;> (try first | exact False.elim hc | (exfalso; omega))))
      all_goals exact X.ret (vs := [_]) rfl ⟨rfl, rfl⟩ rfl (fun w hw => ⟨rfl, hw.ext⟩))
  · have b0 := quickF_bd (o := 0) (r := r.toNat) (by omega) (by omega)
    have b1 := quickF_bd (o := 1) (r := r.toNat) (by omega) (by omega)
    have q1 := quick_c (r := r) (by omega) (c := true) (o := 0) (.inl ⟨rfl, rfl⟩)
    have q2 := quick_c (r := r) (by omega) (c := false) (o := 1) (.inr ⟨rfl, rfl⟩)
    have e0 : quickV 0 r = TT.quickF 1 r.toNat := by unfold quickV; dsimp only; rw [if_neg hg, if_neg (show ¬ (0 : Int) ≥ 2 by decide), if_neg (show ¬ (decide ((0 : Int) % 2 = 1) = true) by decide)]
    have e1 : quickV 1 r = TT.quickF 0 r.toNat := by unfold quickV; dsimp only; rw [if_neg hg, if_neg (show ¬ (1 : Int) ≥ 2 by decide), if_pos (show decide ((1 : Int) % 2 = 1) = true by decide)]
    have e2 : quickV 2 r = 0 - TT.quickF 1 r.toNat := by unfold quickV; dsimp only; rw [if_neg hg, if_pos (show (2 : Int) ≥ 2 by decide), if_neg (show ¬ (decide ((2 : Int) % 2 = 1) = true) by decide)]
    have e3 : quickV 3 r = 0 - TT.quickF 0 r.toNat := by unfold quickV; dsimp only; rw [if_neg hg, if_pos (show (3 : Int) ≥ 2 by decide), if_pos (show decide ((3 : Int) % 2 = 1) = true by decide)]
    generalize TT.quickF 0 r.toNat = v0 at *
    generalize TT.quickF 1 r.toNat = v1 at *
    rcases hq' with rfl | rfl | rfl | rfl <;> rcases ha with ⟨h1, h2⟩ | ⟨h1, h2⟩ <;> subst h2 <;> (
      first | rw [e0] | rw [e1] | rw [e2] | rw [e3]
      clear e0 e1 e2 e3
      refine enter0 Tryz.func210 rfl rfl rfl ?_
      repeat' (first
    | (show YK _ _ _ _ _ ⟨some 14, .binOp .quo _ _ _ _, _, _, _, _⟩ _; refine YK.ofV (y_quoN (by rfl) (by rfl) hq (by decide) (by omega)) ?_)
    | (show YK _ _ _ _ _ ⟨some 16, .binOp .rem _ _ _ _, _, _, _, _⟩ _; refine YK.ofV (y_remN (by rfl) (by rfl) hr (by decide)) ?_)
    | (show YK _ _ _ _ _ _ _; first | refine YK.mk (y_callA (q1) ⟨rfl, rfl, rfl⟩) ?_ | refine YK.mk (y_callA (q2) ⟨rfl, rfl, rfl⟩) ?_)
    | (show YK _ _ _ _ _ _ _; refine YK.ofV vAuto ?_)
    | (show VK _ _ _ _ _ _ _; refine VK.mk vAuto ?_)
    | (show RS _ _ _ _ _ _ _ _; first | (refine nxRS ?_) | (refine nxRS1 fun _ => ?_))
    | (show RM _ _ _ _ _ _ _ _ _ _; first | (refine nxRM ?_) | (refine nxRM1 fun _ => ?_))
    | (show YG _ _ _ _ _ _ _ _; refine YG.mk (fun hb => by (try (have hc := And.left hb; have hb := And.right hb; rw [hc])); (try rw [hb]); first | exact (y_callA (q1) ⟨rfl, rfl, rfl⟩) | exact (y_callA (q2) ⟨rfl, rfl, rfl⟩) | exact V.y vAuto) ?_)
    | (show VG _ _ _ _ _ _ _ _; refine VG.mk (fun hb => by (try (have hc := And.left hb; have hb := And.right hb; rw [hc])); (try rw [hb]); exact vAuto) ?_)
    | (refine nxX ?_)
    | (refine G.condN rfl (fun hc => ?_) (fun hc => ?_) <;> (try first | exact False.elim hc | (exfalso; omega))))
      all_goals exact X.ret (vs := [_]) rfl ⟨rfl, rfl⟩ rfl (fun w hw => ⟨rfl, hw.ext⟩))
theorem turn_ha (n : Int) : (n.tmod 21600000 < 0 ∧ n.tmod 21600000 + 21600000 = TT.turnI n ∨ 0 ≤ n.tmod 21600000 ∧ n.tmod 21600000 = TT.turnI n) ∧ -21600000 < n.tmod 21600000 ∧ n.tmod 21600000 < 21600000 := by
  have ht := tmod_turn n
  unfold TT.turnI
  omega
theorem Quick_c {n : Int} (hn : -4611686018427387904 ≤ n ∧ n ≤ 4611686018427387904) : Cont Tryz.prog 210 [.int .i64 n] (.int .i64 (TT.quickI n)) := by
  obtain ⟨h1, h2⟩ := turn_ha n
  obtain ⟨m0, m1⟩ := TT.turnI_bd n
  rw [quickI_V]
  exact quickQ_c hn h1 h2 (Int.tdiv_eq_ediv_of_nonneg m0) (Int.tmod_eq_emod_of_nonneg m0) (by omega) (by omega)
theorem flo_bd (n : Int) : -1073741824 ≤ (TT.floI n).1 ∧ (TT.floI n).1 ≤ 1073741824 := by
  have h := TT.bnd_bd n
  rw [← TT.ends_bnd] at h
  have e : (TT.endsI n).1 = (TT.floI n).1 := by unfold TT.endsI; split <;> rfl
  rw [e] at h
  omega
def exaV (k : Int) : Int × Bool := match k.toNat with
  | 0 => (0, true) | 1 => (536870912, true) | 3 => (1073741824, true) | 5 => (536870912, true) | 6 => (0, true) | 7 => (-536870912, true) | 9 => (-1073741824, true) | 11 => (-536870912, true)
  | _ => (0, false)
section
variable {P : Program} {n : Nat} {L : FL} {w0 : World} {H : List Hl} {Q : Exit → Act → World → Prop} {ops : Array Oper} {rest : List Oper} {dd : Nat} {ty : TypeId} {pos : String} {af : Array Edge} {t e : TypeId} {bytes : Nat}
theorem RS.lit12K {a b c d f g h i j k l m : Int} (hh : ∀ v' : Sl, RS P ops Q n ((dd, v'.v) :: L) w0 (Hl.rw v'.v e cI 1 [a, b, c, d, f, g, h, i, j, k, l, m] :: H) rest) [ht : RowTy P t e 1 bytes] (hd : Nat.blt dd n = true := by rfl) :
    RS P ops Q n L w0 H (⟨some dd, .buildSlice t 12 #[(0, .const (.int .i64 a)), (1, .const (.int .i64 b)), (2, .const (.int .i64 c)), (3, .const (.int .i64 d)), (4, .const (.int .i64 f)), (5, .const (.int .i64 g)), (6, .const (.int .i64 h)), (7, .const (.int .i64 i)), (8, .const (.int .i64 j)), (9, .const (.int .i64 k)), (10, .const (.int .i64 l)), (11, .const (.int .i64 m))], ty, pos, af, none⟩ :: rest) :=
  RS.actX rfl (x_lit (parts := [(0, .const (.int .i64 a)), (1, .const (.int .i64 b)), (2, .const (.int .i64 c)), (3, .const (.int .i64 d)), (4, .const (.int .i64 f)), (5, .const (.int .i64 g)), (6, .const (.int .i64 h)), (7, .const (.int .i64 i)), (8, .const (.int .i64 j)), (9, .const (.int .i64 k)), (10, .const (.int .i64 l)), (11, .const (.int .i64 m))]) (vs := [.int .i64 a, .int .i64 b, .int .i64 c, .int .i64 d, .int .i64 f, .int .i64 g, .int .i64 h, .int .i64 i, .int .i64 j, .int .i64 k, .int .i64 l, .int .i64 m]) (f := cI) (l := [a, b, c, d, f, g, h, i, j, k, l, m]) ⟨rfl, rfl, rfl, rfl, rfl, rfl, rfl, rfl, rfl, rfl, rfl, rfl, rfl⟩ rfl rfl rfl rfl rfl rfl (rowTy_B ht.is) hd) fun v' _ => hh v'
theorem RS.lit4K {a b c d : Int} (hh : ∀ v' : Sl, RS P ops Q n ((dd, v'.v) :: L) w0 (Hl.rw v'.v e cI 1 [a, b, c, d] :: H) rest) [ht : RowTy P t e 1 bytes] (hd : Nat.blt dd n = true := by rfl) :
    RS P ops Q n L w0 H (⟨some dd, .buildSlice t 4 #[(0, .const (.int .i64 a)), (1, .const (.int .i64 b)), (2, .const (.int .i64 c)), (3, .const (.int .i64 d))], ty, pos, af, none⟩ :: rest) :=
  RS.actX rfl (x_lit (parts := [(0, .const (.int .i64 a)), (1, .const (.int .i64 b)), (2, .const (.int .i64 c)), (3, .const (.int .i64 d))]) (vs := [.int .i64 a, .int .i64 b, .int .i64 c, .int .i64 d]) (f := cI) (l := [a, b, c, d]) ⟨rfl, rfl, rfl, rfl, rfl⟩ rfl rfl rfl rfl rfl rfl (rowTy_B ht.is) hd) fun v' _ => hh v'
end
theorem exactK_c {n a k : Int} (hn : -4611686018427387904 ≤ n ∧ n ≤ 4611686018427387904) (ha : n.tmod 21600000 < 0 ∧ n.tmod 21600000 + 21600000 = a ∨ 0 ≤ n.tmod 21600000 ∧ n.tmod 21600000 = a) (hb : -21600000 < n.tmod 21600000 ∧ n.tmod 21600000 < 21600000) (hq : a.tdiv 1800000 = k) (hr : a.tmod 1800000 = 0) (q4 : 0 ≤ k ∧ k ≤ 11) :
    Cont Tryz.prog 209 [.int .i64 n] (.tuple [.int .i64 (exaV k).1, .bool (exaV k).2].toArray) := fun w => by
  have hk : k = 0 ∨ k = 1 ∨ k = 2 ∨ k = 3 ∨ k = 4 ∨ k = 5 ∨ k = 6 ∨ k = 7 ∨ k = 8 ∨ k = 9 ∨ k = 10 ∨ k = 11 := by omega
  rcases hk with rfl | rfl | rfl | rfl | rfl | rfl | rfl | rfl | rfl | rfl | rfl | rfl <;> rcases ha with ⟨h1, h2⟩ | ⟨h1, h2⟩ <;> subst h2 <;> (
    refine enter0 Tryz.func209 rfl rfl rfl ?_
    repeat' (first
    | (show YK _ _ _ _ _ ⟨some 13, .binOp .rem _ _ _ _, _, _, _, _⟩ _; refine YK.ofV (y_remN (by rfl) (by rfl) hr (by decide)) ?_)
    | (show YK _ _ _ _ _ ⟨some 16, .binOp .quo _ _ _ _, _, _, _, _⟩ _; refine YK.ofV (y_quoN (by rfl) (by rfl) hq (by decide) (by omega)) ?_)
    | (show RS _ _ _ _ _ _ _ (⟨some 17, .buildSlice _ _ _, _, _, _, _⟩ :: _); refine RS.lit12K ?_; intro z1)
    | (show RS _ _ _ _ _ _ _ (⟨some 21, .buildSlice _ _ _, _, _, _, _⟩ :: _); refine RS.lit4K ?_; intro z2)
    | (refine nxV ?_)
    | (show RS _ _ _ _ _ _ _ _; first | (refine nxRS ?_) | (refine nxRS1 fun _ => ?_))
    | (show RM _ _ _ _ _ _ _ _ _ _; first | (refine nxRM ?_) | (refine nxRM1 fun _ => ?_))
    | (refine nxG ?_)
    | (refine nxX ?_)
    | (refine G.condN rfl (fun hc => ?_) (fun hc => ?_) <;> (try first | exact False.elim hc | (exfalso; omega))))
    all_goals first
      | (exfalso; revert hc; decide)
      | (exact X.ret (vs := [_, _]) rfl ⟨rfl, rfl, rfl⟩ rfl (fun w hw => ⟨rfl, hw.ext⟩)))
end Go.Proofs.YtgmolcobhehoeaaGreatDoor
/- The reference's sines: Floor, Below, the enclosures. -/
set_option linter.unusedVariables false
set_option maxHeartbeats 8000000
namespace Go.Proofs.YtgmolcobhehoeaaGreatDoor
open Go.RowKit
theorem exactN_c {n a : Int} (hn : -4611686018427387904 ≤ n ∧ n ≤ 4611686018427387904) (ha : n.tmod 21600000 < 0 ∧ n.tmod 21600000 + 21600000 = a ∨ 0 ≤ n.tmod 21600000 ∧ n.tmod 21600000 = a) (hb : -21600000 < n.tmod 21600000 ∧ n.tmod 21600000 < 21600000) {r : Int} (hr : a.tmod 1800000 = r) (hr0 : r ≠ 0) :
    Cont Tryz.prog 209 [.int .i64 n] (.tuple [.int .i64 0, .bool false].toArray) := fun w => by
  rcases ha with ⟨h1, h2⟩ | ⟨h1, h2⟩ <;> subst h2 <;> (
    refine enter0 Tryz.func209 rfl rfl rfl ?_
    repeat' (first
    | (show YK _ _ _ _ _ ⟨some 13, .binOp .rem _ _ _ _, _, _, _, _⟩ _; refine YK.ofV (y_remN (by rfl) (by rfl) hr (by decide)) ?_)
    | (refine nxV ?_)
    | (show RS _ _ _ _ _ _ _ _; first | (refine nxRS ?_) | (refine nxRS1 fun _ => ?_))
    | (show RM _ _ _ _ _ _ _ _ _ _; first | (refine nxRM ?_) | (refine nxRM1 fun _ => ?_))
    | (refine nxG ?_)
    | (refine nxX ?_)
    | (refine G.condN rfl (fun hc => ?_) (fun hc => ?_) <;> (try first | exact False.elim hc | (exfalso; omega))))
    exact X.ret (vs := [_, _]) rfl ⟨rfl, rfl, rfl⟩ rfl (fun w hw => ⟨rfl, hw.ext⟩))
theorem Exact_c {n : Int} (hn : -4611686018427387904 ≤ n ∧ n ≤ 4611686018427387904) : Cont Tryz.prog 209 [.int .i64 n] (.tuple [.int .i64 (TT.exaI n).1, .bool (TT.exaI n).2].toArray) := by
  obtain ⟨h1, h2⟩ := turn_ha n
  obtain ⟨m0, m1⟩ := TT.turnI_bd n
  by_cases h : TT.turnI n % 1800000 = 0
  · have e : TT.exaI n = exaV (TT.turnI n / 1800000) := by
      unfold TT.exaI exaV
      rw [if_neg (fun g => g h)]
      generalize (TT.turnI n / 1800000).toNat = k
      rfl
    rw [e]
    exact exactK_c hn h1 h2 (Int.tdiv_eq_ediv_of_nonneg m0) (by rw [Int.tmod_eq_emod_of_nonneg m0]; exact h) (by omega)
  · have e : TT.exaI n = (0, false) := by
      unfold TT.exaI
      rw [if_pos h]
    rw [e]
    exact exactN_c hn h1 h2 (Int.tmod_eq_emod_of_nonneg m0) h
theorem quickI_bd (n : Int) : -4611686018427387904 ≤ TT.quickI n ∧ TT.quickI n ≤ 4611686018427387904 := by
  obtain ⟨m0, m1⟩ := TT.turnI_bd n
  rw [quickI_V]
  unfold quickV
  dsimp only
  have key : ∀ (b : Bool) (r : Nat), r ≤ 2700000 → 0 ≤ TT.quickF (if b = true then 1 else 0) r ∧ TT.quickF (if b = true then 1 else 0) r ≤ 4611686018427387904 := fun b r hr => quickF_bd (by cases b <;> decide) hr
  have key2 : ∀ (b : Bool) (r : Nat), r ≤ 2700000 → 0 ≤ TT.quickF (if b = true then 0 else 1) r ∧ TT.quickF (if b = true then 0 else 1) r ≤ 4611686018427387904 := fun b r hr => quickF_bd (by cases b <;> decide) hr
  by_cases hg : TT.turnI n % 5400000 > 2700000
  · rw [if_pos hg]
    have := key (decide (TT.turnI n / 5400000 % 2 = 1)) (5400000 - TT.turnI n % 5400000).toNat (by omega)
    split <;> omega
  · rw [if_neg hg]
    have := key2 (decide (TT.turnI n / 5400000 % 2 = 1)) (TT.turnI n % 5400000).toNat (by omega)
    split <;> omega
theorem Floor6_c {n : Int} (hn : -4611686018427387904 ≤ n ∧ n ≤ 4611686018427387904) : Cont Tryz.prog 193 [.int .i64 n] (.tuple [.int .i64 (TT.floI n).1, .bool (TT.floI n).2].toArray) := fun w => by
  have q1 := Exact_c hn
  have q2 := Quick_c hn
  have hb := quickI_bd n
  have hdec := TT.decided (n := n)
  have ef : TT.floI n = if (TT.exaI n).2 = true then TT.exaI n else (TT.quickI n / 4294967296, false) := rfl
  rw [ef]
  clear ef
  generalize TT.exaI n = x at *
  generalize TT.quickI n = v at *
  obtain ⟨x1, x2⟩ := x
  cases x2 with
  | true =>
    rw [if_pos rfl]
    refine enter0 Tryz.func193 rfl rfl rfl ?_
    repeat' (first
    | (show YK _ _ _ _ _ _ _; first | refine YK.mk (y_callA (q1) ⟨rfl, rfl⟩) ?_)
    | (show YK _ _ _ _ _ _ _; refine YK.ofV vAuto ?_)
    | (show VK _ _ _ _ _ _ _; refine VK.mk vAuto ?_)
    | (show RS _ _ _ _ _ _ _ _; first | (refine nxRS ?_) | (refine nxRS1 fun _ => ?_))
    | (show RM _ _ _ _ _ _ _ _ _ _; first | (refine nxRM ?_) | (refine nxRM1 fun _ => ?_))
    | (show YG _ _ _ _ _ _ _ _; refine YG.mk (fun hb => by (try (have hc := And.left hb; have hb := And.right hb; rw [hc])); (try rw [hb]); first | exact (y_callA (q1) ⟨rfl, rfl⟩) | exact V.y vAuto) ?_)
    | (show VG _ _ _ _ _ _ _ _; refine VG.mk (fun hb => by (try (have hc := And.left hb; have hb := And.right hb; rw [hc])); (try rw [hb]); exact vAuto) ?_)
    | (refine G.mixedA 13 [.go 0, .go 1, .go 4, .pend 6, .go 2, .go 3, .go 5, .done, .go 7] ?_)
    | (refine G.mixedA 14 [.go 0, .go 1, .go 3, .pend 5, .go 2, .go 4, .done, .go 6] ?_)
    | (refine nxX ?_)
    | (refine G.condN rfl (fun hc => ?_) (fun hc => ?_) <;> (try first | exact False.elim hc | (exfalso; omega))))
    exact X.ret (vs := [_, _]) rfl ⟨rfl, rfl, rfl⟩ rfl (fun w hw => ⟨rfl, hw.ext⟩)
  | false =>
    rw [if_neg (fun g => by cases g)]
    have hd := hdec rfl
    clear hdec
    refine enter0 Tryz.func193 rfl rfl rfl ?_
    repeat' (first
    | (show YK _ _ _ _ _ ⟨_, .binOp .shr _ _ _ _, _, _, _, _⟩ _; refine YK.ofV (y_shr (q := 4294967296) (by rfl) (by rfl) (by decide) (by decide)) ?_)
    | (show YK _ _ _ _ _ _ _; first | refine YK.mk (y_callA (q1) ⟨rfl, rfl⟩) ?_ | refine YK.mk (y_callA (q2) ⟨rfl, rfl⟩) ?_)
    | (show YK _ _ _ _ _ _ _; refine YK.ofV vAuto ?_)
    | (show VK _ _ _ _ _ _ _; refine VK.mk vAuto ?_)
    | (show RS _ _ _ _ _ _ _ _; first | (refine nxRS ?_) | (refine nxRS1 fun _ => ?_))
    | (show RM _ _ _ _ _ _ _ _ _ _; first | (refine nxRM ?_) | (refine nxRM1 fun _ => ?_))
    | (show YG _ _ _ _ _ _ _ _; refine YG.mk (fun hb => by (try (have hc := And.left hb; have hb := And.right hb; rw [hc])); (try rw [hb]); first | exact (y_callA (q1) ⟨rfl, rfl⟩) | exact (y_callA (q2) ⟨rfl, rfl⟩) | exact V.y vAuto) ?_)
    | (show VG _ _ _ _ _ _ _ _; refine VG.mk (fun hb => by (try (have hc := And.left hb; have hb := And.right hb; rw [hc])); (try rw [hb]); exact vAuto) ?_)
    | (refine G.mixedA 13 [.go 0, .go 1, .go 4, .pend 6, .go 2, .go 3, .go 5, .done, .go 7] ?_)
    | (refine G.mixedA 14 [.go 0, .go 1, .go 3, .pend 5, .go 2, .go 4, .done, .go 6] ?_)
    | (refine nxX ?_)
    | (refine G.condN rfl (fun hc => ?_) (fun hc => ?_) <;> (try first | exact False.elim hc | (exfalso; omega))))
    all_goals exact X.ret (vs := [_, _]) rfl ⟨rfl, rfl, rfl⟩ rfl (fun w hw => ⟨rfl, hw.ext⟩)
theorem Below6_c {n v : Int} (hn : -4611686018427387904 ≤ n ∧ n ≤ 4611686018427387904) : Cont Tryz.prog 261 [.int .i64 n, .int .i64 v] (.int .i64 (TT.rbelI n v)) := fun w => by
  have q1 := Floor6_c hn
  unfold TT.rbelI
  generalize TT.floI n = x at *
  obtain ⟨x1, x2⟩ := x
  dsimp only at *
  cases x2 with
  | true =>
    refine enter0 Tryz.func261 rfl rfl rfl ?_
    repeat' (first
    | (show YK _ _ _ _ _ _ _; first | refine YK.mk (y_callA (q1) ⟨rfl, rfl⟩) ?_)
    | (show YK _ _ _ _ _ _ _; refine YK.ofV vAuto ?_)
    | (show VK _ _ _ _ _ _ _; refine VK.mk vAuto ?_)
    | (show RS _ _ _ _ _ _ _ _; first | (refine nxRS ?_) | (refine nxRS1 fun _ => ?_))
    | (show RM _ _ _ _ _ _ _ _ _ _; first | (refine nxRM ?_) | (refine nxRM1 fun _ => ?_))
    | (show YG _ _ _ _ _ _ _ _; refine YG.mk (fun hb => by (try (have hc := And.left hb; have hb := And.right hb; rw [hc])); (try rw [hb]); first | exact (y_callA (q1) ⟨rfl, rfl⟩) | exact V.y vAuto) ?_)
    | (show VG _ _ _ _ _ _ _ _; refine VG.mk (fun hb => by (try (have hc := And.left hb; have hb := And.right hb; rw [hc])); (try rw [hb]); exact vAuto) ?_)
    | (refine nxX ?_)
    | (refine G.condN rfl (fun hc => ?_) (fun hc => ?_) <;> (try first | exact False.elim hc | (exfalso; omega))))
    all_goals refine X.ret (vs := [_]) rfl ⟨rfl, rfl⟩ rfl (fun w hw => ⟨congrArg Ending.returned (congrArg (Value.int .i64) ?_), hw.ext⟩)
    all_goals (simp only [true_and]; (repeat' split) <;> first | omega | rfl | (exfalso; simp at hc; omega))
  | false =>
    refine enter0 Tryz.func261 rfl rfl rfl ?_
    repeat' (first
    | (show YK _ _ _ _ _ _ _; first | refine YK.mk (y_callA (q1) ⟨rfl, rfl⟩) ?_)
    | (show YK _ _ _ _ _ _ _; refine YK.ofV vAuto ?_)
    | (show VK _ _ _ _ _ _ _; refine VK.mk vAuto ?_)
    | (show RS _ _ _ _ _ _ _ _; first | (refine nxRS ?_) | (refine nxRS1 fun _ => ?_))
    | (show RM _ _ _ _ _ _ _ _ _ _; first | (refine nxRM ?_) | (refine nxRM1 fun _ => ?_))
    | (show YG _ _ _ _ _ _ _ _; refine YG.mk (fun hb => by (try (have hc := And.left hb; have hb := And.right hb; rw [hc])); (try rw [hb]); first | exact (y_callA (q1) ⟨rfl, rfl⟩) | exact V.y vAuto) ?_)
    | (show VG _ _ _ _ _ _ _ _; refine VG.mk (fun hb => by (try (have hc := And.left hb; have hb := And.right hb; rw [hc])); (try rw [hb]); exact vAuto) ?_)
    | (refine nxX ?_)
    | (refine G.condN rfl (fun hc => ?_) (fun hc => ?_) <;> (try first | exact False.elim hc | (exfalso; omega))))
    all_goals refine X.ret (vs := [_]) rfl ⟨rfl, rfl⟩ rfl (fun w hw => ⟨congrArg Ending.returned (congrArg (Value.int .i64) ?_), hw.ext⟩)
    all_goals (rw [if_neg (fun g => by cases g.1)]; split <;> first | omega | rfl)
theorem ends6_c {n : Int} (hn : -4611686018427387904 ≤ n ∧ n ≤ 4611686018427387904) : Cont Tryz.prog 145 [.int .i64 n] (.tuple [.int .i64 (TT.endsI n).1, .int .i64 (TT.endsI n).2].toArray) := fun w => by
  have q1 := Floor6_c hn
  have hb := flo_bd n
  unfold TT.endsI
  generalize TT.floI n = x at *
  obtain ⟨x1, x2⟩ := x
  cases x2 with
  | true =>
    refine enter0 Tryz.func145 rfl rfl rfl ?_
    repeat' (first
    | (show YK _ _ _ _ _ _ _; first | refine YK.mk (y_callA (q1) ⟨rfl, rfl⟩) ?_)
    | (show YK _ _ _ _ _ _ _; refine YK.ofV vAuto ?_)
    | (show VK _ _ _ _ _ _ _; refine VK.mk vAuto ?_)
    | (show RS _ _ _ _ _ _ _ _; first | (refine nxRS ?_) | (refine nxRS1 fun _ => ?_))
    | (show RM _ _ _ _ _ _ _ _ _ _; first | (refine nxRM ?_) | (refine nxRM1 fun _ => ?_))
    | (show YG _ _ _ _ _ _ _ _; refine YG.mk (fun hb => by (try (have hc := And.left hb; have hb := And.right hb; rw [hc])); (try rw [hb]); first | exact (y_callA (q1) ⟨rfl, rfl⟩) | exact V.y vAuto) ?_)
    | (show VG _ _ _ _ _ _ _ _; refine VG.mk (fun hb => by (try (have hc := And.left hb; have hb := And.right hb; rw [hc])); (try rw [hb]); exact vAuto) ?_)
    | (refine nxX ?_)
    | (refine G.condN rfl (fun hc => ?_) (fun hc => ?_) <;> (try first | exact False.elim hc | (exfalso; omega))))
    exact X.ret (vs := [_, _]) rfl ⟨rfl, rfl, rfl⟩ rfl (fun w hw => ⟨rfl, hw.ext⟩)
  | false =>
    refine enter0 Tryz.func145 rfl rfl rfl ?_
    repeat' (first
    | (show YK _ _ _ _ _ _ _; first | refine YK.mk (y_callA (q1) ⟨rfl, rfl⟩) ?_)
    | (show YK _ _ _ _ _ _ _; refine YK.ofV vAuto ?_)
    | (show VK _ _ _ _ _ _ _; refine VK.mk vAuto ?_)
    | (show RS _ _ _ _ _ _ _ _; first | (refine nxRS ?_) | (refine nxRS1 fun _ => ?_))
    | (show RM _ _ _ _ _ _ _ _ _ _; first | (refine nxRM ?_) | (refine nxRM1 fun _ => ?_))
    | (show YG _ _ _ _ _ _ _ _; refine YG.mk (fun hb => by (try (have hc := And.left hb; have hb := And.right hb; rw [hc])); (try rw [hb]); first | exact (y_callA (q1) ⟨rfl, rfl⟩) | exact V.y vAuto) ?_)
    | (show VG _ _ _ _ _ _ _ _; refine VG.mk (fun hb => by (try (have hc := And.left hb; have hb := And.right hb; rw [hc])); (try rw [hb]); exact vAuto) ?_)
    | (refine nxX ?_)
    | (refine G.condN rfl (fun hc => ?_) (fun hc => ?_) <;> (try first | exact False.elim hc | (exfalso; omega))))
    exact X.ret (vs := [_, _]) rfl ⟨rfl, rfl, rfl⟩ rfl (fun w hw => ⟨rfl, hw.ext⟩)
theorem hav6_c {n : Int} (hn : -2305843009213693952 ≤ n ∧ n ≤ 2305843009213693952) : Cont Tryz.prog 189 [.int .i64 n] (.tuple [.int .i64 (TT.rhavI n).1, .int .i64 (TT.rhavI n).2].toArray) := fun w => by
  have q1 := Floor6_c (n := n + 5400000) (by omega)
  have hb := flo_bd (n + 5400000)
  have hx : (TT.floI (n + 5400000)).2 = false → (TT.floI (n + 5400000)).1 ≤ 1073741823 := fun h => by
    have h2 := TT.bnd_bd (n + 5400000)
    rw [← TT.ends_bnd] at h2
    have e : TT.endsI (n + 5400000) = ((TT.floI (n + 5400000)).1, (TT.floI (n + 5400000)).1 + 1) := by unfold TT.endsI; rw [if_neg (by rw [h]; decide)]
    rw [e] at h2
    dsimp only at h2
    omega
  unfold TT.rhavI
  generalize TT.floI (n + 5400000) = x at *
  obtain ⟨x1, x2⟩ := x
  dsimp only at hb hx
  have t1 : (1073741824 - x1).tdiv 2 = (1073741824 - x1) / 2 := Int.tdiv_eq_ediv_of_nonneg (by omega)
  cases x2 with
  | true =>
    refine enter0 Tryz.func189 rfl rfl rfl ?_
    repeat' (first
    | (show YK _ _ _ _ _ ⟨_, .binOp .quo _ _ _ _, _, _, _, _⟩ _; refine YK.ofV (y_quoN (by rfl) (by rfl) t1 (by decide) (by omega)) ?_)
    | (show YK _ _ _ _ _ _ _; first | refine YK.mk (y_callA (q1) ⟨rfl, rfl⟩) ?_)
    | (show YK _ _ _ _ _ _ _; refine YK.ofV vAuto ?_)
    | (show VK _ _ _ _ _ _ _; refine VK.mk vAuto ?_)
    | (show RS _ _ _ _ _ _ _ _; first | (refine nxRS ?_) | (refine nxRS1 fun _ => ?_))
    | (show RM _ _ _ _ _ _ _ _ _ _; first | (refine nxRM ?_) | (refine nxRM1 fun _ => ?_))
    | (show YG _ _ _ _ _ _ _ _; refine YG.mk (fun hb => by (try (have hc := And.left hb; have hb := And.right hb; rw [hc])); (try rw [hb]); first | exact (y_callA (q1) ⟨rfl, rfl⟩) | exact V.y vAuto) ?_)
    | (show VG _ _ _ _ _ _ _ _; refine VG.mk (fun hb => by (try (have hc := And.left hb; have hb := And.right hb; rw [hc])); (try rw [hb]); exact vAuto) ?_)
    | (refine nxX ?_)
    | (refine G.condN rfl (fun hc => ?_) (fun hc => ?_) <;> (try first | exact False.elim hc | (exfalso; omega))))
    exact X.ret (vs := [_, _]) rfl ⟨rfl, rfl, rfl⟩ rfl (fun w hw => ⟨rfl, hw.ext⟩)
  | false =>
    have hx' := hx rfl
    have t2 : (1073741824 - x1 - 1).tdiv 2 = (1073741824 - x1 - 1) / 2 := Int.tdiv_eq_ediv_of_nonneg (by omega)
    refine enter0 Tryz.func189 rfl rfl rfl ?_
    repeat' (first
    | (show YK _ _ _ _ _ ⟨_, .binOp .quo _ _ _ _, _, _, _, _⟩ _; refine YK.ofV (y_quoN (by rfl) (by rfl) t2 (by decide) (by omega)) ?_)
    | (show YK _ _ _ _ _ _ _; first | refine YK.mk (y_callA (q1) ⟨rfl, rfl⟩) ?_)
    | (show YK _ _ _ _ _ _ _; refine YK.ofV vAuto ?_)
    | (show VK _ _ _ _ _ _ _; refine VK.mk vAuto ?_)
    | (show RS _ _ _ _ _ _ _ _; first | (refine nxRS ?_) | (refine nxRS1 fun _ => ?_))
    | (show RM _ _ _ _ _ _ _ _ _ _; first | (refine nxRM ?_) | (refine nxRM1 fun _ => ?_))
    | (show YG _ _ _ _ _ _ _ _; refine YG.mk (fun hb => by (try (have hc := And.left hb; have hb := And.right hb; rw [hc])); (try rw [hb]); first | exact (y_callA (q1) ⟨rfl, rfl⟩) | exact V.y vAuto) ?_)
    | (show VG _ _ _ _ _ _ _ _; refine VG.mk (fun hb => by (try (have hc := And.left hb; have hb := And.right hb; rw [hc])); (try rw [hb]); exact vAuto) ?_)
    | (refine nxX ?_)
    | (refine G.condN rfl (fun hc => ?_) (fun hc => ?_) <;> (try first | exact False.elim hc | (exfalso; omega))))
    exact X.ret (vs := [_, _]) rfl ⟨rfl, rfl, rfl⟩ rfl (fun w hw => ⟨rfl, hw.ext⟩)
theorem has6_c {lo hi n : Int} (h1 : -2305843009213693952 ≤ lo ∧ lo ≤ 2305843009213693952) (h3 : -21600000 ≤ n ∧ n ≤ 21600000) : Cont Tryz.prog 146 [arcV lo hi, .int .i64 n] (.bool (TT.hasI lo hi n)) := fun w => by
  obtain ⟨ha, hb⟩ := turn_ha (n - lo)
  obtain ⟨m0, m1⟩ := TT.turnI_bd (n - lo)
  unfold TT.hasI
  generalize TT.turnI (n - lo) = a at *
  rcases ha with ⟨g1, g2⟩ | ⟨g1, g2⟩ <;> subst g2 <;> (
    refine enter0 Tryz.func146 rfl rfl rfl ?_
    repeat' (first
    | (refine nxV ?_)
    | (show RS _ _ _ _ _ _ _ _; first | (refine nxRS ?_) | (refine nxRS1 fun _ => ?_))
    | (show RM _ _ _ _ _ _ _ _ _ _; first | (refine nxRM ?_) | (refine nxRM1 fun _ => ?_))
    | (refine nxG ?_)
    | (refine nxX ?_)
    | (refine G.condN rfl (fun hc => ?_) (fun hc => ?_) <;> (try first | exact False.elim hc | (exfalso; omega))))
    exact X.ret (vs := [_]) rfl ⟨rfl, rfl⟩ rfl (fun w hw => ⟨rfl, hw.ext⟩))
end Go.Proofs.YtgmolcobhehoeaaGreatDoor
/- The reference's arcsines: a guess and a search; the enclosures of angles. -/
set_option linter.unusedVariables false
set_option maxHeartbeats 8000000
namespace Go.Proofs.YtgmolcobhehoeaaGreatDoor
open Go.RowKit
theorem roughP_c {n : Int} (h : 0 ≤ n ∧ n ≤ 5400000) : ContX Tryz.prog [] 274 [.int .i64 n] (fun _ : Int => True) (fun z => .int .i64 z) (fun _ => []) := fun w hw0 => by
  obtain ⟨x, hx⟩ : ∃ x : Int, (n * 3373259426).tdiv 10800000 = x := ⟨_, rfl⟩
  have hx1 : 0 ≤ x ∧ x ≤ 1700000000 := by
    rw [Int.tdiv_eq_ediv_of_nonneg (by omega)] at hx
    omega
  have hxx := TT.abs_mul_le (A := 1700000000) (u := 1700000000) (a := x) (t := x) (by omega) (by omega)
  obtain ⟨y, hy⟩ : ∃ y : Int, (x * x).tdiv 1073741824 = y := ⟨_, rfl⟩
  have hy1 : -4611686018427387904 ≤ y ∧ y ≤ 4611686018427387904 := by
    have h0 : 0 ≤ x * x := Int.mul_nonneg hx1.1 hx1.1
    rw [Int.tdiv_eq_ediv_of_nonneg h0] at hy
    omega
  refine enter Tryz.func274 rfl rfl rfl hw0 ?_
  repeat' (first
    | (show YK _ _ _ _ _ ⟨some 15, .binOp .quo _ _ _ _, _, _, _, _⟩ _; refine YK.ofV (y_quoN (by rfl) (by rfl) hx (by decide) (by omega)) ?_)
    | (show YK _ _ _ _ _ ⟨some 19, .binOp .quo _ _ _ _, _, _, _, _⟩ _; refine YK.ofV (y_quoN (by rfl) (by rfl) hy (by decide) (by omega)) ?_)
    | (refine nxV ?_)
    | (show RS _ _ _ _ _ _ _ _; first | (refine nxRS ?_) | (refine nxRS1 fun _ => ?_))
    | (show RM _ _ _ _ _ _ _ _ _ _; first | (refine nxRM ?_) | (refine nxRM1 fun _ => ?_))
    | (refine nxG ?_)
    | (refine nxX ?_)
    | (refine G.condN rfl (fun hc => ?_) (fun hc => ?_) <;> (try first | exact False.elim hc | (exfalso; omega))))
  refine G.loop (ι := Int × Int) (fun z => [(3, .int .i64 x), (4, .int .i64 y), (5, .int .i64 z.2), (6, .int .i64 z.1)]) (fun _ => []) (fun z => z.1 = 13 ∨ z.1 = 11 ∨ z.1 = 9 ∨ z.1 = 7 ∨ z.1 = 5 ∨ z.1 = 3 ∨ z.1 = 1) (fun z => z.1.toNat) (13, 1073741824) (.inl rfl) ⟨rfl, rfl, rfl, rfl, trivial⟩ (by exact fun w h => h.sub (by repeat (first | exact List.Sublist.refl _ | apply List.Sublist.cons_cons | apply List.Sublist.cons))) ?_
  rintro ⟨k, t⟩ mx g1 hmx
  (try dsimp only at g1 hmx ⊢)
  clear hx hxx hy
  rcases g1 with rfl | rfl | rfl | rfl | rfl | rfl | rfl
  · repeat' (first
    | (refine nxV ?_)
    | (show RS _ _ _ _ _ _ _ _; first | (refine nxRS ?_) | (refine nxRS1 fun _ => ?_))
    | (show RM _ _ _ _ _ _ _ _ _ _; first | (refine nxRM ?_) | (refine nxRM1 fun _ => ?_))
    | (refine nxG ?_)
    | (refine nxX ?_)
    | (refine G.condN rfl (fun hc => ?_) (fun hc => ?_) <;> (try first | exact False.elim hc | (exfalso; omega))))
    exact X.again (11, _) (by dsimp only; omega) (by dsimp only at hmx ⊢; omega) ⟨rfl, rfl, rfl, rfl, trivial⟩ (by exact fun w h => h.sub (by repeat (first | exact List.Sublist.refl _ | apply List.Sublist.cons_cons | apply List.Sublist.cons)))
  · repeat' (first
    | (refine nxV ?_)
    | (show RS _ _ _ _ _ _ _ _; first | (refine nxRS ?_) | (refine nxRS1 fun _ => ?_))
    | (show RM _ _ _ _ _ _ _ _ _ _; first | (refine nxRM ?_) | (refine nxRM1 fun _ => ?_))
    | (refine nxG ?_)
    | (refine nxX ?_)
    | (refine G.condN rfl (fun hc => ?_) (fun hc => ?_) <;> (try first | exact False.elim hc | (exfalso; omega))))
    exact X.again (9, _) (by dsimp only; omega) (by dsimp only at hmx ⊢; omega) ⟨rfl, rfl, rfl, rfl, trivial⟩ (by exact fun w h => h.sub (by repeat (first | exact List.Sublist.refl _ | apply List.Sublist.cons_cons | apply List.Sublist.cons)))
  · repeat' (first
    | (refine nxV ?_)
    | (show RS _ _ _ _ _ _ _ _; first | (refine nxRS ?_) | (refine nxRS1 fun _ => ?_))
    | (show RM _ _ _ _ _ _ _ _ _ _; first | (refine nxRM ?_) | (refine nxRM1 fun _ => ?_))
    | (refine nxG ?_)
    | (refine nxX ?_)
    | (refine G.condN rfl (fun hc => ?_) (fun hc => ?_) <;> (try first | exact False.elim hc | (exfalso; omega))))
    exact X.again (7, _) (by dsimp only; omega) (by dsimp only at hmx ⊢; omega) ⟨rfl, rfl, rfl, rfl, trivial⟩ (by exact fun w h => h.sub (by repeat (first | exact List.Sublist.refl _ | apply List.Sublist.cons_cons | apply List.Sublist.cons)))
  · repeat' (first
    | (refine nxV ?_)
    | (show RS _ _ _ _ _ _ _ _; first | (refine nxRS ?_) | (refine nxRS1 fun _ => ?_))
    | (show RM _ _ _ _ _ _ _ _ _ _; first | (refine nxRM ?_) | (refine nxRM1 fun _ => ?_))
    | (refine nxG ?_)
    | (refine nxX ?_)
    | (refine G.condN rfl (fun hc => ?_) (fun hc => ?_) <;> (try first | exact False.elim hc | (exfalso; omega))))
    exact X.again (5, _) (by dsimp only; omega) (by dsimp only at hmx ⊢; omega) ⟨rfl, rfl, rfl, rfl, trivial⟩ (by exact fun w h => h.sub (by repeat (first | exact List.Sublist.refl _ | apply List.Sublist.cons_cons | apply List.Sublist.cons)))
  · repeat' (first
    | (refine nxV ?_)
    | (show RS _ _ _ _ _ _ _ _; first | (refine nxRS ?_) | (refine nxRS1 fun _ => ?_))
    | (show RM _ _ _ _ _ _ _ _ _ _; first | (refine nxRM ?_) | (refine nxRM1 fun _ => ?_))
    | (refine nxG ?_)
    | (refine nxX ?_)
    | (refine G.condN rfl (fun hc => ?_) (fun hc => ?_) <;> (try first | exact False.elim hc | (exfalso; omega))))
    exact X.again (3, _) (by dsimp only; omega) (by dsimp only at hmx ⊢; omega) ⟨rfl, rfl, rfl, rfl, trivial⟩ (by exact fun w h => h.sub (by repeat (first | exact List.Sublist.refl _ | apply List.Sublist.cons_cons | apply List.Sublist.cons)))
  · repeat' (first
    | (refine nxV ?_)
    | (show RS _ _ _ _ _ _ _ _; first | (refine nxRS ?_) | (refine nxRS1 fun _ => ?_))
    | (show RM _ _ _ _ _ _ _ _ _ _; first | (refine nxRM ?_) | (refine nxRM1 fun _ => ?_))
    | (refine nxG ?_)
    | (refine nxX ?_)
    | (refine G.condN rfl (fun hc => ?_) (fun hc => ?_) <;> (try first | exact False.elim hc | (exfalso; omega))))
    exact X.again (1, _) (by dsimp only; omega) (by dsimp only at hmx ⊢; omega) ⟨rfl, rfl, rfl, rfl, trivial⟩ (by exact fun w h => h.sub (by repeat (first | exact List.Sublist.refl _ | apply List.Sublist.cons_cons | apply List.Sublist.cons)))
  · repeat' (first
    | (refine nxV ?_)
    | (show RS _ _ _ _ _ _ _ _; first | (refine nxRS ?_) | (refine nxRS1 fun _ => ?_))
    | (show RM _ _ _ _ _ _ _ _ _ _; first | (refine nxRM ?_) | (refine nxRM1 fun _ => ?_))
    | (refine nxG ?_)
    | (refine nxX ?_)
    | (refine G.condN rfl (fun hc => ?_) (fun hc => ?_) <;> (try first | exact False.elim hc | (exfalso; omega))))
    exact X.retN (vs := [_]) _ rfl ⟨rfl, rfl⟩ rfl trivial rfl NewIn.nil
theorem rough_c {n : Int} (h : -5400000 ≤ n ∧ n ≤ 5400000) : ContX Tryz.prog [] 274 [.int .i64 n] (fun _ : Int => True) (fun z => .int .i64 z) (fun _ => []) := by
  by_cases hn : n < 0
  · intro w hw0
    have q := roughP_c (n := 0 - n) (by omega)
    refine enter Tryz.func274 rfl rfl rfl hw0 ?_
    repeat' (first
    | (refine nxV ?_)
    | (show RS _ _ _ _ _ _ _ _; first | (refine RS.callX (q) ⟨rfl, rfl⟩ ?_; rintro z _) | (refine RS.callXG (fun _ : True => q) ⟨rfl, rfl⟩ ?_; rintro z _) | (refine nxRS ?_) | (refine nxRS1 fun _ => ?_))
    | (show RM _ _ _ _ _ _ _ _ _ _; first | (refine RM.callX (q) ?_; rintro z _) | (refine RM.callXG (fun _ : True => q) ?_; rintro z _) | (refine nxRM ?_) | (refine nxRM1 fun _ => ?_))
    | (refine nxG ?_)
    | (refine nxX ?_)
    | (refine G.condN rfl (fun hc => ?_) (fun hc => ?_) <;> (try first | exact False.elim hc | (exfalso; omega))))
    exact X.retN (vs := [_]) _ rfl ⟨rfl, rfl⟩ rfl trivial rfl NewIn.nil
  · exact roughP_c (by omega)
theorem guess_c {v : Int} : ContX Tryz.prog [] 260 [.int .i64 v] (fun z : Int => -5400000 ≤ z ∧ z ≤ 5400000) (fun z => .int .i64 z) (fun _ => []) := fun w hw0 => by
  refine enter Tryz.func260 rfl rfl rfl hw0 ?_
  repeat' (first
    | (refine nxV ?_)
    | (show RS _ _ _ _ _ _ _ _; first | (refine nxRS ?_) | (refine nxRS1 fun _ => ?_))
    | (show RM _ _ _ _ _ _ _ _ _ _; first | (refine nxRM ?_) | (refine nxRM1 fun _ => ?_))
    | (refine nxG ?_)
    | (refine nxX ?_)
    | (refine G.condN rfl (fun hc => ?_) (fun hc => ?_) <;> (try first | exact False.elim hc | (exfalso; omega))))
  refine G.loop (ι := Int × Int) (fun z => [(0, .int .i64 v), (3, .int .i64 z.1), (4, .int .i64 z.2)]) (fun _ => []) (fun z => -5400000 ≤ z.1 ∧ z.1 ≤ z.2 ∧ z.2 ≤ 5400000) (fun z => (z.2 - z.1).toNat) (-5400000, 5400000) (by decide) ⟨rfl, rfl, rfl, trivial⟩ (by exact fun w h => h.sub (by repeat (first | exact List.Sublist.refl _ | apply List.Sublist.cons_cons | apply List.Sublist.cons))) ?_
  rintro ⟨lo, hh⟩ mx ⟨g1, g2, g3⟩ hmx
  dsimp only at g1 g2 g3 hmx ⊢
  by_cases hc0 : lo < hh
  · have e : (hh - lo + 1).tdiv 2 = (hh - lo + 1) / 2 := Int.tdiv_eq_ediv_of_nonneg (by omega)
    have q := rough_c (n := lo + (hh - lo + 1) / 2) (by omega)
    repeat' (first
    | (show YK _ _ _ _ _ ⟨some 14, .binOp .quo _ _ _ _, _, _, _, _⟩ _; refine YK.ofV (y_quoN (by rfl) (by rfl) e (by decide) (by omega)) ?_)
    | (refine nxV ?_)
    | (show RS _ _ _ _ _ _ _ _; first | (refine RS.callX (q) ⟨rfl, rfl⟩ ?_; rintro z _) | (refine RS.callXG (fun _ : True => q) ⟨rfl, rfl⟩ ?_; rintro z _) | (refine nxRS ?_) | (refine nxRS1 fun _ => ?_))
    | (show RM _ _ _ _ _ _ _ _ _ _; first | (refine RM.callX (q) ?_; rintro z _) | (refine RM.callXG (fun _ : True => q) ?_; rintro z _) | (refine nxRM ?_) | (refine nxRM1 fun _ => ?_))
    | (refine nxG ?_)
    | (refine nxX ?_)
    | (refine G.condN rfl (fun hc => ?_) (fun hc => ?_) <;> (try first | exact False.elim hc | (exfalso; omega))))
    · exact X.again (lo + (hh - lo + 1) / 2, hh) ⟨by dsimp only; omega, by dsimp only; omega, by dsimp only; omega⟩ (by dsimp only; omega) ⟨rfl, rfl, rfl, trivial⟩ (by exact fun w h => h.sub (by repeat (first | exact List.Sublist.refl _ | apply List.Sublist.cons_cons | apply List.Sublist.cons)))
    · exact X.again (lo, lo + (hh - lo + 1) / 2 - 1) ⟨by dsimp only; omega, by dsimp only; omega, by dsimp only; omega⟩ (by dsimp only; omega) ⟨rfl, rfl, rfl, trivial⟩ (by exact fun w h => h.sub (by repeat (first | exact List.Sublist.refl _ | apply List.Sublist.cons_cons | apply List.Sublist.cons)))
  · repeat' (first
    | (refine nxV ?_)
    | (show RS _ _ _ _ _ _ _ _; first | (refine nxRS ?_) | (refine nxRS1 fun _ => ?_))
    | (show RM _ _ _ _ _ _ _ _ _ _; first | (refine nxRM ?_) | (refine nxRM1 fun _ => ?_))
    | (refine nxG ?_)
    | (refine nxX ?_)
    | (refine G.condN rfl (fun hc => ?_) (fun hc => ?_) <;> (try first | exact False.elim hc | (exfalso; omega))))
    exact X.retN (vs := [_]) lo rfl ⟨rfl, rfl⟩ rfl (by (try dsimp only); omega) rfl NewIn.nil
theorem Floor7_c {v n : Int} (hn : TT.IsAsin v n) : Cont Tryz.prog 237 [.int .i64 v] (.int .i64 n) := fun w => by
  have hi : ∀ m, -5400000 ≤ m → m ≤ 5400000 → (TT.rbelI m v ≤ 0 ↔ m ≤ n) := fun m h0 h1 => (TT.rbel_le m v).trans (TT.asin_iff hn h0 h1)
  obtain ⟨n0, n1, _, _⟩ := hn
  have q0 := guess_c (v := v)
  refine enter0 Tryz.func237 rfl rfl rfl ?_
  repeat' (first
    | (refine nxV ?_)
    | (show RS _ _ _ _ _ _ _ _; first | (refine RS.callX (q0) ⟨rfl, rfl⟩ ?_; rintro g hg) | (refine RS.callXG (fun _ : True => q0) ⟨rfl, rfl⟩ ?_; rintro g hg) | (refine nxRS ?_) | (refine nxRS1 fun _ => ?_))
    | (show RM _ _ _ _ _ _ _ _ _ _; first | (refine RM.callX (q0) ?_; rintro g hg) | (refine RM.callXG (fun _ : True => q0) ?_; rintro g hg) | (refine nxRM ?_) | (refine nxRM1 fun _ => ?_))
    | (refine nxG ?_)
    | (refine nxX ?_)
    | (refine G.condN rfl (fun hc => ?_) (fun hc => ?_) <;> (try first | exact False.elim hc | (exfalso; omega))))
  refine G.loop (ι := Int × Int) (fun z => [(0, .int .i64 v), (3, .int .i64 z.1), (4, .int .i64 z.2)]) (fun _ => []) (fun z => (-5400000 ≤ z.1 ∧ z.1 ≤ 5400000) ∧ (1 ≤ z.2 ∧ z.2 ≤ 21600002) ∧ (-5400000 < z.1 → z.2 ≤ 5400001 - z.1)) (fun z => (z.1 + 5400000).toNat) (g, 1) ⟨hg, by dsimp only; omega, fun _ => by dsimp only; omega⟩ ⟨rfl, rfl, rfl, trivial⟩ (by exact fun w h => h.sub (by repeat (first | exact List.Sublist.refl _ | apply List.Sublist.cons_cons | apply List.Sublist.cons))) ?_
  rintro ⟨lo, st⟩ mx ⟨g1, g2, g3⟩ hmx
  dsimp only at g1 g2 g3 hmx ⊢
  have q1 := Below6_c (n := lo) (v := v) (by omega)
  have hj := hi lo g1.1 g1.2
  by_cases hc0 : lo ≤ n
  · have hb : TT.rbelI lo v ≤ 0 := hj.2 hc0
    clear hj
    generalize TT.rbelI lo v = bb at *
    clear g2 g3 hmx
    repeat' (first
    | (show YK _ _ _ _ _ _ _; first | refine YK.mk (y_callA (q1) ⟨rfl, rfl, rfl⟩) ?_)
    | (show YK _ _ _ _ _ _ _; refine YK.ofV vAuto ?_)
    | (show VK _ _ _ _ _ _ _; refine VK.mk vAuto ?_)
    | (show RS _ _ _ _ _ _ _ _; first | (refine nxRS ?_) | (refine nxRS1 fun _ => ?_))
    | (show RM _ _ _ _ _ _ _ _ _ _; first | (refine nxRM ?_) | (refine nxRM1 fun _ => ?_))
    | (show YG _ _ _ _ _ _ _ _; refine YG.mk (fun hb => by (try (have hc := And.left hb; have hb := And.right hb; rw [hc])); (try rw [hb]); first | exact (y_callA (q1) ⟨rfl, rfl, rfl⟩) | exact V.y vAuto) ?_)
    | (show VG _ _ _ _ _ _ _ _; refine VG.mk (fun hb => by (try (have hc := And.left hb; have hb := And.right hb; rw [hc])); (try rw [hb]); exact vAuto) ?_)
    | (refine nxX ?_)
    | (refine G.condN rfl (fun hc => ?_) (fun hc => ?_) <;> (try first | exact False.elim hc | (exfalso; omega))))
    clear q1 hb
    refine G.loop (ι := Int × Int × Int) (fun z => [(0, .int .i64 v), (3, .int .i64 z.1), (5, .int .i64 z.2.1), (6, .int .i64 z.2.2)]) (fun _ => []) (fun z => (-5400000 ≤ z.1 ∧ z.1 ≤ n) ∧ z.1 < z.2.1 ∧ (z.1 < 5400000 → z.2.1 ≤ 5400000) ∧ z.2.1 ≤ 100000000 ∧ (1 ≤ z.2.2 ∧ z.2.2 ≤ 90000000) ∧ (z.1 < 5400000 → z.2.2 ≤ 2 * (z.1 + 5400000) + 2 ∧ (z.2.2 ≤ 2 * (z.2.1 - z.1) ∨ z.2.1 = 5400000))) (fun z => (5400000 - z.1).toNat) (lo, lo + 1, 1) ⟨by dsimp only; omega, by dsimp only; omega, by dsimp only; omega, by dsimp only; omega, by dsimp only; omega, by dsimp only; omega⟩ ⟨rfl, rfl, rfl, rfl, trivial⟩ (by exact fun w h => h.sub (by repeat (first | exact List.Sublist.refl _ | apply List.Sublist.cons_cons | apply List.Sublist.cons))) ?_
    rintro ⟨l2, h2, s2⟩ mx2 ⟨k1, k2, k3, k4, k5, k6⟩ hmx2
    dsimp only at k1 k2 k3 k4 k5 k6 hmx2 ⊢
    have q2 := Below6_c (n := h2) (v := v) (by omega)
    by_cases hc1 : h2 ≤ 5400000 ∧ h2 ≤ n
    · have hb : TT.rbelI h2 v ≤ 0 := (hi h2 (by omega) hc1.1).2 hc1.2
      generalize TT.rbelI h2 v = bb at *
      have k7 := k6 (by omega)
      clear hi
      by_cases hc2 : h2 < 5400000 ∧ h2 + s2 > 5400000
      · repeat' (first
    | (show YK _ _ _ _ _ _ _; first | refine YK.mk (y_callA (q2) ⟨rfl, rfl, rfl⟩) ?_)
    | (show YK _ _ _ _ _ _ _; refine YK.ofV vAuto ?_)
    | (show VK _ _ _ _ _ _ _; refine VK.mk vAuto ?_)
    | (show RS _ _ _ _ _ _ _ _; first | (refine nxRS ?_) | (refine nxRS1 fun _ => ?_))
    | (show RM _ _ _ _ _ _ _ _ _ _; first | (refine nxRM ?_) | (refine nxRM1 fun _ => ?_))
    | (show YG _ _ _ _ _ _ _ _; refine YG.mk (fun hb => by (try (have hc := And.left hb; have hb := And.right hb; rw [hc])); (try rw [hb]); first | exact (y_callA (q2) ⟨rfl, rfl, rfl⟩) | exact V.y vAuto) ?_)
    | (show VG _ _ _ _ _ _ _ _; refine VG.mk (fun hb => by (try (have hc := And.left hb; have hb := And.right hb; rw [hc])); (try rw [hb]); exact vAuto) ?_)
    | (refine nxX ?_)
    | (refine G.condN rfl (fun hc => ?_) (fun hc => ?_) <;> (try first | exact False.elim hc | (exfalso; omega))))
        exact X.again (h2, 5400000, 2 * s2) ⟨by dsimp only; omega, by dsimp only; omega, by dsimp only; omega, by dsimp only; omega, by dsimp only; omega, by dsimp only; omega⟩ (by dsimp only; omega) ⟨rfl, rfl, rfl, rfl, trivial⟩ (by exact fun w h => h.sub (by repeat (first | exact List.Sublist.refl _ | apply List.Sublist.cons_cons | apply List.Sublist.cons)))
      · repeat' (first
    | (show YK _ _ _ _ _ _ _; first | refine YK.mk (y_callA (q2) ⟨rfl, rfl, rfl⟩) ?_)
    | (show YK _ _ _ _ _ _ _; refine YK.ofV vAuto ?_)
    | (show VK _ _ _ _ _ _ _; refine VK.mk vAuto ?_)
    | (show RS _ _ _ _ _ _ _ _; first | (refine nxRS ?_) | (refine nxRS1 fun _ => ?_))
    | (show RM _ _ _ _ _ _ _ _ _ _; first | (refine nxRM ?_) | (refine nxRM1 fun _ => ?_))
    | (show YG _ _ _ _ _ _ _ _; refine YG.mk (fun hb => by (try (have hc := And.left hb; have hb := And.right hb; rw [hc])); (try rw [hb]); first | exact (y_callA (q2) ⟨rfl, rfl, rfl⟩) | exact V.y vAuto) ?_)
    | (show VG _ _ _ _ _ _ _ _; refine VG.mk (fun hb => by (try (have hc := And.left hb; have hb := And.right hb; rw [hc])); (try rw [hb]); exact vAuto) ?_)
    | (refine nxX ?_)
    | (refine G.condN rfl (fun hc => ?_) (fun hc => ?_) <;> (try first | exact False.elim hc | (exfalso; omega))))
        exact X.again (h2, h2 + s2, 2 * s2) ⟨by dsimp only; omega, by dsimp only; omega, by dsimp only; omega, by dsimp only; omega, by dsimp only; omega, by dsimp only; omega⟩ (by dsimp only; omega) ⟨rfl, rfl, rfl, rfl, trivial⟩ (by exact fun w h => h.sub (by repeat (first | exact List.Sublist.refl _ | apply List.Sublist.cons_cons | apply List.Sublist.cons)))
    · have hb : h2 ≤ 5400000 → ¬ TT.rbelI h2 v ≤ 0 := fun h hle => hc1 ⟨h, (hi h2 (by omega) h).1 hle⟩
      generalize TT.rbelI h2 v = bb at *
      by_cases hc2 : l2 = 5400000
      · obtain rfl : n = 5400000 := by omega
        subst hc2
        clear hi k6 k3
        repeat' (first
    | (show YK _ _ _ _ _ _ _; first | refine YK.mk (y_callA (q2) ⟨rfl, rfl, rfl⟩) ?_)
    | (show YK _ _ _ _ _ _ _; refine YK.ofV vAuto ?_)
    | (show VK _ _ _ _ _ _ _; refine VK.mk vAuto ?_)
    | (show RS _ _ _ _ _ _ _ _; first | (refine nxRS ?_) | (refine nxRS1 fun _ => ?_))
    | (show RM _ _ _ _ _ _ _ _ _ _; first | (refine nxRM ?_) | (refine nxRM1 fun _ => ?_))
    | (show YG _ _ _ _ _ _ _ _; refine YG.mk (fun hb => by (try (have hc := And.left hb; have hb := And.right hb; rw [hc])); (try rw [hb]); first | exact (y_callA (q2) ⟨rfl, rfl, rfl⟩) | exact V.y vAuto) ?_)
    | (show VG _ _ _ _ _ _ _ _; refine VG.mk (fun hb => by (try (have hc := And.left hb; have hb := And.right hb; rw [hc])); (try rw [hb]); exact vAuto) ?_)
    | (refine nxX ?_)
    | (refine G.condN rfl (fun hc => ?_) (fun hc => ?_) <;> (try first | exact False.elim hc | (exfalso; omega))))
        exact X.ret (vs := [_]) rfl ⟨rfl, rfl⟩ rfl (fun w hw => ⟨rfl, hw.ext⟩)
      · have k3' := k3 (by omega)
        have hlt : n < h2 := by omega
        clear k6 k3
        repeat' (first
    | (show YK _ _ _ _ _ _ _; first | refine YK.mk (y_callA (q2) ⟨rfl, rfl, rfl⟩) ?_)
    | (show YK _ _ _ _ _ _ _; refine YK.ofV vAuto ?_)
    | (show VK _ _ _ _ _ _ _; refine VK.mk vAuto ?_)
    | (show RS _ _ _ _ _ _ _ _; first | (refine nxRS ?_) | (refine nxRS1 fun _ => ?_))
    | (show RM _ _ _ _ _ _ _ _ _ _; first | (refine nxRM ?_) | (refine nxRM1 fun _ => ?_))
    | (show YG _ _ _ _ _ _ _ _; refine YG.mk (fun hb => by (try (have hc := And.left hb; have hb := And.right hb; rw [hc])); (try rw [hb]); first | exact (y_callA (q2) ⟨rfl, rfl, rfl⟩) | exact V.y vAuto) ?_)
    | (show VG _ _ _ _ _ _ _ _; refine VG.mk (fun hb => by (try (have hc := And.left hb; have hb := And.right hb; rw [hc])); (try rw [hb]); exact vAuto) ?_)
    | (refine nxX ?_)
    | (refine G.condN rfl (fun hc => ?_) (fun hc => ?_) <;> (try first | exact False.elim hc | (exfalso; omega))))
        clear q2 hb hc1
        refine G.loop (ι := Int × Int) (fun z => [(0, .int .i64 v), (3, .int .i64 z.1), (5, .int .i64 z.2)]) (fun _ => []) (fun z => (-5400000 ≤ z.1 ∧ z.1 ≤ n) ∧ n < z.2 ∧ z.2 ≤ 5400000) (fun z => (z.2 - z.1).toNat) (l2, h2) ⟨by dsimp only; omega, by dsimp only; omega, by dsimp only; omega⟩ ⟨rfl, rfl, rfl, trivial⟩ (by exact fun w h => h.sub (by repeat (first | exact List.Sublist.refl _ | apply List.Sublist.cons_cons | apply List.Sublist.cons))) ?_
        rintro ⟨l3, h3⟩ mx3 ⟨j1, j2, j3⟩ hmx3
        dsimp only at j1 j2 j3 hmx3 ⊢
        by_cases hc3 : l3 + 1 < h3
        · have e : (h3 - l3).tdiv 2 = (h3 - l3) / 2 := Int.tdiv_eq_ediv_of_nonneg (by omega)
          have q3 := Below6_c (n := l3 + (h3 - l3) / 2) (v := v) (by omega)
          have hj := hi (l3 + (h3 - l3) / 2) (by omega) (by omega)
          generalize TT.rbelI (l3 + (h3 - l3) / 2) v = bb at *
          clear hi
          repeat' (first
    | (show YK _ _ _ _ _ ⟨some 54, .binOp .quo _ _ _ _, _, _, _, _⟩ _; refine YK.ofV (y_quoN (by rfl) (by rfl) e (by decide) (by omega)) ?_)
    | (show YK _ _ _ _ _ _ _; first | refine YK.mk (y_callA (q3) ⟨rfl, rfl, rfl⟩) ?_)
    | (show YK _ _ _ _ _ _ _; refine YK.ofV vAuto ?_)
    | (show VK _ _ _ _ _ _ _; refine VK.mk vAuto ?_)
    | (show RS _ _ _ _ _ _ _ _; first | (refine nxRS ?_) | (refine nxRS1 fun _ => ?_))
    | (show RM _ _ _ _ _ _ _ _ _ _; first | (refine nxRM ?_) | (refine nxRM1 fun _ => ?_))
    | (show YG _ _ _ _ _ _ _ _; refine YG.mk (fun hb => by (try (have hc := And.left hb; have hb := And.right hb; rw [hc])); (try rw [hb]); first | exact (y_callA (q3) ⟨rfl, rfl, rfl⟩) | exact V.y vAuto) ?_)
    | (show VG _ _ _ _ _ _ _ _; refine VG.mk (fun hb => by (try (have hc := And.left hb; have hb := And.right hb; rw [hc])); (try rw [hb]); exact vAuto) ?_)
    | (refine nxX ?_)
    | (refine G.condN rfl (fun hc => ?_) (fun hc => ?_) <;> (try first | exact False.elim hc | (exfalso; omega))))
          · exact X.again (l3 + (h3 - l3) / 2, h3) ⟨by dsimp only; omega, by dsimp only; omega, by dsimp only; omega⟩ (by dsimp only; omega) ⟨rfl, rfl, rfl, trivial⟩ (by exact fun w h => h.sub (by repeat (first | exact List.Sublist.refl _ | apply List.Sublist.cons_cons | apply List.Sublist.cons)))
          · exact X.again (l3, l3 + (h3 - l3) / 2) ⟨by dsimp only; omega, by dsimp only; omega, by dsimp only; omega⟩ (by dsimp only; omega) ⟨rfl, rfl, rfl, trivial⟩ (by exact fun w h => h.sub (by repeat (first | exact List.Sublist.refl _ | apply List.Sublist.cons_cons | apply List.Sublist.cons)))
        · obtain rfl : l3 = n := by omega
          clear hi
          repeat' (first
    | (refine nxV ?_)
    | (show RS _ _ _ _ _ _ _ _; first | (refine nxRS ?_) | (refine nxRS1 fun _ => ?_))
    | (show RM _ _ _ _ _ _ _ _ _ _; first | (refine nxRM ?_) | (refine nxRM1 fun _ => ?_))
    | (refine nxG ?_)
    | (refine nxX ?_)
    | (refine G.condN rfl (fun hc => ?_) (fun hc => ?_) <;> (try first | exact False.elim hc | (exfalso; omega))))
          exact X.ret (vs := [_]) rfl ⟨rfl, rfl⟩ rfl (fun w hw => ⟨rfl, hw.ext⟩)
  · have hb : ¬ TT.rbelI lo v ≤ 0 := fun h => hc0 (hj.1 h)
    clear hj
    generalize TT.rbelI lo v = bb at *
    have g4 := g3 (by omega)
    clear hi
    by_cases hc2 : lo - st < -5400000
    · repeat' (first
    | (show YK _ _ _ _ _ _ _; first | refine YK.mk (y_callA (q1) ⟨rfl, rfl, rfl⟩) ?_)
    | (show YK _ _ _ _ _ _ _; refine YK.ofV vAuto ?_)
    | (show VK _ _ _ _ _ _ _; refine VK.mk vAuto ?_)
    | (show RS _ _ _ _ _ _ _ _; first | (refine nxRS ?_) | (refine nxRS1 fun _ => ?_))
    | (show RM _ _ _ _ _ _ _ _ _ _; first | (refine nxRM ?_) | (refine nxRM1 fun _ => ?_))
    | (show YG _ _ _ _ _ _ _ _; refine YG.mk (fun hb => by (try (have hc := And.left hb; have hb := And.right hb; rw [hc])); (try rw [hb]); first | exact (y_callA (q1) ⟨rfl, rfl, rfl⟩) | exact V.y vAuto) ?_)
    | (show VG _ _ _ _ _ _ _ _; refine VG.mk (fun hb => by (try (have hc := And.left hb; have hb := And.right hb; rw [hc])); (try rw [hb]); exact vAuto) ?_)
    | (refine nxX ?_)
    | (refine G.condN rfl (fun hc => ?_) (fun hc => ?_) <;> (try first | exact False.elim hc | (exfalso; omega))))
      exact X.again (-5400000, 2 * st) ⟨by dsimp only; omega, by dsimp only; omega, by dsimp only; omega⟩ (by dsimp only; omega) ⟨rfl, rfl, rfl, trivial⟩ (by exact fun w h => h.sub (by repeat (first | exact List.Sublist.refl _ | apply List.Sublist.cons_cons | apply List.Sublist.cons)))
    · repeat' (first
    | (show YK _ _ _ _ _ _ _; first | refine YK.mk (y_callA (q1) ⟨rfl, rfl, rfl⟩) ?_)
    | (show YK _ _ _ _ _ _ _; refine YK.ofV vAuto ?_)
    | (show VK _ _ _ _ _ _ _; refine VK.mk vAuto ?_)
    | (show RS _ _ _ _ _ _ _ _; first | (refine nxRS ?_) | (refine nxRS1 fun _ => ?_))
    | (show RM _ _ _ _ _ _ _ _ _ _; first | (refine nxRM ?_) | (refine nxRM1 fun _ => ?_))
    | (show YG _ _ _ _ _ _ _ _; refine YG.mk (fun hb => by (try (have hc := And.left hb; have hb := And.right hb; rw [hc])); (try rw [hb]); first | exact (y_callA (q1) ⟨rfl, rfl, rfl⟩) | exact V.y vAuto) ?_)
    | (show VG _ _ _ _ _ _ _ _; refine VG.mk (fun hb => by (try (have hc := And.left hb; have hb := And.right hb; rw [hc])); (try rw [hb]); exact vAuto) ?_)
    | (refine nxX ?_)
    | (refine G.condN rfl (fun hc => ?_) (fun hc => ?_) <;> (try first | exact False.elim hc | (exfalso; omega))))
      exact X.again (lo - st, 2 * st) ⟨by dsimp only; omega, by dsimp only; omega, by dsimp only; omega⟩ (by dsimp only; omega) ⟨rfl, rfl, rfl, trivial⟩ (by exact fun w h => h.sub (by repeat (first | exact List.Sublist.refl _ | apply List.Sublist.cons_cons | apply List.Sublist.cons)))
end Go.Proofs.YtgmolcobhehoeaaGreatDoor
/- The reference's enclosures of sines, haversines, angles; its intervals. -/
set_option linter.unusedVariables false
set_option maxHeartbeats 8000000
namespace Go.Proofs.YtgmolcobhehoeaaGreatDoor
open Go.RowKit
theorem sine6_c {lo hi : Int} (h1 : -2305843009213693952 ≤ lo ∧ lo ≤ 2305843009213693952) (h2 : -2305843009213693952 ≤ hi ∧ hi ≤ 2305843009213693952) : Cont Tryz.prog 94 [arcV lo hi] (arcV (TT.encl lo hi).1 (TT.encl lo hi).2) := fun w => by
  have q1 := ends6_c (n := lo) (by omega)
  have q2 := ends6_c (n := hi) (by omega)
  have q3 := has6_c (lo := lo) (hi := hi) (n := 5400000) h1 (by omega)
  have q4 := has6_c (lo := lo) (hi := hi) (n := -5400000) h1 (by omega)
  rw [← TT.rsin_eq]
  unfold TT.rsinE
  generalize TT.endsI lo = x at *
  generalize TT.endsI hi = y at *
  refine enter0 Tryz.func94 rfl rfl rfl ?_
  repeat' (first
    | (show YK _ _ _ _ _ _ _; first | refine YK.mk (y_callA (q1) ⟨rfl, rfl⟩) ?_ | refine YK.mk (y_callA (q2) ⟨rfl, rfl⟩) ?_ | refine YK.mk (y_callA (q3) ⟨rfl, rfl, rfl⟩) ?_ | refine YK.mk (y_callA (q4) ⟨rfl, rfl, rfl⟩) ?_)
    | (show YK _ _ _ _ _ _ _; refine YK.ofV vAuto ?_)
    | (show VK _ _ _ _ _ _ _; refine VK.mk vAuto ?_)
    | (show RS _ _ _ _ _ _ _ _; first | (refine nxRS ?_) | (refine nxRS1 fun _ => ?_))
    | (show RM _ _ _ _ _ _ _ _ _ _; first | (refine nxRM ?_) | (refine nxRM1 fun _ => ?_))
    | (show YG _ _ _ _ _ _ _ _; refine YG.mk (fun hb => by (try (have hc := And.left hb; have hb := And.right hb; rw [hc])); (try rw [hb]); first | exact (y_callA (q1) ⟨rfl, rfl⟩) | exact (y_callA (q2) ⟨rfl, rfl⟩) | exact (y_callA (q3) ⟨rfl, rfl, rfl⟩) | exact (y_callA (q4) ⟨rfl, rfl, rfl⟩) | exact V.y vAuto) ?_)
    | (show VG _ _ _ _ _ _ _ _; refine VG.mk (fun hb => by (try (have hc := And.left hb; have hb := And.right hb; rw [hc])); (try rw [hb]); exact vAuto) ?_)
    | (refine nxX ?_)
    | (refine G.condN rfl (fun hc => ?_) (fun hc => ?_) <;> (try first | exact False.elim hc | (exfalso; omega))))
  all_goals (
    refine X.ret (vs := [_]) rfl ⟨⟨_, _, _, _, rfl, (by exact memA), (by (repeat (first | exact .nil | apply LenIs.cons))), by decide +kernel, rfl⟩, rfl⟩ rfl (fun w hw => ⟨?_, hw.ext⟩)
    dsimp only
    first
      | (rw [if_pos (by assumption), if_pos (by assumption)]; try rfl)
      | (rw [if_pos (by assumption), if_neg (ne_true_of_eq_false (by assumption))]; try rfl)
      | (rw [if_neg (ne_true_of_eq_false (by assumption)), if_pos (by assumption)]; try rfl)
      | (rw [if_neg (ne_true_of_eq_false (by assumption)), if_neg (ne_true_of_eq_false (by assumption))]; try rfl))
theorem Cos6_c {lo hi : Int} (h1 : -1152921504606846976 ≤ lo ∧ lo ≤ 1152921504606846976) (h2 : -1152921504606846976 ≤ hi ∧ hi ≤ 1152921504606846976) : Cont Tryz.prog 44 [arcV lo hi] (arcV (TT.cosE lo hi).1 (TT.cosE lo hi).2) := fun w => by
  have q1 := sine6_c (lo := lo + 5400000) (hi := hi + 5400000) (by omega) (by omega)
  unfold TT.cosE
  refine enter0 Tryz.func44 rfl rfl rfl ?_
  repeat' (first
    | (show YK _ _ _ _ _ _ _; first | refine YK.mk (y_callA (q1) ⟨rfl, rfl⟩) ?_)
    | (show YK _ _ _ _ _ _ _; refine YK.ofV vAuto ?_)
    | (show VK _ _ _ _ _ _ _; refine VK.mk vAuto ?_)
    | (show RS _ _ _ _ _ _ _ _; first | (refine nxRS ?_) | (refine nxRS1 fun _ => ?_))
    | (show RM _ _ _ _ _ _ _ _ _ _; first | (refine nxRM ?_) | (refine nxRM1 fun _ => ?_))
    | (show YG _ _ _ _ _ _ _ _; refine YG.mk (fun hb => by (try (have hc := And.left hb; have hb := And.right hb; rw [hc])); (try rw [hb]); first | exact (y_callA (q1) ⟨rfl, rfl⟩) | exact V.y vAuto) ?_)
    | (show VG _ _ _ _ _ _ _ _; refine VG.mk (fun hb => by (try (have hc := And.left hb; have hb := And.right hb; rw [hc])); (try rw [hb]); exact vAuto) ?_)
    | (refine nxX ?_)
    | (refine G.condN rfl (fun hc => ?_) (fun hc => ?_) <;> (try first | exact False.elim hc | (exfalso; omega))))
  exact X.ret (vs := [_]) rfl ⟨⟨_, _, _, _, rfl, (by exact memA), (by (repeat (first | exact .nil | apply LenIs.cons))), by decide +kernel, rfl⟩, rfl⟩ rfl (fun w hw => ⟨rfl, hw.ext⟩)
theorem Hav6_c {lo hi : Int} (h1 : -1152921504606846976 ≤ lo ∧ lo ≤ 1152921504606846976) (h2 : -1152921504606846976 ≤ hi ∧ hi ≤ 1152921504606846976) : Cont Tryz.prog 136 [arcV lo hi] (arcV (TT.havE lo hi).1 (TT.havE lo hi).2) := fun w => by
  have q1 := hav6_c (n := lo) (by omega)
  have q2 := hav6_c (n := hi) (by omega)
  have q3 := has6_c (lo := lo) (hi := hi) (n := 10800000) (by omega) (by omega)
  have q4 := has6_c (lo := lo) (hi := hi) (n := 0) (by omega) (by omega)
  rw [← TT.rhavE_eq]
  unfold TT.rhavE
  generalize TT.rhavI lo = x at *
  generalize TT.rhavI hi = y at *
  refine enter0 Tryz.func136 rfl rfl rfl ?_
  repeat' (first
    | (show YK _ _ _ _ _ _ _; first | refine YK.mk (y_callA (q1) ⟨rfl, rfl⟩) ?_ | refine YK.mk (y_callA (q2) ⟨rfl, rfl⟩) ?_ | refine YK.mk (y_callA (q3) ⟨rfl, rfl, rfl⟩) ?_ | refine YK.mk (y_callA (q4) ⟨rfl, rfl, rfl⟩) ?_)
    | (show YK _ _ _ _ _ _ _; refine YK.ofV vAuto ?_)
    | (show VK _ _ _ _ _ _ _; refine VK.mk vAuto ?_)
    | (show RS _ _ _ _ _ _ _ _; first | (refine nxRS ?_) | (refine nxRS1 fun _ => ?_))
    | (show RM _ _ _ _ _ _ _ _ _ _; first | (refine nxRM ?_) | (refine nxRM1 fun _ => ?_))
    | (show YG _ _ _ _ _ _ _ _; refine YG.mk (fun hb => by (try (have hc := And.left hb; have hb := And.right hb; rw [hc])); (try rw [hb]); first | exact (y_callA (q1) ⟨rfl, rfl⟩) | exact (y_callA (q2) ⟨rfl, rfl⟩) | exact (y_callA (q3) ⟨rfl, rfl, rfl⟩) | exact (y_callA (q4) ⟨rfl, rfl, rfl⟩) | exact V.y vAuto) ?_)
    | (show VG _ _ _ _ _ _ _ _; refine VG.mk (fun hb => by (try (have hc := And.left hb; have hb := And.right hb; rw [hc])); (try rw [hb]); exact vAuto) ?_)
    | (refine nxX ?_)
    | (refine G.condN rfl (fun hc => ?_) (fun hc => ?_) <;> (try first | exact False.elim hc | (exfalso; omega))))
  all_goals (
    refine X.ret (vs := [_]) rfl ⟨⟨_, _, _, _, rfl, (by exact memA), (by (repeat (first | exact .nil | apply LenIs.cons))), by decide +kernel, rfl⟩, rfl⟩ rfl (fun w hw => ⟨?_, hw.ext⟩)
    dsimp only
    first
      | (rw [if_pos (by assumption), if_pos (by assumption)]; try rfl)
      | (rw [if_pos (by assumption), if_neg (ne_true_of_eq_false (by assumption))]; try rfl)
      | (rw [if_neg (ne_true_of_eq_false (by assumption)), if_pos (by assumption)]; try rfl)
      | (rw [if_neg (ne_true_of_eq_false (by assumption)), if_neg (ne_true_of_eq_false (by assumption))]; try rfl))
theorem valid7_c {a b : Int} (h : -2147483648 ≤ a ∧ a ≤ b ∧ b ≤ 2147483648) : Cont Tryz.prog 190 [arcV a b] (.bool true) := fun w => by
  refine enter0 Tryz.func190 rfl rfl rfl ?_
  repeat' (first
    | (refine nxV ?_)
    | (show RS _ _ _ _ _ _ _ _; first | (refine nxRS ?_) | (refine nxRS1 fun _ => ?_))
    | (show RM _ _ _ _ _ _ _ _ _ _; first | (refine nxRM ?_) | (refine nxRM1 fun _ => ?_))
    | (refine nxG ?_)
    | (refine nxX ?_)
    | (refine G.condN rfl (fun hc => ?_) (fun hc => ?_) <;> (try first | exact False.elim hc | (exfalso; omega))))
  refine X.ret (vs := [_]) rfl ⟨rfl, rfl⟩ rfl (fun w hw => ⟨ret_bool ?_, hw.ext⟩)
  simp [h.1, h.2.1, h.2.2]
theorem Ceil7_c {v m : Int} (hv : -1073741824 ≤ v ∧ v ≤ 1073741824) (h : TT.IsAsin (-v) m) : Cont Tryz.prog 238 [.int .i64 v] (.int .i64 (-m)) := fun w => by
  have e : -v = 0 - v := by omega
  rw [e] at h
  have q1 := Floor7_c h
  obtain ⟨m0, m1, _, _⟩ := h
  refine enter0 Tryz.func238 rfl rfl rfl ?_
  repeat' (first
    | (show YK _ _ _ _ _ _ _; first | refine YK.mk (y_callA (q1) ⟨rfl, rfl⟩) ?_)
    | (show YK _ _ _ _ _ _ _; refine YK.ofV vAuto ?_)
    | (show VK _ _ _ _ _ _ _; refine VK.mk vAuto ?_)
    | (show RS _ _ _ _ _ _ _ _; first | (refine nxRS ?_) | (refine nxRS1 fun _ => ?_))
    | (show RM _ _ _ _ _ _ _ _ _ _; first | (refine nxRM ?_) | (refine nxRM1 fun _ => ?_))
    | (show YG _ _ _ _ _ _ _ _; refine YG.mk (fun hb => by (try (have hc := And.left hb; have hb := And.right hb; rw [hc])); (try rw [hb]); first | exact (y_callA (q1) ⟨rfl, rfl⟩) | exact V.y vAuto) ?_)
    | (show VG _ _ _ _ _ _ _ _; refine VG.mk (fun hb => by (try (have hc := And.left hb; have hb := And.right hb; rw [hc])); (try rw [hb]); exact vAuto) ?_)
    | (refine nxX ?_)
    | (refine G.condN rfl (fun hc => ?_) (fun hc => ?_) <;> (try first | exact False.elim hc | (exfalso; omega))))
  refine X.ret (vs := [_]) rfl ⟨rfl, rfl⟩ rfl (fun w hw => ⟨congrArg Ending.returned (congrArg (Value.int .i64) (by omega)), hw.ext⟩)
theorem Asin7_c {a b n m : Int} (h : -1073741824 ≤ a ∧ a ≤ b ∧ b ≤ 1073741824) (h1 : TT.IsAsin a n) (h2 : TT.IsAsin (-b) m) : Cont Tryz.prog 208 [arcV a b] (.tuple [arcV n (-m), .int .i64 0].toArray) := fun w => by
  have q1 := valid7_c (a := a) (b := b) (by omega)
  have q3 := Floor7_c h1
  have q4 := Ceil7_c (by omega) h2
  refine enter0 Tryz.func208 rfl rfl rfl ?_
  repeat' (first
    | (show YK _ _ _ _ _ _ _; first | refine YK.mk (y_callA (q1) ⟨rfl, rfl⟩) ?_ | refine YK.mk (y_callA (q3) ⟨rfl, rfl⟩) ?_ | refine YK.mk (y_callA (q4) ⟨rfl, rfl⟩) ?_)
    | (show YK _ _ _ _ _ _ _; refine YK.ofV vAuto ?_)
    | (show VK _ _ _ _ _ _ _; refine VK.mk vAuto ?_)
    | (show RS _ _ _ _ _ _ _ _; first | (refine nxRS ?_) | (refine nxRS1 fun _ => ?_))
    | (show RM _ _ _ _ _ _ _ _ _ _; first | (refine nxRM ?_) | (refine nxRM1 fun _ => ?_))
    | (show YG _ _ _ _ _ _ _ _; refine YG.mk (fun hb => by (try (have hc := And.left hb; have hb := And.right hb; rw [hc])); (try rw [hb]); first | exact (y_callA (q1) ⟨rfl, rfl⟩) | exact (y_callA (q3) ⟨rfl, rfl⟩) | exact (y_callA (q4) ⟨rfl, rfl⟩) | exact V.y vAuto) ?_)
    | (show VG _ _ _ _ _ _ _ _; refine VG.mk (fun hb => by (try (have hc := And.left hb; have hb := And.right hb; rw [hc])); (try rw [hb]); exact vAuto) ?_)
    | (refine nxX ?_)
    | (refine G.condN rfl (fun hc => ?_) (fun hc => ?_) <;> (try first | exact False.elim hc | (exfalso; omega))))
  exact X.ret (vs := [_, _]) rfl ⟨⟨_, _, _, _, rfl, (by exact memA), (by (repeat (first | exact .nil | apply LenIs.cons))), by decide +kernel, rfl⟩, rfl, rfl⟩ rfl (fun w hw => ⟨rfl, hw.ext⟩)
theorem Acos7_c {a b n m : Int} (h : -1073741824 ≤ a ∧ a ≤ b ∧ b ≤ 1073741824) (h1 : TT.IsAsin a n) (h2 : TT.IsAsin (-b) m) : Cont Tryz.prog 191 [arcV a b] (.tuple [arcV (5400000 + m) (5400000 - n), .int .i64 0].toArray) := fun w => by
  have q1 := Asin7_c h h1 h2
  have hm := h2.1
  have hm2 := h2.2.1
  have hn := h1.1
  have hn2 := h1.2.1
  refine enter0 Tryz.func191 rfl rfl rfl ?_
  repeat' (first
    | (show YK _ _ _ _ _ _ _; first | refine YK.mk (y_callA (q1) ⟨rfl, rfl⟩) ?_)
    | (show YK _ _ _ _ _ _ _; refine YK.ofV vAuto ?_)
    | (show VK _ _ _ _ _ _ _; refine VK.mk vAuto ?_)
    | (show RS _ _ _ _ _ _ _ _; first | (refine nxRS ?_) | (refine nxRS1 fun _ => ?_))
    | (show RM _ _ _ _ _ _ _ _ _ _; first | (refine nxRM ?_) | (refine nxRM1 fun _ => ?_))
    | (show YG _ _ _ _ _ _ _ _; refine YG.mk (fun hb => by (try (have hc := And.left hb; have hb := And.right hb; rw [hc])); (try rw [hb]); first | exact (y_callA (q1) ⟨rfl, rfl⟩) | exact V.y vAuto) ?_)
    | (show VG _ _ _ _ _ _ _ _; refine VG.mk (fun hb => by (try (have hc := And.left hb; have hb := And.right hb; rw [hc])); (try rw [hb]); exact vAuto) ?_)
    | (refine nxX ?_)
    | (refine G.condN rfl (fun hc => ?_) (fun hc => ?_) <;> (try first | exact False.elim hc | (exfalso; omega))))
  refine X.ret (vs := [_, _]) rfl ⟨⟨_, _, _, _, rfl, (by exact memA), (by (repeat (first | exact .nil | apply LenIs.cons))), by decide +kernel, rfl⟩, rfl, rfl⟩ rfl (fun w hw => ⟨?_, hw.ext⟩)
  rw [show 5400000 - -m = 5400000 + m by omega]
theorem Ahav7_c {p : Int × Int} {n m : Int} (h : -2147483648 ≤ p.1 ∧ p.1 ≤ p.2 ∧ p.2 ≤ 2147483648) (hc : 0 ≤ (TT.clamp p).1 ∧ (TT.clamp p).2 ≤ 1073741824 ∧ (TT.clamp p).1 ≤ (TT.clamp p).2) (h1 : TT.IsAsin (1073741824 - 2 * (TT.clamp p).2) n) (h2 : TT.IsAsin (-(1073741824 - 2 * (TT.clamp p).1)) m) :
    Cont Tryz.prog 139 [arcV p.1 p.2] (.tuple [arcV (5400000 + m) (5400000 - n), .int .i64 0].toArray) := fun w => by
  have q1 := valid7_c (a := p.1) (b := p.2) h
  have q3 := Acos7_c (a := 1073741824 - 2 * (TT.clamp p).2) (b := 1073741824 - 2 * (TT.clamp p).1) (by omega) h1 h2
  clear h1 h2
  obtain ⟨p1, p2⟩ := p
  unfold TT.clamp at *
  dsimp only at *
  by_cases c1 : p1 < 0
  · rw [show max p1 0 = 0 by omega] at *
    by_cases c2 : p2 > 1073741824
    · rw [show min p2 1073741824 = 1073741824 by omega] at *
      refine enter0 Tryz.func139 rfl rfl rfl ?_
      repeat' (first
    | (show YK _ _ _ _ _ _ _; first | refine YK.mk (y_callA (q1) ⟨rfl, rfl⟩) ?_ | refine YK.mk (y_callA (q3) ⟨rfl, rfl⟩) ?_)
    | (show YK _ _ _ _ _ _ _; refine YK.ofV vAuto ?_)
    | (show VK _ _ _ _ _ _ _; refine VK.mk vAuto ?_)
    | (show RS _ _ _ _ _ _ _ _; first | (refine nxRS ?_) | (refine nxRS1 fun _ => ?_))
    | (show RM _ _ _ _ _ _ _ _ _ _; first | (refine nxRM ?_) | (refine nxRM1 fun _ => ?_))
    | (show YG _ _ _ _ _ _ _ _; refine YG.mk (fun hb => by (try (have hc := And.left hb; have hb := And.right hb; rw [hc])); (try rw [hb]); first | exact (y_callA (q1) ⟨rfl, rfl⟩) | exact (y_callA (q3) ⟨rfl, rfl⟩) | exact V.y vAuto) ?_)
    | (show VG _ _ _ _ _ _ _ _; refine VG.mk (fun hb => by (try (have hc := And.left hb; have hb := And.right hb; rw [hc])); (try rw [hb]); exact vAuto) ?_)
    | (refine nxX ?_)
    | (refine G.condN rfl (fun hc => ?_) (fun hc => ?_) <;> (try first | exact False.elim hc | (exfalso; omega))))
      exact X.ret (vs := [_, _]) rfl ⟨⟨_, _, _, _, rfl, (by exact memA), (by (repeat (first | exact .nil | apply LenIs.cons))), by decide +kernel, rfl⟩, rfl, rfl⟩ rfl (fun w hw => ⟨rfl, hw.ext⟩)
    · rw [show min p2 1073741824 = p2 by omega] at *
      refine enter0 Tryz.func139 rfl rfl rfl ?_
      repeat' (first
    | (show YK _ _ _ _ _ _ _; first | refine YK.mk (y_callA (q1) ⟨rfl, rfl⟩) ?_ | refine YK.mk (y_callA (q3) ⟨rfl, rfl⟩) ?_)
    | (show YK _ _ _ _ _ _ _; refine YK.ofV vAuto ?_)
    | (show VK _ _ _ _ _ _ _; refine VK.mk vAuto ?_)
    | (show RS _ _ _ _ _ _ _ _; first | (refine nxRS ?_) | (refine nxRS1 fun _ => ?_))
    | (show RM _ _ _ _ _ _ _ _ _ _; first | (refine nxRM ?_) | (refine nxRM1 fun _ => ?_))
    | (show YG _ _ _ _ _ _ _ _; refine YG.mk (fun hb => by (try (have hc := And.left hb; have hb := And.right hb; rw [hc])); (try rw [hb]); first | exact (y_callA (q1) ⟨rfl, rfl⟩) | exact (y_callA (q3) ⟨rfl, rfl⟩) | exact V.y vAuto) ?_)
    | (show VG _ _ _ _ _ _ _ _; refine VG.mk (fun hb => by (try (have hc := And.left hb; have hb := And.right hb; rw [hc])); (try rw [hb]); exact vAuto) ?_)
    | (refine nxX ?_)
    | (refine G.condN rfl (fun hc => ?_) (fun hc => ?_) <;> (try first | exact False.elim hc | (exfalso; omega))))
      exact X.ret (vs := [_, _]) rfl ⟨⟨_, _, _, _, rfl, (by exact memA), (by (repeat (first | exact .nil | apply LenIs.cons))), by decide +kernel, rfl⟩, rfl, rfl⟩ rfl (fun w hw => ⟨rfl, hw.ext⟩)
  · rw [show max p1 0 = p1 by omega] at *
    by_cases c2 : p2 > 1073741824
    · rw [show min p2 1073741824 = 1073741824 by omega] at *
      refine enter0 Tryz.func139 rfl rfl rfl ?_
      repeat' (first
    | (show YK _ _ _ _ _ _ _; first | refine YK.mk (y_callA (q1) ⟨rfl, rfl⟩) ?_ | refine YK.mk (y_callA (q3) ⟨rfl, rfl⟩) ?_)
    | (show YK _ _ _ _ _ _ _; refine YK.ofV vAuto ?_)
    | (show VK _ _ _ _ _ _ _; refine VK.mk vAuto ?_)
    | (show RS _ _ _ _ _ _ _ _; first | (refine nxRS ?_) | (refine nxRS1 fun _ => ?_))
    | (show RM _ _ _ _ _ _ _ _ _ _; first | (refine nxRM ?_) | (refine nxRM1 fun _ => ?_))
    | (show YG _ _ _ _ _ _ _ _; refine YG.mk (fun hb => by (try (have hc := And.left hb; have hb := And.right hb; rw [hc])); (try rw [hb]); first | exact (y_callA (q1) ⟨rfl, rfl⟩) | exact (y_callA (q3) ⟨rfl, rfl⟩) | exact V.y vAuto) ?_)
    | (show VG _ _ _ _ _ _ _ _; refine VG.mk (fun hb => by (try (have hc := And.left hb; have hb := And.right hb; rw [hc])); (try rw [hb]); exact vAuto) ?_)
    | (refine nxX ?_)
    | (refine G.condN rfl (fun hc => ?_) (fun hc => ?_) <;> (try first | exact False.elim hc | (exfalso; omega))))
      exact X.ret (vs := [_, _]) rfl ⟨⟨_, _, _, _, rfl, (by exact memA), (by (repeat (first | exact .nil | apply LenIs.cons))), by decide +kernel, rfl⟩, rfl, rfl⟩ rfl (fun w hw => ⟨rfl, hw.ext⟩)
    · rw [show min p2 1073741824 = p2 by omega] at *
      refine enter0 Tryz.func139 rfl rfl rfl ?_
      repeat' (first
    | (show YK _ _ _ _ _ _ _; first | refine YK.mk (y_callA (q1) ⟨rfl, rfl⟩) ?_ | refine YK.mk (y_callA (q3) ⟨rfl, rfl⟩) ?_)
    | (show YK _ _ _ _ _ _ _; refine YK.ofV vAuto ?_)
    | (show VK _ _ _ _ _ _ _; refine VK.mk vAuto ?_)
    | (show RS _ _ _ _ _ _ _ _; first | (refine nxRS ?_) | (refine nxRS1 fun _ => ?_))
    | (show RM _ _ _ _ _ _ _ _ _ _; first | (refine nxRM ?_) | (refine nxRM1 fun _ => ?_))
    | (show YG _ _ _ _ _ _ _ _; refine YG.mk (fun hb => by (try (have hc := And.left hb; have hb := And.right hb; rw [hc])); (try rw [hb]); first | exact (y_callA (q1) ⟨rfl, rfl⟩) | exact (y_callA (q3) ⟨rfl, rfl⟩) | exact V.y vAuto) ?_)
    | (show VG _ _ _ _ _ _ _ _; refine VG.mk (fun hb => by (try (have hc := And.left hb; have hb := And.right hb; rw [hc])); (try rw [hb]); exact vAuto) ?_)
    | (refine nxX ?_)
    | (refine G.condN rfl (fun hc => ?_) (fun hc => ?_) <;> (try first | exact False.elim hc | (exfalso; omega))))
      exact X.ret (vs := [_, _]) rfl ⟨⟨_, _, _, _, rfl, (by exact memA), (by (repeat (first | exact .nil | apply LenIs.cons))), by decide +kernel, rfl⟩, rfl, rfl⟩ rfl (fun w hw => ⟨rfl, hw.ext⟩)
end Go.Proofs.YtgmolcobhehoeaaGreatDoor
/- The reference's products, sums, distances; a catalogue's distance refused or trivial. -/
set_option linter.unusedVariables false
set_option maxHeartbeats 8000000
namespace Go.Proofs.YtgmolcobhehoeaaGreatDoor
open Go.RowKit
theorem least_c {a b : Int} : Cont Tryz.prog 184 [.int .i64 a, .int .i64 b] (.int .i64 (min a b)) := fun w => by
  refine enter0 Tryz.func184 rfl rfl rfl ?_
  repeat' (first
    | (refine nxV ?_)
    | (show RS _ _ _ _ _ _ _ _; first | (refine nxRS ?_) | (refine nxRS1 fun _ => ?_))
    | (show RM _ _ _ _ _ _ _ _ _ _; first | (refine nxRM ?_) | (refine nxRM1 fun _ => ?_))
    | (refine nxG ?_)
    | (refine nxX ?_)
    | (refine G.condN rfl (fun hc => ?_) (fun hc => ?_) <;> (try first | exact False.elim hc | (exfalso; omega))))
  all_goals exact X.ret (vs := [_]) rfl ⟨rfl, rfl⟩ rfl (fun w hw => ⟨congrArg Ending.returned (congrArg (Value.int .i64) (by omega)), hw.ext⟩)
theorem most_c {a b : Int} : Cont Tryz.prog 185 [.int .i64 a, .int .i64 b] (.int .i64 (max a b)) := fun w => by
  refine enter0 Tryz.func185 rfl rfl rfl ?_
  repeat' (first
    | (refine nxV ?_)
    | (show RS _ _ _ _ _ _ _ _; first | (refine nxRS ?_) | (refine nxRS1 fun _ => ?_))
    | (show RM _ _ _ _ _ _ _ _ _ _; first | (refine nxRM ?_) | (refine nxRM1 fun _ => ?_))
    | (refine nxG ?_)
    | (refine nxX ?_)
    | (refine G.condN rfl (fun hc => ?_) (fun hc => ?_) <;> (try first | exact False.elim hc | (exfalso; omega))))
  all_goals exact X.ret (vs := [_]) rfl ⟨rfl, rfl⟩ rfl (fun w hw => ⟨congrArg Ending.returned (congrArg (Value.int .i64) (by omega)), hw.ext⟩)
theorem tm_eq (n : Int) : (n.tmod 1073741824 < 0 → n.tdiv 1073741824 - 1 = n / 1073741824) ∧ (0 ≤ n.tmod 1073741824 → n.tdiv 1073741824 = n / 1073741824) := by
  by_cases h : n < 0
  · have e1 : n.tdiv 1073741824 = -((-n) / 1073741824) := by
      have : n = -(-n) := by omega
      rw [this, Int.neg_tdiv, Int.tdiv_eq_ediv_of_nonneg (by omega), Int.neg_neg]
    have e2 : n.tmod 1073741824 = -((-n) % 1073741824) := by
      have : n = -(-n) := by omega
      rw [this, Int.neg_tmod, Int.tmod_eq_emod_of_nonneg (by omega), Int.neg_neg]
    omega
  · have e1 := Int.tdiv_eq_ediv_of_nonneg (a := n) (b := 1073741824) (by omega)
    have e2 := Int.tmod_eq_emod_of_nonneg (a := n) (b := 1073741824) (by omega)
    omega
theorem Floor4_c {n : Int} (h : -4611686018427387904 ≤ n ∧ n ≤ 4611686018427387904) : Cont Tryz.prog 187 [.int .i64 n, .int .i64 1073741824] (.int .i64 (n / 1073741824)) := fun w => by
  obtain ⟨g1, g2⟩ := tm_eq n
  obtain ⟨q, hq⟩ : ∃ q, n.tdiv 1073741824 = q := ⟨_, rfl⟩
  obtain ⟨r, hr⟩ : ∃ r, n.tmod 1073741824 = r := ⟨_, rfl⟩
  rw [hq, hr] at g1 g2
  have hb : -4611686018427387904 ≤ q ∧ q ≤ 4611686018427387904 := by omega
  refine enter0 Tryz.func187 rfl rfl rfl ?_
  repeat' (first
    | (show YK _ _ _ _ _ ⟨_, .binOp .quo _ _ _ _, _, _, _, _⟩ _; refine YK.ofV (y_quoN (by rfl) (by rfl) hq (by decide) (by omega)) ?_)
    | (show YK _ _ _ _ _ ⟨_, .binOp .rem _ _ _ _, _, _, _, _⟩ _; refine YK.ofV (y_remN (by rfl) (by rfl) hr (by decide)) ?_)
    | (refine nxV ?_)
    | (show RS _ _ _ _ _ _ _ _; first | (refine nxRS ?_) | (refine nxRS1 fun _ => ?_))
    | (show RM _ _ _ _ _ _ _ _ _ _; first | (refine nxRM ?_) | (refine nxRM1 fun _ => ?_))
    | (refine nxG ?_)
    | (refine nxX ?_)
    | (refine G.condN rfl (fun hc => ?_) (fun hc => ?_) <;> (try first | exact False.elim hc | (exfalso; omega))))
  all_goals exact X.ret (vs := [_]) rfl ⟨rfl, rfl⟩ rfl (fun w hw => ⟨congrArg Ending.returned (congrArg (Value.int .i64) (by omega)), hw.ext⟩)
theorem Ceil4_c {n : Int} (h : -4611686018427387904 ≤ n ∧ n ≤ 4611686018427387904) : Cont Tryz.prog 188 [.int .i64 n, .int .i64 1073741824] (.int .i64 (-(-n / 1073741824))) := fun w => by
  have q1 := Floor4_c (n := -n) (by omega)
  have hb : -4611686018427387904 ≤ -n / 1073741824 ∧ -n / 1073741824 ≤ 4611686018427387904 := by omega
  refine enter0 Tryz.func188 rfl rfl rfl ?_
  repeat' (first
    | (show YK _ _ _ _ _ _ _; first | refine YK.mk (y_callA (q1) ⟨rfl, rfl, rfl⟩) ?_)
    | (show YK _ _ _ _ _ _ _; refine YK.ofV vAuto ?_)
    | (show VK _ _ _ _ _ _ _; refine VK.mk vAuto ?_)
    | (show RS _ _ _ _ _ _ _ _; first | (refine nxRS ?_) | (refine nxRS1 fun _ => ?_))
    | (show RM _ _ _ _ _ _ _ _ _ _; first | (refine nxRM ?_) | (refine nxRM1 fun _ => ?_))
    | (show YG _ _ _ _ _ _ _ _; refine YG.mk (fun hb => by (try (have hc := And.left hb; have hb := And.right hb; rw [hc])); (try rw [hb]); first | exact (y_callA (q1) ⟨rfl, rfl, rfl⟩) | exact V.y vAuto) ?_)
    | (show VG _ _ _ _ _ _ _ _; refine VG.mk (fun hb => by (try (have hc := And.left hb; have hb := And.right hb; rw [hc])); (try rw [hb]); exact vAuto) ?_)
    | (refine nxX ?_)
    | (refine G.condN rfl (fun hc => ?_) (fun hc => ?_) <;> (try first | exact False.elim hc | (exfalso; omega))))
  exact X.ret (vs := [_]) rfl ⟨rfl, rfl⟩ rfl (fun w hw => ⟨rfl, hw.ext⟩)
theorem fit4_c {lo hi : Int} (h : -2147483648 ≤ lo ∧ hi ≤ 2147483648) : Cont Tryz.prog 186 [.int .i64 lo, .int .i64 hi] (.tuple [arcV lo hi, .int .i64 0].toArray) := fun w => by
  refine enter0 Tryz.func186 rfl rfl rfl ?_
  repeat' (first
    | (refine nxV ?_)
    | (show RS _ _ _ _ _ _ _ _; first | (refine nxRS ?_) | (refine nxRS1 fun _ => ?_))
    | (show RM _ _ _ _ _ _ _ _ _ _; first | (refine nxRM ?_) | (refine nxRM1 fun _ => ?_))
    | (refine nxG ?_)
    | (refine nxX ?_)
    | (refine G.condN rfl (fun hc => ?_) (fun hc => ?_) <;> (try first | exact False.elim hc | (exfalso; omega))))
  exact X.ret (vs := [_, _]) rfl ⟨⟨_, _, _, _, rfl, (by exact memA), (by (repeat (first | exact .nil | apply LenIs.cons))), by decide +kernel, rfl⟩, rfl, rfl⟩ rfl (fun w hw => ⟨rfl, hw.ext⟩)
theorem Mul4_c {p q : Int × Int} (hp : -1073741824 ≤ p.1 ∧ p.1 ≤ p.2 ∧ p.2 ≤ 1073741824) (hq : -1073741824 ≤ q.1 ∧ q.1 ≤ q.2 ∧ q.2 ≤ 1073741824) : Cont Tryz.prog 135 [arcV p.1 p.2, arcV q.1 q.2] (.tuple [arcV (TT.mulE p q).1 (TT.mulE p q).2, .int .i64 0].toArray) := fun w => by
  have h1 := TT.abs_mul_le (A := 1073741824) (u := 1073741824) (a := p.1) (t := q.1) (by omega) (by omega)
  have h2 := TT.abs_mul_le (A := 1073741824) (u := 1073741824) (a := p.1) (t := q.2) (by omega) (by omega)
  have h3 := TT.abs_mul_le (A := 1073741824) (u := 1073741824) (a := p.2) (t := q.1) (by omega) (by omega)
  have h4 := TT.abs_mul_le (A := 1073741824) (u := 1073741824) (a := p.2) (t := q.2) (by omega) (by omega)
  have hb := TT.mulE_bd hp hq
  have q4 := fit4_c (lo := (TT.mulE p q).1) (hi := (TT.mulE p q).2) (by omega)
  have e1 : (TT.mulE p q).1 = min (min (p.1 * q.1) (p.1 * q.2)) (min (p.2 * q.1) (p.2 * q.2)) / 1073741824 := rfl
  have e2 : (TT.mulE p q).2 = -(-(max (max (p.1 * q.1) (p.1 * q.2)) (max (p.2 * q.1) (p.2 * q.2))) / 1073741824) := rfl
  generalize TT.mulE p q = r at *
  obtain ⟨r1, r2⟩ := r
  obtain ⟨a, b⟩ := p
  obtain ⟨c, d⟩ := q
  dsimp only at *
  subst e1 e2
  have q2 := Floor4_c (n := min (min (a * c) (a * d)) (min (b * c) (b * d))) (by omega)
  have q3 := Ceil4_c (n := max (max (a * c) (a * d)) (max (b * c) (b * d))) (by omega)
  refine enter0 Tryz.func135 rfl rfl rfl ?_
  repeat' (first
    | (show YK _ _ _ _ _ _ _; first | refine YK.mk (y_callA (q2) ⟨rfl, rfl, rfl⟩) ?_ | refine YK.mk (y_callA (q3) ⟨rfl, rfl, rfl⟩) ?_ | refine YK.mk (y_callA (q4) ⟨rfl, rfl, rfl⟩) ?_ | refine YK.mk (y_callA (least_c) ⟨rfl, rfl, rfl⟩) ?_ | refine YK.mk (y_callA (most_c) ⟨rfl, rfl, rfl⟩) ?_)
    | (show YK _ _ _ _ _ _ _; refine YK.ofV vAuto ?_)
    | (show VK _ _ _ _ _ _ _; refine VK.mk vAuto ?_)
    | (show RS _ _ _ _ _ _ _ _; first | (refine nxRS ?_) | (refine nxRS1 fun _ => ?_))
    | (show RM _ _ _ _ _ _ _ _ _ _; first | (refine nxRM ?_) | (refine nxRM1 fun _ => ?_))
    | (show YG _ _ _ _ _ _ _ _; refine YG.mk (fun hb => by (try (have hc := And.left hb; have hb := And.right hb; rw [hc])); (try rw [hb]); first | exact (y_callA (q2) ⟨rfl, rfl, rfl⟩) | exact (y_callA (q3) ⟨rfl, rfl, rfl⟩) | exact (y_callA (q4) ⟨rfl, rfl, rfl⟩) | exact (y_callA (least_c) ⟨rfl, rfl, rfl⟩) | exact (y_callA (most_c) ⟨rfl, rfl, rfl⟩) | exact V.y vAuto) ?_)
    | (show VG _ _ _ _ _ _ _ _; refine VG.mk (fun hb => by (try (have hc := And.left hb; have hb := And.right hb; rw [hc])); (try rw [hb]); exact vAuto) ?_)
    | (refine G.mixedA 1 [.go 0, .go 1, .go 2, .go 3, .go 4, .go 5, .go 6, .go 7, .go 8, .go 9, .go 10, .go 11, .go 12, .go 13, .go 14, .go 15, .go 16, .go 17, .go 18, .go 19, .go 20, .go 21, .go 22, .go 23] ?_)
    | (refine nxX ?_)
    | (refine G.condN rfl (fun hc => ?_) (fun hc => ?_) <;> (try first | exact False.elim hc | (exfalso; omega))))
  exact X.ret (vs := [_, _]) rfl ⟨⟨_, _, _, _, rfl, (by exact memA), (by (repeat (first | exact .nil | apply LenIs.cons))), by decide +kernel, rfl⟩, rfl, rfl⟩ rfl (fun w hw => ⟨rfl, hw.ext⟩)
theorem Add4_c {a b c d : Int} (h : -2147483648 ≤ a ∧ a ≤ b ∧ b ≤ 2147483648) (h' : -2147483648 ≤ c ∧ c ≤ d ∧ d ≤ 2147483648) (hs : -2147483648 ≤ a + c ∧ b + d ≤ 2147483648) : Cont Tryz.prog 138 [arcV a b, arcV c d] (.tuple [arcV (a + c) (b + d), .int .i64 0].toArray) := fun w => by
  have q2 := fit4_c (lo := a + c) (hi := b + d) (by omega)
  refine enter0 Tryz.func138 rfl rfl rfl ?_
  repeat' (first
    | (show YK _ _ _ _ _ _ _; first | refine YK.mk (y_callA (q2) ⟨rfl, rfl, rfl⟩) ?_)
    | (show YK _ _ _ _ _ _ _; refine YK.ofV vAuto ?_)
    | (show VK _ _ _ _ _ _ _; refine VK.mk vAuto ?_)
    | (show RS _ _ _ _ _ _ _ _; first | (refine nxRS ?_) | (refine nxRS1 fun _ => ?_))
    | (show RM _ _ _ _ _ _ _ _ _ _; first | (refine nxRM ?_) | (refine nxRM1 fun _ => ?_))
    | (show YG _ _ _ _ _ _ _ _; refine YG.mk (fun hb => by (try (have hc := And.left hb; have hb := And.right hb; rw [hc])); (try rw [hb]); first | exact (y_callA (q2) ⟨rfl, rfl, rfl⟩) | exact V.y vAuto) ?_)
    | (show VG _ _ _ _ _ _ _ _; refine VG.mk (fun hb => by (try (have hc := And.left hb; have hb := And.right hb; rw [hc])); (try rw [hb]); exact vAuto) ?_)
    | (refine nxX ?_)
    | (refine G.condN rfl (fun hc => ?_) (fun hc => ?_) <;> (try first | exact False.elim hc | (exfalso; omega))))
  exact X.ret (vs := [_, _]) rfl ⟨⟨_, _, _, _, rfl, (by exact memA), (by (repeat (first | exact .nil | apply LenIs.cons))), by decide +kernel, rfl⟩, rfl, rfl⟩ rfl (fun w hw => ⟨rfl, hw.ext⟩)
theorem Sub5_c {a b c d : Int} (h : -100000000000 ≤ a ∧ a ≤ b ∧ b ≤ 100000000000) (h' : -100000000000 ≤ c ∧ c ≤ d ∧ d ≤ 100000000000) : Cont Tryz.prog 137 [arcV a b, arcV c d] (arcV (a - d) (b - c)) := fun w => by
  refine enter0 Tryz.func137 rfl rfl rfl ?_
  repeat' (first
    | (refine nxV ?_)
    | (show RS _ _ _ _ _ _ _ _; first | (refine nxRS ?_) | (refine nxRS1 fun _ => ?_))
    | (show RM _ _ _ _ _ _ _ _ _ _; first | (refine nxRM ?_) | (refine nxRM1 fun _ => ?_))
    | (refine nxG ?_)
    | (refine nxX ?_)
    | (refine G.condN rfl (fun hc => ?_) (fun hc => ?_) <;> (try first | exact False.elim hc | (exfalso; omega))))
  exact X.ret (vs := [_]) rfl ⟨⟨_, _, _, _, rfl, (by exact memA), (by (repeat (first | exact .nil | apply LenIs.cons))), by decide +kernel, rfl⟩, rfl⟩ rfl (fun w hw => ⟨rfl, hw.ext⟩)
theorem rapart_c {s d t e : Int} {a : Int × Int} (o1 : TT.okS s d) (o2 : TT.okS t e) (hd : TT.IsDist s d t e a) : Cont Tryz.prog 84 [arcV (s - 50) (s + 50), arcV (d - 50) (d + 50), arcV (t - 50) (t + 50), arcV (e - 50) (e + 50)] (.tuple [arcV a.1 a.2, .int .i64 0].toArray) := fun w => by
  have hcl := (TT.clamp_enc o1 o2).2
  obtain ⟨s0, s1, d0, d1⟩ := o1
  obtain ⟨t0, t1, e0, e1⟩ := o2
  obtain ⟨n0, n1, p1, p0, rfl⟩ := hd
  have b1 := TT.cosE_bd (lo := d - 50) (hi := d + 50) (by omega) (by omega)
  have b2 := TT.cosE_bd (lo := e - 50) (hi := e + 50) (by omega) (by omega)
  have b3 := TT.havE_bd (lo := s - t - 100) (hi := s - t + 100) (by omega) (by omega)
  have b4 := TT.havE_bd (lo := d - e - 100) (hi := d - e + 100) (by omega) (by omega)
  have bs := TT.havS_bd (s := s) (d := d) (t := t) (e := e)
  have m1 := TT.mulE_bd b1 b2
  have m2 := TT.mulE_bd m1 ⟨by omega, b3.2⟩
  have q1 := Sub5_c (a := d - 50) (b := d + 50) (c := e - 50) (d := e + 50) (by omega) (by omega)
  have q2 := Sub5_c (a := s - 50) (b := s + 50) (c := t - 50) (d := t + 50) (by omega) (by omega)
  rw [show d - 50 - (e + 50) = d - e - 100 by omega, show d + 50 - (e - 50) = d - e + 100 by omega] at q1
  rw [show s - 50 - (t + 50) = s - t - 100 by omega, show s + 50 - (t - 50) = s - t + 100 by omega] at q2
  have q9 := Hav6_c (lo := d - e - 100) (hi := d - e + 100) (by omega) (by omega)
  have q10 := Hav6_c (lo := s - t - 100) (hi := s - t + 100) (by omega) (by omega)
  have q3 := Cos6_c (lo := d - 50) (hi := d + 50) (by omega) (by omega)
  have q4 := Cos6_c (lo := e - 50) (hi := e + 50) (by omega) (by omega)
  have q5 := Mul4_c b1 b2
  have q6 := Mul4_c m1 (⟨by omega, b3.2⟩ : -1073741824 ≤ (TT.havE (s - t - 100) (s - t + 100)).1 ∧ _)
  have q8 := Ahav7_c (p := TT.havS s d t e) (by omega) hcl p1 p0
  have eS : TT.havS s d t e = ((TT.havE (d - e - 100) (d - e + 100)).1 + (TT.mulE (TT.mulE (TT.cosE (d - 50) (d + 50)) (TT.cosE (e - 50) (e + 50))) (TT.havE (s - t - 100) (s - t + 100))).1, (TT.havE (d - e - 100) (d - e + 100)).2 + (TT.mulE (TT.mulE (TT.cosE (d - 50) (d + 50)) (TT.cosE (e - 50) (e + 50))) (TT.havE (s - t - 100) (s - t + 100))).2) := rfl
  rw [eS] at q8 bs
  dsimp only at q8 bs
  clear p1 p0 hcl eS
  generalize TT.cosE (d - 50) (d + 50) = c1 at *
  generalize TT.cosE (e - 50) (e + 50) = c2 at *
  generalize TT.havE (s - t - 100) (s - t + 100) = y at *
  generalize TT.havE (d - e - 100) (d - e + 100) = x at *
  generalize TT.mulE c1 c2 = z1 at *
  generalize TT.mulE z1 y = z2 at *
  have q7 := Add4_c (a := x.1) (b := x.2) (c := z2.1) (d := z2.2) (by omega) (by omega) (by omega)
  clear b1 b2 b3 b4 m1 m2 bs
  generalize hm0 : 5400000 + n0 = r0 at *
  generalize hm1 : 5400000 - n1 = r1 at *
  clear hm0 hm1 s0 s1 d0 d1 t0 t1 e0 e1
  obtain ⟨c11, c12⟩ := c1
  obtain ⟨c21, c22⟩ := c2
  obtain ⟨y1, y2⟩ := y
  obtain ⟨x1, x2⟩ := x
  obtain ⟨z11, z12⟩ := z1
  obtain ⟨z21, z22⟩ := z2
  dsimp only at *
  generalize d - e - 100 = f1 at *
  generalize d - e + 100 = f2 at *
  generalize s - t - 100 = f3 at *
  generalize s - t + 100 = f4 at *
  generalize d - 50 = dl at *
  generalize d + 50 = dh at *
  generalize e - 50 = el at *
  generalize e + 50 = eh at *
  generalize s - 50 = sl at *
  generalize s + 50 = sh at *
  generalize t - 50 = tl at *
  generalize t + 50 = th at *
  refine enter0 Tryz.func84 rfl rfl rfl ?_
  repeat' (first
    | (show YK _ _ _ _ _ _ _; first | refine YK.mk (y_callA (q1) ⟨rfl, rfl, rfl⟩) ?_ | refine YK.mk (y_callA (q2) ⟨rfl, rfl, rfl⟩) ?_ | refine YK.mk (y_callA (q9) ⟨rfl, rfl⟩) ?_ | refine YK.mk (y_callA (q10) ⟨rfl, rfl⟩) ?_ | refine YK.mk (y_callA (q3) ⟨rfl, rfl⟩) ?_ | refine YK.mk (y_callA (q4) ⟨rfl, rfl⟩) ?_ | refine YK.mk (y_callA (q5) ⟨rfl, rfl, rfl⟩) ?_ | refine YK.mk (y_callA (q6) ⟨rfl, rfl, rfl⟩) ?_ | refine YK.mk (y_callA (q7) ⟨rfl, rfl, rfl⟩) ?_ | refine YK.mk (y_callA (q8) ⟨rfl, rfl⟩) ?_)
    | (show YK _ _ _ _ _ _ _; refine YK.ofV vAuto ?_)
    | (show VK _ _ _ _ _ _ _; refine VK.mk vAuto ?_)
    | (show RS _ _ _ _ _ _ _ _; first | (refine nxRS ?_) | (refine nxRS1 fun _ => ?_))
    | (show RM _ _ _ _ _ _ _ _ _ _; first | (refine nxRM ?_) | (refine nxRM1 fun _ => ?_))
    | (show YG _ _ _ _ _ _ _ _; refine YG.mk (fun hb => by (try (have hc := And.left hb; have hb := And.right hb; rw [hc])); (try rw [hb]); first | exact (y_callA (q1) ⟨rfl, rfl, rfl⟩) | exact (y_callA (q2) ⟨rfl, rfl, rfl⟩) | exact (y_callA (q9) ⟨rfl, rfl⟩) | exact (y_callA (q10) ⟨rfl, rfl⟩) | exact (y_callA (q3) ⟨rfl, rfl⟩) | exact (y_callA (q4) ⟨rfl, rfl⟩) | exact (y_callA (q5) ⟨rfl, rfl, rfl⟩) | exact (y_callA (q6) ⟨rfl, rfl, rfl⟩) | exact (y_callA (q7) ⟨rfl, rfl, rfl⟩) | exact (y_callA (q8) ⟨rfl, rfl⟩) | exact V.y vAuto) ?_)
    | (show VG _ _ _ _ _ _ _ _; refine VG.mk (fun hb => by (try (have hc := And.left hb; have hb := And.right hb; rw [hc])); (try rw [hb]); exact vAuto) ?_)
    | (refine G.mixedA 1 [.go 0, .go 2, .pend 8, .go 1, .go 3, .go 4, .go 5, .go 6, .go 7, .done, .go 9, .go 10] ?_)
    | (refine G.mixedA 4 [.go 0, .go 1, .go 2, .pend 9, .go 3, .go 4, .go 5, .go 6, .go 7, .go 8, .done, .go 10, .go 11] ?_)
    | (refine G.mixedA 7 [.go 0, .go 1, .go 4, .pend 9, .go 2, .go 3, .go 5, .go 6, .go 7, .go 8, .done, .go 10, .go 11] ?_)
    | (refine nxX ?_)
    | (refine G.condN rfl (fun hc => ?_) (fun hc => ?_) <;> (try first | exact False.elim hc | (exfalso; omega))))
  exact X.ret (vs := [_, _]) rfl ⟨⟨_, _, _, _, rfl, (by exact memA), (by (repeat (first | exact .nil | apply LenIs.cons))), by decide +kernel, rfl⟩, rfl, rfl⟩ rfl (fun w hw => ⟨rfl, hw.ext⟩)
theorem rdist_c {v : Value} {l : List StarT} (hv : validS l = true) {i k : Nat} (hi : i < l.length) (hk : k < l.length) (hne : i ≠ k) {a : Int × Int}
    (hd : TT.IsDist (100 * (nth l (i : Int)).2.1) (100 * (nth l (i : Int)).2.2.1) (100 * (nth l (k : Int)).2.1) (100 * (nth l (k : Int)).2.2.1) a) :
    ContR Tryz.prog [Hl.rd v cSt 4 l] 32 [v, .int .i64 (i : Int), .int .i64 (k : Int)] (.tuple [arcV a.1 a.2, .int .i64 0].toArray) := fun w hw0 => by
  have n1 := num_of hv hi
  have n2 := num_of hv hk
  have q := rapart_c (s := 100 * (nth l (i : Int)).2.1) (d := 100 * (nth l (i : Int)).2.2.1) (t := 100 * (nth l (k : Int)).2.1) (e := 100 * (nth l (k : Int)).2.2.1) (by unfold TT.okS; omega) (by unfold TT.okS; omega) hd
  have p1 := rof_c (n := (nth l (i : Int)).2.1) (by omega)
  have p2 := rof_c (n := (nth l (i : Int)).2.2.1) (by omega)
  have p3 := rof_c (n := (nth l (k : Int)).2.1) (by omega)
  have p4 := rof_c (n := (nth l (k : Int)).2.2.1) (by omega)
  clear hd n1 n2
  have hi' : (i : Int) < l.length := by omega
  have hk' : (k : Int) < l.length := by omega
  refine enter Tryz.func32 rfl rfl rfl hw0 ?_
  repeat' (first
    | (refine G.mixedM 3 [.go 0, .go 1, .go 2, .go 3, .go 4, .go 6, .go 7, .go 8, .go 9, .go 10, .go 12, .go 13, .go 14, .go 15, .go 16, .go 18, .go 19, .go 20, .go 21, .go 22, .go 5, .go 11, .go 17, .go 23, .go 24, .go 25, .go 26, .go 27, .go 28] [false, true] ?_; dsimp only [maskH])
    | (show YK _ _ _ _ _ _ _; first | refine YK.mk (y_callA (p1) ⟨rfl, rfl⟩) ?_ | refine YK.mk (y_callA (p2) ⟨rfl, rfl⟩) ?_ | refine YK.mk (y_callA (p3) ⟨rfl, rfl⟩) ?_ | refine YK.mk (y_callA (p4) ⟨rfl, rfl⟩) ?_ | refine YK.mk (y_callA (q) ⟨rfl, rfl, rfl, rfl, rfl⟩) ?_)
    | (show YK _ _ _ _ _ _ _; refine YK.ofV vAuto ?_)
    | (show VK _ _ _ _ _ _ _; refine VK.mk vAuto ?_)
    | (show RS _ _ _ _ _ _ _ _; first | (refine nxRS ?_) | (refine nxRS1 fun _ => ?_))
    | (show RM _ _ _ _ _ _ _ _ _ _; first | (refine nxRM ?_) | (refine nxRM1 fun _ => ?_))
    | (show YG _ _ _ _ _ _ _ _; refine YG.mk (fun hb => by (try (have hc := And.left hb; have hb := And.right hb; rw [hc])); (try rw [hb]); first | exact (y_callA (p1) ⟨rfl, rfl⟩) | exact (y_callA (p2) ⟨rfl, rfl⟩) | exact (y_callA (p3) ⟨rfl, rfl⟩) | exact (y_callA (p4) ⟨rfl, rfl⟩) | exact (y_callA (q) ⟨rfl, rfl, rfl, rfl, rfl⟩) | exact V.y vAuto) ?_)
    | (show VG _ _ _ _ _ _ _ _; refine VG.mk (fun hb => by (try (have hc := And.left hb; have hb := And.right hb; rw [hc])); (try rw [hb]); exact vAuto) ?_)
    | (refine nxX ?_)
    | (refine G.condN rfl (fun hc => ?_) (fun hc => ?_) <;> (try first | exact False.elim hc | (exfalso; omega))))
  exact X.ret (vs := [_, _]) rfl ⟨⟨_, _, _, _, rfl, (by exact memA), (by (repeat (first | exact .nil | apply LenIs.cons))), by decide +kernel, rfl⟩, rfl, rfl⟩ rfl (fun w hw => ⟨rfl, hw.ext⟩)
theorem rdist_eq {v : Value} {l : List StarT} {i : Int} : ContR Tryz.prog [Hl.rd v cSt 4 l] 32 [v, .int .i64 i, .int .i64 i] (.tuple [arcV 0 0, .int .i64 0].toArray) := fun w hw0 => by
  refine enter Tryz.func32 rfl rfl rfl hw0 ?_
  repeat' (first
    | (refine G.mixedM 3 [.go 0, .go 1, .go 2, .go 3, .go 4, .go 6, .go 7, .go 8, .go 9, .go 10, .go 12, .go 13, .go 14, .go 15, .go 16, .go 18, .go 19, .go 20, .go 21, .go 22, .go 5, .go 11, .go 17, .go 23, .go 24, .go 25, .go 26, .go 27, .go 28] [false, true] ?_; dsimp only [maskH])
    | (refine nxV ?_)
    | (show RS _ _ _ _ _ _ _ _; first | (refine nxRS ?_) | (refine nxRS1 fun _ => ?_))
    | (show RM _ _ _ _ _ _ _ _ _ _; first | (refine nxRM ?_) | (refine nxRM1 fun _ => ?_))
    | (refine nxG ?_)
    | (refine nxX ?_)
    | (refine G.condN rfl (fun hc => ?_) (fun hc => ?_) <;> (try first | exact False.elim hc | (exfalso; omega))))
  exact X.ret (vs := [_, _]) rfl ⟨⟨_, _, _, _, rfl, (by exact memA), (by (repeat (first | exact .nil | apply LenIs.cons))), by decide +kernel, rfl⟩, rfl, rfl⟩ rfl (fun w hw => ⟨rfl, hw.ext⟩)
theorem cdist_eq {v : Value} {l : List StarT} {i : Int} (pv : ContR Tryz.prog [Hl.rd v cSt 4 l] 76 [v] (.bool true)) (hi : 0 ≤ i ∧ i < l.length) : ContR Tryz.prog [Hl.rd v cSt 4 l] 30 [v, .int .i64 i, .int .i64 i] (.tuple [arcV 0 0, .int .i64 0].toArray) := fun w hw0 => by
  refine enter Tryz.func30 rfl rfl rfl hw0 ?_
  repeat' (first
    | (refine G.mixedM 7 [.go 0, .go 1, .go 2, .go 3, .go 4, .go 6, .go 7, .go 8, .go 9, .go 10, .go 12, .go 13, .go 14, .go 15, .go 16, .go 18, .go 19, .go 20, .go 21, .go 22, .go 5, .go 11, .go 17, .go 23, .go 24, .go 25, .go 26, .go 27, .go 28] [false, true] ?_; dsimp only [maskH])
    | (show YK _ _ _ _ _ _ _; first | refine YK.mk (y_callRA (pv) ⟨rfl, rfl⟩) ?_)
    | (show YK _ _ _ _ _ _ _; refine YK.ofV vAuto ?_)
    | (show VK _ _ _ _ _ _ _; refine VK.mk vAuto ?_)
    | (show RS _ _ _ _ _ _ _ _; first | (refine nxRS ?_) | (refine nxRS1 fun _ => ?_))
    | (show RM _ _ _ _ _ _ _ _ _ _; first | (refine nxRM ?_) | (refine nxRM1 fun _ => ?_))
    | (show YG _ _ _ _ _ _ _ _; refine YG.mk (fun hb => by (try (have hc := And.left hb; have hb := And.right hb; rw [hc])); (try rw [hb]); first | exact (y_callRA (pv) ⟨rfl, rfl⟩) | exact V.y vAuto) ?_)
    | (show VG _ _ _ _ _ _ _ _; refine VG.mk (fun hb => by (try (have hc := And.left hb; have hb := And.right hb; rw [hc])); (try rw [hb]); exact vAuto) ?_)
    | (refine nxX ?_)
    | (refine G.condN rfl (fun hc => ?_) (fun hc => ?_) <;> (try first | exact False.elim hc | (exfalso; omega))))
  exact X.ret (vs := [_, _]) rfl ⟨⟨_, _, _, _, rfl, (by exact memA), (by (repeat (first | exact .nil | apply LenIs.cons))), by decide +kernel, rfl⟩, rfl, rfl⟩ rfl (fun w hw => ⟨rfl, hw.ext⟩)
theorem cdist_no {v : Value} {l : List StarT} {i k e : Int} {b : Bool} (pv : ContR Tryz.prog [Hl.rd v cSt 4 l] 76 [v] (.bool b)) (hb : b = false ∧ e = 1 ∨ b = true ∧ e = 2 ∧ (i < 0 ∨ k < 0 ∨ (l.length : Int) ≤ i ∨ (l.length : Int) ≤ k)) :
    ContR Tryz.prog [Hl.rd v cSt 4 l] 30 [v, .int .i64 i, .int .i64 k] (.tuple [arcV 0 0, .int .i64 e].toArray) := fun w hw0 => by
  rcases hb with ⟨rfl, rfl⟩ | ⟨rfl, rfl, hb⟩
  · refine enter Tryz.func30 rfl rfl rfl hw0 ?_
    repeat' (first
    | (refine G.mixedM 7 [.go 0, .go 1, .go 2, .go 3, .go 4, .go 6, .go 7, .go 8, .go 9, .go 10, .go 12, .go 13, .go 14, .go 15, .go 16, .go 18, .go 19, .go 20, .go 21, .go 22, .go 5, .go 11, .go 17, .go 23, .go 24, .go 25, .go 26, .go 27, .go 28] [false, true] ?_; dsimp only [maskH])
    | (show YK _ _ _ _ _ _ _; first | refine YK.mk (y_callRA (pv) ⟨rfl, rfl⟩) ?_)
    | (show YK _ _ _ _ _ _ _; refine YK.ofV vAuto ?_)
    | (show VK _ _ _ _ _ _ _; refine VK.mk vAuto ?_)
    | (show RS _ _ _ _ _ _ _ _; first | (refine nxRS ?_) | (refine nxRS1 fun _ => ?_))
    | (show RM _ _ _ _ _ _ _ _ _ _; first | (refine nxRM ?_) | (refine nxRM1 fun _ => ?_))
    | (show YG _ _ _ _ _ _ _ _; refine YG.mk (fun hb => by (try (have hc := And.left hb; have hb := And.right hb; rw [hc])); (try rw [hb]); first | exact (y_callRA (pv) ⟨rfl, rfl⟩) | exact V.y vAuto) ?_)
    | (show VG _ _ _ _ _ _ _ _; refine VG.mk (fun hb => by (try (have hc := And.left hb; have hb := And.right hb; rw [hc])); (try rw [hb]); exact vAuto) ?_)
    | (refine nxX ?_)
    | (refine G.condN rfl (fun hc => ?_) (fun hc => ?_) <;> (try first | exact False.elim hc | (exfalso; omega))))
    exact X.ret (vs := [_, _]) rfl ⟨⟨_, _, _, _, rfl, (by exact memA), (by (repeat (first | exact .nil | apply LenIs.cons))), by decide +kernel, rfl⟩, rfl, rfl⟩ rfl (fun w hw => ⟨rfl, hw.ext⟩)
  · refine enter Tryz.func30 rfl rfl rfl hw0 ?_
    repeat' (first
    | (exfalso; omega)
    | (refine G.mixedM 7 [.go 0, .go 1, .go 2, .go 3, .go 4, .go 6, .go 7, .go 8, .go 9, .go 10, .go 12, .go 13, .go 14, .go 15, .go 16, .go 18, .go 19, .go 20, .go 21, .go 22, .go 5, .go 11, .go 17, .go 23, .go 24, .go 25, .go 26, .go 27, .go 28] [false, true] ?_; dsimp only [maskH])
    | (show YK _ _ _ _ _ _ _; first | refine YK.mk (y_callRA (pv) ⟨rfl, rfl⟩) ?_)
    | (show YK _ _ _ _ _ _ _; refine YK.ofV vAuto ?_)
    | (show VK _ _ _ _ _ _ _; refine VK.mk vAuto ?_)
    | (show RS _ _ _ _ _ _ _ _; first | (refine nxRS ?_) | (refine nxRS1 fun _ => ?_))
    | (show RM _ _ _ _ _ _ _ _ _ _; first | (refine nxRM ?_) | (refine nxRM1 fun _ => ?_))
    | (show YG _ _ _ _ _ _ _ _; refine YG.mk (fun hb => by (try (have hc := And.left hb; have hb := And.right hb; rw [hc])); (try rw [hb]); first | exact (y_callRA (pv) ⟨rfl, rfl⟩) | exact V.y vAuto) ?_)
    | (show VG _ _ _ _ _ _ _ _; refine VG.mk (fun hb => by (try (have hc := And.left hb; have hb := And.right hb; rw [hc])); (try rw [hb]); exact vAuto) ?_)
    | (refine nxX ?_)
    | (refine G.condN rfl (fun hc => ?_) (fun hc => ?_) <;> (try first | exact False.elim hc | (exfalso; omega))))
    all_goals exact X.ret (vs := [_, _]) rfl ⟨⟨_, _, _, _, rfl, (by exact memA), (by (repeat (first | exact .nil | apply LenIs.cons))), by decide +kernel, rfl⟩, rfl, rfl⟩ rfl (fun w hw => ⟨rfl, hw.ext⟩)
end Go.Proofs.YtgmolcobhehoeaaGreatDoor
/- CatalogueApart: the walk of the law. -/
set_option linter.unusedVariables false
set_option maxHeartbeats 8000000
namespace Go.Proofs.YtgmolcobhehoeaaGreatDoor
open Go.RowKit
abbrev apP (v : Value) (l : List StarT) (w : World) : Prop := RO w v 4 l.length (l.flatMap cSt) ∧ LaidC w
theorem ap_no {v : Value} {l : List StarT} {i k : Int} (ps : ContR Tryz.prog [Hl.rd v cSt 4 l] 29 [v] (.bool false)) :
    ContIn Tryz.prog (apP v l) 7 [v, .int .i64 i, .int .i64 k] (.bool true) := fun w0 hw0 => by
  have hI := hw0.2
  refine enter Tryz.func7 rfl rfl rfl (Hp := [Hl.rd v cSt 4 l]) (fun h hm => by
    rcases List.mem_singleton.1 hm with rfl
    exact ⟨⟨hw0.1, fun h => by cases h⟩, rfl⟩) ?_
  repeat' (first
    | (show YK _ _ _ _ _ _ _; first | refine YK.mk (y_callIn (awake16_c) (fun _ hw => hI.keep hw.ext) rfl (by decide +kernel)) ?_ | refine YK.mk (y_callRA (ps) ⟨rfl, rfl⟩) ?_)
    | (show YK _ _ _ _ _ _ _; refine YK.ofV vAuto ?_)
    | (show VK _ _ _ _ _ _ _; refine VK.mk vAuto ?_)
    | (show RS _ _ _ _ _ _ _ _; first | (refine nxRS ?_) | (refine nxRS1 fun _ => ?_))
    | (show RM _ _ _ _ _ _ _ _ _ _; first | (refine nxRM ?_) | (refine nxRM1 fun _ => ?_))
    | (show YG _ _ _ _ _ _ _ _; refine YG.mk (fun hb => by (try (have hc := And.left hb; have hb := And.right hb; rw [hc])); (try rw [hb]); first | exact (y_callIn (awake16_c) (fun _ hw => hI.keep hw.ext) rfl (by decide +kernel)) | exact (y_callRA (ps) ⟨rfl, rfl⟩) | exact V.y vAuto) ?_)
    | (show VG _ _ _ _ _ _ _ _; refine VG.mk (fun hb => by (try (have hc := And.left hb; have hb := And.right hb; rw [hc])); (try rw [hb]); exact vAuto) ?_)
    | (refine nxX ?_)
    | (refine G.condN rfl (fun hc => ?_) (fun hc => ?_) <;> (try first | exact False.elim hc | (exfalso; omega))))
  exact X.ret (vs := [_]) rfl ⟨rfl, rfl⟩ rfl (fun w hw => ⟨rfl, hw.ext⟩)
theorem ap_bad {v : Value} {l : List StarT} {i k : Int} (ps : ContR Tryz.prog [Hl.rd v cSt 4 l] 29 [v] (.bool true)) (pr : ContR Tryz.prog [Hl.rd v cSt 4 l] 31 [v] (.bool false))
    (pd : ContR Tryz.prog [Hl.rd v cSt 4 l] 30 [v, .int .i64 i, .int .i64 k] (.tuple [arcV 0 0, .int .i64 1].toArray)) :
    ContIn Tryz.prog (apP v l) 7 [v, .int .i64 i, .int .i64 k] (.bool true) := fun w0 hw0 => by
  have hI := hw0.2
  refine enter Tryz.func7 rfl rfl rfl (Hp := [Hl.rd v cSt 4 l]) (fun h hm => by
    rcases List.mem_singleton.1 hm with rfl
    exact ⟨⟨hw0.1, fun h => by cases h⟩, rfl⟩) ?_
  repeat' (first
    | (show YK _ _ _ _ _ _ _; first | refine YK.mk (y_callIn (awake16_c) (fun _ hw => hI.keep hw.ext) rfl (by decide +kernel)) ?_ | refine YK.mk (y_callRA (ps) ⟨rfl, rfl⟩) ?_ | refine YK.mk (y_callRA (pr) ⟨rfl, rfl⟩) ?_ | refine YK.mk (y_callRA (pd) ⟨rfl, rfl, rfl, rfl⟩) ?_)
    | (show YK _ _ _ _ _ _ _; refine YK.ofV vAuto ?_)
    | (show VK _ _ _ _ _ _ _; refine VK.mk vAuto ?_)
    | (show RS _ _ _ _ _ _ _ _; first | (refine nxRS ?_) | (refine nxRS1 fun _ => ?_))
    | (show RM _ _ _ _ _ _ _ _ _ _; first | (refine nxRM ?_) | (refine nxRM1 fun _ => ?_))
    | (show YG _ _ _ _ _ _ _ _; refine YG.mk (fun hb => by (try (have hc := And.left hb; have hb := And.right hb; rw [hc])); (try rw [hb]); first | exact (y_callIn (awake16_c) (fun _ hw => hI.keep hw.ext) rfl (by decide +kernel)) | exact (y_callRA (ps) ⟨rfl, rfl⟩) | exact (y_callRA (pr) ⟨rfl, rfl⟩) | exact (y_callRA (pd) ⟨rfl, rfl, rfl, rfl⟩) | exact V.y vAuto) ?_)
    | (show VG _ _ _ _ _ _ _ _; refine VG.mk (fun hb => by (try (have hc := And.left hb; have hb := And.right hb; rw [hc])); (try rw [hb]); exact vAuto) ?_)
    | (refine nxX ?_)
    | (refine G.condN rfl (fun hc => ?_) (fun hc => ?_) <;> (try first | exact False.elim hc | (exfalso; omega))))
  all_goals exact X.ret (vs := [_]) rfl ⟨rfl, rfl⟩ rfl (fun w hw => ⟨ret_bool (by simp [eqCells, vEq]), hw.ext⟩)
theorem ap_out {v : Value} {l : List StarT} {i k : Int} (ps : ContR Tryz.prog [Hl.rd v cSt 4 l] 29 [v] (.bool true)) (pr : ContR Tryz.prog [Hl.rd v cSt 4 l] 31 [v] (.bool true)) (ho : i < 0 ∨ k < 0 ∨ (l.length : Int) ≤ i ∨ (l.length : Int) ≤ k)
    (pd : ContR Tryz.prog [Hl.rd v cSt 4 l] 30 [v, .int .i64 i, .int .i64 k] (.tuple [arcV 0 0, .int .i64 2].toArray)) :
    ContIn Tryz.prog (apP v l) 7 [v, .int .i64 i, .int .i64 k] (.bool true) := fun w0 hw0 => by
  have hI := hw0.2
  refine enter Tryz.func7 rfl rfl rfl (Hp := [Hl.rd v cSt 4 l]) (fun h hm => by
    rcases List.mem_singleton.1 hm with rfl
    exact ⟨⟨hw0.1, fun h => by cases h⟩, rfl⟩) ?_
  repeat' (first
    | (show YK _ _ _ _ _ _ _; first | refine YK.mk (y_callIn (awake16_c) (fun _ hw => hI.keep hw.ext) rfl (by decide +kernel)) ?_ | refine YK.mk (y_callRA (ps) ⟨rfl, rfl⟩) ?_ | refine YK.mk (y_callRA (pr) ⟨rfl, rfl⟩) ?_ | refine YK.mk (y_callRA (pd) ⟨rfl, rfl, rfl, rfl⟩) ?_)
    | (show YK _ _ _ _ _ _ _; refine YK.ofV vAuto ?_)
    | (show VK _ _ _ _ _ _ _; refine VK.mk vAuto ?_)
    | (show RS _ _ _ _ _ _ _ _; first | (refine nxRS ?_) | (refine nxRS1 fun _ => ?_))
    | (show RM _ _ _ _ _ _ _ _ _ _; first | (refine nxRM ?_) | (refine nxRM1 fun _ => ?_))
    | (show YG _ _ _ _ _ _ _ _; refine YG.mk (fun hb => by (try (have hc := And.left hb; have hb := And.right hb; rw [hc])); (try rw [hb]); first | exact (y_callIn (awake16_c) (fun _ hw => hI.keep hw.ext) rfl (by decide +kernel)) | exact (y_callRA (ps) ⟨rfl, rfl⟩) | exact (y_callRA (pr) ⟨rfl, rfl⟩) | exact (y_callRA (pd) ⟨rfl, rfl, rfl, rfl⟩) | exact V.y vAuto) ?_)
    | (show VG _ _ _ _ _ _ _ _; refine VG.mk (fun hb => by (try (have hc := And.left hb; have hb := And.right hb; rw [hc])); (try rw [hb]); exact vAuto) ?_)
    | (refine nxX ?_)
    | (refine G.condN rfl (fun hc => ?_) (fun hc => ?_) <;> (try first | exact False.elim hc | (exfalso; omega))))
  all_goals first
    | (exfalso; omega)
    | exact X.ret (vs := [_]) rfl ⟨rfl, rfl⟩ rfl (fun w hw => ⟨ret_bool (by simp [eqCells, vEq]), hw.ext⟩)
theorem ap_in {v : Value} {l : List StarT} {i k a b : Int} (ps : ContR Tryz.prog [Hl.rd v cSt 4 l] 29 [v] (.bool true)) (pr : ContR Tryz.prog [Hl.rd v cSt 4 l] 31 [v] (.bool true)) (hi : 0 ≤ i ∧ i < l.length) (hk : 0 ≤ k ∧ k < l.length)
    (pd : ContR Tryz.prog [Hl.rd v cSt 4 l] 30 [v, .int .i64 i, .int .i64 k] (.tuple [arcV a b, .int .i64 0].toArray)) (pq : ContR Tryz.prog [Hl.rd v cSt 4 l] 32 [v, .int .i64 i, .int .i64 k] (.tuple [arcV a b, .int .i64 0].toArray)) :
    ContIn Tryz.prog (apP v l) 7 [v, .int .i64 i, .int .i64 k] (.bool true) := fun w0 hw0 => by
  have hI := hw0.2
  refine enter Tryz.func7 rfl rfl rfl (Hp := [Hl.rd v cSt 4 l]) (fun h hm => by
    rcases List.mem_singleton.1 hm with rfl
    exact ⟨⟨hw0.1, fun h => by cases h⟩, rfl⟩) ?_
  repeat' (first
    | (show YK _ _ _ _ _ _ _; first | refine YK.mk (y_callIn (awake16_c) (fun _ hw => hI.keep hw.ext) rfl (by decide +kernel)) ?_ | refine YK.mk (y_callRA (ps) ⟨rfl, rfl⟩) ?_ | refine YK.mk (y_callRA (pr) ⟨rfl, rfl⟩) ?_ | refine YK.mk (y_callRA (pd) ⟨rfl, rfl, rfl, rfl⟩) ?_ | refine YK.mk (y_callRA (pq) ⟨rfl, rfl, rfl, rfl⟩) ?_)
    | (show YK _ _ _ _ _ _ _; refine YK.ofV vAuto ?_)
    | (show VK _ _ _ _ _ _ _; refine VK.mk vAuto ?_)
    | (show RS _ _ _ _ _ _ _ _; first | (refine nxRS ?_) | (refine nxRS1 fun _ => ?_))
    | (show RM _ _ _ _ _ _ _ _ _ _; first | (refine nxRM ?_) | (refine nxRM1 fun _ => ?_))
    | (show YG _ _ _ _ _ _ _ _; refine YG.mk (fun hb => by (try (have hc := And.left hb; have hb := And.right hb; rw [hc])); (try rw [hb]); first | exact (y_callIn (awake16_c) (fun _ hw => hI.keep hw.ext) rfl (by decide +kernel)) | exact (y_callRA (ps) ⟨rfl, rfl⟩) | exact (y_callRA (pr) ⟨rfl, rfl⟩) | exact (y_callRA (pd) ⟨rfl, rfl, rfl, rfl⟩) | exact (y_callRA (pq) ⟨rfl, rfl, rfl, rfl⟩) | exact V.y vAuto) ?_)
    | (show VG _ _ _ _ _ _ _ _; refine VG.mk (fun hb => by (try (have hc := And.left hb; have hb := And.right hb; rw [hc])); (try rw [hb]); exact vAuto) ?_)
    | (refine nxX ?_)
    | (refine G.condN rfl (fun hc => ?_) (fun hc => ?_) <;> (try first | exact False.elim hc | (exfalso; omega))))
  all_goals first
    | (exfalso; omega)
    | exact X.ret (vs := [_]) rfl ⟨rfl, rfl⟩ rfl (fun w hw => ⟨ret_bool (by simp [eqCells, vEq]), hw.ext⟩)
/-- CatalogueApart answers true. -/
theorem apart_law {v : Value} {l : List StarT} {i k : Int} (hl : l.length ≤ 9223372036854775807) : ContIn Tryz.prog (apP v l) 7 [v, .int .i64 i, .int .i64 k] (.bool true) := by
  have ps := smallB_c v l hl
  by_cases hs : smB l = true
  · rw [hs] at ps
    have hx : idxL l < 0 := by
      unfold smB at hs
      simp only [Bool.and_eq_true, decide_eq_true_eq] at hs
      exact hs.2
    have hnn : l.length ≤ 100 → namesOk l := fun _ i hi => by have := idxL_no hx hi; omega
    have pv := valid_c v l hl hnn
    have pr := rvalid_c v l hl hnn
    cases hv : validS l with
    | false =>
      rw [hv] at pv pr
      exact ap_bad ps pr (cdist_no pv (.inl ⟨rfl, rfl⟩))
    | true =>
      rw [hv] at pv pr
      by_cases ho : i < 0 ∨ k < 0 ∨ (l.length : Int) ≤ i ∨ (l.length : Int) ≤ k
      · exact ap_out ps pr ho (cdist_no pv (.inr ⟨rfl, rfl, ho⟩))
      · by_cases e : i = k
        · subst e
          exact ap_in ps pr (by omega) (by omega) (cdist_eq pv (by omega)) rdist_eq
        · obtain ⟨i', rfl⟩ := Int.eq_ofNat_of_zero_le (show 0 ≤ i by omega)
          obtain ⟨k', rfl⟩ := Int.eq_ofNat_of_zero_le (show 0 ≤ k by omega)
          have n1 := num_of hv (i := i') (by omega)
          have n2 := num_of hv (i := k') (by omega)
          obtain ⟨a, ha⟩ := TT.dist_ex (s := 100 * (nth l (i' : Int)).2.1) (d := 100 * (nth l (i' : Int)).2.2.1) (t := 100 * (nth l (k' : Int)).2.1) (e := 100 * (nth l (k' : Int)).2.2.1) (by unfold TT.okS; omega) (by unfold TT.okS; omega)
          exact ap_in ps pr (by omega) (by omega) (dist_c hv pv (by omega) (by omega) (by omega) ha) (rdist_c hv (by omega) (by omega) (by omega) ha)
  · rw [show smB l = false by simpa using hs] at ps
    exact ap_no ps
end Go.Proofs.YtgmolcobhehoeaaGreatDoor
