/- Joined texts: Fix, Rf6, Rf6b, Rf6c, Rf6d. -/
import Derived.Test.YthilhhegchmjeaaGreatWn
import Derived.Test.YthilhhegchmjeaaGreatWg
import Derived.Test.YthilhhegchmjeaaGreatWb
import Derived.Test.YthilhhegchmjeaaGreatWt
/- The program's intervals of fixed-point numbers: Valid, Mul, Add; trig.Haversine, Below. -/
set_option linter.unusedVariables false
set_option maxHeartbeats 8000000
namespace Go.Proofs.YthilhhegchmjeaaGreat
open Go.RowKit
section
variable {P : Program} {n : Nat} {L : FL} {w0 : World} {H : List Hl} {d : Option Tmp} {ty : TypeId} {pos : String} {af : Array Edge} {g : Option (Nat × Bool)} {x y z u : Operand} {k : IntKind} {a b c e : Int} {tys : Array TypeId}
theorem y_min4 (hx : evO L x = some (.int k a)) (hy : evO L y = some (.int k b)) (hz : evO L z = some (.int k c)) (hu : evO L u = some (.int k e)) : V P n L w0 H ⟨d, .call { callee := .builtin .min, args := #[x, y, z, u], argTypes := tys }, ty, pos, af, g⟩ (.int k (min (min (min a b) c) e)) := by
  unfold V
  intro a' w ha hw
  have hm : ∀ p q : Int, (if q < p then q else p) = min p q := fun p q => by rw [Int.min_def]; split <;> split <;> omega
  simp [execOp, resolve, invoke, builtin, ha.eval hx, ha.eval hy, ha.eval hz, ha.eval hu, Builtin.min_, Builtin.min2, hm]
theorem y_max4 (hx : evO L x = some (.int k a)) (hy : evO L y = some (.int k b)) (hz : evO L z = some (.int k c)) (hu : evO L u = some (.int k e)) : V P n L w0 H ⟨d, .call { callee := .builtin .max, args := #[x, y, z, u], argTypes := tys }, ty, pos, af, g⟩ (.int k (max (max (max a b) c) e)) := by
  unfold V
  intro a' w ha hw
  have hm : ∀ p q : Int, (if p < q then q else p) = max p q := fun p q => by rw [Int.max_def]; split <;> split <;> omega
  simp [execOp, resolve, invoke, builtin, ha.eval hx, ha.eval hy, ha.eval hz, ha.eval hu, Builtin.max_, Builtin.max2, hm]
end
theorem encl_bd2 (lo hi : Int) : (-1073741824 ≤ (TT.encl lo hi).1 ∧ (TT.encl lo hi).1 ≤ 1073741824) ∧ -1073741824 ≤ (TT.encl lo hi).2 ∧ (TT.encl lo hi).2 ≤ 1073741824 := by
  have a := TT.bnd_bd lo
  have b := TT.bnd_bd hi
  unfold TT.encl
  dsimp only
  constructor
  · split <;> omega
  · split <;> omega
def fvB (lo hi : Int) : Bool := decide (-2147483648 ≤ lo) && decide (lo ≤ hi) && decide (hi ≤ 2147483648)
theorem fvB_t {lo hi : Int} : fvB lo hi = true ↔ -2147483648 ≤ lo ∧ lo ≤ hi ∧ hi ≤ 2147483648 := by
  unfold fvB
  simp only [Bool.and_eq_true, decide_eq_true_eq, and_assoc]
theorem fdiv_eq (n : Int) : (n.tmod 1073741824 = 0 → n.tdiv 1073741824 = n / 1073741824) ∧ (n.tmod 1073741824 ≠ 0 → n < 0 → n.tdiv 1073741824 - 1 = n / 1073741824) ∧ (0 ≤ n → n.tdiv 1073741824 = n / 1073741824) := by
  by_cases h : n < 0
  · have e1 : n.tdiv 1073741824 = -((-n) / 1073741824) := by
      have : n = -(-n) := by omega
      rw [this, Int.neg_tdiv, Int.tdiv_eq_ediv_of_nonneg (by omega), Int.neg_neg]
    have e2 : n.tmod 1073741824 = -((-n) % 1073741824) := by
      have : n = -(-n) := by omega
      rw [this, Int.neg_tmod, Int.tmod_eq_emod_of_nonneg (by omega), Int.neg_neg]
    omega
  · have e1 := Int.tdiv_eq_ediv_of_nonneg (a := n) (b := 1073741824) (by omega)
    omega
theorem bnd_gap (n : Int) : (TT.bnd n).2 ≤ (TT.bnd n).1 + 1 := by
  unfold TT.bnd TT.hiB
  split
  · dsimp only; split <;> omega
  · dsimp only; split <;> omega
def belI (n v : Int) : Int := if (TT.bnd n).2 ≤ v ∧ (TT.bnd n).1 < v then -1 else if v ≤ (TT.bnd n).1 ∧ v < (TT.bnd n).2 then 1 else if v = (TT.bnd n).1 then 0 else if v < (TT.bnd n).1 then 1 else -1
theorem belI_le (n v : Int) : belI n v ≤ 0 ↔ (TT.bnd n).2 ≤ v := by
  have h1 := bnd_gap n
  have h2 := (TT.bnd_bd n).2.1
  unfold belI
  split
  · omega
  split
  · omega
  split
  · omega
  split
  · omega
  · omega
end Go.Proofs.YthilhhegchmjeaaGreat
/- The reference's sines: the walks. -/
set_option linter.unusedVariables false
set_option maxHeartbeats 8000000
namespace Go.Proofs.YthilhhegchmjeaaGreat
open Go.RowKit
section
variable {P : Program} {n : Nat} {L : FL} {w0 : World} {H : List Hl} {d : Option Tmp} {ty : TypeId} {pos : String} {af : Array Edge} {g : Option (Nat × Bool)} {x y : Operand} {t t' : TypeId} {m m' r : Int}
theorem mask31 {m : Int} (h : 0 ≤ m ∧ m ≤ 9223372036854775807) : bits .and .i64 m 2147483647 = m % 2147483648 := by
  have h1 : (BitVec.ofInt 64 m &&& BitVec.ofInt 64 2147483647).toNat = m.toNat % 2147483648 := by
    rw [BitVec.toNat_and, BitVec.toNat_ofInt, BitVec.toNat_ofInt]
    have e1 : (m % ((2 ^ 64 : Nat) : Int)).toNat = m.toNat := by
      have := Int.emod_eq_of_lt (a := m) (b := ((2 ^ 64 : Nat) : Int)) (by omega) (by omega)
      omega
    rw [e1]
    exact Nat.and_two_pow_sub_one_eq_mod m.toNat 31
  show IntKind.i64.wrap ((BitVec.ofInt 64 m &&& BitVec.ofInt 64 2147483647).toNat : Int) = _
  rw [h1, IntWalk.i64_in _ (by omega)]; omega
theorem y_mask31 (hx : evO L x = some (.int .i64 m)) (hy : evO L y = some (.int .i64 2147483647)) (h : 0 ≤ m ∧ m ≤ 9223372036854775807) : V P n L w0 H ⟨d, .binOp .and t x y t', ty, pos, af, g⟩ (.int .i64 (m % 2147483648)) := by
  have := y_band (P := P) (n := n) (w0 := w0) (H := H) (d := d) (ty := ty) (pos := pos) (af := af) (g := g) (t := t) (t' := t') hx hy
  rwa [mask31 h] at this
end
theorem hi62_int (a b : Nat) : ((TT.hi62 a b : Nat) : Int) = (a : Int) / 2147483648 * ((b : Int) / 2147483648) + (a : Int) / 2147483648 * ((b : Int) % 2147483648) / 2147483648 + (a : Int) % 2147483648 * ((b : Int) / 2147483648) / 2147483648 := by
  unfold TT.hi62
  simp only [Int.natCast_add, Int.natCast_mul, Int.natCast_ediv, Int.natCast_emod]
  rfl
theorem high_c {a b : Nat} (ha : a ≤ TT.W62) (hb : b ≤ TT.W62) : Cont Tryz.prog 170 [.int .i64 (a : Int), .int .i64 (b : Int)] (.int .i64 ((TT.hi62 a b : Nat) : Int)) := fun w => by
  have e := hi62_int a b
  have ha' : a ≤ 4611686018427387904 := ha
  have hb' : b ≤ 4611686018427387904 := hb
  have k1 := TT.abs_mul_le (A := 2147483648) (u := 2147483648) (a := (a : Int) / 2147483648) (t := (b : Int) / 2147483648) (by omega) (by omega)
  have k2 := TT.abs_mul_le (A := 2147483648) (u := 2147483648) (a := (a : Int) / 2147483648) (t := (b : Int) % 2147483648) (by omega) (by omega)
  have k3 := TT.abs_mul_le (A := 2147483648) (u := 2147483648) (a := (a : Int) % 2147483648) (t := (b : Int) / 2147483648) (by omega) (by omega)
  refine enter0 Tryz.func170 rfl rfl rfl ?_
  repeat' (first
    | (show YK _ _ _ _ _ ⟨_, .binOp .and _ _ _ _, _, _, _, _⟩ _; refine YK.ofV (y_mask31 (by rfl) (by rfl) (by omega)) ?_)
    | (refine nxV ?_)
    | (show RS _ _ _ _ _ _ _ _; first | (refine nxRS ?_) | (refine nxRS1 fun _ => ?_))
    | (show RM _ _ _ _ _ _ _ _ _ _; first | (refine nxRM ?_) | (refine nxRM1 fun _ => ?_))
    | (refine nxG ?_)
    | (refine nxX ?_)
    | (refine G.condN rfl (fun hc => ?_) (fun hc => ?_) <;> (try first | exact False.elim hc | (exfalso; omega))))
  exact X.ret (vs := [_]) rfl ⟨rfl, rfl⟩ rfl (fun w hw => ⟨congrArg Ending.returned (congrArg (Value.int .i64) e.symm), hw.ext⟩)
/-- What the loop of a quick series leans on. -/
structure QF (t : Nat → Nat) (s o : Nat) (R : Int) : Prop where
  rec' : ∀ i, t (i + 1) = TT.hi62 (t i) s / TT.dd o i
  dec : ∀ i, t (i + 1) ≤ t i
  bd : t 0 ≤ TT.W62
  fin : t 12 = 0
  ans : ∀ k, k ≤ 12 → t k = 0 → R = TT.sq t 0 k
  hs : s ≤ TT.W62
  ho : o ≤ 1
theorem QF.le {t : Nat → Nat} {s o : Nat} {R : Int} (h : QF t s o R) : ∀ i, t i ≤ TT.W62
  | 0 => h.bd
  | i + 1 => Nat.le_trans (h.dec i) (h.le i)
theorem qf_of {o r : Nat} (ho : o ≤ 1) (hr : r ≤ 2700000) : QF (TT.tq o (TT.radQ r) (TT.hi62 (TT.radQ r) (TT.radQ r))) (TT.hi62 (TT.radQ r) (TT.radQ r)) o (TT.quickF o r) where
  rec' := fun i => rfl
  dec := fun i => by
    have := TT.tq_dec (o := o) (x := TT.radQ r) (s := TT.hi62 (TT.radQ r) (TT.radQ r)) (Nat.le_trans (TT.sqQ_le hr) (by decide)) i
    omega
  bd := by
    have := TT.radQ_le hr
    unfold TT.tq
    split
    · exact Nat.le_trans this (by decide)
    · exact Nat.le_refl _
  fin := TT.tq_end ho hr
  ans := fun k hk h => TT.quick_at hr hk h
  hs := Nat.le_trans (TT.sqQ_le hr) (by decide)
  ho := ho
theorem dd_int (o i : Nat) : ((TT.dd o i : Nat) : Int) = (2 * (i : Int) + 1 + o) * (2 * (i : Int) + 2 + o) := by
  unfold TT.dd
  simp only [Int.natCast_add, Int.natCast_mul]
  rfl
theorem quo_int {a b : Nat} {D : Int} (h : ((b : Nat) : Int) = D) : ((a : Nat) : Int).tdiv D = ((a / b : Nat) : Int) := by
  subst h
  rw [Int.tdiv_eq_ediv_of_nonneg (by omega)]; rfl
theorem quickG_c {rn : Nat} (hr : rn ≤ 2700000) {c : Bool} {o : Nat} (hco : c = true ∧ o = 0 ∨ c = false ∧ o = 1) : Cont Tryz.prog 156 [.int .i64 (rn : Int), .bool c] (.int .i64 (TT.quickF o rn)) := fun w => by
  have hq := qf_of (o := o) (by omega) hr
  have ht0 : TT.tq o (TT.radQ rn) (TT.hi62 (TT.radQ rn) (TT.radQ rn)) 0 = if o = 1 then TT.radQ rn else 4611686018427387904 := rfl
  have hxl := TT.radQ_le hr
  have hx : (rn : Int) * 2620088056 * 512 + (rn : Int) * 658911831 / 4194304 = ((TT.radQ rn : Nat) : Int) := by
    unfold TT.radQ
    simp only [Int.natCast_add, Int.natCast_mul, Int.natCast_ediv]
    rfl
  have q0 := high_c (a := TT.radQ rn) (b := TT.radQ rn) (by unfold TT.W62; omega) (by unfold TT.W62; omega)
  generalize TT.quickF o rn = R at *
  generalize TT.tq o (TT.radQ rn) (TT.hi62 (TT.radQ rn) (TT.radQ rn)) = t at *
  generalize TT.hi62 (TT.radQ rn) (TT.radQ rn) = s at *
  generalize TT.radQ rn = x at *
  rcases hco with ⟨rfl, rfl⟩ | ⟨rfl, rfl⟩
  · rw [if_neg (by decide)] at ht0
    refine enter0 Tryz.func156 rfl rfl rfl ?_
    repeat' (first
    | (show YK _ _ _ _ _ ⟨_, .binOp .shl _ _ _ _, _, _, _, _⟩ _; refine YK.ofV (y_shl (q := 512) (by rfl) (by rfl) (by decide) (by decide) (IntWalk.i64_in _ (by omega))) ?_)
    | (show YK _ _ _ _ _ ⟨_, .binOp .shr _ _ _ _, _, _, _, _⟩ _; refine YK.ofV (y_shr (q := 4194304) (by rfl) (by rfl) (by decide) (by decide)) ?_)
    | (show YK _ _ _ _ _ ⟨some 16, .binOp .add _ _ _ _, _, _, _, _⟩ _; refine YK.ofV (y_addN (by rfl) (by rfl) hx (by omega)) ?_)
    | (show YK _ _ _ _ _ _ _; first | refine YK.mk (y_callA (q0) ⟨rfl, rfl, rfl⟩) ?_)
    | (show YK _ _ _ _ _ _ _; refine YK.ofV vAuto ?_)
    | (show VK _ _ _ _ _ _ _; refine VK.mk vAuto ?_)
    | (show RS _ _ _ _ _ _ _ _; first | (refine nxRS ?_) | (refine nxRS1 fun _ => ?_))
    | (show RM _ _ _ _ _ _ _ _ _ _; first | (refine nxRM ?_) | (refine nxRM1 fun _ => ?_))
    | (show YG _ _ _ _ _ _ _ _; refine YG.mk (fun hb => by (try (have hc := And.left hb; have hb := And.right hb; rw [hc])); (try rw [hb]); first | exact (y_callA (q0) ⟨rfl, rfl, rfl⟩) | exact V.y vAuto) ?_)
    | (show VG _ _ _ _ _ _ _ _; refine VG.mk (fun hb => by (try (have hc := And.left hb; have hb := And.right hb; rw [hc])); (try rw [hb]); exact vAuto) ?_)
    | (refine nxX ?_)
    | (refine G.condN rfl (fun hc => ?_) (fun hc => ?_) <;> (try first | exact False.elim hc | (exfalso; omega))))
    refine G.loop (ι := Nat) (fun j => [(6, .int .i64 (s : Int)), (7, .int .i64 ((t (2 * j) : Nat) : Int)), (8, .int .i64 (4 * (j : Int) + 1 + ((0 : Nat) : Int))), (9, .int .i64 (TT.sq t 0 (2 * j)))]) (fun _ => []) (fun j => 2 * j ≤ 12) (fun j => 12 - 2 * j) 0 (by omega) ⟨rfl, congrArg (fun z : Nat => some (Value.int .i64 (z : Int))) ht0.symm, rfl, rfl, trivial⟩ (by exact fun w h => h.sub (by repeat (first | exact List.Sublist.refl _ | apply List.Sublist.cons_cons | apply List.Sublist.cons))) ?_
    rintro j mx g1 hmx
    (try dsimp only at g1 hmx ⊢)
    rcases Nat.eq_zero_or_pos (t (2 * j)) with hz | hz
    · have hR := hq.ans (2 * j) g1 hz
      repeat' (first
    | (refine nxV ?_)
    | (show RS _ _ _ _ _ _ _ _; first | (refine nxRS ?_) | (refine nxRS1 fun _ => ?_))
    | (show RM _ _ _ _ _ _ _ _ _ _; first | (refine nxRM ?_) | (refine nxRM1 fun _ => ?_))
    | (refine nxG ?_)
    | (refine nxX ?_)
    | (refine G.condN rfl (fun hc => ?_) (fun hc => ?_) <;> (try first | exact False.elim hc | (exfalso; omega))))
      exact X.ret (vs := [_]) rfl ⟨rfl, rfl⟩ rfl (fun w hw => ⟨congrArg Ending.returned (congrArg (Value.int .i64) hR.symm), hw.ext⟩)
    · have hj : 2 * j < 12 := by
        rcases Nat.lt_or_ge (2 * j) 12 with h | h
        · exact h
        · have e : 2 * j = 12 := by omega
          have hf := hq.fin
          rw [e] at hz
          omega
      have l0 := hq.le (2 * j)
      have l1 := hq.le (2 * j + 1)
      have q1 := high_c (a := t (2 * j)) (b := s) l0 hq.hs
      have q2 := high_c (a := t (2 * j + 1)) (b := s) l1 hq.hs
      have b0 := TT.sq_bd hq.dec (2 * j) 0
      have b1 := TT.sq_bd hq.dec (2 * j + 1) 0
      have b2 := TT.sq_bd hq.dec (2 * j + 2) 0
      have s1 : TT.sq t 0 (2 * j + 1) = TT.sq t 0 (2 * j) + ((t (2 * j) : Nat) : Int) := by
        rw [TT.sq_snoc, if_pos (by omega), Nat.zero_add]
      have s2 : TT.sq t 0 (2 * j + 2) = TT.sq t 0 (2 * j + 1) + -((t (2 * j + 1) : Nat) : Int) := by
        rw [TT.sq_snoc (m := 2 * j + 1), if_neg (by omega), Nat.zero_add]
      have d1 := dd_int 0 (2 * j)
      have d2 := dd_int 0 (2 * j + 1)
      have r1 := hq.rec' (2 * j)
      have r2 := hq.rec' (2 * j + 1)
      have bd := hq.bd
      obtain ⟨d, hd⟩ : ∃ d : Int, 4 * (j : Int) + 1 + ((0 : Nat) : Int) = d := ⟨_, rfl⟩
      rw [show (2 * ((2 * j : Nat) : Int) + 1 + ((0 : Nat) : Int)) = d by omega, show (2 * ((2 * j : Nat) : Int) + 2 + ((0 : Nat) : Int)) = d + 1 by omega] at d1
      rw [show (2 * ((2 * j + 1 : Nat) : Int) + 1 + ((0 : Nat) : Int)) = d + 2 by omega, show (2 * ((2 * j + 1 : Nat) : Int) + 2 + ((0 : Nat) : Int)) = d + 3 by omega] at d2
      have m1 := quo_int (a := TT.hi62 (t (2 * j)) s) d1
      have m2 := quo_int (a := TT.hi62 (t (2 * j + 1)) s) d2
      rw [← r1] at m1
      rw [← r2] at m2
      have hd0 : 1 ≤ d ∧ d ≤ 30 := by omega
      have n1 := TT.abs_mul_le (A := 100) (u := 100) (a := d) (t := d + 1) (by omega) (by omega)
      have n2 := TT.abs_mul_le (A := 100) (u := 100) (a := d + 2) (t := d + 3) (by omega) (by omega)
      have p1 : d * (d + 1) ≠ 0 := Int.ne_of_gt (Int.mul_pos (by omega) (by omega))
      have p2 : (d + 2) * (d + 3) ≠ 0 := Int.ne_of_gt (Int.mul_pos (by omega) (by omega))
      have hS : TT.sq t 0 (2 * j) + ((t (2 * j) : Nat) : Int) - ((t (2 * j + 1) : Nat) : Int) = TT.sq t 0 (2 * (j + 1)) := by
        show _ = TT.sq t 0 (2 * j + 2)
        omega
      have hdn : d + 4 = 4 * ((j + 1 : Nat) : Int) + 1 + ((0 : Nat) : Int) := by omega
      have l2 := hq.le (2 * j + 1 + 1)
      unfold TT.W62 at l0 l1 l2 bd
      rw [hd]
      clear d1 d2 r1 r2 hq ht0 hx hxl q0 hd
      repeat' (first
    | (show YK _ _ _ _ _ ⟨some 34, .binOp .quo _ _ _ _, _, _, _, _⟩ _; refine YK.ofV (y_quoN (by rfl) (by rfl) m1 p1 (by omega)) ?_)
    | (show YK _ _ _ _ _ ⟨some 46, .binOp .quo _ _ _ _, _, _, _, _⟩ _; refine YK.ofV (y_quoN (by rfl) (by rfl) m2 p2 (by omega)) ?_)
    | (show YK _ _ _ _ _ _ _; first | refine YK.mk (y_callA (q1) ⟨rfl, rfl, rfl⟩) ?_ | refine YK.mk (y_callA (q2) ⟨rfl, rfl, rfl⟩) ?_)
    | (show YK _ _ _ _ _ _ _; refine YK.ofV vAuto ?_)
    | (show VK _ _ _ _ _ _ _; refine VK.mk vAuto ?_)
    | (show RS _ _ _ _ _ _ _ _; first | (refine nxRS ?_) | (refine nxRS1 fun _ => ?_))
    | (show RM _ _ _ _ _ _ _ _ _ _; first | (refine nxRM ?_) | (refine nxRM1 fun _ => ?_))
    | (show YG _ _ _ _ _ _ _ _; refine YG.mk (fun hb => by (try (have hc := And.left hb; have hb := And.right hb; rw [hc])); (try rw [hb]); first | exact (y_callA (q1) ⟨rfl, rfl, rfl⟩) | exact (y_callA (q2) ⟨rfl, rfl, rfl⟩) | exact V.y vAuto) ?_)
    | (show VG _ _ _ _ _ _ _ _; refine VG.mk (fun hb => by (try (have hc := And.left hb; have hb := And.right hb; rw [hc])); (try rw [hb]); exact vAuto) ?_)
    | (refine nxX ?_)
    | (refine G.condN rfl (fun hc => ?_) (fun hc => ?_) <;> (try first | exact False.elim hc | (exfalso; omega))))
      exact X.again (j + 1) (by omega) (by omega) ⟨rfl, rfl, congrArg (fun z => some (Value.int .i64 z)) hdn, congrArg (fun z => some (Value.int .i64 z)) hS, trivial⟩ (by exact fun w h => h.sub (by repeat (first | exact List.Sublist.refl _ | apply List.Sublist.cons_cons | apply List.Sublist.cons)))
  · rw [if_pos rfl] at ht0
    refine enter0 Tryz.func156 rfl rfl rfl ?_
    repeat' (first
    | (show YK _ _ _ _ _ ⟨_, .binOp .shl _ _ _ _, _, _, _, _⟩ _; refine YK.ofV (y_shl (q := 512) (by rfl) (by rfl) (by decide) (by decide) (IntWalk.i64_in _ (by omega))) ?_)
    | (show YK _ _ _ _ _ ⟨_, .binOp .shr _ _ _ _, _, _, _, _⟩ _; refine YK.ofV (y_shr (q := 4194304) (by rfl) (by rfl) (by decide) (by decide)) ?_)
    | (show YK _ _ _ _ _ ⟨some 16, .binOp .add _ _ _ _, _, _, _, _⟩ _; refine YK.ofV (y_addN (by rfl) (by rfl) hx (by omega)) ?_)
    | (show YK _ _ _ _ _ _ _; first | refine YK.mk (y_callA (q0) ⟨rfl, rfl, rfl⟩) ?_)
    | (show YK _ _ _ _ _ _ _; refine YK.ofV vAuto ?_)
    | (show VK _ _ _ _ _ _ _; refine VK.mk vAuto ?_)
    | (show RS _ _ _ _ _ _ _ _; first | (refine nxRS ?_) | (refine nxRS1 fun _ => ?_))
    | (show RM _ _ _ _ _ _ _ _ _ _; first | (refine nxRM ?_) | (refine nxRM1 fun _ => ?_))
    | (show YG _ _ _ _ _ _ _ _; refine YG.mk (fun hb => by (try (have hc := And.left hb; have hb := And.right hb; rw [hc])); (try rw [hb]); first | exact (y_callA (q0) ⟨rfl, rfl, rfl⟩) | exact V.y vAuto) ?_)
    | (show VG _ _ _ _ _ _ _ _; refine VG.mk (fun hb => by (try (have hc := And.left hb; have hb := And.right hb; rw [hc])); (try rw [hb]); exact vAuto) ?_)
    | (refine nxX ?_)
    | (refine G.condN rfl (fun hc => ?_) (fun hc => ?_) <;> (try first | exact False.elim hc | (exfalso; omega))))
    refine G.loop (ι := Nat) (fun j => [(6, .int .i64 (s : Int)), (7, .int .i64 ((t (2 * j) : Nat) : Int)), (8, .int .i64 (4 * (j : Int) + 1 + ((1 : Nat) : Int))), (9, .int .i64 (TT.sq t 0 (2 * j)))]) (fun _ => []) (fun j => 2 * j ≤ 12) (fun j => 12 - 2 * j) 0 (by omega) ⟨rfl, congrArg (fun z : Nat => some (Value.int .i64 (z : Int))) ht0.symm, rfl, rfl, trivial⟩ (by exact fun w h => h.sub (by repeat (first | exact List.Sublist.refl _ | apply List.Sublist.cons_cons | apply List.Sublist.cons))) ?_
    rintro j mx g1 hmx
    (try dsimp only at g1 hmx ⊢)
    rcases Nat.eq_zero_or_pos (t (2 * j)) with hz | hz
    · have hR := hq.ans (2 * j) g1 hz
      repeat' (first
    | (refine nxV ?_)
    | (show RS _ _ _ _ _ _ _ _; first | (refine nxRS ?_) | (refine nxRS1 fun _ => ?_))
    | (show RM _ _ _ _ _ _ _ _ _ _; first | (refine nxRM ?_) | (refine nxRM1 fun _ => ?_))
    | (refine nxG ?_)
    | (refine nxX ?_)
    | (refine G.condN rfl (fun hc => ?_) (fun hc => ?_) <;> (try first | exact False.elim hc | (exfalso; omega))))
      exact X.ret (vs := [_]) rfl ⟨rfl, rfl⟩ rfl (fun w hw => ⟨congrArg Ending.returned (congrArg (Value.int .i64) hR.symm), hw.ext⟩)
    · have hj : 2 * j < 12 := by
        rcases Nat.lt_or_ge (2 * j) 12 with h | h
        · exact h
        · have e : 2 * j = 12 := by omega
          have hf := hq.fin
          rw [e] at hz
          omega
      have l0 := hq.le (2 * j)
      have l1 := hq.le (2 * j + 1)
      have q1 := high_c (a := t (2 * j)) (b := s) l0 hq.hs
      have q2 := high_c (a := t (2 * j + 1)) (b := s) l1 hq.hs
      have b0 := TT.sq_bd hq.dec (2 * j) 0
      have b1 := TT.sq_bd hq.dec (2 * j + 1) 0
      have b2 := TT.sq_bd hq.dec (2 * j + 2) 0
      have s1 : TT.sq t 0 (2 * j + 1) = TT.sq t 0 (2 * j) + ((t (2 * j) : Nat) : Int) := by
        rw [TT.sq_snoc, if_pos (by omega), Nat.zero_add]
      have s2 : TT.sq t 0 (2 * j + 2) = TT.sq t 0 (2 * j + 1) + -((t (2 * j + 1) : Nat) : Int) := by
        rw [TT.sq_snoc (m := 2 * j + 1), if_neg (by omega), Nat.zero_add]
      have d1 := dd_int 1 (2 * j)
      have d2 := dd_int 1 (2 * j + 1)
      have r1 := hq.rec' (2 * j)
      have r2 := hq.rec' (2 * j + 1)
      have bd := hq.bd
      obtain ⟨d, hd⟩ : ∃ d : Int, 4 * (j : Int) + 1 + ((1 : Nat) : Int) = d := ⟨_, rfl⟩
      rw [show (2 * ((2 * j : Nat) : Int) + 1 + ((1 : Nat) : Int)) = d by omega, show (2 * ((2 * j : Nat) : Int) + 2 + ((1 : Nat) : Int)) = d + 1 by omega] at d1
      rw [show (2 * ((2 * j + 1 : Nat) : Int) + 1 + ((1 : Nat) : Int)) = d + 2 by omega, show (2 * ((2 * j + 1 : Nat) : Int) + 2 + ((1 : Nat) : Int)) = d + 3 by omega] at d2
      have m1 := quo_int (a := TT.hi62 (t (2 * j)) s) d1
      have m2 := quo_int (a := TT.hi62 (t (2 * j + 1)) s) d2
      rw [← r1] at m1
      rw [← r2] at m2
      have hd0 : 1 ≤ d ∧ d ≤ 30 := by omega
      have n1 := TT.abs_mul_le (A := 100) (u := 100) (a := d) (t := d + 1) (by omega) (by omega)
      have n2 := TT.abs_mul_le (A := 100) (u := 100) (a := d + 2) (t := d + 3) (by omega) (by omega)
      have p1 : d * (d + 1) ≠ 0 := Int.ne_of_gt (Int.mul_pos (by omega) (by omega))
      have p2 : (d + 2) * (d + 3) ≠ 0 := Int.ne_of_gt (Int.mul_pos (by omega) (by omega))
      have hS : TT.sq t 0 (2 * j) + ((t (2 * j) : Nat) : Int) - ((t (2 * j + 1) : Nat) : Int) = TT.sq t 0 (2 * (j + 1)) := by
        show _ = TT.sq t 0 (2 * j + 2)
        omega
      have hdn : d + 4 = 4 * ((j + 1 : Nat) : Int) + 1 + ((1 : Nat) : Int) := by omega
      have l2 := hq.le (2 * j + 1 + 1)
      unfold TT.W62 at l0 l1 l2 bd
      rw [hd]
      clear d1 d2 r1 r2 hq ht0 hx hxl q0 hd
      repeat' (first
    | (show YK _ _ _ _ _ ⟨some 34, .binOp .quo _ _ _ _, _, _, _, _⟩ _; refine YK.ofV (y_quoN (by rfl) (by rfl) m1 p1 (by omega)) ?_)
    | (show YK _ _ _ _ _ ⟨some 46, .binOp .quo _ _ _ _, _, _, _, _⟩ _; refine YK.ofV (y_quoN (by rfl) (by rfl) m2 p2 (by omega)) ?_)
    | (show YK _ _ _ _ _ _ _; first | refine YK.mk (y_callA (q1) ⟨rfl, rfl, rfl⟩) ?_ | refine YK.mk (y_callA (q2) ⟨rfl, rfl, rfl⟩) ?_)
    | (show YK _ _ _ _ _ _ _; refine YK.ofV vAuto ?_)
    | (show VK _ _ _ _ _ _ _; refine VK.mk vAuto ?_)
    | (show RS _ _ _ _ _ _ _ _; first | (refine nxRS ?_) | (refine nxRS1 fun _ => ?_))
    | (show RM _ _ _ _ _ _ _ _ _ _; first | (refine nxRM ?_) | (refine nxRM1 fun _ => ?_))
    | (show YG _ _ _ _ _ _ _ _; refine YG.mk (fun hb => by (try (have hc := And.left hb; have hb := And.right hb; rw [hc])); (try rw [hb]); first | exact (y_callA (q1) ⟨rfl, rfl, rfl⟩) | exact (y_callA (q2) ⟨rfl, rfl, rfl⟩) | exact V.y vAuto) ?_)
    | (show VG _ _ _ _ _ _ _ _; refine VG.mk (fun hb => by (try (have hc := And.left hb; have hb := And.right hb; rw [hc])); (try rw [hb]); exact vAuto) ?_)
    | (refine nxX ?_)
    | (refine G.condN rfl (fun hc => ?_) (fun hc => ?_) <;> (try first | exact False.elim hc | (exfalso; omega))))
      exact X.again (j + 1) (by omega) (by omega) ⟨rfl, rfl, congrArg (fun z => some (Value.int .i64 z)) hdn, congrArg (fun z => some (Value.int .i64 z)) hS, trivial⟩ (by exact fun w h => h.sub (by repeat (first | exact List.Sublist.refl _ | apply List.Sublist.cons_cons | apply List.Sublist.cons)))
end Go.Proofs.YthilhhegchmjeaaGreat
/- The reference's sines: Exact, Quick, Floor, Below, the enclosures. -/
set_option linter.unusedVariables false
set_option maxHeartbeats 8000000
namespace Go.Proofs.YthilhhegchmjeaaGreat
open Go.RowKit
theorem quick_c {r : Int} (h : 0 ≤ r ∧ r ≤ 2700000) {c : Bool} {o : Nat} (hco : c = true ∧ o = 0 ∨ c = false ∧ o = 1) : Cont Tryz.prog 156 [.int .i64 r, .bool c] (.int .i64 (TT.quickF o r.toNat)) := by
  have q := quickG_c (rn := r.toNat) (by omega) hco
  rwa [Int.toNat_of_nonneg h.1] at q
theorem quickF_bd {o r : Nat} (ho : o ≤ 1) (hr : r ≤ 2700000) : 0 ≤ TT.quickF o r ∧ TT.quickF o r ≤ 4611686018427387904 := by
  have hq := qf_of ho hr
  have h := TT.sq_bd hq.dec 12 0
  have e := hq.ans 12 (by omega) hq.fin
  have hb : TT.tq o (TT.radQ r) (TT.hi62 (TT.radQ r) (TT.radQ r)) 0 ≤ 4611686018427387904 := hq.bd
  rw [e]; omega
def quickV (q r : Int) : Int :=
  let c := decide (q % 2 = 1)
  let v := if r > 2700000 then TT.quickF (if c then 1 else 0) (5400000 - r).toNat else TT.quickF (if c then 0 else 1) r.toNat
  if q ≥ 2 then 0 - v else v
theorem quickI_V (n : Int) : TT.quickI n = quickV (TT.turnI n / 5400000) (TT.turnI n % 5400000) := rfl
theorem quickQ_c {n a q r : Int} (hn : -4611686018427387904 ≤ n ∧ n ≤ 4611686018427387904) (ha : n.tmod 21600000 < 0 ∧ n.tmod 21600000 + 21600000 = a ∨ 0 ≤ n.tmod 21600000 ∧ n.tmod 21600000 = a) (hb : -21600000 < n.tmod 21600000 ∧ n.tmod 21600000 < 21600000) (hq : a.tdiv 5400000 = q) (hr : a.tmod 5400000 = r) (q4 : 0 ≤ q ∧ q ≤ 3) (r0 : 0 ≤ r ∧ r < 5400000) :
    Cont Tryz.prog 132 [.int .i64 n] (.int .i64 (quickV q r)) := fun w => by
  have hq' : q = 0 ∨ q = 1 ∨ q = 2 ∨ q = 3 := by omega
  by_cases hg : r > 2700000
  · have b0 := quickF_bd (o := 0) (r := (5400000 - r).toNat) (by omega) (by omega)
    have b1 := quickF_bd (o := 1) (r := (5400000 - r).toNat) (by omega) (by omega)
    have q1 := quick_c (r := 5400000 - r) (by omega) (c := true) (o := 0) (.inl ⟨rfl, rfl⟩)
    have q2 := quick_c (r := 5400000 - r) (by omega) (c := false) (o := 1) (.inr ⟨rfl, rfl⟩)
    have e0 : quickV 0 r = TT.quickF 0 (5400000 - r).toNat := by unfold quickV; dsimp only; rw [if_pos hg, if_neg (show ¬ (0 : Int) ≥ 2 by decide), if_neg (show ¬ (decide ((0 : Int) % 2 = 1) = true) by decide)]
    have e1 : quickV 1 r = TT.quickF 1 (5400000 - r).toNat := by unfold quickV; dsimp only; rw [if_pos hg, if_neg (show ¬ (1 : Int) ≥ 2 by decide), if_pos (show decide ((1 : Int) % 2 = 1) = true by decide)]
    have e2 : quickV 2 r = 0 - TT.quickF 0 (5400000 - r).toNat := by unfold quickV; dsimp only; rw [if_pos hg, if_pos (show (2 : Int) ≥ 2 by decide), if_neg (show ¬ (decide ((2 : Int) % 2 = 1) = true) by decide)]
    have e3 : quickV 3 r = 0 - TT.quickF 1 (5400000 - r).toNat := by unfold quickV; dsimp only; rw [if_pos hg, if_pos (show (3 : Int) ≥ 2 by decide), if_pos (show decide ((3 : Int) % 2 = 1) = true by decide)]
    generalize TT.quickF 0 (5400000 - r).toNat = v0 at *
    generalize TT.quickF 1 (5400000 - r).toNat = v1 at *
    rcases hq' with rfl | rfl | rfl | rfl <;> rcases ha with ⟨h1, h2⟩ | ⟨h1, h2⟩ <;> subst h2 <;> (
      first | rw [e0] | rw [e1] | rw [e2] | rw [e3]
      clear e0 e1 e2 e3
      refine enter0 Tryz.func132 rfl rfl rfl ?_
      repeat' (first
    | (show YK _ _ _ _ _ ⟨some 14, .binOp .quo _ _ _ _, _, _, _, _⟩ _; refine YK.ofV (y_quoN (by rfl) (by rfl) hq (by decide) (by omega)) ?_)
    | (show YK _ _ _ _ _ ⟨some 16, .binOp .rem _ _ _ _, _, _, _, _⟩ _; refine YK.ofV (y_remN (by rfl) (by rfl) hr (by decide)) ?_)
    | (show YK _ _ _ _ _ _ _; first | refine YK.mk (y_callA (q1) ⟨rfl, rfl, rfl⟩) ?_ | refine YK.mk (y_callA (q2) ⟨rfl, rfl, rfl⟩) ?_)
    | (show YK _ _ _ _ _ _ _; refine YK.ofV vAuto ?_)
    | (show VK _ _ _ _ _ _ _; refine VK.mk vAuto ?_)
    | (show RS _ _ _ _ _ _ _ _; first | (refine nxRS ?_) | (refine nxRS1 fun _ => ?_))
    | (show RM _ _ _ _ _ _ _ _ _ _; first | (refine nxRM ?_) | (refine nxRM1 fun _ => ?_))
    | (show YG _ _ _ _ _ _ _ _; refine YG.mk (fun hb => by (try (have hc := And.left hb; have hb := And.right hb; rw [hc])); (try rw [hb]); first | exact (y_callA (q1) ⟨rfl, rfl, rfl⟩) | exact (y_callA (q2) ⟨rfl, rfl, rfl⟩) | exact V.y vAuto) ?_)
    | (show VG _ _ _ _ _ _ _ _; refine VG.mk (fun hb => by (try (have hc := And.left hb; have hb := And.right hb; rw [hc])); (try rw [hb]); exact vAuto) ?_)
    | (refine nxX ?_)
    | (refine G.condN rfl (fun hc => ?_) (fun hc => ?_) <;> (try first | exact False.elim hc | (exfalso; omega))))
      all_goals exact X.ret (vs := [_]) rfl ⟨rfl, rfl⟩ rfl (fun w hw => ⟨rfl, hw.ext⟩))
  · have b0 := quickF_bd (o := 0) (r := r.toNat) (by omega) (by omega)
    have b1 := quickF_bd (o := 1) (r := r.toNat) (by omega) (by omega)
    have q1 := quick_c (r := r) (by omega) (c := true) (o := 0) (.inl ⟨rfl, rfl⟩)
    have q2 := quick_c (r := r) (by omega) (c := false) (o := 1) (.inr ⟨rfl, rfl⟩)
    have e0 : quickV 0 r = TT.quickF 1 r.toNat := by unfold quickV; dsimp only; rw [if_neg hg, if_neg (show ¬ (0 : Int) ≥ 2 by decide), if_neg (show ¬ (decide ((0 : Int) % 2 = 1) = true) by decide)]
    have e1 : quickV 1 r = TT.quickF 0 r.toNat := by unfold quickV; dsimp only; rw [if_neg hg, if_neg (show ¬ (1 : Int) ≥ 2 by decide), if_pos (show decide ((1 : Int) % 2 = 1) = true by decide)]
    have e2 : quickV 2 r = 0 - TT.quickF 1 r.toNat := by unfold quickV; dsimp only; rw [if_neg hg, if_pos (show (2 : Int) ≥ 2 by decide), if_neg (show ¬ (decide ((2 : Int) % 2 = 1) = true) by decide)]
    have e3 : quickV 3 r = 0 - TT.quickF 0 r.toNat := by unfold quickV; dsimp only; rw [if_neg hg, if_pos (show (3 : Int) ≥ 2 by decide), if_pos (show decide ((3 : Int) % 2 = 1) = true by decide)]
    generalize TT.quickF 0 r.toNat = v0 at *
    generalize TT.quickF 1 r.toNat = v1 at *
    rcases hq' with rfl | rfl | rfl | rfl <;> rcases ha with ⟨h1, h2⟩ | ⟨h1, h2⟩ <;> subst h2 <;> (
      first | rw [e0] | rw [e1] | rw [e2] | rw [e3]
      clear e0 e1 e2 e3
      refine enter0 Tryz.func132 rfl rfl rfl ?_
      repeat' (first
    | (show YK _ _ _ _ _ ⟨some 14, .binOp .quo _ _ _ _, _, _, _, _⟩ _; refine YK.ofV (y_quoN (by rfl) (by rfl) hq (by decide) (by omega)) ?_)
    | (show YK _ _ _ _ _ ⟨some 16, .binOp .rem _ _ _ _, _, _, _, _⟩ _; refine YK.ofV (y_remN (by rfl) (by rfl) hr (by decide)) ?_)
    | (show YK _ _ _ _ _ _ _; first | refine YK.mk (y_callA (q1) ⟨rfl, rfl, rfl⟩) ?_ | refine YK.mk (y_callA (q2) ⟨rfl, rfl, rfl⟩) ?_)
    | (show YK _ _ _ _ _ _ _; refine YK.ofV vAuto ?_)
    | (show VK _ _ _ _ _ _ _; refine VK.mk vAuto ?_)
    | (show RS _ _ _ _ _ _ _ _; first | (refine nxRS ?_) | (refine nxRS1 fun _ => ?_))
    | (show RM _ _ _ _ _ _ _ _ _ _; first | (refine nxRM ?_) | (refine nxRM1 fun _ => ?_))
    | (show YG _ _ _ _ _ _ _ _; refine YG.mk (fun hb => by (try (have hc := And.left hb; have hb := And.right hb; rw [hc])); (try rw [hb]); first | exact (y_callA (q1) ⟨rfl, rfl, rfl⟩) | exact (y_callA (q2) ⟨rfl, rfl, rfl⟩) | exact V.y vAuto) ?_)
    | (show VG _ _ _ _ _ _ _ _; refine VG.mk (fun hb => by (try (have hc := And.left hb; have hb := And.right hb; rw [hc])); (try rw [hb]); exact vAuto) ?_)
    | (refine nxX ?_)
    | (refine G.condN rfl (fun hc => ?_) (fun hc => ?_) <;> (try first | exact False.elim hc | (exfalso; omega))))
      all_goals exact X.ret (vs := [_]) rfl ⟨rfl, rfl⟩ rfl (fun w hw => ⟨rfl, hw.ext⟩))
theorem turn_ha (n : Int) : (n.tmod 21600000 < 0 ∧ n.tmod 21600000 + 21600000 = TT.turnI n ∨ 0 ≤ n.tmod 21600000 ∧ n.tmod 21600000 = TT.turnI n) ∧ -21600000 < n.tmod 21600000 ∧ n.tmod 21600000 < 21600000 := by
  have ht := tmod_turn n
  unfold TT.turnI
  omega
theorem Quick_c {n : Int} (hn : -4611686018427387904 ≤ n ∧ n ≤ 4611686018427387904) : Cont Tryz.prog 132 [.int .i64 n] (.int .i64 (TT.quickI n)) := by
  obtain ⟨h1, h2⟩ := turn_ha n
  obtain ⟨m0, m1⟩ := TT.turnI_bd n
  rw [quickI_V]
  exact quickQ_c hn h1 h2 (Int.tdiv_eq_ediv_of_nonneg m0) (Int.tmod_eq_emod_of_nonneg m0) (by omega) (by omega)
theorem flo_bd (n : Int) : -1073741824 ≤ (TT.floI n).1 ∧ (TT.floI n).1 ≤ 1073741824 := by
  have h := TT.bnd_bd n
  rw [← TT.ends_bnd] at h
  have e : (TT.endsI n).1 = (TT.floI n).1 := by unfold TT.endsI; split <;> rfl
  rw [e] at h
  omega
def exaV (k : Int) : Int × Bool := match k.toNat with
  | 0 => (0, true) | 1 => (536870912, true) | 3 => (1073741824, true) | 5 => (536870912, true) | 6 => (0, true) | 7 => (-536870912, true) | 9 => (-1073741824, true) | 11 => (-536870912, true)
  | _ => (0, false)
section
variable {P : Program} {n : Nat} {L : FL} {w0 : World} {H : List Hl} {Q : Exit → Act → World → Prop} {ops : Array Oper} {rest : List Oper} {dd : Nat} {ty : TypeId} {pos : String} {af : Array Edge} {t e : TypeId} {bytes : Nat}
theorem RS.lit12K {a b c d f g h i j k l m : Int} (hh : ∀ v' : Sl, RS P ops Q n ((dd, v'.v) :: L) w0 (Hl.rw v'.v e cI 1 [a, b, c, d, f, g, h, i, j, k, l, m] :: H) rest) [ht : RowTy P t e 1 bytes] (hd : Nat.blt dd n = true := by rfl) :
    RS P ops Q n L w0 H (⟨some dd, .buildSlice t 12 #[(0, .const (.int .i64 a)), (1, .const (.int .i64 b)), (2, .const (.int .i64 c)), (3, .const (.int .i64 d)), (4, .const (.int .i64 f)), (5, .const (.int .i64 g)), (6, .const (.int .i64 h)), (7, .const (.int .i64 i)), (8, .const (.int .i64 j)), (9, .const (.int .i64 k)), (10, .const (.int .i64 l)), (11, .const (.int .i64 m))], ty, pos, af, none⟩ :: rest) :=
  RS.actX rfl (x_lit (parts := [(0, .const (.int .i64 a)), (1, .const (.int .i64 b)), (2, .const (.int .i64 c)), (3, .const (.int .i64 d)), (4, .const (.int .i64 f)), (5, .const (.int .i64 g)), (6, .const (.int .i64 h)), (7, .const (.int .i64 i)), (8, .const (.int .i64 j)), (9, .const (.int .i64 k)), (10, .const (.int .i64 l)), (11, .const (.int .i64 m))]) (vs := [.int .i64 a, .int .i64 b, .int .i64 c, .int .i64 d, .int .i64 f, .int .i64 g, .int .i64 h, .int .i64 i, .int .i64 j, .int .i64 k, .int .i64 l, .int .i64 m]) (f := cI) (l := [a, b, c, d, f, g, h, i, j, k, l, m]) ⟨rfl, rfl, rfl, rfl, rfl, rfl, rfl, rfl, rfl, rfl, rfl, rfl, rfl⟩ rfl rfl rfl rfl rfl rfl (rowTy_B ht.is) hd) fun v' _ => hh v'
theorem RS.lit4K {a b c d : Int} (hh : ∀ v' : Sl, RS P ops Q n ((dd, v'.v) :: L) w0 (Hl.rw v'.v e cI 1 [a, b, c, d] :: H) rest) [ht : RowTy P t e 1 bytes] (hd : Nat.blt dd n = true := by rfl) :
    RS P ops Q n L w0 H (⟨some dd, .buildSlice t 4 #[(0, .const (.int .i64 a)), (1, .const (.int .i64 b)), (2, .const (.int .i64 c)), (3, .const (.int .i64 d))], ty, pos, af, none⟩ :: rest) :=
  RS.actX rfl (x_lit (parts := [(0, .const (.int .i64 a)), (1, .const (.int .i64 b)), (2, .const (.int .i64 c)), (3, .const (.int .i64 d))]) (vs := [.int .i64 a, .int .i64 b, .int .i64 c, .int .i64 d]) (f := cI) (l := [a, b, c, d]) ⟨rfl, rfl, rfl, rfl, rfl⟩ rfl rfl rfl rfl rfl rfl (rowTy_B ht.is) hd) fun v' _ => hh v'
end
theorem exactK_c {n a k : Int} (hn : -4611686018427387904 ≤ n ∧ n ≤ 4611686018427387904) (ha : n.tmod 21600000 < 0 ∧ n.tmod 21600000 + 21600000 = a ∨ 0 ≤ n.tmod 21600000 ∧ n.tmod 21600000 = a) (hb : -21600000 < n.tmod 21600000 ∧ n.tmod 21600000 < 21600000) (hq : a.tdiv 1800000 = k) (hr : a.tmod 1800000 = 0) (q4 : 0 ≤ k ∧ k ≤ 11) :
    Cont Tryz.prog 131 [.int .i64 n] (.tuple [.int .i64 (exaV k).1, .bool (exaV k).2].toArray) := fun w => by
  have hk : k = 0 ∨ k = 1 ∨ k = 2 ∨ k = 3 ∨ k = 4 ∨ k = 5 ∨ k = 6 ∨ k = 7 ∨ k = 8 ∨ k = 9 ∨ k = 10 ∨ k = 11 := by omega
  rcases hk with rfl | rfl | rfl | rfl | rfl | rfl | rfl | rfl | rfl | rfl | rfl | rfl <;> rcases ha with ⟨h1, h2⟩ | ⟨h1, h2⟩ <;> subst h2 <;> (
    refine enter0 Tryz.func131 rfl rfl rfl ?_
    repeat' (first
    | (show YK _ _ _ _ _ ⟨some 13, .binOp .rem _ _ _ _, _, _, _, _⟩ _; refine YK.ofV (y_remN (by rfl) (by rfl) hr (by decide)) ?_)
    | (show YK _ _ _ _ _ ⟨some 16, .binOp .quo _ _ _ _, _, _, _, _⟩ _; refine YK.ofV (y_quoN (by rfl) (by rfl) hq (by decide) (by omega)) ?_)
    | (show RS _ _ _ _ _ _ _ (⟨some 17, .buildSlice _ _ _, _, _, _, _⟩ :: _); refine RS.lit12K ?_; intro z1)
    | (show RS _ _ _ _ _ _ _ (⟨some 21, .buildSlice _ _ _, _, _, _, _⟩ :: _); refine RS.lit4K ?_; intro z2)
    | (refine nxV ?_)
    | (show RS _ _ _ _ _ _ _ _; first | (refine nxRS ?_) | (refine nxRS1 fun _ => ?_))
    | (show RM _ _ _ _ _ _ _ _ _ _; first | (refine nxRM ?_) | (refine nxRM1 fun _ => ?_))
    | (refine nxG ?_)
    | (refine nxX ?_)
    | (refine G.condN rfl (fun hc => ?_) (fun hc => ?_) <;> (try first | exact False.elim hc | (exfalso; omega))))
    all_goals first
      | (exfalso; revert hc; decide)
      | (exact X.ret (vs := [_, _]) rfl ⟨rfl, rfl, rfl⟩ rfl (fun w hw => ⟨rfl, hw.ext⟩)))
end Go.Proofs.YthilhhegchmjeaaGreat
/- The reference's sines: Floor, Below, the enclosures. -/
set_option linter.unusedVariables false
set_option maxHeartbeats 8000000
namespace Go.Proofs.YthilhhegchmjeaaGreat
open Go.RowKit
theorem exactN_c {n a : Int} (hn : -4611686018427387904 ≤ n ∧ n ≤ 4611686018427387904) (ha : n.tmod 21600000 < 0 ∧ n.tmod 21600000 + 21600000 = a ∨ 0 ≤ n.tmod 21600000 ∧ n.tmod 21600000 = a) (hb : -21600000 < n.tmod 21600000 ∧ n.tmod 21600000 < 21600000) {r : Int} (hr : a.tmod 1800000 = r) (hr0 : r ≠ 0) :
    Cont Tryz.prog 131 [.int .i64 n] (.tuple [.int .i64 0, .bool false].toArray) := fun w => by
  rcases ha with ⟨h1, h2⟩ | ⟨h1, h2⟩ <;> subst h2 <;> (
    refine enter0 Tryz.func131 rfl rfl rfl ?_
    repeat' (first
    | (show YK _ _ _ _ _ ⟨some 13, .binOp .rem _ _ _ _, _, _, _, _⟩ _; refine YK.ofV (y_remN (by rfl) (by rfl) hr (by decide)) ?_)
    | (refine nxV ?_)
    | (show RS _ _ _ _ _ _ _ _; first | (refine nxRS ?_) | (refine nxRS1 fun _ => ?_))
    | (show RM _ _ _ _ _ _ _ _ _ _; first | (refine nxRM ?_) | (refine nxRM1 fun _ => ?_))
    | (refine nxG ?_)
    | (refine nxX ?_)
    | (refine G.condN rfl (fun hc => ?_) (fun hc => ?_) <;> (try first | exact False.elim hc | (exfalso; omega))))
    exact X.ret (vs := [_, _]) rfl ⟨rfl, rfl, rfl⟩ rfl (fun w hw => ⟨rfl, hw.ext⟩))
theorem Exact_c {n : Int} (hn : -4611686018427387904 ≤ n ∧ n ≤ 4611686018427387904) : Cont Tryz.prog 131 [.int .i64 n] (.tuple [.int .i64 (TT.exaI n).1, .bool (TT.exaI n).2].toArray) := by
  obtain ⟨h1, h2⟩ := turn_ha n
  obtain ⟨m0, m1⟩ := TT.turnI_bd n
  by_cases h : TT.turnI n % 1800000 = 0
  · have e : TT.exaI n = exaV (TT.turnI n / 1800000) := by
      unfold TT.exaI exaV
      rw [if_neg (fun g => g h)]
      generalize (TT.turnI n / 1800000).toNat = k
      rfl
    rw [e]
    exact exactK_c hn h1 h2 (Int.tdiv_eq_ediv_of_nonneg m0) (by rw [Int.tmod_eq_emod_of_nonneg m0]; exact h) (by omega)
  · have e : TT.exaI n = (0, false) := by
      unfold TT.exaI
      rw [if_pos h]
    rw [e]
    exact exactN_c hn h1 h2 (Int.tmod_eq_emod_of_nonneg m0) h
theorem quickI_bd (n : Int) : -4611686018427387904 ≤ TT.quickI n ∧ TT.quickI n ≤ 4611686018427387904 := by
  obtain ⟨m0, m1⟩ := TT.turnI_bd n
  rw [quickI_V]
  unfold quickV
  dsimp only
  have key : ∀ (b : Bool) (r : Nat), r ≤ 2700000 → 0 ≤ TT.quickF (if b = true then 1 else 0) r ∧ TT.quickF (if b = true then 1 else 0) r ≤ 4611686018427387904 := fun b r hr => quickF_bd (by cases b <;> decide) hr
  have key2 : ∀ (b : Bool) (r : Nat), r ≤ 2700000 → 0 ≤ TT.quickF (if b = true then 0 else 1) r ∧ TT.quickF (if b = true then 0 else 1) r ≤ 4611686018427387904 := fun b r hr => quickF_bd (by cases b <;> decide) hr
  by_cases hg : TT.turnI n % 5400000 > 2700000
  · rw [if_pos hg]
    have := key (decide (TT.turnI n / 5400000 % 2 = 1)) (5400000 - TT.turnI n % 5400000).toNat (by omega)
    split <;> omega
  · rw [if_neg hg]
    have := key2 (decide (TT.turnI n / 5400000 % 2 = 1)) (TT.turnI n % 5400000).toNat (by omega)
    split <;> omega
theorem Floor6_c {n : Int} (hn : -4611686018427387904 ≤ n ∧ n ≤ 4611686018427387904) : Cont Tryz.prog 118 [.int .i64 n] (.tuple [.int .i64 (TT.floI n).1, .bool (TT.floI n).2].toArray) := fun w => by
  have q1 := Exact_c hn
  have q2 := Quick_c hn
  have hb := quickI_bd n
  have hdec := TT.decided (n := n)
  have ef : TT.floI n = if (TT.exaI n).2 = true then TT.exaI n else (TT.quickI n / 4294967296, false) := rfl
  rw [ef]
  clear ef
  generalize TT.exaI n = x at *
  generalize TT.quickI n = v at *
  obtain ⟨x1, x2⟩ := x
  cases x2 with
  | true =>
    rw [if_pos rfl]
    refine enter0 Tryz.func118 rfl rfl rfl ?_
    repeat' (first
    | (show YK _ _ _ _ _ _ _; first | refine YK.mk (y_callA (q1) ⟨rfl, rfl⟩) ?_)
    | (show YK _ _ _ _ _ _ _; refine YK.ofV vAuto ?_)
    | (show VK _ _ _ _ _ _ _; refine VK.mk vAuto ?_)
    | (show RS _ _ _ _ _ _ _ _; first | (refine nxRS ?_) | (refine nxRS1 fun _ => ?_))
    | (show RM _ _ _ _ _ _ _ _ _ _; first | (refine nxRM ?_) | (refine nxRM1 fun _ => ?_))
    | (show YG _ _ _ _ _ _ _ _; refine YG.mk (fun hb => by (try (have hc := And.left hb; have hb := And.right hb; rw [hc])); (try rw [hb]); first | exact (y_callA (q1) ⟨rfl, rfl⟩) | exact V.y vAuto) ?_)
    | (show VG _ _ _ _ _ _ _ _; refine VG.mk (fun hb => by (try (have hc := And.left hb; have hb := And.right hb; rw [hc])); (try rw [hb]); exact vAuto) ?_)
    | (refine G.mixedA 13 [.go 0, .go 1, .go 4, .pend 6, .go 2, .go 3, .go 5, .done, .go 7] ?_)
    | (refine G.mixedA 14 [.go 0, .go 1, .go 3, .pend 5, .go 2, .go 4, .done, .go 6] ?_)
    | (refine nxX ?_)
    | (refine G.condN rfl (fun hc => ?_) (fun hc => ?_) <;> (try first | exact False.elim hc | (exfalso; omega))))
    exact X.ret (vs := [_, _]) rfl ⟨rfl, rfl, rfl⟩ rfl (fun w hw => ⟨rfl, hw.ext⟩)
  | false =>
    rw [if_neg (fun g => by cases g)]
    have hd := hdec rfl
    clear hdec
    refine enter0 Tryz.func118 rfl rfl rfl ?_
    repeat' (first
    | (show YK _ _ _ _ _ ⟨_, .binOp .shr _ _ _ _, _, _, _, _⟩ _; refine YK.ofV (y_shr (q := 4294967296) (by rfl) (by rfl) (by decide) (by decide)) ?_)
    | (show YK _ _ _ _ _ _ _; first | refine YK.mk (y_callA (q1) ⟨rfl, rfl⟩) ?_ | refine YK.mk (y_callA (q2) ⟨rfl, rfl⟩) ?_)
    | (show YK _ _ _ _ _ _ _; refine YK.ofV vAuto ?_)
    | (show VK _ _ _ _ _ _ _; refine VK.mk vAuto ?_)
    | (show RS _ _ _ _ _ _ _ _; first | (refine nxRS ?_) | (refine nxRS1 fun _ => ?_))
    | (show RM _ _ _ _ _ _ _ _ _ _; first | (refine nxRM ?_) | (refine nxRM1 fun _ => ?_))
    | (show YG _ _ _ _ _ _ _ _; refine YG.mk (fun hb => by (try (have hc := And.left hb; have hb := And.right hb; rw [hc])); (try rw [hb]); first | exact (y_callA (q1) ⟨rfl, rfl⟩) | exact (y_callA (q2) ⟨rfl, rfl⟩) | exact V.y vAuto) ?_)
    | (show VG _ _ _ _ _ _ _ _; refine VG.mk (fun hb => by (try (have hc := And.left hb; have hb := And.right hb; rw [hc])); (try rw [hb]); exact vAuto) ?_)
    | (refine G.mixedA 13 [.go 0, .go 1, .go 4, .pend 6, .go 2, .go 3, .go 5, .done, .go 7] ?_)
    | (refine G.mixedA 14 [.go 0, .go 1, .go 3, .pend 5, .go 2, .go 4, .done, .go 6] ?_)
    | (refine nxX ?_)
    | (refine G.condN rfl (fun hc => ?_) (fun hc => ?_) <;> (try first | exact False.elim hc | (exfalso; omega))))
    all_goals exact X.ret (vs := [_, _]) rfl ⟨rfl, rfl, rfl⟩ rfl (fun w hw => ⟨rfl, hw.ext⟩)
theorem ends6_c {n : Int} (hn : -4611686018427387904 ≤ n ∧ n ≤ 4611686018427387904) : Cont Tryz.prog 98 [.int .i64 n] (.tuple [.int .i64 (TT.endsI n).1, .int .i64 (TT.endsI n).2].toArray) := fun w => by
  have q1 := Floor6_c hn
  have hb := flo_bd n
  unfold TT.endsI
  generalize TT.floI n = x at *
  obtain ⟨x1, x2⟩ := x
  cases x2 with
  | true =>
    refine enter0 Tryz.func98 rfl rfl rfl ?_
    repeat' (first
    | (show YK _ _ _ _ _ _ _; first | refine YK.mk (y_callA (q1) ⟨rfl, rfl⟩) ?_)
    | (show YK _ _ _ _ _ _ _; refine YK.ofV vAuto ?_)
    | (show VK _ _ _ _ _ _ _; refine VK.mk vAuto ?_)
    | (show RS _ _ _ _ _ _ _ _; first | (refine nxRS ?_) | (refine nxRS1 fun _ => ?_))
    | (show RM _ _ _ _ _ _ _ _ _ _; first | (refine nxRM ?_) | (refine nxRM1 fun _ => ?_))
    | (show YG _ _ _ _ _ _ _ _; refine YG.mk (fun hb => by (try (have hc := And.left hb; have hb := And.right hb; rw [hc])); (try rw [hb]); first | exact (y_callA (q1) ⟨rfl, rfl⟩) | exact V.y vAuto) ?_)
    | (show VG _ _ _ _ _ _ _ _; refine VG.mk (fun hb => by (try (have hc := And.left hb; have hb := And.right hb; rw [hc])); (try rw [hb]); exact vAuto) ?_)
    | (refine nxX ?_)
    | (refine G.condN rfl (fun hc => ?_) (fun hc => ?_) <;> (try first | exact False.elim hc | (exfalso; omega))))
    exact X.ret (vs := [_, _]) rfl ⟨rfl, rfl, rfl⟩ rfl (fun w hw => ⟨rfl, hw.ext⟩)
  | false =>
    refine enter0 Tryz.func98 rfl rfl rfl ?_
    repeat' (first
    | (show YK _ _ _ _ _ _ _; first | refine YK.mk (y_callA (q1) ⟨rfl, rfl⟩) ?_)
    | (show YK _ _ _ _ _ _ _; refine YK.ofV vAuto ?_)
    | (show VK _ _ _ _ _ _ _; refine VK.mk vAuto ?_)
    | (show RS _ _ _ _ _ _ _ _; first | (refine nxRS ?_) | (refine nxRS1 fun _ => ?_))
    | (show RM _ _ _ _ _ _ _ _ _ _; first | (refine nxRM ?_) | (refine nxRM1 fun _ => ?_))
    | (show YG _ _ _ _ _ _ _ _; refine YG.mk (fun hb => by (try (have hc := And.left hb; have hb := And.right hb; rw [hc])); (try rw [hb]); first | exact (y_callA (q1) ⟨rfl, rfl⟩) | exact V.y vAuto) ?_)
    | (show VG _ _ _ _ _ _ _ _; refine VG.mk (fun hb => by (try (have hc := And.left hb; have hb := And.right hb; rw [hc])); (try rw [hb]); exact vAuto) ?_)
    | (refine nxX ?_)
    | (refine G.condN rfl (fun hc => ?_) (fun hc => ?_) <;> (try first | exact False.elim hc | (exfalso; omega))))
    exact X.ret (vs := [_, _]) rfl ⟨rfl, rfl, rfl⟩ rfl (fun w hw => ⟨rfl, hw.ext⟩)
theorem has6_c {lo hi n : Int} (h1 : -2305843009213693952 ≤ lo ∧ lo ≤ 2305843009213693952) (h3 : -21600000 ≤ n ∧ n ≤ 21600000) : Cont Tryz.prog 99 [arcV lo hi, .int .i64 n] (.bool (TT.hasI lo hi n)) := fun w => by
  obtain ⟨ha, hb⟩ := turn_ha (n - lo)
  obtain ⟨m0, m1⟩ := TT.turnI_bd (n - lo)
  unfold TT.hasI
  generalize TT.turnI (n - lo) = a at *
  rcases ha with ⟨g1, g2⟩ | ⟨g1, g2⟩ <;> subst g2 <;> (
    refine enter0 Tryz.func99 rfl rfl rfl ?_
    repeat' (first
    | (refine nxV ?_)
    | (show RS _ _ _ _ _ _ _ _; first | (refine nxRS ?_) | (refine nxRS1 fun _ => ?_))
    | (show RM _ _ _ _ _ _ _ _ _ _; first | (refine nxRM ?_) | (refine nxRM1 fun _ => ?_))
    | (refine nxG ?_)
    | (refine nxX ?_)
    | (refine G.condN rfl (fun hc => ?_) (fun hc => ?_) <;> (try first | exact False.elim hc | (exfalso; omega))))
    exact X.ret (vs := [_]) rfl ⟨rfl, rfl⟩ rfl (fun w hw => ⟨rfl, hw.ext⟩))
end Go.Proofs.YthilhhegchmjeaaGreat
/- The reference's sines and cosines over arcs. -/
set_option linter.unusedVariables false
set_option maxHeartbeats 8000000
namespace Go.Proofs.YthilhhegchmjeaaGreat
open Go.RowKit
theorem sine6_c {lo hi : Int} (h1 : -2305843009213693952 ≤ lo ∧ lo ≤ 2305843009213693952) (h2 : -2305843009213693952 ≤ hi ∧ hi ≤ 2305843009213693952) : Cont Tryz.prog 71 [arcV lo hi] (arcV (TT.encl lo hi).1 (TT.encl lo hi).2) := fun w => by
  have q1 := ends6_c (n := lo) (by omega)
  have q2 := ends6_c (n := hi) (by omega)
  have q3 := has6_c (lo := lo) (hi := hi) (n := 5400000) h1 (by omega)
  have q4 := has6_c (lo := lo) (hi := hi) (n := -5400000) h1 (by omega)
  rw [← TT.rsin_eq]
  unfold TT.rsinE
  generalize TT.endsI lo = x at *
  generalize TT.endsI hi = y at *
  refine enter0 Tryz.func71 rfl rfl rfl ?_
  repeat' (first
    | (show YK _ _ _ _ _ _ _; first | refine YK.mk (y_callA (q1) ⟨rfl, rfl⟩) ?_ | refine YK.mk (y_callA (q2) ⟨rfl, rfl⟩) ?_ | refine YK.mk (y_callA (q3) ⟨rfl, rfl, rfl⟩) ?_ | refine YK.mk (y_callA (q4) ⟨rfl, rfl, rfl⟩) ?_)
    | (show YK _ _ _ _ _ _ _; refine YK.ofV vAuto ?_)
    | (show VK _ _ _ _ _ _ _; refine VK.mk vAuto ?_)
    | (show RS _ _ _ _ _ _ _ _; first | (refine nxRS ?_) | (refine nxRS1 fun _ => ?_))
    | (show RM _ _ _ _ _ _ _ _ _ _; first | (refine nxRM ?_) | (refine nxRM1 fun _ => ?_))
    | (show YG _ _ _ _ _ _ _ _; refine YG.mk (fun hb => by (try (have hc := And.left hb; have hb := And.right hb; rw [hc])); (try rw [hb]); first | exact (y_callA (q1) ⟨rfl, rfl⟩) | exact (y_callA (q2) ⟨rfl, rfl⟩) | exact (y_callA (q3) ⟨rfl, rfl, rfl⟩) | exact (y_callA (q4) ⟨rfl, rfl, rfl⟩) | exact V.y vAuto) ?_)
    | (show VG _ _ _ _ _ _ _ _; refine VG.mk (fun hb => by (try (have hc := And.left hb; have hb := And.right hb; rw [hc])); (try rw [hb]); exact vAuto) ?_)
    | (refine nxX ?_)
    | (refine G.condN rfl (fun hc => ?_) (fun hc => ?_) <;> (try first | exact False.elim hc | (exfalso; omega))))
  all_goals (
    refine X.ret (vs := [_]) rfl ⟨⟨_, _, _, _, rfl, (by exact memA), (by (repeat (first | exact .nil | apply LenIs.cons))), by decide +kernel, rfl⟩, rfl⟩ rfl (fun w hw => ⟨?_, hw.ext⟩)
    dsimp only
    first
      | (rw [if_pos (by assumption), if_pos (by assumption)]; try rfl)
      | (rw [if_pos (by assumption), if_neg (ne_true_of_eq_false (by assumption))]; try rfl)
      | (rw [if_neg (ne_true_of_eq_false (by assumption)), if_pos (by assumption)]; try rfl)
      | (rw [if_neg (ne_true_of_eq_false (by assumption)), if_neg (ne_true_of_eq_false (by assumption))]; try rfl))
theorem Cos6_c {lo hi : Int} (h1 : -1152921504606846976 ≤ lo ∧ lo ≤ 1152921504606846976) (h2 : -1152921504606846976 ≤ hi ∧ hi ≤ 1152921504606846976) : Cont Tryz.prog 36 [arcV lo hi] (arcV (TT.cosE lo hi).1 (TT.cosE lo hi).2) := fun w => by
  have q1 := sine6_c (lo := lo + 5400000) (hi := hi + 5400000) (by omega) (by omega)
  unfold TT.cosE
  refine enter0 Tryz.func36 rfl rfl rfl ?_
  repeat' (first
    | (show YK _ _ _ _ _ _ _; first | refine YK.mk (y_callA (q1) ⟨rfl, rfl⟩) ?_)
    | (show YK _ _ _ _ _ _ _; refine YK.ofV vAuto ?_)
    | (show VK _ _ _ _ _ _ _; refine VK.mk vAuto ?_)
    | (show RS _ _ _ _ _ _ _ _; first | (refine nxRS ?_) | (refine nxRS1 fun _ => ?_))
    | (show RM _ _ _ _ _ _ _ _ _ _; first | (refine nxRM ?_) | (refine nxRM1 fun _ => ?_))
    | (show YG _ _ _ _ _ _ _ _; refine YG.mk (fun hb => by (try (have hc := And.left hb; have hb := And.right hb; rw [hc])); (try rw [hb]); first | exact (y_callA (q1) ⟨rfl, rfl⟩) | exact V.y vAuto) ?_)
    | (show VG _ _ _ _ _ _ _ _; refine VG.mk (fun hb => by (try (have hc := And.left hb; have hb := And.right hb; rw [hc])); (try rw [hb]); exact vAuto) ?_)
    | (refine nxX ?_)
    | (refine G.condN rfl (fun hc => ?_) (fun hc => ?_) <;> (try first | exact False.elim hc | (exfalso; omega))))
  exact X.ret (vs := [_]) rfl ⟨⟨_, _, _, _, rfl, (by exact memA), (by (repeat (first | exact .nil | apply LenIs.cons))), by decide +kernel, rfl⟩, rfl⟩ rfl (fun w hw => ⟨rfl, hw.ext⟩)
theorem Sin6_c {lo hi : Int} (h1 : -1152921504606846976 ≤ lo ∧ lo ≤ 1152921504606846976) (h2 : -1152921504606846976 ≤ hi ∧ hi ≤ 1152921504606846976) : Cont Tryz.prog 35 [arcV lo hi] (arcV (TT.encl lo hi).1 (TT.encl lo hi).2) := fun w => by
  have q1 := sine6_c (lo := lo) (hi := hi) (by omega) (by omega)
  refine enter0 Tryz.func35 rfl rfl rfl ?_
  repeat' (first
    | (show YK _ _ _ _ _ _ _; first | refine YK.mk (y_callA (q1) ⟨rfl, rfl⟩) ?_)
    | (show YK _ _ _ _ _ _ _; refine YK.ofV vAuto ?_)
    | (show VK _ _ _ _ _ _ _; refine VK.mk vAuto ?_)
    | (show RS _ _ _ _ _ _ _ _; first | (refine nxRS ?_) | (refine nxRS1 fun _ => ?_))
    | (show RM _ _ _ _ _ _ _ _ _ _; first | (refine nxRM ?_) | (refine nxRM1 fun _ => ?_))
    | (show YG _ _ _ _ _ _ _ _; refine YG.mk (fun hb => by (try (have hc := And.left hb; have hb := And.right hb; rw [hc])); (try rw [hb]); first | exact (y_callA (q1) ⟨rfl, rfl⟩) | exact V.y vAuto) ?_)
    | (show VG _ _ _ _ _ _ _ _; refine VG.mk (fun hb => by (try (have hc := And.left hb; have hb := And.right hb; rw [hc])); (try rw [hb]); exact vAuto) ?_)
    | (refine nxX ?_)
    | (refine G.condN rfl (fun hc => ?_) (fun hc => ?_) <;> (try first | exact False.elim hc | (exfalso; omega))))
  exact X.ret (vs := [_]) rfl ⟨⟨_, _, _, _, rfl, (by exact memA), (by (repeat (first | exact .nil | apply LenIs.cons))), by decide +kernel, rfl⟩, rfl⟩ rfl (fun w hw => ⟨rfl, hw.ext⟩)
end Go.Proofs.YthilhhegchmjeaaGreat
