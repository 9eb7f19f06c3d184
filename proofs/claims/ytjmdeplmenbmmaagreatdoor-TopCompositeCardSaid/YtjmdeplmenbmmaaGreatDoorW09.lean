/- Joined texts: Sin, Fix, Prd. -/
import Derived.Test.YtjmdeplmenbmmaaGreatDoorW08
import Derived.Test.YtjmdeplmenbmmaaGreatDoorV05
import Derived.Test.YtjmdeplmenbmmaaGreatDoorV08
set_option linter.unusedVariables false
set_option maxHeartbeats 8000000
namespace Go.Proofs.YtjmdeplmenbmmaaGreatDoor
open Go.RowKit
theorem tmod_turn (n : Int) : (0 ≤ n ∧ n.tmod 21600000 = n % 21600000) ∨ (n < 0 ∧ n.tmod 21600000 = -((-n) % 21600000)) := by
  by_cases h : n < 0
  · refine .inr ⟨h, ?_⟩
    have : n = -(-n) := by omega
    rw [this, Int.neg_tmod, Int.tmod_eq_emod_of_nonneg (by omega), Int.neg_neg]
  · exact .inl ⟨by omega, Int.tmod_eq_emod_of_nonneg (by omega)⟩
theorem turned_c {n : Int} (h : -4611686018427387904 ≤ n ∧ n ≤ 4611686018427387904) : Cont Tryz.prog 222 [.int .i64 n] (.int .i64 (TT.turnI n)) := fun w => by
  have ht := tmod_turn n
  have hb : -21600000 < n.tmod 21600000 ∧ n.tmod 21600000 < 21600000 := by omega
  refine enter0 Tryz.func222 rfl rfl rfl ?_
  repeat' (first
    | (refine nxV ?_)
    | (refine nxRS ?_) | (refine nxRS1 fun _ => ?_)
    | (refine nxRM ?_) | (refine nxRM1 fun _ => ?_)
    | (refine nxG ?_)
    | (refine nxX ?_)
    | (refine G.condN rfl (fun hc => ?_) (fun hc => ?_) <;> (try first | exact False.elim hc | (exfalso; omega))))
  all_goals refine X.ret (vs := [_]) rfl ⟨rfl, rfl⟩ rfl (fun w hw => ⟨congrArg Ending.returned (congrArg (Value.int .i64) ?_), hw.ext⟩)
  all_goals (unfold TT.turnI; omega)
theorem bounds_c {n : Int} (h : -4611686018427387904 ≤ n ∧ n ≤ 4611686018427387904) : Cont Tryz.prog 166 [.int .i64 n] (.tuple [.int .i64 (TT.bnd n).1, .int .i64 (TT.bnd n).2].toArray) := fun w => by
  have q1 := turned_c h
  obtain ⟨m0, m1⟩ := TT.turnI_bd n
  obtain ⟨f0, f1⟩ := TT.foldI_bd m0 m1
  have q2 := sine_c f0 f1
  obtain ⟨b0, b1, b2⟩ := TT.sinB_bd f0 f1
  unfold TT.bnd
  unfold TT.hiB at *
  have hf : TT.foldI (TT.turnI n) = if (if 10800000 < TT.turnI n then TT.turnI n - 10800000 else TT.turnI n) > 5400000 then 10800000 - (if 10800000 < TT.turnI n then TT.turnI n - 10800000 else TT.turnI n) else (if 10800000 < TT.turnI n then TT.turnI n - 10800000 else TT.turnI n) := rfl
  generalize TT.foldI (TT.turnI n) = f at *
  generalize TT.turnI n = m at *
  generalize TT.sinB f = sb at *
  obtain ⟨lo, ex⟩ := sb
  dsimp only at *
  by_cases c1 : 10800000 < m
  · rw [if_pos c1] at hf ⊢
    by_cases c2 : m - 10800000 > 5400000
    · rw [if_pos c2] at hf; subst hf
      cases ex <;> (
        refine enter0 Tryz.func166 rfl rfl rfl ?_
        repeat' (first
    | (show YK _ _ _ _ _ _ _; first | refine YK.mk (y_callA (q1) ⟨rfl, rfl⟩) ?_ | refine YK.mk (y_callA (q2) ⟨rfl, rfl⟩) ?_)
    | (refine nxV ?_)
    | (refine nxRS ?_) | (refine nxRS1 fun _ => ?_)
    | (refine nxRM ?_) | (refine nxRM1 fun _ => ?_)
    | (show YG _ _ _ _ _ _ _ _; refine YG.mk (fun hb => by (try (have hc := And.left hb; have hb := And.right hb; rw [hc])); (try rw [hb]); first | exact (y_callA (q1) ⟨rfl, rfl⟩) | exact (y_callA (q2) ⟨rfl, rfl⟩) | exact V.y vAuto) ?_)
    | (refine nxG ?_)
    | (refine nxX ?_)
    | (refine G.condN rfl (fun hc => ?_) (fun hc => ?_) <;> (try first | exact False.elim hc | (exfalso; omega))))
        exact X.ret (vs := [_, _]) rfl ⟨rfl, rfl, rfl⟩ rfl (fun w hw => ⟨rfl, hw.ext⟩))
    · rw [if_neg c2] at hf; subst hf
      cases ex <;> (
        refine enter0 Tryz.func166 rfl rfl rfl ?_
        repeat' (first
    | (show YK _ _ _ _ _ _ _; first | refine YK.mk (y_callA (q1) ⟨rfl, rfl⟩) ?_ | refine YK.mk (y_callA (q2) ⟨rfl, rfl⟩) ?_)
    | (refine nxV ?_)
    | (refine nxRS ?_) | (refine nxRS1 fun _ => ?_)
    | (refine nxRM ?_) | (refine nxRM1 fun _ => ?_)
    | (show YG _ _ _ _ _ _ _ _; refine YG.mk (fun hb => by (try (have hc := And.left hb; have hb := And.right hb; rw [hc])); (try rw [hb]); first | exact (y_callA (q1) ⟨rfl, rfl⟩) | exact (y_callA (q2) ⟨rfl, rfl⟩) | exact V.y vAuto) ?_)
    | (refine nxG ?_)
    | (refine nxX ?_)
    | (refine G.condN rfl (fun hc => ?_) (fun hc => ?_) <;> (try first | exact False.elim hc | (exfalso; omega))))
        exact X.ret (vs := [_, _]) rfl ⟨rfl, rfl, rfl⟩ rfl (fun w hw => ⟨rfl, hw.ext⟩))
  · rw [if_neg c1] at hf ⊢
    by_cases c2 : m > 5400000
    · rw [if_pos c2] at hf; subst hf
      cases ex <;> (
        refine enter0 Tryz.func166 rfl rfl rfl ?_
        repeat' (first
    | (show YK _ _ _ _ _ _ _; first | refine YK.mk (y_callA (q1) ⟨rfl, rfl⟩) ?_ | refine YK.mk (y_callA (q2) ⟨rfl, rfl⟩) ?_)
    | (refine nxV ?_)
    | (refine nxRS ?_) | (refine nxRS1 fun _ => ?_)
    | (refine nxRM ?_) | (refine nxRM1 fun _ => ?_)
    | (show YG _ _ _ _ _ _ _ _; refine YG.mk (fun hb => by (try (have hc := And.left hb; have hb := And.right hb; rw [hc])); (try rw [hb]); first | exact (y_callA (q1) ⟨rfl, rfl⟩) | exact (y_callA (q2) ⟨rfl, rfl⟩) | exact V.y vAuto) ?_)
    | (refine nxG ?_)
    | (refine nxX ?_)
    | (refine G.condN rfl (fun hc => ?_) (fun hc => ?_) <;> (try first | exact False.elim hc | (exfalso; omega))))
        exact X.ret (vs := [_, _]) rfl ⟨rfl, rfl, rfl⟩ rfl (fun w hw => ⟨rfl, hw.ext⟩))
    · rw [if_neg c2] at hf; subst hf
      cases ex <;> (
        refine enter0 Tryz.func166 rfl rfl rfl ?_
        repeat' (first
    | (show YK _ _ _ _ _ _ _; first | refine YK.mk (y_callA (q1) ⟨rfl, rfl⟩) ?_ | refine YK.mk (y_callA (q2) ⟨rfl, rfl⟩) ?_)
    | (refine nxV ?_)
    | (refine nxRS ?_) | (refine nxRS1 fun _ => ?_)
    | (refine nxRM ?_) | (refine nxRM1 fun _ => ?_)
    | (show YG _ _ _ _ _ _ _ _; refine YG.mk (fun hb => by (try (have hc := And.left hb; have hb := And.right hb; rw [hc])); (try rw [hb]); first | exact (y_callA (q1) ⟨rfl, rfl⟩) | exact (y_callA (q2) ⟨rfl, rfl⟩) | exact V.y vAuto) ?_)
    | (refine nxG ?_)
    | (refine nxX ?_)
    | (refine G.condN rfl (fun hc => ?_) (fun hc => ?_) <;> (try first | exact False.elim hc | (exfalso; omega))))
        exact X.ret (vs := [_, _]) rfl ⟨rfl, rfl, rfl⟩ rfl (fun w hw => ⟨rfl, hw.ext⟩))
abbrev arcV (lo hi : Int) : Value := .agg [.int .i64 lo, .int .i64 hi].toArray
theorem meets_c {lo hi n : Int} (h1 : -2305843009213693952 ≤ lo ∧ lo ≤ 2305843009213693952) (h2 : -2305843009213693952 ≤ hi ∧ hi ≤ 2305843009213693952) (h3 : 0 ≤ n ∧ n ≤ 21600000) : Cont Tryz.prog 167 [arcV lo hi, .int .i64 n] (.bool (TT.meetsI lo hi n)) := fun w => by
  have q1 := turned_c (n := n - lo) (by omega)
  refine enter0 Tryz.func167 rfl rfl rfl ?_
  repeat' (first
    | (show YK _ _ _ _ _ _ _; first | refine YK.mk (y_callA (q1) ⟨rfl, rfl⟩) ?_)
    | (refine nxV ?_)
    | (refine nxRS ?_) | (refine nxRS1 fun _ => ?_)
    | (refine nxRM ?_) | (refine nxRM1 fun _ => ?_)
    | (show YG _ _ _ _ _ _ _ _; refine YG.mk (fun hb => by (try (have hc := And.left hb; have hb := And.right hb; rw [hc])); (try rw [hb]); first | exact (y_callA (q1) ⟨rfl, rfl⟩) | exact V.y vAuto) ?_)
    | (refine nxG ?_)
    | (refine G.mixedA 1 [.go 0, .go 1, .go 2, .go 3, .go 5, .go 6, .go 7, .go 8, .go 9, .go 4, .go 10, .go 11] ?_)
    | (refine nxX ?_)
    | (refine G.condN rfl (fun hc => ?_) (fun hc => ?_) <;> (try first | exact False.elim hc | (exfalso; omega))))
  exact X.ret (vs := [_]) rfl ⟨rfl, rfl⟩ rfl (fun w hw => ⟨rfl, hw.ext⟩)
theorem encl_c {lo hi : Int} (h1 : -2305843009213693952 ≤ lo ∧ lo ≤ 2305843009213693952) (h2 : -2305843009213693952 ≤ hi ∧ hi ≤ 2305843009213693952) : Cont Tryz.prog 93 [arcV lo hi] (arcV (TT.encl lo hi).1 (TT.encl lo hi).2) := fun w => by
  have q1 := bounds_c (n := lo) (by omega)
  have q2 := bounds_c (n := hi) (by omega)
  have q3 := meets_c (n := 5400000) h1 h2 (by omega)
  have q4 := meets_c (n := 16200000) h1 h2 (by omega)
  unfold TT.encl
  generalize TT.bnd lo = x at *
  generalize TT.bnd hi = y at *
  refine enter0 Tryz.func93 rfl rfl rfl ?_
  repeat' (first
    | (show YK _ _ _ _ _ _ _; first | refine YK.mk (y_callA (q1) ⟨rfl, rfl⟩) ?_ | refine YK.mk (y_callA (q2) ⟨rfl, rfl⟩) ?_ | refine YK.mk (y_callA (q3) ⟨rfl, rfl, rfl⟩) ?_ | refine YK.mk (y_callA (q4) ⟨rfl, rfl, rfl⟩) ?_)
    | (refine nxV ?_)
    | (refine nxRS ?_) | (refine nxRS1 fun _ => ?_)
    | (refine nxRM ?_) | (refine nxRM1 fun _ => ?_)
    | (show YG _ _ _ _ _ _ _ _; refine YG.mk (fun hb => by (try (have hc := And.left hb; have hb := And.right hb; rw [hc])); (try rw [hb]); first | exact (y_callA (q1) ⟨rfl, rfl⟩) | exact (y_callA (q2) ⟨rfl, rfl⟩) | exact (y_callA (q3) ⟨rfl, rfl, rfl⟩) | exact (y_callA (q4) ⟨rfl, rfl, rfl⟩) | exact V.y vAuto) ?_)
    | (refine nxG ?_)
    | (refine nxX ?_)
    | (refine G.condN rfl (fun hc => ?_) (fun hc => ?_) <;> (try first | exact False.elim hc | (exfalso; omega))))
  all_goals (
    refine X.ret (vs := [_]) rfl ⟨⟨_, _, _, _, rfl, (by exact memA), (by (repeat (first | exact .nil | apply LenIs.cons))), by decide +kernel, rfl⟩, rfl⟩ rfl (fun w hw => ⟨?_, hw.ext⟩)
    dsimp only
    first
      | rw [if_pos (by assumption), if_pos (by assumption)]
      | rw [if_pos (by assumption), if_neg (ne_true_of_eq_false (by assumption))]
      | rw [if_neg (ne_true_of_eq_false (by assumption)), if_pos (by assumption)]
      | rw [if_neg (ne_true_of_eq_false (by assumption)), if_neg (ne_true_of_eq_false (by assumption))])
theorem further_c {lo hi : Int} (h1 : -2305843009213693952 ≤ lo ∧ lo ≤ 2305843009213693952) (h2 : -2305843009213693952 ≤ hi ∧ hi ≤ 2305843009213693952) : Cont Tryz.prog 94 [arcV lo hi] (arcV (lo + 5400000) (hi + 5400000)) := fun w => by
  refine enter0 Tryz.func94 rfl rfl rfl ?_
  repeat' (first
    | (refine nxV ?_)
    | (refine nxRS ?_) | (refine nxRS1 fun _ => ?_)
    | (refine nxRM ?_) | (refine nxRM1 fun _ => ?_)
    | (refine nxG ?_)
    | (refine nxX ?_)
    | (refine G.condN rfl (fun hc => ?_) (fun hc => ?_) <;> (try first | exact False.elim hc | (exfalso; omega))))
  exact X.ret (vs := [_]) rfl ⟨⟨_, _, _, _, rfl, (by exact memA), (by (repeat (first | exact .nil | apply LenIs.cons))), by decide +kernel, rfl⟩, rfl⟩ rfl (fun w hw => ⟨rfl, hw.ext⟩)
def validI (lo hi : Int) : Bool := decide (-1099511627776 ≤ lo) && decide (lo ≤ hi) && decide (hi ≤ 1099511627776)
theorem tvalid_c {lo hi : Int} : Cont Tryz.prog 92 [arcV lo hi] (.bool (validI lo hi)) := fun w => by
  unfold validI
  refine enter0 Tryz.func92 rfl rfl rfl ?_
  repeat' (first
    | (refine nxV ?_)
    | (refine nxRS ?_) | (refine nxRS1 fun _ => ?_)
    | (refine nxRM ?_) | (refine nxRM1 fun _ => ?_)
    | (refine nxG ?_)
    | (refine nxX ?_)
    | (refine G.condN rfl (fun hc => ?_) (fun hc => ?_) <;> (try first | exact False.elim hc | (exfalso; omega))))
  exact X.ret (vs := [_]) rfl ⟨rfl, rfl⟩ rfl (fun w hw => ⟨rfl, hw.ext⟩)
theorem Sin_c {lo hi : Int} (h : validI lo hi = true) : Cont Tryz.prog 149 [arcV lo hi] (.tuple [arcV (TT.encl lo hi).1 (TT.encl lo hi).2, .int .i64 0].toArray) := fun w => by
  have q1 := tvalid_c (lo := lo) (hi := hi)
  rw [h] at q1
  simp only [validI, Bool.and_eq_true, decide_eq_true_eq] at h
  have q2 := encl_c (lo := lo) (hi := hi) (by omega) (by omega)
  refine enter0 Tryz.func149 rfl rfl rfl ?_
  repeat' (first
    | (show YK _ _ _ _ _ _ _; first | refine YK.mk (y_callA (q1) ⟨rfl, rfl⟩) ?_ | refine YK.mk (y_callA (q2) ⟨rfl, rfl⟩) ?_)
    | (refine nxV ?_)
    | (refine nxRS ?_) | (refine nxRS1 fun _ => ?_)
    | (refine nxRM ?_) | (refine nxRM1 fun _ => ?_)
    | (show YG _ _ _ _ _ _ _ _; refine YG.mk (fun hb => by (try (have hc := And.left hb; have hb := And.right hb; rw [hc])); (try rw [hb]); first | exact (y_callA (q1) ⟨rfl, rfl⟩) | exact (y_callA (q2) ⟨rfl, rfl⟩) | exact V.y vAuto) ?_)
    | (refine nxG ?_)
    | (refine nxX ?_)
    | (refine G.condN rfl (fun hc => ?_) (fun hc => ?_) <;> (try first | exact False.elim hc | (exfalso; omega))))
  exact X.ret (vs := [_, _]) rfl ⟨⟨_, _, _, _, rfl, (by exact memA), (by (repeat (first | exact .nil | apply LenIs.cons))), by decide +kernel, rfl⟩, rfl, rfl⟩ rfl (fun w hw => ⟨rfl, hw.ext⟩)
theorem Cos_c {lo hi : Int} (h : validI lo hi = true) : Cont Tryz.prog 40 [arcV lo hi] (.tuple [arcV (TT.cosE lo hi).1 (TT.cosE lo hi).2, .int .i64 0].toArray) := fun w => by
  have q1 := tvalid_c (lo := lo) (hi := hi)
  rw [h] at q1
  simp only [validI, Bool.and_eq_true, decide_eq_true_eq] at h
  have q2 := further_c (lo := lo) (hi := hi) (by omega) (by omega)
  have q3 := encl_c (lo := lo + 5400000) (hi := hi + 5400000) (by omega) (by omega)
  unfold TT.cosE
  refine enter0 Tryz.func40 rfl rfl rfl ?_
  repeat' (first
    | (show YK _ _ _ _ _ _ _; first | refine YK.mk (y_callA (q1) ⟨rfl, rfl⟩) ?_ | refine YK.mk (y_callA (q2) ⟨rfl, rfl⟩) ?_ | refine YK.mk (y_callA (q3) ⟨rfl, rfl⟩) ?_)
    | (refine nxV ?_)
    | (refine nxRS ?_) | (refine nxRS1 fun _ => ?_)
    | (refine nxRM ?_) | (refine nxRM1 fun _ => ?_)
    | (show YG _ _ _ _ _ _ _ _; refine YG.mk (fun hb => by (try (have hc := And.left hb; have hb := And.right hb; rw [hc])); (try rw [hb]); first | exact (y_callA (q1) ⟨rfl, rfl⟩) | exact (y_callA (q2) ⟨rfl, rfl⟩) | exact (y_callA (q3) ⟨rfl, rfl⟩) | exact V.y vAuto) ?_)
    | (refine nxG ?_)
    | (refine nxX ?_)
    | (refine G.condN rfl (fun hc => ?_) (fun hc => ?_) <;> (try first | exact False.elim hc | (exfalso; omega))))
  exact X.ret (vs := [_, _]) rfl ⟨⟨_, _, _, _, rfl, (by exact memA), (by (repeat (first | exact .nil | apply LenIs.cons))), by decide +kernel, rfl⟩, rfl, rfl⟩ rfl (fun w hw => ⟨rfl, hw.ext⟩)
end Go.Proofs.YtjmdeplmenbmmaaGreatDoor
set_option maxHeartbeats 8000000
namespace Go.Proofs.YtjmdeplmenbmmaaGreatDoor
open Go.RowKit
section
variable {P : Program} {n : Nat} {L : FL} {w0 : World} {H : List Hl} {d : Option Tmp} {ty : TypeId} {pos : String} {af : Array Edge} {g : Option (Nat × Bool)} {x y z u : Operand} {k : IntKind} {a b c e : Int} {tys : Array TypeId}
theorem y_min4 (hx : evO L x = some (.int k a)) (hy : evO L y = some (.int k b)) (hz : evO L z = some (.int k c)) (hu : evO L u = some (.int k e)) : V P n L w0 H ⟨d, .call { callee := .builtin .min, args := #[x, y, z, u], argTypes := tys }, ty, pos, af, g⟩ (.int k (min (min (min a b) c) e)) := by
  unfold V
  intro a' w ha hw
  have hm : ∀ p q : Int, (if q < p then q else p) = min p q := fun p q => by rw [Int.min_def]; split <;> split <;> omega
  simp [execOp, resolve, invoke, builtin, ha.eval hx, ha.eval hy, ha.eval hz, ha.eval hu, Builtin.min_, Builtin.min2, hm]
theorem y_max4 (hx : evO L x = some (.int k a)) (hy : evO L y = some (.int k b)) (hz : evO L z = some (.int k c)) (hu : evO L u = some (.int k e)) : V P n L w0 H ⟨d, .call { callee := .builtin .max, args := #[x, y, z, u], argTypes := tys }, ty, pos, af, g⟩ (.int k (max (max (max a b) c) e)) := by
  unfold V
  intro a' w ha hw
  have hm : ∀ p q : Int, (if p < q then q else p) = max p q := fun p q => by rw [Int.max_def]; split <;> split <;> omega
  simp [execOp, resolve, invoke, builtin, ha.eval hx, ha.eval hy, ha.eval hz, ha.eval hu, Builtin.max_, Builtin.max2, hm]
end
theorem encl_bd2 (lo hi : Int) : (-1073741824 ≤ (TT.encl lo hi).1 ∧ (TT.encl lo hi).1 ≤ 1073741824) ∧ -1073741824 ≤ (TT.encl lo hi).2 ∧ (TT.encl lo hi).2 ≤ 1073741824 := by
  have a := TT.bnd_bd lo
  have b := TT.bnd_bd hi
  unfold TT.encl
  dsimp only
  constructor
  · split <;> omega
  · split <;> omega
def fvB (lo hi : Int) : Bool := decide (-2147483648 ≤ lo) && decide (lo ≤ hi) && decide (hi ≤ 2147483648)
theorem fvB_t {lo hi : Int} : fvB lo hi = true ↔ -2147483648 ≤ lo ∧ lo ≤ hi ∧ hi ≤ 2147483648 := by
  unfold fvB
  simp only [Bool.and_eq_true, decide_eq_true_eq, and_assoc]
theorem fvalid_c {lo hi : Int} : Cont Tryz.prog 165 [arcV lo hi] (.bool (fvB lo hi)) := fun w => by
  unfold fvB
  refine enter0 Tryz.func165 rfl rfl rfl ?_
  repeat' (first
    | (refine nxV ?_)
    | (refine nxRS ?_) | (refine nxRS1 fun _ => ?_)
    | (refine nxRM ?_) | (refine nxRM1 fun _ => ?_)
    | (refine nxG ?_)
    | (refine nxX ?_)
    | (refine G.condN rfl (fun hc => ?_) (fun hc => ?_) <;> (try first | exact False.elim hc | (exfalso; omega))))
  exact X.ret (vs := [_]) rfl ⟨rfl, rfl⟩ rfl (fun w hw => ⟨rfl, hw.ext⟩)
theorem fvalid_t {lo hi : Int} (h : -2147483648 ≤ lo ∧ lo ≤ hi ∧ hi ≤ 2147483648) : Cont Tryz.prog 165 [arcV lo hi] (.bool true) := by
  have q := fvalid_c (lo := lo) (hi := hi)
  rw [fvB_t.2 h] at q
  exact q
theorem ffit_c {lo hi : Int} (h : -2147483648 ≤ lo ∧ lo ≤ hi ∧ hi ≤ 2147483648) : Cont Tryz.prog 162 [.int .i64 lo, .int .i64 hi] (.tuple [arcV lo hi, .int .i64 0].toArray) := fun w => by
  have q1 := fvalid_t h
  refine enter0 Tryz.func162 rfl rfl rfl ?_
  repeat' (first
    | (show YK _ _ _ _ _ _ _; first | refine YK.mk (y_callA (q1) ⟨rfl, rfl⟩) ?_)
    | (refine nxV ?_)
    | (refine nxRS ?_) | (refine nxRS1 fun _ => ?_)
    | (refine nxRM ?_) | (refine nxRM1 fun _ => ?_)
    | (show YG _ _ _ _ _ _ _ _; refine YG.mk (fun hb => by (try (have hc := And.left hb; have hb := And.right hb; rw [hc])); (try rw [hb]); first | exact (y_callA (q1) ⟨rfl, rfl⟩) | exact V.y vAuto) ?_)
    | (refine nxG ?_)
    | (refine nxX ?_)
    | (refine G.condN rfl (fun hc => ?_) (fun hc => ?_) <;> (try first | exact False.elim hc | (exfalso; omega))))
  exact X.ret (vs := [_, _]) rfl ⟨⟨_, _, _, _, rfl, (by exact memA), (by (repeat (first | exact .nil | apply LenIs.cons))), by decide +kernel, rfl⟩, rfl, rfl⟩ rfl (fun w hw => ⟨rfl, hw.ext⟩)
theorem fboth_c {a b c d : Int} (h : -2147483648 ≤ a ∧ a ≤ b ∧ b ≤ 2147483648) (h' : -2147483648 ≤ c ∧ c ≤ d ∧ d ≤ 2147483648) : Cont Tryz.prog 95 [arcV a b, arcV c d] (.bool true) := fun w => by
  have q1 := fvalid_t h
  have q2 := fvalid_t h'
  refine enter0 Tryz.func95 rfl rfl rfl ?_
  repeat' (first
    | (show YK _ _ _ _ _ _ _; first | refine YK.mk (y_callA (q1) ⟨rfl, rfl⟩) ?_ | refine YK.mk (y_callA (q2) ⟨rfl, rfl⟩) ?_)
    | (refine nxV ?_)
    | (refine nxRS ?_) | (refine nxRS1 fun _ => ?_)
    | (refine nxRM ?_) | (refine nxRM1 fun _ => ?_)
    | (show YG _ _ _ _ _ _ _ _; refine YG.mk (fun hb => by (try (have hc := And.left hb; have hb := And.right hb; rw [hc])); (try rw [hb]); first | exact (y_callA (q1) ⟨rfl, rfl⟩) | exact (y_callA (q2) ⟨rfl, rfl⟩) | exact V.y vAuto) ?_)
    | (refine nxG ?_)
    | (refine nxX ?_)
    | (refine G.condN rfl (fun hc => ?_) (fun hc => ?_) <;> (try first | exact False.elim hc | (exfalso; omega))))
  exact X.ret (vs := [_]) rfl ⟨rfl, rfl⟩ rfl (fun w hw => ⟨rfl, hw.ext⟩)
theorem fdiv_eq (n : Int) : (n.tmod 1073741824 = 0 → n.tdiv 1073741824 = n / 1073741824) ∧ (n.tmod 1073741824 ≠ 0 → n < 0 → n.tdiv 1073741824 - 1 = n / 1073741824) ∧ (0 ≤ n → n.tdiv 1073741824 = n / 1073741824) := by
  by_cases h : n < 0
  · have e1 : n.tdiv 1073741824 = -((-n) / 1073741824) := by
      have : n = -(-n) := by omega
      rw [this, Int.neg_tdiv, Int.tdiv_eq_ediv_of_nonneg (by omega), Int.neg_neg]
    have e2 : n.tmod 1073741824 = -((-n) % 1073741824) := by
      have : n = -(-n) := by omega
      rw [this, Int.neg_tmod, Int.tmod_eq_emod_of_nonneg (by omega), Int.neg_neg]
    omega
  · have e1 := Int.tdiv_eq_ediv_of_nonneg (a := n) (b := 1073741824) (by omega)
    omega
theorem ffloor_c {n : Int} (h : -4611686018427387904 ≤ n ∧ n ≤ 4611686018427387904) : Cont Tryz.prog 160 [.int .i64 n, .int .i64 1073741824] (.int .i64 (n / 1073741824)) := fun w => by
  obtain ⟨g1, g2, g3⟩ := fdiv_eq n
  have hb : -4611686018427387904 ≤ n.tdiv 1073741824 ∧ n.tdiv 1073741824 ≤ 4611686018427387904 := by
    by_cases e : n.tmod 1073741824 = 0
    · rw [g1 e]; omega
    · by_cases e2 : n < 0
      · have := g2 e e2; omega
      · rw [g3 (by omega)]; omega
  have hw1 := IntWalk.i64_in (n.tdiv 1073741824) (by omega)
  have hw2 := IntWalk.i64_in (n.tdiv 1073741824 - 1) (by omega)
  refine enter0 Tryz.func160 rfl rfl rfl ?_
  repeat' (first
    | (refine nxV ?_)
    | (refine nxRS ?_) | (refine nxRS1 fun _ => ?_)
    | (refine nxRM ?_) | (refine nxRM1 fun _ => ?_)
    | (refine nxG ?_)
    | (refine nxX ?_)
    | (refine G.condN rfl (fun hc => ?_) (fun hc => ?_) <;> (try first | exact False.elim hc | (exfalso; omega))))
  all_goals refine X.ret (vs := [_]) rfl ⟨rfl, rfl⟩ rfl (fun w hw => ⟨congrArg Ending.returned (congrArg (Value.int .i64) ?_), hw.ext⟩)
  all_goals rw [hw1]
  all_goals (try rw [hw2])
  all_goals (simp at hc; omega)
theorem fceil_c {n : Int} (h : -4611686018427387904 ≤ n ∧ n ≤ 4611686018427387904) : Cont Tryz.prog 161 [.int .i64 n, .int .i64 1073741824] (.int .i64 (-(-n / 1073741824))) := fun w => by
  have q1 := ffloor_c (n := -n) (by omega)
  have hb : -4611686018427387904 ≤ -n / 1073741824 ∧ -n / 1073741824 ≤ 4611686018427387904 := by omega
  refine enter0 Tryz.func161 rfl rfl rfl ?_
  repeat' (first
    | (show YK _ _ _ _ _ _ _; first | refine YK.mk (y_callA (q1) ⟨rfl, rfl, rfl⟩) ?_)
    | (refine nxV ?_)
    | (refine nxRS ?_) | (refine nxRS1 fun _ => ?_)
    | (refine nxRM ?_) | (refine nxRM1 fun _ => ?_)
    | (show YG _ _ _ _ _ _ _ _; refine YG.mk (fun hb => by (try (have hc := And.left hb; have hb := And.right hb; rw [hc])); (try rw [hb]); first | exact (y_callA (q1) ⟨rfl, rfl, rfl⟩) | exact V.y vAuto) ?_)
    | (refine nxG ?_)
    | (refine nxX ?_)
    | (refine G.condN rfl (fun hc => ?_) (fun hc => ?_) <;> (try first | exact False.elim hc | (exfalso; omega))))
  exact X.ret (vs := [_]) rfl ⟨rfl, rfl⟩ rfl (fun w hw => ⟨rfl, hw.ext⟩)
theorem fadd_c {a b c d : Int} (h : -2147483648 ≤ a ∧ a ≤ b ∧ b ≤ 2147483648) (h' : -2147483648 ≤ c ∧ c ≤ d ∧ d ≤ 2147483648) (hs : -2147483648 ≤ a + c ∧ b + d ≤ 2147483648) : Cont Tryz.prog 146 [arcV a b, arcV c d] (.tuple [arcV (a + c) (b + d), .int .i64 0].toArray) := fun w => by
  have q1 := fboth_c h h'
  have q2 := ffit_c (lo := a + c) (hi := b + d) (by omega)
  refine enter0 Tryz.func146 rfl rfl rfl ?_
  repeat' (first
    | (show YK _ _ _ _ _ _ _; first | refine YK.mk (y_callA (q1) ⟨rfl, rfl, rfl⟩) ?_ | refine YK.mk (y_callA (q2) ⟨rfl, rfl, rfl⟩) ?_)
    | (refine nxV ?_)
    | (refine nxRS ?_) | (refine nxRS1 fun _ => ?_)
    | (refine nxRM ?_) | (refine nxRM1 fun _ => ?_)
    | (show YG _ _ _ _ _ _ _ _; refine YG.mk (fun hb => by (try (have hc := And.left hb; have hb := And.right hb; rw [hc])); (try rw [hb]); first | exact (y_callA (q1) ⟨rfl, rfl, rfl⟩) | exact (y_callA (q2) ⟨rfl, rfl, rfl⟩) | exact V.y vAuto) ?_)
    | (refine nxG ?_)
    | (refine nxX ?_)
    | (refine G.condN rfl (fun hc => ?_) (fun hc => ?_) <;> (try first | exact False.elim hc | (exfalso; omega))))
  all_goals exact X.ret (vs := [_, _]) rfl ⟨⟨_, _, _, _, rfl, (by exact memA), (by (repeat (first | exact .nil | apply LenIs.cons))), by decide +kernel, rfl⟩, rfl, rfl⟩ rfl (fun w hw => ⟨rfl, hw.ext⟩)
theorem fmul_c {p q : Int × Int} (hp : -1073741824 ≤ p.1 ∧ p.1 ≤ p.2 ∧ p.2 ≤ 1073741824) (hq : -1073741824 ≤ q.1 ∧ q.1 ≤ q.2 ∧ q.2 ≤ 1073741824) : Cont Tryz.prog 148 [arcV p.1 p.2, arcV q.1 q.2] (.tuple [arcV (TT.mulE p q).1 (TT.mulE p q).2, .int .i64 0].toArray) := fun w => by
  have h1 := TT.abs_mul_le (A := 1073741824) (u := 1073741824) (a := p.1) (t := q.1) (by omega) (by omega)
  have h2 := TT.abs_mul_le (A := 1073741824) (u := 1073741824) (a := p.1) (t := q.2) (by omega) (by omega)
  have h3 := TT.abs_mul_le (A := 1073741824) (u := 1073741824) (a := p.2) (t := q.1) (by omega) (by omega)
  have h4 := TT.abs_mul_le (A := 1073741824) (u := 1073741824) (a := p.2) (t := q.2) (by omega) (by omega)
  have hb := TT.mulE_bd hp hq
  have q1 := fboth_c (a := p.1) (b := p.2) (c := q.1) (d := q.2) (by omega) (by omega)
  have q4 := ffit_c (lo := (TT.mulE p q).1) (hi := (TT.mulE p q).2) (by omega)
  have e1 : (TT.mulE p q).1 = min (min (min (p.1 * q.1) (p.1 * q.2)) (p.2 * q.1)) (p.2 * q.2) / 1073741824 := by unfold TT.mulE; dsimp only; omega
  have e2 : (TT.mulE p q).2 = -(-(max (max (max (p.1 * q.1) (p.1 * q.2)) (p.2 * q.1)) (p.2 * q.2)) / 1073741824) := by unfold TT.mulE; dsimp only; omega
  generalize TT.mulE p q = r at *
  obtain ⟨r1, r2⟩ := r
  obtain ⟨a, b⟩ := p
  obtain ⟨c, d⟩ := q
  dsimp only at *
  subst e1 e2
  have q2 := ffloor_c (n := min (min (min (a * c) (a * d)) (b * c)) (b * d)) (by omega)
  have q3 := fceil_c (n := max (max (max (a * c) (a * d)) (b * c)) (b * d)) (by omega)
  refine enter0 Tryz.func148 rfl rfl rfl ?_
  repeat' (first
    | (show YK _ _ _ _ _ ⟨_, .call { callee := .builtin .min, args := _, argTypes := _ }, _, _, _, _⟩ _; refine YK.ofV (y_min4 (by rfl) (by rfl) (by rfl) (by rfl)) ?_)
    | (show YK _ _ _ _ _ ⟨_, .call { callee := .builtin .max, args := _, argTypes := _ }, _, _, _, _⟩ _; refine YK.ofV (y_max4 (by rfl) (by rfl) (by rfl) (by rfl)) ?_)
    | (show YK _ _ _ _ _ _ _; first | refine YK.mk (y_callA (q1) ⟨rfl, rfl, rfl⟩) ?_ | refine YK.mk (y_callA (q2) ⟨rfl, rfl, rfl⟩) ?_ | refine YK.mk (y_callA (q3) ⟨rfl, rfl, rfl⟩) ?_ | refine YK.mk (y_callA (q4) ⟨rfl, rfl, rfl⟩) ?_)
    | (refine nxV ?_)
    | (refine nxRS ?_) | (refine nxRS1 fun _ => ?_)
    | (refine nxRM ?_) | (refine nxRM1 fun _ => ?_)
    | (show YG _ _ _ _ _ _ _ _; refine YG.mk (fun hb => by (try (have hc := And.left hb; have hb := And.right hb; rw [hc])); (try rw [hb]); first | exact (y_callA (q1) ⟨rfl, rfl, rfl⟩) | exact (y_callA (q2) ⟨rfl, rfl, rfl⟩) | exact (y_callA (q3) ⟨rfl, rfl, rfl⟩) | exact (y_callA (q4) ⟨rfl, rfl, rfl⟩) | exact V.y vAuto) ?_)
    | (refine nxG ?_)
    | (refine G.mixedA 3 [.go 0, .go 1, .go 2, .go 3, .go 4, .go 5, .go 6, .go 7, .go 8, .go 9, .go 10, .go 11, .go 12, .go 13, .go 14, .go 15, .go 16, .go 17, .go 18, .go 19, .go 20, .go 21, .go 22, .go 23] ?_)
    | (refine nxX ?_)
    | (refine G.condN rfl (fun hc => ?_) (fun hc => ?_) <;> (try first | exact False.elim hc | (exfalso; omega))))
  all_goals exact X.ret (vs := [_, _]) rfl ⟨⟨_, _, _, _, rfl, (by exact memA), (by (repeat (first | exact .nil | apply LenIs.cons))), by decide +kernel, rfl⟩, rfl, rfl⟩ rfl (fun w hw => ⟨rfl, hw.ext⟩)
theorem Hav_c {lo hi : Int} (h : validI lo hi = true) : Cont Tryz.prog 220 [arcV lo hi] (.tuple [arcV (TT.havE lo hi).1 (TT.havE lo hi).2, .int .i64 0].toArray) := fun w => by
  have q1 := tvalid_c (lo := lo) (hi := hi)
  rw [h] at q1
  simp only [validI, Bool.and_eq_true, decide_eq_true_eq] at h
  have q2 := further_c (lo := lo) (hi := hi) (by omega) (by omega)
  have q3 := encl_c (lo := lo + 5400000) (hi := hi + 5400000) (by omega) (by omega)
  have hb := encl_bd2 (lo + 5400000) (hi + 5400000)
  have e : TT.havE lo hi = ((1073741824 - (TT.encl (lo + 5400000) (hi + 5400000)).2) / 2, (1073741824 - (TT.encl (lo + 5400000) (hi + 5400000)).1 + 1) / 2) := rfl
  rw [e]
  generalize TT.encl (lo + 5400000) (hi + 5400000) = x at *
  obtain ⟨x1, x2⟩ := x
  (try dsimp only at *)
  refine enter0 Tryz.func220 rfl rfl rfl ?_
  repeat' (first
    | (show YK _ _ _ _ _ _ _; first | refine YK.mk (y_callA (q1) ⟨rfl, rfl⟩) ?_ | refine YK.mk (y_callA (q2) ⟨rfl, rfl⟩) ?_ | refine YK.mk (y_callA (q3) ⟨rfl, rfl⟩) ?_)
    | (refine nxV ?_)
    | (refine nxRS ?_) | (refine nxRS1 fun _ => ?_)
    | (refine nxRM ?_) | (refine nxRM1 fun _ => ?_)
    | (show YG _ _ _ _ _ _ _ _; refine YG.mk (fun hb => by (try (have hc := And.left hb; have hb := And.right hb; rw [hc])); (try rw [hb]); first | exact (y_callA (q1) ⟨rfl, rfl⟩) | exact (y_callA (q2) ⟨rfl, rfl⟩) | exact (y_callA (q3) ⟨rfl, rfl⟩) | exact V.y vAuto) ?_)
    | (refine nxG ?_)
    | (refine nxX ?_)
    | (refine G.condN rfl (fun hc => ?_) (fun hc => ?_) <;> (try first | exact False.elim hc | (exfalso; omega))))
  exact X.ret (vs := [_, _]) rfl ⟨⟨_, _, _, _, rfl, (by exact memA), (by (repeat (first | exact .nil | apply LenIs.cons))), by decide +kernel, rfl⟩, rfl, rfl⟩ rfl (fun w hw => ⟨rfl, hw.ext⟩)
theorem bnd_gap (n : Int) : (TT.bnd n).2 ≤ (TT.bnd n).1 + 1 := by
  unfold TT.bnd TT.hiB
  split
  · dsimp only; split <;> omega
  · dsimp only; split <;> omega
def belI (n v : Int) : Int := if (TT.bnd n).2 ≤ v ∧ (TT.bnd n).1 < v then -1 else if v ≤ (TT.bnd n).1 ∧ v < (TT.bnd n).2 then 1 else if v = (TT.bnd n).1 then 0 else if v < (TT.bnd n).1 then 1 else -1
theorem belI_le (n v : Int) : belI n v ≤ 0 ↔ (TT.bnd n).2 ≤ v := by
  have h1 := bnd_gap n
  have h2 := (TT.bnd_bd n).2.1
  unfold belI
  split
  · omega
  split
  · omega
  split
  · omega
  split
  · omega
  · omega
theorem below_c {n v : Int} (h : -4611686018427387904 ≤ n ∧ n ≤ 4611686018427387904) : Cont Tryz.prog 228 [.int .i64 n, .int .i64 v] (.int .i64 (belI n v)) := fun w => by
  have q1 := bounds_c h
  unfold belI
  generalize TT.bnd n = x at *
  obtain ⟨lo, hi⟩ := x
  refine enter0 Tryz.func228 rfl rfl rfl ?_
  repeat' (first
    | (show YK _ _ _ _ _ _ _; first | refine YK.mk (y_callA (q1) ⟨rfl, rfl⟩) ?_)
    | (refine nxV ?_)
    | (refine nxRS ?_) | (refine nxRS1 fun _ => ?_)
    | (refine nxRM ?_) | (refine nxRM1 fun _ => ?_)
    | (show YG _ _ _ _ _ _ _ _; refine YG.mk (fun hb => by (try (have hc := And.left hb; have hb := And.right hb; rw [hc])); (try rw [hb]); first | exact (y_callA (q1) ⟨rfl, rfl⟩) | exact V.y vAuto) ?_)
    | (refine nxG ?_)
    | (refine nxX ?_)
    | (refine G.condN rfl (fun hc => ?_) (fun hc => ?_) <;> (try first | exact False.elim hc | (exfalso; omega))))
  all_goals exact X.ret (vs := [_]) rfl ⟨rfl, rfl⟩ rfl (fun w hw => ⟨congrArg Ending.returned (congrArg (Value.int .i64) (by (repeat' split) <;> omega)), hw.ext⟩)
end Go.Proofs.YtjmdeplmenbmmaaGreatDoor
namespace Go.Proofs.YtjmdeplmenbmmaaGreatDoor.TT
def Nr (p : Int × Int) (X e : Rat) : Prop := X - e ≤ (p.1 : Rat) ∧ (p.2 : Rat) ≤ X + e
theorem bnd_nr {n : Int} (h0 : -108000000 ≤ n) (h1 : n ≤ 108000000) : Nr (bnd n) (oR * S n) 2 := by
  obtain ⟨a, b⟩ := bnd_holds h0 h1
  have g := bnd_gap n
  have d : d100 ≤ 1 := by decide +kernel
  have gR : ((bnd n).2 : Rat) ≤ ((bnd n).1 : Rat) + 1 := by
    have := Rat.intCast_le_intCast.2 g
    rwa [Rat.intCast_add] at this
  constructor <;> grind
theorem encl_nr {n : Int} (h0 : -5400000 < n) (h1 : n < 5400000) : Nr (encl n n) (oR * S n) 2 := by
  have hb := bnd_nr (n := n) (by omega) (by omega)
  have e : encl n n = bnd n := by
    unfold encl meetsI turnI
    rw [if_neg (by rw [decide_eq_true_eq]; omega), if_neg (by rw [decide_eq_true_eq]; omega), Int.min_self, Int.max_self]
  rw [e]; exact hb
theorem cosE_nr {n : Int} (h0 : -5400000 < n) (h1 : n < 5400000) : Nr (cosE n n) (oR * C n) 3 := by
  have hb := bnd_nr (n := n + 5400000) (by omega) (by omega)
  have hc := S_co (-n)
  rw [C_neg, show 5400000 - -n = n + 5400000 by omega] at hc
  have hd : oR * d148 ≤ 1 := by decide +kernel
  have og := oR_pos
  obtain ⟨c1, c2⟩ := hc
  have u1 := Rat.mul_le_mul_of_nonneg_left c1 (Rat.le_of_lt og)
  have u2 := Rat.mul_le_mul_of_nonneg_left c2 (Rat.le_of_lt og)
  obtain ⟨b1, b2⟩ := hb
  have e1 : (cosE n n).1 = (bnd (n + 5400000)).1 := by
    unfold cosE encl meetsI turnI
    dsimp only
    rw [if_neg (by rw [decide_eq_true_eq]; omega), Int.min_self]
  by_cases hn : n = 0
  · subst hn
    have e2 : (cosE 0 0).2 = 1073741824 := by
      unfold cosE encl
      dsimp only
      rw [if_pos (by unfold meetsI turnI; rw [decide_eq_true_eq]; omega)]
    rw [C_0] at *
    unfold Nr
    rw [e1, e2]
    have e3 : ((1073741824 : Int) : Rat) = oR := rfl
    rw [e3]
    clear e1 e2 e3
    generalize S (0 + 5400000) = s at *
    generalize ((bnd (0 + 5400000)).1 : Rat) = u at *
    generalize ((bnd (0 + 5400000)).2 : Rat) = v at *
    generalize oR = o at *
    clear h0 h1
    constructor <;> grind
  · have e2 : (cosE n n).2 = (bnd (n + 5400000)).2 := by
      unfold cosE encl meetsI turnI
      dsimp only
      rw [if_neg (by rw [decide_eq_true_eq]; omega), Int.max_self]
    unfold Nr
    rw [e1, e2]
    clear e1 e2
    generalize S (n + 5400000) = s at *
    generalize ((bnd (n + 5400000)).1 : Rat) = u at *
    generalize ((bnd (n + 5400000)).2 : Rat) = v at *
    generalize oR = o at *
    constructor <;> grind
theorem prod_nr {p q x y o : Rat} (ho : 0 ≤ o) (hp : -o ≤ p ∧ p ≤ o) (hy : -1 ≤ y ∧ y ≤ 1) (h1 : o * x - 3 ≤ p ∧ p ≤ o * x + 3) (h2 : o * y - 3 ≤ q ∧ q ≤ o * y + 3) : o * (o * (x * y)) - 6 * o ≤ p * q ∧ p * q ≤ o * (o * (x * y)) + 6 * o := by
  have e : p * q - o * (o * (x * y)) = p * (q - o * y) + o * (y * (p - o * x)) := by grind
  have b1 : -(3 * o) ≤ p * (q - o * y) ∧ p * (q - o * y) ≤ 3 * o := by
    constructor
    · have m1 := Rat.mul_nonneg (show 0 ≤ o - p by grind) (show 0 ≤ 3 - (q - o * y) by grind)
      have m2 := Rat.mul_nonneg (show 0 ≤ o + p by grind) (show 0 ≤ 3 + (q - o * y) by grind)
      grind
    · have m1 := Rat.mul_nonneg (show 0 ≤ o - p by grind) (show 0 ≤ 3 + (q - o * y) by grind)
      have m2 := Rat.mul_nonneg (show 0 ≤ o + p by grind) (show 0 ≤ 3 - (q - o * y) by grind)
      grind
  have b2 : -3 ≤ y * (p - o * x) ∧ y * (p - o * x) ≤ 3 := by
    constructor
    · have m1 := Rat.mul_nonneg (show 0 ≤ 1 - y by grind) (show 0 ≤ 3 - (p - o * x) by grind)
      have m2 := Rat.mul_nonneg (show 0 ≤ 1 + y by grind) (show 0 ≤ 3 + (p - o * x) by grind)
      grind
    · have m1 := Rat.mul_nonneg (show 0 ≤ 1 - y by grind) (show 0 ≤ 3 + (p - o * x) by grind)
      have m2 := Rat.mul_nonneg (show 0 ≤ 1 + y by grind) (show 0 ≤ 3 - (p - o * x) by grind)
      grind
  have b3 := Rat.mul_le_mul_of_nonneg_left b2.1 ho
  have b4 := Rat.mul_le_mul_of_nonneg_left b2.2 ho
  constructor <;> grind
theorem mulE_nr {p q : Int × Int} {x y : Rat} (hp : -1073741824 ≤ p.1 ∧ p.1 ≤ p.2 ∧ p.2 ≤ 1073741824) (hq : q.1 ≤ q.2) (hx : Nr p (oR * x) 3) (hy : Nr q (oR * y) 3) (hy1 : -1 ≤ y ∧ y ≤ 1) : Nr (mulE p q) (oR * (x * y)) 7 := by
  have og := Rat.le_of_lt oR_pos
  have e3 : ((1073741824 : Int) : Rat) = oR := rfl
  have cst := fun a b : Int => (Rat.intCast_mul a b).symm
  have pO : ∀ t : Int, p.1 ≤ t → t ≤ p.2 → (-oR ≤ (t : Rat) ∧ (t : Rat) ≤ oR) ∧ oR * x - 3 ≤ (t : Rat) ∧ (t : Rat) ≤ oR * x + 3 := fun t h1 h2 => by
    have a1 := Rat.intCast_le_intCast.2 h1
    have a2 := Rat.intCast_le_intCast.2 h2
    have a3 := Rat.intCast_le_intCast.2 (show -1073741824 ≤ t by omega)
    have a4 := Rat.intCast_le_intCast.2 (show t ≤ 1073741824 by omega)
    rw [Rat.intCast_neg] at a3
    rw [e3] at a3 a4
    obtain ⟨n1, n2⟩ := hx
    exact ⟨⟨a3, a4⟩, by grind, by grind⟩
  have qO : ∀ t : Int, q.1 ≤ t → t ≤ q.2 → oR * y - 3 ≤ (t : Rat) ∧ (t : Rat) ≤ oR * y + 3 := fun t h1 h2 => by
    have a1 := Rat.intCast_le_intCast.2 h1
    have a2 := Rat.intCast_le_intCast.2 h2
    obtain ⟨n1, n2⟩ := hy
    exact ⟨by grind, by grind⟩
  have P11 := prod_nr og (pO p.1 (Int.le_refl _) hp.2.1).1 hy1 (pO p.1 (Int.le_refl _) hp.2.1).2 (qO q.1 (Int.le_refl _) hq)
  have P12 := prod_nr og (pO p.1 (Int.le_refl _) hp.2.1).1 hy1 (pO p.1 (Int.le_refl _) hp.2.1).2 (qO q.2 hq (Int.le_refl _))
  have P21 := prod_nr og (pO p.2 hp.2.1 (Int.le_refl _)).1 hy1 (pO p.2 hp.2.1 (Int.le_refl _)).2 (qO q.1 (Int.le_refl _) hq)
  have P22 := prod_nr og (pO p.2 hp.2.1 (Int.le_refl _)).1 hy1 (pO p.2 hp.2.1 (Int.le_refl _)).2 (qO q.2 hq (Int.le_refl _))
  rw [cst] at P11 P12 P21 P22
  have key : ∀ t : Int, t = p.1 * q.1 ∨ t = p.1 * q.2 ∨ t = p.2 * q.1 ∨ t = p.2 * q.2 → oR * (oR * (x * y)) - 6 * oR ≤ (t : Rat) ∧ (t : Rat) ≤ oR * (oR * (x * y)) + 6 * oR := fun t ht => by
    rcases ht with rfl | rfl | rfl | rfl
    · exact P11
    · exact P12
    · exact P21
    · exact P22
  have kmin := key (min (min (p.1 * q.1) (p.1 * q.2)) (min (p.2 * q.1) (p.2 * q.2))) (by omega)
  have kmax := key (max (max (p.1 * q.1) (p.1 * q.2)) (max (p.2 * q.1) (p.2 * q.2))) (by omega)
  unfold mulE Nr
  dsimp only
  generalize min (min (p.1 * q.1) (p.1 * q.2)) (min (p.2 * q.1) (p.2 * q.2)) = a at *
  generalize max (max (p.1 * q.1) (p.1 * q.2)) (max (p.2 * q.1) (p.2 * q.2)) = b at *
  have f1 : a < (a / 1073741824 + 1) * 1073741824 := by omega
  have f2 : (-(-b / 1073741824) - 1) * 1073741824 < b := by omega
  have g1 := Rat.intCast_lt_intCast.2 f1
  have g2 := Rat.intCast_lt_intCast.2 f2
  rw [Rat.intCast_mul, Rat.intCast_add, e3] at g1
  rw [Rat.intCast_mul, Rat.intCast_sub, e3] at g2
  generalize ((a / 1073741824 : Int) : Rat) = u at *
  generalize ((-(-b / 1073741824) : Int) : Rat) = v at *
  have o1 : ((1 : Int) : Rat) = 1 := rfl
  rw [o1] at g1 g2
  generalize x * y = z at *
  have op := oR_pos
  constructor
  · have : oR * (oR * z - 6) < oR * (u + 1) := by grind
    have := (Rat.mul_lt_mul_left op).1 this
    grind
  · have : oR * (v - 1) < oR * (oR * z + 6) := by grind
    have := (Rat.mul_lt_mul_left op).1 this
    grind
theorem quot_in {lat lim : Int} (h1 : 1 ≤ lim ∧ lim < 5400000) (h2 : -lim < lat ∧ lat < lim) :
    (mulE (encl lat lat) (cosE lim lim)).2 ≤ (mulE (encl lim lim) (cosE lat lat)).1 ∧ -(mulE (encl lat lat) (cosE lim lim)).1 ≤ (mulE (encl lim lim) (cosE lat lat)).1 ∧ 1 ≤ (mulE (encl lim lim) (cosE lat lat)).1 := by
  have o1 := encl_ord (Int.le_refl lat)
  have o2 := encl_ord (Int.le_refl lim)
  have o3 := cosE_ord (Int.le_refl lat)
  have o4 := cosE_ord (Int.le_refl lim)
  have w3 : ∀ {p : Int × Int} {X : Rat}, Nr p X 2 → Nr p X 3 := fun h => ⟨by have := h.1; grind, by have := h.2; grind⟩
  have n1 := mulE_nr o1 o4.2.1 (w3 (encl_nr (n := lat) (by omega) (by omega))) (cosE_nr (n := lim) (by omega) (by omega)) (C_abs lim)
  have n2 := mulE_nr o2 o3.2.1 (w3 (encl_nr (n := lim) (by omega) (by omega))) (cosE_nr (n := lat) (by omega) (by omega)) (C_abs lat)
  have s1 := S_pos (x := lim - lat) (by omega) (by omega)
  have s2 := S_pos (x := lim + lat) (by omega) (by omega)
  rw [(add_i lim lat).2] at s2
  rw [show lim - lat = lim + -lat by omega, (add_i lim (-lat)).2, C_neg, S_neg] at s1
  obtain ⟨a1, a2⟩ := n1
  obtain ⟨b1, b2⟩ := n2
  have m := mulE_bd o1 o4
  have hm : oR * m30 = 310 := by decide +kernel
  have og := Rat.le_of_lt oR_pos
  have t1 := Rat.mul_le_mul_of_nonneg_left s1 og
  have t2 := Rat.mul_le_mul_of_nonneg_left s2 og
  rw [hm] at t1 t2
  generalize mulE (encl lat lat) (cosE lim lim) = A at *
  generalize mulE (encl lim lim) (cosE lat lat) = B at *
  have r1 : ((A.2 : Int) : Rat) ≤ (B.1 : Rat) := by grind
  have r2 : ((-A.1 : Int) : Rat) ≤ (B.1 : Rat) := by rw [Rat.intCast_neg]; grind
  have r3 : ((1 : Int) : Rat) ≤ (B.1 : Rat) := by
    have : ((1 : Int) : Rat) = 1 := rfl
    grind
  exact ⟨Rat.intCast_le_intCast.1 r1, Rat.intCast_le_intCast.1 r2, Rat.intCast_le_intCast.1 r3⟩
theorem asin_ord {a b n m : Int} (h1 : IsAsin a n) (h2 : IsAsin (-b) m) (hab : a ≤ b) : n ≤ -m := by
  obtain ⟨n0, n1, n2, _⟩ := h1
  obtain ⟨m0, m1, m2, _⟩ := h2
  refine Int.not_lt.1 fun hlt => ?_
  have hs := bnd_holds (n := n) (by omega) (by omega)
  have hm := bnd_holds (n := m) (by omega) (by omega)
  have c1 := S_co (5400000 - n)
  rw [show 5400000 - (5400000 - n) = n by omega] at c1
  have c2 := S_co (5400000 - -m)
  rw [show 5400000 - (5400000 - -m) = -m by omega, S_neg] at c2
  have cl := C_lt (m := 5400000 - n) (n := 5400000 - -m) (by omega) (by omega) (by omega)
  have f : 2 * d100 < oR * (g45 - 2 * d148) := by decide +kernel
  have i1 := Rat.intCast_le_intCast.2 (show (bnd n).2 + (bnd m).2 ≤ 0 by omega)
  rw [Rat.intCast_add] at i1
  have e0 : ((0 : Int) : Rat) = 0 := rfl
  obtain ⟨c3, c4⟩ := c1
  obtain ⟨c5, c6⟩ := c2
  have g : g45 - 2 * d148 ≤ S n + S m := by grind
  have g2 := Rat.mul_le_mul_of_nonneg_left g (Rat.le_of_lt oR_pos)
  have h3 := hs.2
  have h4 := hm.2
  grind
end Go.Proofs.YtjmdeplmenbmmaaGreatDoor.TT
