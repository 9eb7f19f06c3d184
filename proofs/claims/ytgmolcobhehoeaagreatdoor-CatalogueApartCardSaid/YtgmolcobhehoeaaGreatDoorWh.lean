/- Joined texts: Fix, Take, Asn, Hav, Dist. -/
import Derived.Test.YtgmolcobhehoeaaGreatDoorWn
import Derived.Test.YtgmolcobhehoeaaGreatDoorWg
import Derived.Test.YtgmolcobhehoeaaGreatDoorWb
/- The program's intervals of fixed-point numbers: Valid, Mul, Add; trig.Haversine, Below. -/
set_option linter.unusedVariables false
set_option maxHeartbeats 8000000
namespace Go.Proofs.YtgmolcobhehoeaaGreatDoor
open Go.RowKit
section
variable {P : Program} {n : Nat} {L : FL} {w0 : World} {H : List Hl} {d : Option Tmp} {ty : TypeId} {pos : String} {af : Array Edge} {g : Option (Nat × Bool)} {x y z u : Operand} {k : IntKind} {a b c e : Int} {tys : Array TypeId}
theorem y_min4 (hx : evO L x = some (.int k a)) (hy : evO L y = some (.int k b)) (hz : evO L z = some (.int k c)) (hu : evO L u = some (.int k e)) : V P n L w0 H ⟨d, .call { callee := .builtin .min, args := #[x, y, z, u], argTypes := tys }, ty, pos, af, g⟩ (.int k (min (min (min a b) c) e)) := by
  unfold V
  intro a' w ha hw
  have hm : ∀ p q : Int, (if q < p then q else p) = min p q := fun p q => by rw [Int.min_def]; split <;> split <;> omega
  simp [execOp, resolve, invoke, builtin, ha.eval hx, ha.eval hy, ha.eval hz, ha.eval hu, Builtin.min_, Builtin.min2, hm]
theorem y_max4 (hx : evO L x = some (.int k a)) (hy : evO L y = some (.int k b)) (hz : evO L z = some (.int k c)) (hu : evO L u = some (.int k e)) : V P n L w0 H ⟨d, .call { callee := .builtin .max, args := #[x, y, z, u], argTypes := tys }, ty, pos, af, g⟩ (.int k (max (max (max a b) c) e)) := by
  unfold V
  intro a' w ha hw
  have hm : ∀ p q : Int, (if p < q then q else p) = max p q := fun p q => by rw [Int.max_def]; split <;> split <;> omega
  simp [execOp, resolve, invoke, builtin, ha.eval hx, ha.eval hy, ha.eval hz, ha.eval hu, Builtin.max_, Builtin.max2, hm]
end
theorem encl_bd2 (lo hi : Int) : (-1073741824 ≤ (TT.encl lo hi).1 ∧ (TT.encl lo hi).1 ≤ 1073741824) ∧ -1073741824 ≤ (TT.encl lo hi).2 ∧ (TT.encl lo hi).2 ≤ 1073741824 := by
  have a := TT.bnd_bd lo
  have b := TT.bnd_bd hi
  unfold TT.encl
  dsimp only
  constructor
  · split <;> omega
  · split <;> omega
def fvB (lo hi : Int) : Bool := decide (-2147483648 ≤ lo) && decide (lo ≤ hi) && decide (hi ≤ 2147483648)
theorem fvB_t {lo hi : Int} : fvB lo hi = true ↔ -2147483648 ≤ lo ∧ lo ≤ hi ∧ hi ≤ 2147483648 := by
  unfold fvB
  simp only [Bool.and_eq_true, decide_eq_true_eq, and_assoc]
theorem fvalid_c {lo hi : Int} : Cont Tryz.prog 181 [arcV lo hi] (.bool (fvB lo hi)) := fun w => by
  unfold fvB
  refine enter0 Tryz.func181 rfl rfl rfl ?_
  repeat' (first
    | (refine nxV ?_)
    | (show RS _ _ _ _ _ _ _ _; first | (refine nxRS ?_) | (refine nxRS1 fun _ => ?_))
    | (show RM _ _ _ _ _ _ _ _ _ _; first | (refine nxRM ?_) | (refine nxRM1 fun _ => ?_))
    | (refine nxG ?_)
    | (refine nxX ?_)
    | (refine G.condN rfl (fun hc => ?_) (fun hc => ?_) <;> (try first | exact False.elim hc | (exfalso; omega))))
  exact X.ret (vs := [_]) rfl ⟨rfl, rfl⟩ rfl (fun w hw => ⟨rfl, hw.ext⟩)
theorem fvalid_t {lo hi : Int} (h : -2147483648 ≤ lo ∧ lo ≤ hi ∧ hi ≤ 2147483648) : Cont Tryz.prog 181 [arcV lo hi] (.bool true) := by
  have q := fvalid_c (lo := lo) (hi := hi)
  rw [fvB_t.2 h] at q
  exact q
theorem ffit_c {lo hi : Int} (h : -2147483648 ≤ lo ∧ lo ≤ hi ∧ hi ≤ 2147483648) : Cont Tryz.prog 178 [.int .i64 lo, .int .i64 hi] (.tuple [arcV lo hi, .int .i64 0].toArray) := fun w => by
  have q1 := fvalid_t h
  refine enter0 Tryz.func178 rfl rfl rfl ?_
  repeat' (first
    | (show YK _ _ _ _ _ _ _; first | refine YK.mk (y_callA (q1) ⟨rfl, rfl⟩) ?_)
    | (show YK _ _ _ _ _ _ _; refine YK.ofV vAuto ?_)
    | (show VK _ _ _ _ _ _ _; refine VK.mk vAuto ?_)
    | (show RS _ _ _ _ _ _ _ _; first | (refine nxRS ?_) | (refine nxRS1 fun _ => ?_))
    | (show RM _ _ _ _ _ _ _ _ _ _; first | (refine nxRM ?_) | (refine nxRM1 fun _ => ?_))
    | (show YG _ _ _ _ _ _ _ _; refine YG.mk (fun hb => by (try (have hc := And.left hb; have hb := And.right hb; rw [hc])); (try rw [hb]); first | exact (y_callA (q1) ⟨rfl, rfl⟩) | exact V.y vAuto) ?_)
    | (show VG _ _ _ _ _ _ _ _; refine VG.mk (fun hb => by (try (have hc := And.left hb; have hb := And.right hb; rw [hc])); (try rw [hb]); exact vAuto) ?_)
    | (refine nxX ?_)
    | (refine G.condN rfl (fun hc => ?_) (fun hc => ?_) <;> (try first | exact False.elim hc | (exfalso; omega))))
  exact X.ret (vs := [_, _]) rfl ⟨⟨_, _, _, _, rfl, (by exact memA), (by (repeat (first | exact .nil | apply LenIs.cons))), by decide +kernel, rfl⟩, rfl, rfl⟩ rfl (fun w hw => ⟨rfl, hw.ext⟩)
theorem fboth_c {a b c d : Int} (h : -2147483648 ≤ a ∧ a ≤ b ∧ b ≤ 2147483648) (h' : -2147483648 ≤ c ∧ c ≤ d ∧ d ≤ 2147483648) : Cont Tryz.prog 177 [arcV a b, arcV c d] (.bool true) := fun w => by
  have q1 := fvalid_t h
  have q2 := fvalid_t h'
  refine enter0 Tryz.func177 rfl rfl rfl ?_
  repeat' (first
    | (show YK _ _ _ _ _ _ _; first | refine YK.mk (y_callA (q1) ⟨rfl, rfl⟩) ?_ | refine YK.mk (y_callA (q2) ⟨rfl, rfl⟩) ?_)
    | (show YK _ _ _ _ _ _ _; refine YK.ofV vAuto ?_)
    | (show VK _ _ _ _ _ _ _; refine VK.mk vAuto ?_)
    | (show RS _ _ _ _ _ _ _ _; first | (refine nxRS ?_) | (refine nxRS1 fun _ => ?_))
    | (show RM _ _ _ _ _ _ _ _ _ _; first | (refine nxRM ?_) | (refine nxRM1 fun _ => ?_))
    | (show YG _ _ _ _ _ _ _ _; refine YG.mk (fun hb => by (try (have hc := And.left hb; have hb := And.right hb; rw [hc])); (try rw [hb]); first | exact (y_callA (q1) ⟨rfl, rfl⟩) | exact (y_callA (q2) ⟨rfl, rfl⟩) | exact V.y vAuto) ?_)
    | (show VG _ _ _ _ _ _ _ _; refine VG.mk (fun hb => by (try (have hc := And.left hb; have hb := And.right hb; rw [hc])); (try rw [hb]); exact vAuto) ?_)
    | (refine nxX ?_)
    | (refine G.condN rfl (fun hc => ?_) (fun hc => ?_) <;> (try first | exact False.elim hc | (exfalso; omega))))
  exact X.ret (vs := [_]) rfl ⟨rfl, rfl⟩ rfl (fun w hw => ⟨rfl, hw.ext⟩)
theorem fdiv_eq (n : Int) : (n.tmod 1073741824 = 0 → n.tdiv 1073741824 = n / 1073741824) ∧ (n.tmod 1073741824 ≠ 0 → n < 0 → n.tdiv 1073741824 - 1 = n / 1073741824) ∧ (0 ≤ n → n.tdiv 1073741824 = n / 1073741824) := by
  by_cases h : n < 0
  · have e1 : n.tdiv 1073741824 = -((-n) / 1073741824) := by
      have : n = -(-n) := by omega
      rw [this, Int.neg_tdiv, Int.tdiv_eq_ediv_of_nonneg (by omega), Int.neg_neg]
    have e2 : n.tmod 1073741824 = -((-n) % 1073741824) := by
      have : n = -(-n) := by omega
      rw [this, Int.neg_tmod, Int.tmod_eq_emod_of_nonneg (by omega), Int.neg_neg]
    omega
  · have e1 := Int.tdiv_eq_ediv_of_nonneg (a := n) (b := 1073741824) (by omega)
    omega
theorem ffloor_c {n : Int} (h : -4611686018427387904 ≤ n ∧ n ≤ 4611686018427387904) : Cont Tryz.prog 179 [.int .i64 n, .int .i64 1073741824] (.int .i64 (n / 1073741824)) := fun w => by
  obtain ⟨g1, g2, g3⟩ := fdiv_eq n
  have hb : -4611686018427387904 ≤ n.tdiv 1073741824 ∧ n.tdiv 1073741824 ≤ 4611686018427387904 := by
    by_cases e : n.tmod 1073741824 = 0
    · rw [g1 e]; omega
    · by_cases e2 : n < 0
      · have := g2 e e2; omega
      · rw [g3 (by omega)]; omega
  have hw1 := IntWalk.i64_in (n.tdiv 1073741824) (by omega)
  have hw2 := IntWalk.i64_in (n.tdiv 1073741824 - 1) (by omega)
  refine enter0 Tryz.func179 rfl rfl rfl ?_
  repeat' (first
    | (refine nxV ?_)
    | (show RS _ _ _ _ _ _ _ _; first | (refine nxRS ?_) | (refine nxRS1 fun _ => ?_))
    | (show RM _ _ _ _ _ _ _ _ _ _; first | (refine nxRM ?_) | (refine nxRM1 fun _ => ?_))
    | (refine nxG ?_)
    | (refine nxX ?_)
    | (refine G.condN rfl (fun hc => ?_) (fun hc => ?_) <;> (try first | exact False.elim hc | (exfalso; omega))))
  all_goals refine X.ret (vs := [_]) rfl ⟨rfl, rfl⟩ rfl (fun w hw => ⟨congrArg Ending.returned (congrArg (Value.int .i64) ?_), hw.ext⟩)
  all_goals rw [hw1]
  all_goals (try rw [hw2])
  all_goals (simp at hc; omega)
theorem fceil_c {n : Int} (h : -4611686018427387904 ≤ n ∧ n ≤ 4611686018427387904) : Cont Tryz.prog 180 [.int .i64 n, .int .i64 1073741824] (.int .i64 (-(-n / 1073741824))) := fun w => by
  have q1 := ffloor_c (n := -n) (by omega)
  have hb : -4611686018427387904 ≤ -n / 1073741824 ∧ -n / 1073741824 ≤ 4611686018427387904 := by omega
  refine enter0 Tryz.func180 rfl rfl rfl ?_
  repeat' (first
    | (show YK _ _ _ _ _ _ _; first | refine YK.mk (y_callA (q1) ⟨rfl, rfl, rfl⟩) ?_)
    | (show YK _ _ _ _ _ _ _; refine YK.ofV vAuto ?_)
    | (show VK _ _ _ _ _ _ _; refine VK.mk vAuto ?_)
    | (show RS _ _ _ _ _ _ _ _; first | (refine nxRS ?_) | (refine nxRS1 fun _ => ?_))
    | (show RM _ _ _ _ _ _ _ _ _ _; first | (refine nxRM ?_) | (refine nxRM1 fun _ => ?_))
    | (show YG _ _ _ _ _ _ _ _; refine YG.mk (fun hb => by (try (have hc := And.left hb; have hb := And.right hb; rw [hc])); (try rw [hb]); first | exact (y_callA (q1) ⟨rfl, rfl, rfl⟩) | exact V.y vAuto) ?_)
    | (show VG _ _ _ _ _ _ _ _; refine VG.mk (fun hb => by (try (have hc := And.left hb; have hb := And.right hb; rw [hc])); (try rw [hb]); exact vAuto) ?_)
    | (refine nxX ?_)
    | (refine G.condN rfl (fun hc => ?_) (fun hc => ?_) <;> (try first | exact False.elim hc | (exfalso; omega))))
  exact X.ret (vs := [_]) rfl ⟨rfl, rfl⟩ rfl (fun w hw => ⟨rfl, hw.ext⟩)
theorem fadd_c {a b c d : Int} (h : -2147483648 ≤ a ∧ a ≤ b ∧ b ≤ 2147483648) (h' : -2147483648 ≤ c ∧ c ≤ d ∧ d ≤ 2147483648) (hs : -2147483648 ≤ a + c ∧ b + d ≤ 2147483648) : Cont Tryz.prog 131 [arcV a b, arcV c d] (.tuple [arcV (a + c) (b + d), .int .i64 0].toArray) := fun w => by
  have q1 := fboth_c h h'
  have q2 := ffit_c (lo := a + c) (hi := b + d) (by omega)
  refine enter0 Tryz.func131 rfl rfl rfl ?_
  repeat' (first
    | (show YK _ _ _ _ _ _ _; first | refine YK.mk (y_callA (q1) ⟨rfl, rfl, rfl⟩) ?_ | refine YK.mk (y_callA (q2) ⟨rfl, rfl, rfl⟩) ?_)
    | (show YK _ _ _ _ _ _ _; refine YK.ofV vAuto ?_)
    | (show VK _ _ _ _ _ _ _; refine VK.mk vAuto ?_)
    | (show RS _ _ _ _ _ _ _ _; first | (refine nxRS ?_) | (refine nxRS1 fun _ => ?_))
    | (show RM _ _ _ _ _ _ _ _ _ _; first | (refine nxRM ?_) | (refine nxRM1 fun _ => ?_))
    | (show YG _ _ _ _ _ _ _ _; refine YG.mk (fun hb => by (try (have hc := And.left hb; have hb := And.right hb; rw [hc])); (try rw [hb]); first | exact (y_callA (q1) ⟨rfl, rfl, rfl⟩) | exact (y_callA (q2) ⟨rfl, rfl, rfl⟩) | exact V.y vAuto) ?_)
    | (show VG _ _ _ _ _ _ _ _; refine VG.mk (fun hb => by (try (have hc := And.left hb; have hb := And.right hb; rw [hc])); (try rw [hb]); exact vAuto) ?_)
    | (refine nxX ?_)
    | (refine G.condN rfl (fun hc => ?_) (fun hc => ?_) <;> (try first | exact False.elim hc | (exfalso; omega))))
  all_goals exact X.ret (vs := [_, _]) rfl ⟨⟨_, _, _, _, rfl, (by exact memA), (by (repeat (first | exact .nil | apply LenIs.cons))), by decide +kernel, rfl⟩, rfl, rfl⟩ rfl (fun w hw => ⟨rfl, hw.ext⟩)
theorem fmul_c {p q : Int × Int} (hp : -1073741824 ≤ p.1 ∧ p.1 ≤ p.2 ∧ p.2 ≤ 1073741824) (hq : -1073741824 ≤ q.1 ∧ q.1 ≤ q.2 ∧ q.2 ≤ 1073741824) : Cont Tryz.prog 130 [arcV p.1 p.2, arcV q.1 q.2] (.tuple [arcV (TT.mulE p q).1 (TT.mulE p q).2, .int .i64 0].toArray) := fun w => by
  have h1 := TT.abs_mul_le (A := 1073741824) (u := 1073741824) (a := p.1) (t := q.1) (by omega) (by omega)
  have h2 := TT.abs_mul_le (A := 1073741824) (u := 1073741824) (a := p.1) (t := q.2) (by omega) (by omega)
  have h3 := TT.abs_mul_le (A := 1073741824) (u := 1073741824) (a := p.2) (t := q.1) (by omega) (by omega)
  have h4 := TT.abs_mul_le (A := 1073741824) (u := 1073741824) (a := p.2) (t := q.2) (by omega) (by omega)
  have hb := TT.mulE_bd hp hq
  have q1 := fboth_c (a := p.1) (b := p.2) (c := q.1) (d := q.2) (by omega) (by omega)
  have q4 := ffit_c (lo := (TT.mulE p q).1) (hi := (TT.mulE p q).2) (by omega)
  have e1 : (TT.mulE p q).1 = min (min (min (p.1 * q.1) (p.1 * q.2)) (p.2 * q.1)) (p.2 * q.2) / 1073741824 := by unfold TT.mulE; dsimp only; omega
  have e2 : (TT.mulE p q).2 = -(-(max (max (max (p.1 * q.1) (p.1 * q.2)) (p.2 * q.1)) (p.2 * q.2)) / 1073741824) := by unfold TT.mulE; dsimp only; omega
  generalize TT.mulE p q = r at *
  obtain ⟨r1, r2⟩ := r
  obtain ⟨a, b⟩ := p
  obtain ⟨c, d⟩ := q
  dsimp only at *
  subst e1 e2
  have q2 := ffloor_c (n := min (min (min (a * c) (a * d)) (b * c)) (b * d)) (by omega)
  have q3 := fceil_c (n := max (max (max (a * c) (a * d)) (b * c)) (b * d)) (by omega)
  refine enter0 Tryz.func130 rfl rfl rfl ?_
  repeat' (first
    | (show YK _ _ _ _ _ ⟨_, .call { callee := .builtin .min, args := _, argTypes := _ }, _, _, _, _⟩ _; refine YK.ofV (y_min4 (by rfl) (by rfl) (by rfl) (by rfl)) ?_)
    | (show YK _ _ _ _ _ ⟨_, .call { callee := .builtin .max, args := _, argTypes := _ }, _, _, _, _⟩ _; refine YK.ofV (y_max4 (by rfl) (by rfl) (by rfl) (by rfl)) ?_)
    | (show YK _ _ _ _ _ _ _; first | refine YK.mk (y_callA (q1) ⟨rfl, rfl, rfl⟩) ?_ | refine YK.mk (y_callA (q2) ⟨rfl, rfl, rfl⟩) ?_ | refine YK.mk (y_callA (q3) ⟨rfl, rfl, rfl⟩) ?_ | refine YK.mk (y_callA (q4) ⟨rfl, rfl, rfl⟩) ?_)
    | (show YK _ _ _ _ _ _ _; refine YK.ofV vAuto ?_)
    | (show VK _ _ _ _ _ _ _; refine VK.mk vAuto ?_)
    | (show RS _ _ _ _ _ _ _ _; first | (refine nxRS ?_) | (refine nxRS1 fun _ => ?_))
    | (show RM _ _ _ _ _ _ _ _ _ _; first | (refine nxRM ?_) | (refine nxRM1 fun _ => ?_))
    | (show YG _ _ _ _ _ _ _ _; refine YG.mk (fun hb => by (try (have hc := And.left hb; have hb := And.right hb; rw [hc])); (try rw [hb]); first | exact (y_callA (q1) ⟨rfl, rfl, rfl⟩) | exact (y_callA (q2) ⟨rfl, rfl, rfl⟩) | exact (y_callA (q3) ⟨rfl, rfl, rfl⟩) | exact (y_callA (q4) ⟨rfl, rfl, rfl⟩) | exact V.y vAuto) ?_)
    | (show VG _ _ _ _ _ _ _ _; refine VG.mk (fun hb => by (try (have hc := And.left hb; have hb := And.right hb; rw [hc])); (try rw [hb]); exact vAuto) ?_)
    | (refine G.mixedA 3 [.go 0, .go 1, .go 2, .go 3, .go 4, .go 5, .go 6, .go 7, .go 8, .go 9, .go 10, .go 11, .go 12, .go 13, .go 14, .go 15, .go 16, .go 17, .go 18, .go 19, .go 20, .go 21, .go 22, .go 23] ?_)
    | (refine nxX ?_)
    | (refine G.condN rfl (fun hc => ?_) (fun hc => ?_) <;> (try first | exact False.elim hc | (exfalso; omega))))
  all_goals exact X.ret (vs := [_, _]) rfl ⟨⟨_, _, _, _, rfl, (by exact memA), (by (repeat (first | exact .nil | apply LenIs.cons))), by decide +kernel, rfl⟩, rfl, rfl⟩ rfl (fun w hw => ⟨rfl, hw.ext⟩)
/-- The least enclosure of the haversine over a valid arc. -/
theorem Hav_c {lo hi : Int} (h : validI lo hi = true) : Cont Tryz.prog 128 [arcV lo hi] (.tuple [arcV (TT.havE lo hi).1 (TT.havE lo hi).2, .int .i64 0].toArray) := fun w => by
  have q1 := tvalid_c (lo := lo) (hi := hi)
  rw [h] at q1
  simp only [validI, Bool.and_eq_true, decide_eq_true_eq] at h
  have q2 := further_c (lo := lo) (hi := hi) (by omega) (by omega)
  have q3 := encl_c (lo := lo + 5400000) (hi := hi + 5400000) (by omega) (by omega)
  have hb := encl_bd2 (lo + 5400000) (hi + 5400000)
  have e : TT.havE lo hi = ((1073741824 - (TT.encl (lo + 5400000) (hi + 5400000)).2) / 2, (1073741824 - (TT.encl (lo + 5400000) (hi + 5400000)).1 + 1) / 2) := rfl
  rw [e]
  generalize TT.encl (lo + 5400000) (hi + 5400000) = x at *
  obtain ⟨x1, x2⟩ := x
  (try dsimp only at *)
  refine enter0 Tryz.func128 rfl rfl rfl ?_
  repeat' (first
    | (show YK _ _ _ _ _ _ _; first | refine YK.mk (y_callA (q1) ⟨rfl, rfl⟩) ?_ | refine YK.mk (y_callA (q2) ⟨rfl, rfl⟩) ?_ | refine YK.mk (y_callA (q3) ⟨rfl, rfl⟩) ?_)
    | (show YK _ _ _ _ _ _ _; refine YK.ofV vAuto ?_)
    | (show VK _ _ _ _ _ _ _; refine VK.mk vAuto ?_)
    | (show RS _ _ _ _ _ _ _ _; first | (refine nxRS ?_) | (refine nxRS1 fun _ => ?_))
    | (show RM _ _ _ _ _ _ _ _ _ _; first | (refine nxRM ?_) | (refine nxRM1 fun _ => ?_))
    | (show YG _ _ _ _ _ _ _ _; refine YG.mk (fun hb => by (try (have hc := And.left hb; have hb := And.right hb; rw [hc])); (try rw [hb]); first | exact (y_callA (q1) ⟨rfl, rfl⟩) | exact (y_callA (q2) ⟨rfl, rfl⟩) | exact (y_callA (q3) ⟨rfl, rfl⟩) | exact V.y vAuto) ?_)
    | (show VG _ _ _ _ _ _ _ _; refine VG.mk (fun hb => by (try (have hc := And.left hb; have hb := And.right hb; rw [hc])); (try rw [hb]); exact vAuto) ?_)
    | (refine nxX ?_)
    | (refine G.condN rfl (fun hc => ?_) (fun hc => ?_) <;> (try first | exact False.elim hc | (exfalso; omega))))
  exact X.ret (vs := [_, _]) rfl ⟨⟨_, _, _, _, rfl, (by exact memA), (by (repeat (first | exact .nil | apply LenIs.cons))), by decide +kernel, rfl⟩, rfl, rfl⟩ rfl (fun w hw => ⟨rfl, hw.ext⟩)
theorem bnd_gap (n : Int) : (TT.bnd n).2 ≤ (TT.bnd n).1 + 1 := by
  unfold TT.bnd TT.hiB
  split
  · dsimp only; split <;> omega
  · dsimp only; split <;> omega
/-- What Below answers. -/
def belI (n v : Int) : Int := if (TT.bnd n).2 ≤ v ∧ (TT.bnd n).1 < v then -1 else if v ≤ (TT.bnd n).1 ∧ v < (TT.bnd n).2 then 1 else if v = (TT.bnd n).1 then 0 else if v < (TT.bnd n).1 then 1 else -1
theorem belI_le (n v : Int) : belI n v ≤ 0 ↔ (TT.bnd n).2 ≤ v := by
  have h1 := bnd_gap n
  have h2 := (TT.bnd_bd n).2.1
  unfold belI
  split
  · omega
  split
  · omega
  split
  · omega
  split
  · omega
  · omega
theorem below_c {n v : Int} (h : -4611686018427387904 ≤ n ∧ n ≤ 4611686018427387904) : Cont Tryz.prog 259 [.int .i64 n, .int .i64 v] (.int .i64 (belI n v)) := fun w => by
  have q1 := bounds_c h
  unfold belI
  generalize TT.bnd n = x at *
  obtain ⟨lo, hi⟩ := x
  refine enter0 Tryz.func259 rfl rfl rfl ?_
  repeat' (first
    | (show YK _ _ _ _ _ _ _; first | refine YK.mk (y_callA (q1) ⟨rfl, rfl⟩) ?_)
    | (show YK _ _ _ _ _ _ _; refine YK.ofV vAuto ?_)
    | (show VK _ _ _ _ _ _ _; refine VK.mk vAuto ?_)
    | (show RS _ _ _ _ _ _ _ _; first | (refine nxRS ?_) | (refine nxRS1 fun _ => ?_))
    | (show RM _ _ _ _ _ _ _ _ _ _; first | (refine nxRM ?_) | (refine nxRM1 fun _ => ?_))
    | (show YG _ _ _ _ _ _ _ _; refine YG.mk (fun hb => by (try (have hc := And.left hb; have hb := And.right hb; rw [hc])); (try rw [hb]); first | exact (y_callA (q1) ⟨rfl, rfl⟩) | exact V.y vAuto) ?_)
    | (show VG _ _ _ _ _ _ _ _; refine VG.mk (fun hb => by (try (have hc := And.left hb; have hb := And.right hb; rw [hc])); (try rw [hb]); exact vAuto) ?_)
    | (refine nxX ?_)
    | (refine G.condN rfl (fun hc => ?_) (fun hc => ?_) <;> (try first | exact False.elim hc | (exfalso; omega))))
  all_goals exact X.ret (vs := [_]) rfl ⟨rfl, rfl⟩ rfl (fun w hw => ⟨congrArg Ending.returned (congrArg (Value.int .i64) (by (repeat' split) <;> omega)), hw.ext⟩)
end Go.Proofs.YtgmolcobhehoeaaGreatDoor
/- A step that stores what is there already. -/
set_option linter.unusedVariables false
set_option maxHeartbeats 8000000
namespace Go.Proofs.YtgmolcobhehoeaaGreatDoor
open Go.RowKit
theorem setCell_same {w : World} {b : Nat} {v : Value} {t : TypeId} (h : w.heap[b]? = some (.cells #[v] t (0, 0))) : w.setCell ⟨b, 0, none⟩ v = w := by
  obtain ⟨hb, e⟩ := Array.getElem?_eq_some_iff.1 h
  unfold World.setCell
  have hm : w.heap.modify b (fun
      | .cells c elem frozen => .cells (if (none : Option Nat).isSome then c else c.setIfInBounds 0 v) elem frozen
      | o => o) = w.heap := by
    refine Array.ext (by simp) fun i h1 h2 => ?_
    rw [Array.getElem_modify]
    split
    · rename_i hi
      subst hi
      rw [e]
      simp
    · rfl
  exact congrArg (fun hp => { w with heap := hp }) hm
section
variable {P : Program} {n : Nat} {L : FL} {w0 : World} {H : List Hl} {Q : Exit → Act → World → Prop} {ops : Array Oper} {rest : List Oper} {ty : TypeId} {pos : String} {af : Array Edge} {x y : Operand} {t t0 : TypeId} {u : Value} {b : Nat}
theorem RS.storeSame (h : RS P ops Q n L w0 H rest) (hx : evO L x = some (.pointer (some ⟨b, 0, none⟩))) (hy : evO L y = some u) (hw : ∀ w, St w0 H w → w.heap[b]? = some (.cells #[u] t0 (0, 0))) (hu : u.oneCell' = true) (hs : scalarB P t = true) :
    RS P ops Q n L w0 H (⟨none, .store t x y, ty, pos, af, none⟩ :: rest) :=
  RS.actX (post := fun _ : Unit => True) (L' := fun _ => L) (H' := fun _ => H) rfl (EX.of_skip fun a w ha hw' => by
    have hb := hw w hw'
    have hc : w.cell? ⟨b, 0, none⟩ = some u := by
      have := cell_of_row w b 0 #[u] t0 (0, 0) hb
      simpa using this
    have hf : w.frozen? ⟨b, 0, none⟩ = false := by simp [World.frozen?, hb]
    have hadd : (⟨b, 0, none⟩ : Addr).add 0 = ⟨b, 0, none⟩ := rfl
    have hsame := setCell_same hb
    exact ⟨w, (), by simp [execOp, ha.eval hx, ha.eval hy, Instr.storeAt, Instr.sureAddr, storeVar, oneCell_cells hu, run_sizeOf_of (info_of_scalarB hs), storeCells, hadd, run_store P w _ u _ hu, hc, hf, hsame], trivial, rfl, hw'⟩) fun _ _ => h
end
/-- The world holds a chain without an error. -/
structure ChW (b : Nat) (w : World) : Prop where
  blk : w.heap[b]? = some (.cells #[.int .i64 0] 162 (0, 0))
theorem ChW.keep {b : Nat} {w w' : World} (h : ChW b w) (hw : Below w.heap.size w w') : ChW b w' :=
  ⟨(hw.block b (Array.getElem?_eq_some_iff.1 h.blk).1).trans h.blk⟩
theorem ChW.cell {b : Nat} {w : World} (h : ChW b w) : ∀ k v, [Value.int .i64 0][k]? = some v → w.cell? ⟨b, k, none⟩ = some v := fun k v hk => by
  have := cell_of_row w b k #[.int .i64 0] _ (0, 0) h.blk
  rw [this]
  simpa using hk
abbrev ptC (b : Nat) : Value := .pointer (some ⟨b, 0, none⟩)
end Go.Proofs.YtgmolcobhehoeaaGreatDoor
/- The program's arcsines, arccosines, angles of haversines: the walks. -/
set_option linter.unusedVariables false
set_option maxHeartbeats 8000000
namespace Go.Proofs.YtgmolcobhehoeaaGreatDoor
open Go.RowKit
theorem asin_c {v n : Int} (hn : TT.IsAsin v n) : Cont Tryz.prog 236 [.int .i64 v] (.int .i64 n) := fun w => by
  have hi := fun m h0 h1 => TT.asin_iff (m := m) hn h0 h1
  obtain ⟨n0, n1, _, _⟩ := hn
  refine enter0 Tryz.func236 rfl rfl rfl ?_
  repeat' (first
    | (refine nxV ?_)
    | (show RS _ _ _ _ _ _ _ _; first | (refine nxRS ?_) | (refine nxRS1 fun _ => ?_))
    | (show RM _ _ _ _ _ _ _ _ _ _; first | (refine nxRM ?_) | (refine nxRM1 fun _ => ?_))
    | (refine nxG ?_)
    | (refine nxX ?_)
    | (refine G.condN rfl (fun hc => ?_) (fun hc => ?_) <;> (try first | exact False.elim hc | (exfalso; omega))))
  refine G.loop (ι := Int × Int) (fun x => [(0, .int .i64 v), (3, .int .i64 x.1), (4, .int .i64 x.2)]) (fun _ => []) (fun x => -5400000 ≤ x.1 ∧ x.1 ≤ n ∧ n < x.2 ∧ x.2 ≤ 5400001) (fun x => (x.2 - x.1).toNat) (-5400000, 5400001) ⟨by dsimp only; omega, by dsimp only; omega, by dsimp only; omega, by dsimp only; omega⟩ ⟨rfl, rfl, rfl, trivial⟩ (by exact fun w h => h.sub (by repeat (first | exact List.Sublist.refl _ | apply List.Sublist.cons_cons | apply List.Sublist.cons))) ?_
  rintro ⟨lo, hh⟩ mx ⟨g1, g2, g3, g4⟩ hmx
  dsimp only at g1 g2 g3 g4 hmx ⊢
  by_cases hc0 : hh - lo ≤ 1
  · obtain rfl : lo = n := by omega
    repeat' (first
    | (refine nxV ?_)
    | (show RS _ _ _ _ _ _ _ _; first | (refine nxRS ?_) | (refine nxRS1 fun _ => ?_))
    | (show RM _ _ _ _ _ _ _ _ _ _; first | (refine nxRM ?_) | (refine nxRM1 fun _ => ?_))
    | (refine nxG ?_)
    | (refine nxX ?_)
    | (refine G.condN rfl (fun hc => ?_) (fun hc => ?_) <;> (try first | exact False.elim hc | (exfalso; omega))))
    exact X.ret (vs := [_]) rfl ⟨rfl, rfl⟩ rfl (fun w hw => ⟨rfl, hw.ext⟩)
  · have q1 := below_c (n := (lo + hh) / 2) (v := v) (by omega)
    have hb := belI_le ((lo + hh) / 2) v
    have hj := hi ((lo + hh) / 2) (by omega) (by omega)
    rw [← hb] at hj
    generalize belI ((lo + hh) / 2) v = bb at *
    clear hb hi
    repeat' (first
    | (show YK _ _ _ _ _ _ _; first | refine YK.mk (y_callA (q1) ⟨rfl, rfl, rfl⟩) ?_)
    | (show YK _ _ _ _ _ _ _; refine YK.ofV vAuto ?_)
    | (show VK _ _ _ _ _ _ _; refine VK.mk vAuto ?_)
    | (show RS _ _ _ _ _ _ _ _; first | (refine nxRS ?_) | (refine nxRS1 fun _ => ?_))
    | (show RM _ _ _ _ _ _ _ _ _ _; first | (refine nxRM ?_) | (refine nxRM1 fun _ => ?_))
    | (show YG _ _ _ _ _ _ _ _; refine YG.mk (fun hb => by (try (have hc := And.left hb; have hb := And.right hb; rw [hc])); (try rw [hb]); first | exact (y_callA (q1) ⟨rfl, rfl, rfl⟩) | exact V.y vAuto) ?_)
    | (show VG _ _ _ _ _ _ _ _; refine VG.mk (fun hb => by (try (have hc := And.left hb; have hb := And.right hb; rw [hc])); (try rw [hb]); exact vAuto) ?_)
    | (refine nxX ?_)
    | (refine G.condN rfl (fun hc => ?_) (fun hc => ?_) <;> (try first | exact False.elim hc | (exfalso; omega))))
    · exact X.again (((lo + hh) / 2), hh) ⟨by dsimp only; omega, by dsimp only; omega, by dsimp only; omega, by dsimp only; omega⟩ (by dsimp only; omega) ⟨rfl, rfl, rfl, trivial⟩ (by exact fun w h => h.sub (by repeat (first | exact List.Sublist.refl _ | apply List.Sublist.cons_cons | apply List.Sublist.cons)))
    · exact X.again (lo, ((lo + hh) / 2)) ⟨by dsimp only; omega, by dsimp only; omega, by dsimp only; omega, by dsimp only; omega⟩ (by dsimp only; omega) ⟨rfl, rfl, rfl, trivial⟩ (by exact fun w h => h.sub (by repeat (first | exact List.Sublist.refl _ | apply List.Sublist.cons_cons | apply List.Sublist.cons)))
theorem part_c {a b lo hi : Int} : Cont Tryz.prog 182 [arcV a b, .int .i64 lo, .int .i64 hi] (.tuple [arcV (max a lo) (min b hi), .bool (decide (max a lo ≤ min b hi))].toArray) := fun w => by
  refine enter0 Tryz.func182 rfl rfl rfl ?_
  repeat' (first
    | (refine G.mixedM 2 [.go 0, .go 1, .go 2, .go 3, .go 4, .go 5, .go 6, .go 7] [false, true] ?_; dsimp only [maskH])
    | (refine nxV ?_)
    | (show RS _ _ _ _ _ _ _ _; first | (refine nxRS ?_) | (refine nxRS1 fun _ => ?_))
    | (show RM _ _ _ _ _ _ _ _ _ _; first | (refine nxRM ?_) | (refine nxRM1 fun _ => ?_))
    | (refine nxG ?_)
    | (refine nxX ?_)
    | (refine G.condN rfl (fun hc => ?_) (fun hc => ?_) <;> (try first | exact False.elim hc | (exfalso; omega))))
  exact X.ret (vs := [_, _]) rfl ⟨⟨_, _, _, _, rfl, (by exact memA), (by (repeat (first | exact .nil | apply LenIs.cons))), by decide +kernel, rfl⟩, rfl, rfl⟩ rfl (fun w hw => ⟨rfl, hw.ext⟩)
theorem Asin_c {a b n m : Int} (h : -1073741824 ≤ a ∧ a ≤ b ∧ b ≤ 1073741824) (h1 : TT.IsAsin a n) (h2 : TT.IsAsin (-b) m) : Cont Tryz.prog 207 [arcV a b] (.tuple [arcV n (-m), .int .i64 0].toArray) := fun w => by
  have q1 := fvalid_t (lo := a) (hi := b) (by omega)
  have q2 := part_c (a := a) (b := b) (lo := -1073741824) (hi := 1073741824)
  rw [show max a (-1073741824) = a by omega, show min b 1073741824 = b by omega, decide_eq_true h.2.1] at q2
  have q3 := asin_c h1
  have q4 := asin_c h2
  have hm := h2.1
  have hm2 := h2.2.1
  refine enter0 Tryz.func207 rfl rfl rfl ?_
  repeat' (first
    | (refine G.mixedM 6 [.go 0, .go 1, .go 3, .go 4, .go 5, .go 2, .go 6, .go 7, .go 8, .go 9, .go 10] [false, true] ?_; dsimp only [maskH])
    | (show YK _ _ _ _ _ _ _; first | refine YK.mk (y_callA (q1) ⟨rfl, rfl⟩) ?_ | refine YK.mk (y_callA (q2) ⟨rfl, rfl, rfl, rfl⟩) ?_ | refine YK.mk (y_callA (q3) ⟨rfl, rfl⟩) ?_ | refine YK.mk (y_callA (q4) ⟨rfl, rfl⟩) ?_)
    | (show YK _ _ _ _ _ _ _; refine YK.ofV vAuto ?_)
    | (show VK _ _ _ _ _ _ _; refine VK.mk vAuto ?_)
    | (show RS _ _ _ _ _ _ _ _; first | (refine nxRS ?_) | (refine nxRS1 fun _ => ?_))
    | (show RM _ _ _ _ _ _ _ _ _ _; first | (refine nxRM ?_) | (refine nxRM1 fun _ => ?_))
    | (show YG _ _ _ _ _ _ _ _; refine YG.mk (fun hb => by (try (have hc := And.left hb; have hb := And.right hb; rw [hc])); (try rw [hb]); first | exact (y_callA (q1) ⟨rfl, rfl⟩) | exact (y_callA (q2) ⟨rfl, rfl, rfl, rfl⟩) | exact (y_callA (q3) ⟨rfl, rfl⟩) | exact (y_callA (q4) ⟨rfl, rfl⟩) | exact V.y vAuto) ?_)
    | (show VG _ _ _ _ _ _ _ _; refine VG.mk (fun hb => by (try (have hc := And.left hb; have hb := And.right hb; rw [hc])); (try rw [hb]); exact vAuto) ?_)
    | (refine nxX ?_)
    | (refine G.condN rfl (fun hc => ?_) (fun hc => ?_) <;> (try first | exact False.elim hc | (exfalso; omega))))
  exact X.ret (vs := [_, _]) rfl ⟨⟨_, _, _, _, rfl, (by exact memA), (by (repeat (first | exact .nil | apply LenIs.cons))), by decide +kernel, rfl⟩, rfl, rfl⟩ rfl (fun w hw => ⟨rfl, hw.ext⟩)
theorem Acos_c {a b n m : Int} (h : -1073741824 ≤ a ∧ a ≤ b ∧ b ≤ 1073741824) (h1 : TT.IsAsin a n) (h2 : TT.IsAsin (-b) m) : Cont Tryz.prog 183 [arcV a b] (.tuple [arcV (5400000 + m) (5400000 - n), .int .i64 0].toArray) := fun w => by
  have q1 := Asin_c h h1 h2
  have hm := h2.1
  have hm2 := h2.2.1
  have hn := h1.1
  have hn2 := h1.2.1
  refine enter0 Tryz.func183 rfl rfl rfl ?_
  repeat' (first
    | (show YK _ _ _ _ _ _ _; first | refine YK.mk (y_callA (q1) ⟨rfl, rfl⟩) ?_)
    | (show YK _ _ _ _ _ _ _; refine YK.ofV vAuto ?_)
    | (show VK _ _ _ _ _ _ _; refine VK.mk vAuto ?_)
    | (show RS _ _ _ _ _ _ _ _; first | (refine nxRS ?_) | (refine nxRS1 fun _ => ?_))
    | (show RM _ _ _ _ _ _ _ _ _ _; first | (refine nxRM ?_) | (refine nxRM1 fun _ => ?_))
    | (show YG _ _ _ _ _ _ _ _; refine YG.mk (fun hb => by (try (have hc := And.left hb; have hb := And.right hb; rw [hc])); (try rw [hb]); first | exact (y_callA (q1) ⟨rfl, rfl⟩) | exact V.y vAuto) ?_)
    | (show VG _ _ _ _ _ _ _ _; refine VG.mk (fun hb => by (try (have hc := And.left hb; have hb := And.right hb; rw [hc])); (try rw [hb]); exact vAuto) ?_)
    | (refine nxX ?_)
    | (refine G.condN rfl (fun hc => ?_) (fun hc => ?_) <;> (try first | exact False.elim hc | (exfalso; omega))))
  refine X.ret (vs := [_, _]) rfl ⟨⟨_, _, _, _, rfl, (by exact memA), (by (repeat (first | exact .nil | apply LenIs.cons))), by decide +kernel, rfl⟩, rfl, rfl⟩ rfl (fun w hw => ⟨?_, hw.ext⟩)
  rw [show 5400000 - -m = 5400000 + m by omega]
theorem Ahav_c {p : Int × Int} {n m : Int} (h : -2147483648 ≤ p.1 ∧ p.1 ≤ p.2 ∧ p.2 ≤ 2147483648) (hc : 0 ≤ (TT.clamp p).1 ∧ (TT.clamp p).2 ≤ 1073741824 ∧ (TT.clamp p).1 ≤ (TT.clamp p).2) (h1 : TT.IsAsin (1073741824 - 2 * (TT.clamp p).2) n) (h2 : TT.IsAsin (-(1073741824 - 2 * (TT.clamp p).1)) m) :
    Cont Tryz.prog 132 [arcV p.1 p.2] (.tuple [arcV (5400000 + m) (5400000 - n), .int .i64 0].toArray) := fun w => by
  have q1 := fvalid_t (lo := p.1) (hi := p.2) h
  have q2 := part_c (a := p.1) (b := p.2) (lo := 0) (hi := 1073741824)
  have q3 := Acos_c (a := 1073741824 - 2 * (TT.clamp p).2) (b := 1073741824 - 2 * (TT.clamp p).1) (by omega) h1 h2
  have e : max p.1 0 ≤ min p.2 1073741824 := hc.2.2
  rw [decide_eq_true e] at q2
  unfold TT.clamp at *
  dsimp only at *
  refine enter0 Tryz.func132 rfl rfl rfl ?_
  repeat' (first
    | (show YK _ _ _ _ _ _ _; first | refine YK.mk (y_callA (q1) ⟨rfl, rfl⟩) ?_ | refine YK.mk (y_callA (q2) ⟨rfl, rfl, rfl, rfl⟩) ?_ | refine YK.mk (y_callA (q3) ⟨rfl, rfl⟩) ?_)
    | (show YK _ _ _ _ _ _ _; refine YK.ofV vAuto ?_)
    | (show VK _ _ _ _ _ _ _; refine VK.mk vAuto ?_)
    | (show RS _ _ _ _ _ _ _ _; first | (refine nxRS ?_) | (refine nxRS1 fun _ => ?_))
    | (show RM _ _ _ _ _ _ _ _ _ _; first | (refine nxRM ?_) | (refine nxRM1 fun _ => ?_))
    | (show YG _ _ _ _ _ _ _ _; refine YG.mk (fun hb => by (try (have hc := And.left hb; have hb := And.right hb; rw [hc])); (try rw [hb]); first | exact (y_callA (q1) ⟨rfl, rfl⟩) | exact (y_callA (q2) ⟨rfl, rfl, rfl, rfl⟩) | exact (y_callA (q3) ⟨rfl, rfl⟩) | exact V.y vAuto) ?_)
    | (show VG _ _ _ _ _ _ _ _; refine VG.mk (fun hb => by (try (have hc := And.left hb; have hb := And.right hb; rw [hc])); (try rw [hb]); exact vAuto) ?_)
    | (refine nxX ?_)
    | (refine G.condN rfl (fun hc => ?_) (fun hc => ?_) <;> (try first | exact False.elim hc | (exfalso; omega))))
  exact X.ret (vs := [_, _]) rfl ⟨⟨_, _, _, _, rfl, (by exact memA), (by (repeat (first | exact .nil | apply LenIs.cons))), by decide +kernel, rfl⟩, rfl, rfl⟩ rfl (fun w hw => ⟨rfl, hw.ext⟩)
end Go.Proofs.YtgmolcobhehoeaaGreatDoor
/- take, the haversine of a difference, the distance of two stars. -/
set_option linter.unusedVariables false
set_option maxHeartbeats 8000000
namespace Go.Proofs.YtgmolcobhehoeaaGreatDoor
open Go.RowKit
theorem takeA_c {b : Nat} {lo hi : Int} : ContIn Tryz.prog (ChW b) 127 [ptC b, arcV lo hi, .int .i64 0] (arcV lo hi) := fun w hs => by
  have hcl := hs.cell
  refine enter0 Tryz.func127 rfl rfl rfl ?_
  repeat' (first
    | (refine nxN ?_)
    | (show VK _ _ _ _ _ ⟨_, .load 31 _, _, _, _, _⟩ _; refine VK.mk (y_loadX (by rfl) (hcl _ _ (by rfl)) (by decide +kernel)) ?_)
    | (show YK _ _ _ _ _ ⟨_, .load 31 _, _, _, _, _⟩ _; refine YK.ofV (y_loadX (by rfl) (hcl _ _ (by rfl)) (by decide +kernel)) ?_)
    | (show VG _ _ _ _ _ _ ⟨_, .load 31 _, _, _, _, _⟩ _; refine VG.mk (fun hb => by (try (have hc := And.left hb; have hb := And.right hb; rw [hc])); (try rw [hb]); exact y_loadX (by rfl) (hcl _ _ (by rfl)) (by decide +kernel)) ?_)
    | (show YG _ _ _ _ _ _ ⟨_, .load 31 _, _, _, _, _⟩ _; refine YG.mk (fun hb => by (try (have hc := And.left hb; have hb := And.right hb; rw [hc])); (try rw [hb]); exact V.y (y_loadX (by rfl) (hcl _ _ (by rfl)) (by decide +kernel))) ?_)
    | (show RS _ _ _ _ _ _ _ (⟨none, .store 31 _ _, _, _, _, _⟩ :: _); refine RS.storeSame (b := b) ?_ (by rfl) (by rfl) (fun w' hw' => (hs.keep hw'.ext).blk) (by rfl) (by decide +kernel))
    | (refine nxV ?_)
    | (show RS _ _ _ _ _ _ _ _; first | (refine nxRS ?_) | (refine nxRS1 fun _ => ?_))
    | (show RM _ _ _ _ _ _ _ _ _ _; first | (refine nxRM ?_) | (refine nxRM1 fun _ => ?_))
    | (refine nxG ?_)
    | (refine nxX ?_)
    | (refine G.condN rfl (fun hc => ?_) (fun hc => ?_) <;> (try first | exact False.elim hc | (exfalso; omega))))
  all_goals exact X.ret (vs := [_]) rfl ⟨⟨_, _, _, _, rfl, (by exact memA), (by (repeat (first | exact .nil | apply LenIs.cons))), by decide +kernel, rfl⟩, rfl⟩ rfl (fun w hw => ⟨rfl, hw.ext⟩)
theorem takeF_c {b : Nat} {lo hi : Int} : ContIn Tryz.prog (ChW b) 129 [ptC b, arcV lo hi, .int .i64 0] (arcV lo hi) := fun w hs => by
  have hcl := hs.cell
  refine enter0 Tryz.func129 rfl rfl rfl ?_
  repeat' (first
    | (refine nxN ?_)
    | (show VK _ _ _ _ _ ⟨_, .load 31 _, _, _, _, _⟩ _; refine VK.mk (y_loadX (by rfl) (hcl _ _ (by rfl)) (by decide +kernel)) ?_)
    | (show YK _ _ _ _ _ ⟨_, .load 31 _, _, _, _, _⟩ _; refine YK.ofV (y_loadX (by rfl) (hcl _ _ (by rfl)) (by decide +kernel)) ?_)
    | (show VG _ _ _ _ _ _ ⟨_, .load 31 _, _, _, _, _⟩ _; refine VG.mk (fun hb => by (try (have hc := And.left hb; have hb := And.right hb; rw [hc])); (try rw [hb]); exact y_loadX (by rfl) (hcl _ _ (by rfl)) (by decide +kernel)) ?_)
    | (show YG _ _ _ _ _ _ ⟨_, .load 31 _, _, _, _, _⟩ _; refine YG.mk (fun hb => by (try (have hc := And.left hb; have hb := And.right hb; rw [hc])); (try rw [hb]); exact V.y (y_loadX (by rfl) (hcl _ _ (by rfl)) (by decide +kernel))) ?_)
    | (show RS _ _ _ _ _ _ _ (⟨none, .store 31 _ _, _, _, _, _⟩ :: _); refine RS.storeSame (b := b) ?_ (by rfl) (by rfl) (fun w' hw' => (hs.keep hw'.ext).blk) (by rfl) (by decide +kernel))
    | (refine nxV ?_)
    | (show RS _ _ _ _ _ _ _ _; first | (refine nxRS ?_) | (refine nxRS1 fun _ => ?_))
    | (show RM _ _ _ _ _ _ _ _ _ _; first | (refine nxRM ?_) | (refine nxRM1 fun _ => ?_))
    | (refine nxG ?_)
    | (refine nxX ?_)
    | (refine G.condN rfl (fun hc => ?_) (fun hc => ?_) <;> (try first | exact False.elim hc | (exfalso; omega))))
  all_goals exact X.ret (vs := [_]) rfl ⟨⟨_, _, _, _, rfl, (by exact memA), (by (repeat (first | exact .nil | apply LenIs.cons))), by decide +kernel, rfl⟩, rfl⟩ rfl (fun w hw => ⟨rfl, hw.ext⟩)
theorem gfits_c {n : Int} (h : -1099511627776 ≤ n ∧ n ≤ 1099511627776) : Cont Tryz.prog 101 [.int .i64 n] (.bool true) := fun w => by
  refine enter0 Tryz.func101 rfl rfl rfl ?_
  repeat' (first
    | (refine nxV ?_)
    | (show RS _ _ _ _ _ _ _ _; first | (refine nxRS ?_) | (refine nxRS1 fun _ => ?_))
    | (show RM _ _ _ _ _ _ _ _ _ _; first | (refine nxRM ?_) | (refine nxRM1 fun _ => ?_))
    | (refine nxG ?_)
    | (refine nxX ?_)
    | (refine G.condN rfl (fun hc => ?_) (fun hc => ?_) <;> (try first | exact False.elim hc | (exfalso; omega))))
  refine X.ret (vs := [_]) rfl ⟨rfl, rfl⟩ rfl (fun w hw => ⟨ret_bool ?_, hw.ext⟩)
  simp [h.1, h.2]
theorem gval_c {a b : Int} (h : -1099511627776 ≤ a ∧ a ≤ b ∧ b ≤ 1099511627776) : Cont Tryz.prog 116 [arcV a b] (.bool true) := fun w => by
  have q1 := gfits_c (n := a) (by omega)
  have q2 := gfits_c (n := b) (by omega)
  refine enter0 Tryz.func116 rfl rfl rfl ?_
  repeat' (first
    | (show YK _ _ _ _ _ _ _; first | refine YK.mk (y_callA (q1) ⟨rfl, rfl⟩) ?_ | refine YK.mk (y_callA (q2) ⟨rfl, rfl⟩) ?_)
    | (show YK _ _ _ _ _ _ _; refine YK.ofV vAuto ?_)
    | (show VK _ _ _ _ _ _ _; refine VK.mk vAuto ?_)
    | (show RS _ _ _ _ _ _ _ _; first | (refine nxRS ?_) | (refine nxRS1 fun _ => ?_))
    | (show RM _ _ _ _ _ _ _ _ _ _; first | (refine nxRM ?_) | (refine nxRM1 fun _ => ?_))
    | (show YG _ _ _ _ _ _ _ _; refine YG.mk (fun hb => by (try (have hc := And.left hb; have hb := And.right hb; rw [hc])); (try rw [hb]); first | exact (y_callA (q1) ⟨rfl, rfl⟩) | exact (y_callA (q2) ⟨rfl, rfl⟩) | exact V.y vAuto) ?_)
    | (show VG _ _ _ _ _ _ _ _; refine VG.mk (fun hb => by (try (have hc := And.left hb; have hb := And.right hb; rw [hc])); (try rw [hb]); exact vAuto) ?_)
    | (refine nxX ?_)
    | (refine G.condN rfl (fun hc => ?_) (fun hc => ?_) <;> (try first | exact False.elim hc | (exfalso; omega))))
  refine X.ret (vs := [_]) rfl ⟨rfl, rfl⟩ rfl (fun w hw => ⟨ret_bool ?_, hw.ext⟩)
  simp [h.2.1]
theorem gres_c {a b : Int} (h : -1099511627776 ≤ a ∧ a ≤ b ∧ b ≤ 1099511627776) : Cont Tryz.prog 206 [.int .i64 a, .int .i64 b] (.tuple [arcV a b, .int .i64 0].toArray) := fun w => by
  have q1 := gfits_c (n := a) (by omega)
  have q2 := gfits_c (n := b) (by omega)
  refine enter0 Tryz.func206 rfl rfl rfl ?_
  repeat' (first
    | (show YK _ _ _ _ _ _ _; first | refine YK.mk (y_callA (q1) ⟨rfl, rfl⟩) ?_ | refine YK.mk (y_callA (q2) ⟨rfl, rfl⟩) ?_)
    | (show YK _ _ _ _ _ _ _; refine YK.ofV vAuto ?_)
    | (show VK _ _ _ _ _ _ _; refine VK.mk vAuto ?_)
    | (show RS _ _ _ _ _ _ _ _; first | (refine nxRS ?_) | (refine nxRS1 fun _ => ?_))
    | (show RM _ _ _ _ _ _ _ _ _ _; first | (refine nxRM ?_) | (refine nxRM1 fun _ => ?_))
    | (show YG _ _ _ _ _ _ _ _; refine YG.mk (fun hb => by (try (have hc := And.left hb; have hb := And.right hb; rw [hc])); (try rw [hb]); first | exact (y_callA (q1) ⟨rfl, rfl⟩) | exact (y_callA (q2) ⟨rfl, rfl⟩) | exact V.y vAuto) ?_)
    | (show VG _ _ _ _ _ _ _ _; refine VG.mk (fun hb => by (try (have hc := And.left hb; have hb := And.right hb; rw [hc])); (try rw [hb]); exact vAuto) ?_)
    | (refine nxX ?_)
    | (refine G.condN rfl (fun hc => ?_) (fun hc => ?_) <;> (try first | exact False.elim hc | (exfalso; omega))))
  exact X.ret (vs := [_, _]) rfl ⟨⟨_, _, _, _, rfl, (by exact memA), (by (repeat (first | exact .nil | apply LenIs.cons))), by decide +kernel, rfl⟩, rfl, rfl⟩ rfl (fun w hw => ⟨rfl, hw.ext⟩)
theorem gneg_c {a b : Int} (h : -1099511627776 ≤ a ∧ a ≤ b ∧ b ≤ 1099511627776) : Cont Tryz.prog 175 [arcV a b] (.tuple [arcV (-b) (-a), .int .i64 0].toArray) := fun w => by
  have q1 := gval_c h
  have q2 := gres_c (a := -b) (b := -a) (by omega)
  refine enter0 Tryz.func175 rfl rfl rfl ?_
  repeat' (first
    | (show YK _ _ _ _ _ _ _; first | refine YK.mk (y_callA (q1) ⟨rfl, rfl⟩) ?_ | refine YK.mk (y_callA (q2) ⟨rfl, rfl, rfl⟩) ?_)
    | (show YK _ _ _ _ _ _ _; refine YK.ofV vAuto ?_)
    | (show VK _ _ _ _ _ _ _; refine VK.mk vAuto ?_)
    | (show RS _ _ _ _ _ _ _ _; first | (refine nxRS ?_) | (refine nxRS1 fun _ => ?_))
    | (show RM _ _ _ _ _ _ _ _ _ _; first | (refine nxRM ?_) | (refine nxRM1 fun _ => ?_))
    | (show YG _ _ _ _ _ _ _ _; refine YG.mk (fun hb => by (try (have hc := And.left hb; have hb := And.right hb; rw [hc])); (try rw [hb]); first | exact (y_callA (q1) ⟨rfl, rfl⟩) | exact (y_callA (q2) ⟨rfl, rfl, rfl⟩) | exact V.y vAuto) ?_)
    | (show VG _ _ _ _ _ _ _ _; refine VG.mk (fun hb => by (try (have hc := And.left hb; have hb := And.right hb; rw [hc])); (try rw [hb]); exact vAuto) ?_)
    | (refine nxX ?_)
    | (refine G.condN rfl (fun hc => ?_) (fun hc => ?_) <;> (try first | exact False.elim hc | (exfalso; omega))))
  exact X.ret (vs := [_, _]) rfl ⟨⟨_, _, _, _, rfl, (by exact memA), (by (repeat (first | exact .nil | apply LenIs.cons))), by decide +kernel, rfl⟩, rfl, rfl⟩ rfl (fun w hw => ⟨rfl, hw.ext⟩)
theorem gadd_c {a b c d : Int} (h : -100000000000 ≤ a ∧ a ≤ b ∧ b ≤ 100000000000) (h' : -100000000000 ≤ c ∧ c ≤ d ∧ d ≤ 100000000000) : Cont Tryz.prog 176 [arcV a b, arcV c d] (.tuple [arcV (a + c) (b + d), .int .i64 0].toArray) := fun w => by
  have q1 := gval_c (a := a) (b := b) (by omega)
  have q3 := gval_c (a := c) (b := d) (by omega)
  have q2 := gres_c (a := a + c) (b := b + d) (by omega)
  refine enter0 Tryz.func176 rfl rfl rfl ?_
  repeat' (first
    | (show YK _ _ _ _ _ _ _; first | refine YK.mk (y_callA (q1) ⟨rfl, rfl⟩) ?_ | refine YK.mk (y_callA (q3) ⟨rfl, rfl⟩) ?_ | refine YK.mk (y_callA (q2) ⟨rfl, rfl, rfl⟩) ?_)
    | (show YK _ _ _ _ _ _ _; refine YK.ofV vAuto ?_)
    | (show VK _ _ _ _ _ _ _; refine VK.mk vAuto ?_)
    | (show RS _ _ _ _ _ _ _ _; first | (refine nxRS ?_) | (refine nxRS1 fun _ => ?_))
    | (show RM _ _ _ _ _ _ _ _ _ _; first | (refine nxRM ?_) | (refine nxRM1 fun _ => ?_))
    | (show YG _ _ _ _ _ _ _ _; refine YG.mk (fun hb => by (try (have hc := And.left hb; have hb := And.right hb; rw [hc])); (try rw [hb]); first | exact (y_callA (q1) ⟨rfl, rfl⟩) | exact (y_callA (q3) ⟨rfl, rfl⟩) | exact (y_callA (q2) ⟨rfl, rfl, rfl⟩) | exact V.y vAuto) ?_)
    | (show VG _ _ _ _ _ _ _ _; refine VG.mk (fun hb => by (try (have hc := And.left hb; have hb := And.right hb; rw [hc])); (try rw [hb]); exact vAuto) ?_)
    | (refine nxX ?_)
    | (refine G.condN rfl (fun hc => ?_) (fun hc => ?_) <;> (try first | exact False.elim hc | (exfalso; omega))))
  exact X.ret (vs := [_, _]) rfl ⟨⟨_, _, _, _, rfl, (by exact memA), (by (repeat (first | exact .nil | apply LenIs.cons))), by decide +kernel, rfl⟩, rfl, rfl⟩ rfl (fun w hw => ⟨rfl, hw.ext⟩)
theorem gsub_c {a b c d : Int} (h : -100000000000 ≤ a ∧ a ≤ b ∧ b ≤ 100000000000) (h' : -100000000000 ≤ c ∧ c ≤ d ∧ d ≤ 100000000000) : Cont Tryz.prog 126 [arcV a b, arcV c d] (.tuple [arcV (a - d) (b - c), .int .i64 0].toArray) := fun w => by
  have q1 := gneg_c (a := c) (b := d) (by omega)
  have q2 := gadd_c (a := a) (b := b) (c := -d) (d := -c) h (by omega)
  rw [show a + -d = a - d by omega, show b + -c = b - c by omega] at q2
  refine enter0 Tryz.func126 rfl rfl rfl ?_
  repeat' (first
    | (show YK _ _ _ _ _ _ _; first | refine YK.mk (y_callA (q1) ⟨rfl, rfl⟩) ?_ | refine YK.mk (y_callA (q2) ⟨rfl, rfl, rfl⟩) ?_)
    | (show YK _ _ _ _ _ _ _; refine YK.ofV vAuto ?_)
    | (show VK _ _ _ _ _ _ _; refine VK.mk vAuto ?_)
    | (show RS _ _ _ _ _ _ _ _; first | (refine nxRS ?_) | (refine nxRS1 fun _ => ?_))
    | (show RM _ _ _ _ _ _ _ _ _ _; first | (refine nxRM ?_) | (refine nxRM1 fun _ => ?_))
    | (show YG _ _ _ _ _ _ _ _; refine YG.mk (fun hb => by (try (have hc := And.left hb; have hb := And.right hb; rw [hc])); (try rw [hb]); first | exact (y_callA (q1) ⟨rfl, rfl⟩) | exact (y_callA (q2) ⟨rfl, rfl, rfl⟩) | exact V.y vAuto) ?_)
    | (show VG _ _ _ _ _ _ _ _; refine VG.mk (fun hb => by (try (have hc := And.left hb; have hb := And.right hb; rw [hc])); (try rw [hb]); exact vAuto) ?_)
    | (refine nxX ?_)
    | (refine G.condN rfl (fun hc => ?_) (fun hc => ?_) <;> (try first | exact False.elim hc | (exfalso; omega))))
  exact X.ret (vs := [_, _]) rfl ⟨⟨_, _, _, _, rfl, (by exact memA), (by (repeat (first | exact .nil | apply LenIs.cons))), by decide +kernel, rfl⟩, rfl, rfl⟩ rfl (fun w hw => ⟨rfl, hw.ext⟩)
/-- The world in which a haversine is asked for. -/
structure HvW (bc b : Nat) (w : World) : Prop where
  ch : ChW b w
  c2 : ∀ k v, [ptC b][k]? = some v → w.cell? ⟨bc, k, none⟩ = some v
theorem ChW.ofSt {w0 w : World} {H : List Hl} {b : Nat} (hw : St w0 H w) (hm : Hl.blk b 162 [.int .i64 0] ∈ H) : ChW b w := ⟨hw.blk hm⟩
theorem HvW.ofSt {w0 w : World} {H : List Hl} {bc b : Nat} (hw : St w0 H w) (h1 : Hl.blk bc 160 [ptC b] ∈ H) (h2 : Hl.blk b 162 [.int .i64 0] ∈ H) : HvW bc b w :=
  ⟨ChW.ofSt hw h2, fun k v hk => (hw.cell h1 k).trans hk⟩
theorem hav_c {bc b : Nat} {a0 a1 b0 b1 : Int} (h : -100000000 ≤ a0 ∧ a0 ≤ a1 ∧ a1 ≤ 100000000) (h' : -100000000 ≤ b0 ∧ b0 ≤ b1 ∧ b1 ≤ 100000000) :
    ContIn Tryz.prog (HvW bc b) 125 ([arcV a0 a1, arcV b0 b1] ++ (#[.pointer (some ⟨bc, 0, none⟩)] : Array Value).toList) (arcV (TT.havE (a0 - b1) (a1 - b0)).1 (TT.havE (a0 - b1) (a1 - b0)).2) := fun w hs => by
  have hc2 := hs.c2
  have q1 := gsub_c (a := a0) (b := a1) (c := b0) (d := b1) (by omega) (by omega)
  have q2 := takeA_c (b := b) (lo := a0 - b1) (hi := a1 - b0)
  have q3 := Hav_c (lo := a0 - b1) (hi := a1 - b0) (by simp only [validI, Bool.and_eq_true, decide_eq_true_eq]; omega)
  generalize TT.havE (a0 - b1) (a1 - b0) = p at *
  have q4 := takeF_c (b := b) (lo := p.1) (hi := p.2)
  refine enter0 Tryz.func125 rfl rfl rfl ?_
  repeat' (first
    | (show VK _ _ _ _ _ ⟨_, .load 160 _, _, _, _, _⟩ _; refine VK.mk (y_loadX (by rfl) (hc2 _ _ (by rfl)) (by decide +kernel)) ?_)
    | (show YK _ _ _ _ _ ⟨_, .load 160 _, _, _, _, _⟩ _; refine YK.ofV (y_loadX (by rfl) (hc2 _ _ (by rfl)) (by decide +kernel)) ?_)
    | (show VG _ _ _ _ _ _ ⟨_, .load 160 _, _, _, _, _⟩ _; refine VG.mk (fun hb => by (try (have hc := And.left hb; have hb := And.right hb; rw [hc])); (try rw [hb]); exact y_loadX (by rfl) (hc2 _ _ (by rfl)) (by decide +kernel)) ?_)
    | (show YG _ _ _ _ _ _ ⟨_, .load 160 _, _, _, _, _⟩ _; refine YG.mk (fun hb => by (try (have hc := And.left hb; have hb := And.right hb; rw [hc])); (try rw [hb]); exact V.y (y_loadX (by rfl) (hc2 _ _ (by rfl)) (by decide +kernel))) ?_)
    | (show YK _ _ _ _ _ ⟨_, .call { callee := .value (.func 127), args := _, argTypes := _ }, _, _, _, _⟩ _; refine YK.mk (y_callIn (q2) (fun w' hw' => hs.ch.keep hw'.ext) ⟨rfl, rfl, rfl, rfl⟩ (by decide +kernel)) ?_)
    | (show YG _ _ _ _ _ _ ⟨_, .call { callee := .value (.func 127), args := _, argTypes := _ }, _, _, _, _⟩ _; refine YG.mk (fun hb => by (try (have hc := And.left hb; have hb := And.right hb; rw [hc])); (try rw [hb]); exact y_callIn (q2) (fun w' hw' => hs.ch.keep hw'.ext) ⟨rfl, rfl, rfl, rfl⟩ (by decide +kernel)) ?_)
    | (show YK _ _ _ _ _ ⟨_, .call { callee := .value (.func 129), args := _, argTypes := _ }, _, _, _, _⟩ _; refine YK.mk (y_callIn (q4) (fun w' hw' => hs.ch.keep hw'.ext) ⟨rfl, rfl, rfl, rfl⟩ (by decide +kernel)) ?_)
    | (show YG _ _ _ _ _ _ ⟨_, .call { callee := .value (.func 129), args := _, argTypes := _ }, _, _, _, _⟩ _; refine YG.mk (fun hb => by (try (have hc := And.left hb; have hb := And.right hb; rw [hc])); (try rw [hb]); exact y_callIn (q4) (fun w' hw' => hs.ch.keep hw'.ext) ⟨rfl, rfl, rfl, rfl⟩ (by decide +kernel)) ?_)
    | (show YK _ _ _ _ _ _ _; first | refine YK.mk (y_callA (q1) ⟨rfl, rfl, rfl⟩) ?_ | refine YK.mk (y_callA (q3) ⟨rfl, rfl⟩) ?_)
    | (show YK _ _ _ _ _ _ _; refine YK.ofV vAuto ?_)
    | (show VK _ _ _ _ _ _ _; refine VK.mk vAuto ?_)
    | (show RS _ _ _ _ _ _ _ _; first | (refine nxRS ?_) | (refine nxRS1 fun _ => ?_))
    | (show RM _ _ _ _ _ _ _ _ _ _; first | (refine nxRM ?_) | (refine nxRM1 fun _ => ?_))
    | (show YG _ _ _ _ _ _ _ _; refine YG.mk (fun hb => by (try (have hc := And.left hb; have hb := And.right hb; rw [hc])); (try rw [hb]); first | exact (y_callA (q1) ⟨rfl, rfl, rfl⟩) | exact (y_callA (q3) ⟨rfl, rfl⟩) | exact V.y vAuto) ?_)
    | (show VG _ _ _ _ _ _ _ _; refine VG.mk (fun hb => by (try (have hc := And.left hb; have hb := And.right hb; rw [hc])); (try rw [hb]); exact vAuto) ?_)
    | (refine nxX ?_)
    | (refine G.condN rfl (fun hc => ?_) (fun hc => ?_) <;> (try first | exact False.elim hc | (exfalso; omega))))
  exact X.ret (vs := [_]) rfl ⟨⟨_, _, _, _, rfl, (by exact memA), (by (repeat (first | exact .nil | apply LenIs.cons))), by decide +kernel, rfl⟩, rfl⟩ rfl (fun w hw => ⟨rfl, hw.ext⟩)
end Go.Proofs.YtgmolcobhehoeaaGreatDoor
/- The distance of two stars: the walks. -/
set_option linter.unusedVariables false
set_option maxHeartbeats 8000000
namespace Go.Proofs.YtgmolcobhehoeaaGreatDoor
open Go.RowKit
instance tyZch : ZeroTy Tryz.prog 160 (.pointer none) := ⟨by kernel_rfl⟩
theorem apart_c {s d t e : Int} {a : Int × Int} (o1 : TT.okS s d) (o2 : TT.okS t e) (hd : TT.IsDist s d t e a) : Cont Tryz.prog 79 [arcV (s - 50) (s + 50), arcV (d - 50) (d + 50), arcV (t - 50) (t + 50), arcV (e - 50) (e + 50)] (.tuple [arcV a.1 a.2, .int .i64 0].toArray) := fun w => by
  have hcl := (TT.clamp_enc o1 o2).2
  obtain ⟨s0, s1, d0, d1⟩ := o1
  obtain ⟨t0, t1, e0, e1⟩ := o2
  obtain ⟨n0, n1, p1, p0, rfl⟩ := hd
  have b1 := TT.cosE_bd (lo := d - 50) (hi := d + 50) (by omega) (by omega)
  have b2 := TT.cosE_bd (lo := e - 50) (hi := e + 50) (by omega) (by omega)
  have b3 := TT.havE_bd (lo := s - t - 100) (hi := s - t + 100) (by omega) (by omega)
  have b4 := TT.havE_bd (lo := d - e - 100) (hi := d - e + 100) (by omega) (by omega)
  have bs := TT.havS_bd (s := s) (d := d) (t := t) (e := e)
  have m1 := TT.mulE_bd b1 b2
  have m2 := TT.mulE_bd m1 ⟨by omega, b3.2⟩
  have q1 := fun bc b => hav_c (bc := bc) (b := b) (a0 := d - 50) (a1 := d + 50) (b0 := e - 50) (b1 := e + 50) (by omega) (by omega)
  have q2 := fun bc b => hav_c (bc := bc) (b := b) (a0 := s - 50) (a1 := s + 50) (b0 := t - 50) (b1 := t + 50) (by omega) (by omega)
  rw [show d - 50 - (e + 50) = d - e - 100 by omega, show d + 50 - (e - 50) = d - e + 100 by omega] at q1
  rw [show s - 50 - (t + 50) = s - t - 100 by omega, show s + 50 - (t - 50) = s - t + 100 by omega] at q2
  have q3 := Cos_c (lo := d - 50) (hi := d + 50) (by simp only [validI, Bool.and_eq_true, decide_eq_true_eq]; omega)
  have q4 := Cos_c (lo := e - 50) (hi := e + 50) (by simp only [validI, Bool.and_eq_true, decide_eq_true_eq]; omega)
  have q5 := fmul_c b1 b2
  have q6 := fmul_c m1 (⟨by omega, b3.2⟩ : -1073741824 ≤ (TT.havE (s - t - 100) (s - t + 100)).1 ∧ _)
  have q8 := Ahav_c (p := TT.havS s d t e) (by omega) hcl p1 p0
  have eS : TT.havS s d t e = ((TT.havE (d - e - 100) (d - e + 100)).1 + (TT.mulE (TT.mulE (TT.cosE (d - 50) (d + 50)) (TT.cosE (e - 50) (e + 50))) (TT.havE (s - t - 100) (s - t + 100))).1, (TT.havE (d - e - 100) (d - e + 100)).2 + (TT.mulE (TT.mulE (TT.cosE (d - 50) (d + 50)) (TT.cosE (e - 50) (e + 50))) (TT.havE (s - t - 100) (s - t + 100))).2) := rfl
  rw [eS] at q8 bs
  dsimp only at q8 bs
  clear p1 p0 hcl eS
  generalize TT.cosE (d - 50) (d + 50) = c1 at *
  generalize TT.cosE (e - 50) (e + 50) = c2 at *
  generalize TT.havE (s - t - 100) (s - t + 100) = y at *
  generalize TT.havE (d - e - 100) (d - e + 100) = x at *
  generalize TT.mulE c1 c2 = z1 at *
  generalize TT.mulE z1 y = z2 at *
  have q7 := fadd_c (a := x.1) (b := x.2) (c := z2.1) (d := z2.2) (by omega) (by omega) (by omega)
  clear b1 b2 b3 b4 m1 m2 bs
  generalize hm0 : 5400000 + n0 = r0 at *
  generalize hm1 : 5400000 - n1 = r1 at *
  clear hm0 hm1 s0 s1 d0 d1 t0 t1 e0 e1
  obtain ⟨c11, c12⟩ := c1
  obtain ⟨c21, c22⟩ := c2
  obtain ⟨y1, y2⟩ := y
  obtain ⟨x1, x2⟩ := x
  obtain ⟨z11, z12⟩ := z1
  obtain ⟨z21, z22⟩ := z2
  dsimp only at *
  generalize d - 50 = dl at *
  generalize d + 50 = dh at *
  generalize e - 50 = el at *
  generalize e + 50 = eh at *
  generalize s - 50 = sl at *
  generalize s + 50 = sh at *
  generalize t - 50 = tl at *
  generalize t + 50 = th at *
  refine enter0 Tryz.func79 rfl rfl rfl ?_
  repeat' (first
    | (refine nxN ?_)
    | (show YK _ _ _ _ _ ⟨_, .call { callee := .value _, args := _, argTypes := _ }, _, _, _, _⟩ _; refine YK.mk (y_callV (by rfl) (q1 _ _) (fun w' hw' => HvW.ofSt hw' (by exact memA) (by exact memA)) ⟨rfl, rfl, rfl⟩ (by decide +kernel)) ?_)
    | (show YK _ _ _ _ _ ⟨_, .call { callee := .value _, args := _, argTypes := _ }, _, _, _, _⟩ _; refine YK.mk (y_callV (by rfl) (q2 _ _) (fun w' hw' => HvW.ofSt hw' (by exact memA) (by exact memA)) ⟨rfl, rfl, rfl⟩ (by decide +kernel)) ?_)
    | (show YK _ _ _ _ _ ⟨_, .call { callee := .value (.func 127), args := _, argTypes := _ }, _, _, _, _⟩ _; refine YK.mk (y_callIn (takeA_c) (fun w' hw' => ChW.ofSt hw' (by exact memA)) ⟨rfl, rfl, rfl, rfl⟩ (by decide +kernel)) ?_)
    | (show YG _ _ _ _ _ _ ⟨_, .call { callee := .value (.func 127), args := _, argTypes := _ }, _, _, _, _⟩ _; refine YG.mk (fun hb => by (try (have hc := And.left hb; have hb := And.right hb; rw [hc])); (try rw [hb]); exact y_callIn (takeA_c) (fun w' hw' => ChW.ofSt hw' (by exact memA)) ⟨rfl, rfl, rfl, rfl⟩ (by decide +kernel)) ?_)
    | (show YK _ _ _ _ _ ⟨_, .call { callee := .value (.func 129), args := _, argTypes := _ }, _, _, _, _⟩ _; refine YK.mk (y_callIn (takeF_c) (fun w' hw' => ChW.ofSt hw' (by exact memA)) ⟨rfl, rfl, rfl, rfl⟩ (by decide +kernel)) ?_)
    | (show YG _ _ _ _ _ _ ⟨_, .call { callee := .value (.func 129), args := _, argTypes := _ }, _, _, _, _⟩ _; refine YG.mk (fun hb => by (try (have hc := And.left hb; have hb := And.right hb; rw [hc])); (try rw [hb]); exact y_callIn (takeF_c) (fun w' hw' => ChW.ofSt hw' (by exact memA)) ⟨rfl, rfl, rfl, rfl⟩ (by decide +kernel)) ?_)
    | (show YK _ _ _ _ _ _ _; first | refine YK.mk (y_callA (q3) ⟨rfl, rfl⟩) ?_ | refine YK.mk (y_callA (q4) ⟨rfl, rfl⟩) ?_ | refine YK.mk (y_callA (q5) ⟨rfl, rfl, rfl⟩) ?_ | refine YK.mk (y_callA (q6) ⟨rfl, rfl, rfl⟩) ?_ | refine YK.mk (y_callA (q7) ⟨rfl, rfl, rfl⟩) ?_ | refine YK.mk (y_callA (q8) ⟨rfl, rfl⟩) ?_)
    | (show YK _ _ _ _ _ _ _; refine YK.ofV vAuto ?_)
    | (show VK _ _ _ _ _ _ _; refine VK.mk vAuto ?_)
    | (show RS _ _ _ _ _ _ _ _; first | (refine nxRS ?_) | (refine nxRS1 fun _ => ?_))
    | (show RM _ _ _ _ _ _ _ _ _ _; first | (refine nxRM ?_) | (refine nxRM1 fun _ => ?_))
    | (show YG _ _ _ _ _ _ _ _; refine YG.mk (fun hb => by (try (have hc := And.left hb; have hb := And.right hb; rw [hc])); (try rw [hb]); first | exact (y_callA (q3) ⟨rfl, rfl⟩) | exact (y_callA (q4) ⟨rfl, rfl⟩) | exact (y_callA (q5) ⟨rfl, rfl, rfl⟩) | exact (y_callA (q6) ⟨rfl, rfl, rfl⟩) | exact (y_callA (q7) ⟨rfl, rfl, rfl⟩) | exact (y_callA (q8) ⟨rfl, rfl⟩) | exact V.y vAuto) ?_)
    | (show VG _ _ _ _ _ _ _ _; refine VG.mk (fun hb => by (try (have hc := And.left hb; have hb := And.right hb; rw [hc])); (try rw [hb]); exact vAuto) ?_)
    | (refine G.mixedA 3 [.go 0, .go 1, .go 2, .go 4, .go 5, .go 6, .pend 8, .pend 9, .go 3, .go 7, .done, .done, .go 10, .go 11] ?_)
    | (refine G.mixedA 17 [.go 0, .go 1, .go 2, .go 3, .go 4, .go 5, .go 6] ?_)
    | (refine nxX ?_)
    | (refine G.condN rfl (fun hc => ?_) (fun hc => ?_) <;> (try first | exact False.elim hc | (exfalso; omega))))
  exact X.ret (vs := [_, _]) rfl ⟨⟨_, _, _, _, rfl, (by exact memA), (by (repeat (first | exact .nil | apply LenIs.cons))), by decide +kernel, rfl⟩, rfl, rfl⟩ rfl (fun w hw => ⟨rfl, hw.ext⟩)
theorem dist_c {v : Value} {l : List StarT} (hv : validS l = true) (pv : ContR Tryz.prog [Hl.rd v cSt 4 l] 76 [v] (.bool true)) {i k : Nat} (hi : i < l.length) (hk : k < l.length) (hne : i ≠ k) {a : Int × Int}
    (hd : TT.IsDist (100 * (nth l (i : Int)).2.1) (100 * (nth l (i : Int)).2.2.1) (100 * (nth l (k : Int)).2.1) (100 * (nth l (k : Int)).2.2.1) a) :
    ContR Tryz.prog [Hl.rd v cSt 4 l] 30 [v, .int .i64 (i : Int), .int .i64 (k : Int)] (.tuple [arcV a.1 a.2, .int .i64 0].toArray) := fun w hw0 => by
  have n1 := num_of hv hi
  have n2 := num_of hv hk
  have q := apart_c (s := 100 * (nth l (i : Int)).2.1) (d := 100 * (nth l (i : Int)).2.2.1) (t := 100 * (nth l (k : Int)).2.1) (e := 100 * (nth l (k : Int)).2.2.1) (by unfold TT.okS; omega) (by unfold TT.okS; omega) hd
  have p1 := arc_c (n := (nth l (i : Int)).2.1) (by omega)
  have p2 := arc_c (n := (nth l (i : Int)).2.2.1) (by omega)
  have p3 := arc_c (n := (nth l (k : Int)).2.1) (by omega)
  have p4 := arc_c (n := (nth l (k : Int)).2.2.1) (by omega)
  clear hd n1 n2
  have hi' : (i : Int) < l.length := by omega
  have hk' : (k : Int) < l.length := by omega
  refine enter Tryz.func30 rfl rfl rfl hw0 ?_
  repeat' (first
    | (refine G.mixedM 7 [.go 0, .go 1, .go 2, .go 3, .go 4, .go 6, .go 7, .go 8, .go 9, .go 10, .go 12, .go 13, .go 14, .go 15, .go 16, .go 18, .go 19, .go 20, .go 21, .go 22, .go 5, .go 11, .go 17, .go 23, .go 24, .go 25, .go 26, .go 27, .go 28] [false, true] ?_; dsimp only [maskH])
    | (show YK _ _ _ _ _ _ _; first | refine YK.mk (y_callRA (pv) ⟨rfl, rfl⟩) ?_ | refine YK.mk (y_callA (p1) ⟨rfl, rfl⟩) ?_ | refine YK.mk (y_callA (p2) ⟨rfl, rfl⟩) ?_ | refine YK.mk (y_callA (p3) ⟨rfl, rfl⟩) ?_ | refine YK.mk (y_callA (p4) ⟨rfl, rfl⟩) ?_ | refine YK.mk (y_callA (q) ⟨rfl, rfl, rfl, rfl, rfl⟩) ?_)
    | (show YK _ _ _ _ _ _ _; refine YK.ofV vAuto ?_)
    | (show VK _ _ _ _ _ _ _; refine VK.mk vAuto ?_)
    | (show RS _ _ _ _ _ _ _ _; first | (refine nxRS ?_) | (refine nxRS1 fun _ => ?_))
    | (show RM _ _ _ _ _ _ _ _ _ _; first | (refine nxRM ?_) | (refine nxRM1 fun _ => ?_))
    | (show YG _ _ _ _ _ _ _ _; refine YG.mk (fun hb => by (try (have hc := And.left hb; have hb := And.right hb; rw [hc])); (try rw [hb]); first | exact (y_callRA (pv) ⟨rfl, rfl⟩) | exact (y_callA (p1) ⟨rfl, rfl⟩) | exact (y_callA (p2) ⟨rfl, rfl⟩) | exact (y_callA (p3) ⟨rfl, rfl⟩) | exact (y_callA (p4) ⟨rfl, rfl⟩) | exact (y_callA (q) ⟨rfl, rfl, rfl, rfl, rfl⟩) | exact V.y vAuto) ?_)
    | (show VG _ _ _ _ _ _ _ _; refine VG.mk (fun hb => by (try (have hc := And.left hb; have hb := And.right hb; rw [hc])); (try rw [hb]); exact vAuto) ?_)
    | (refine nxX ?_)
    | (refine G.condN rfl (fun hc => ?_) (fun hc => ?_) <;> (try first | exact False.elim hc | (exfalso; omega))))
  all_goals first
    | (exfalso; simp at hc; omega)
    | exact X.ret (vs := [_, _]) rfl ⟨⟨_, _, _, _, rfl, (by exact memA), (by (repeat (first | exact .nil | apply LenIs.cons))), by decide +kernel, rfl⟩, rfl, rfl⟩ rfl (fun w hw => ⟨rfl, hw.ext⟩)
end Go.Proofs.YtgmolcobhehoeaaGreatDoor
