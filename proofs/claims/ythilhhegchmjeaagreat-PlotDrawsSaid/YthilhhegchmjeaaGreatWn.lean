/- Joined texts: NumP, Num, Num2, MulN, MulW, Rad, Less, Sin. -/
import Derived.Test.YthilhhegchmjeaaGreatWt
import Derived.Test.YthilhhegchmjeaaGreatWb
import Derived.Test.YthilhhegchmjeaaGreatWa
import Derived.Laws.Externs
import Derived.Shelf.Spec.BitsCarry
import Derived.Test.YthilhhegchmjeaaGreatWg
/- Numbers of 256 binary digits as four words: what the digits of sums, differences, products, and quotients are. -/
set_option linter.unusedVariables false
namespace Go.Proofs.YthilhhegchmjeaaGreat.TT
theorem lb_digits {x0 x1 x2 x3 : Nat} (h0 : x0 < cW) (h1 : x1 < cW) (h2 : x2 < cW) (h3 : x3 < cW) : lb (x0 * cW ^ 3 + x1 * cW ^ 2 + x2 * cW + x3) 0 = x0 ∧ lb (x0 * cW ^ 3 + x1 * cW ^ 2 + x2 * cW + x3) 1 = x1 ∧ lb (x0 * cW ^ 3 + x1 * cW ^ 2 + x2 * cW + x3) 2 = x2 ∧ lb (x0 * cW ^ 3 + x1 * cW ^ 2 + x2 * cW + x3) 3 = x3 := by
  unfold lb
  simp only [cW, Nat.sub_zero, Nat.reduceSub, Nat.reducePow, Nat.pow_one, Nat.pow_zero, Nat.div_one] at *
  omega
theorem digits_lt {x0 x1 x2 x3 : Nat} (h0 : x0 < cW) (h1 : x1 < cW) (h2 : x2 < cW) (h3 : x3 < cW) : x0 * cW ^ 3 + x1 * cW ^ 2 + x2 * cW + x3 < W256 := by
  simp only [cW, W256, Nat.reducePow] at *
  omega
/-- The words of a number are these, if the number is made of them. -/
theorem lb_eq {x x0 x1 x2 x3 : Nat} (h0 : x0 < cW) (h1 : x1 < cW) (h2 : x2 < cW) (h3 : x3 < cW) (h : x = x0 * cW ^ 3 + x1 * cW ^ 2 + x2 * cW + x3) : lb x 0 = x0 ∧ lb x 1 = x1 ∧ lb x 2 = x2 ∧ lb x 3 = x3 := by
  subst h; exact lb_digits h0 h1 h2 h3
/-- A sum's words. -/
theorem add_words {a b : Nat} (ha : a < W256) (hb : b < W256) {s3 c3 s2 c2 s1 c1 s0 c0 : Nat} (e3 : lb a 3 + lb b 3 = s3 + cW * c3) (e2 : lb a 2 + lb b 2 + c3 = s2 + cW * c2) (e1 : lb a 1 + lb b 1 + c2 = s1 + cW * c1) (e0 : lb a 0 + lb b 0 + c1 = s0 + cW * c0)
    (h3 : s3 < cW) (h2 : s2 < cW) (h1 : s1 < cW) (h0 : s0 < cW) : lb ((a + b) % W256) 0 = s0 ∧ lb ((a + b) % W256) 1 = s1 ∧ lb ((a + b) % W256) 2 = s2 ∧ lb ((a + b) % W256) 3 = s3 := by
  refine lb_eq h0 h1 h2 h3 ?_
  have ea := lb_sum ha
  have eb := lb_sum hb
  have hx := digits_lt h0 h1 h2 h3
  have e : a + b = s0 * cW ^ 3 + s1 * cW ^ 2 + s2 * cW + s3 + W256 * c0 := by
    generalize lb a 0 = x0 at *; generalize lb a 1 = x1 at *; generalize lb a 2 = x2 at *; generalize lb a 3 = x3 at *
    generalize lb b 0 = y0 at *; generalize lb b 1 = y1 at *; generalize lb b 2 = y2 at *; generalize lb b 3 = y3 at *
    simp only [cW, W256, Nat.reducePow] at *
    omega
  rw [e, Nat.add_mul_mod_self_left]
  exact Nat.mod_eq_of_lt hx
theorem mod_sub {a b s W c : Nat} (e : a + W * c = s + b) (hs : s < W) (hb : b < W) (k : c ≤ 1) : (a + W - b) % W = s := by
  rcases Nat.le_one_iff_eq_zero_or_eq_one.1 k with rfl | rfl
  · rw [show a + W - b = s + W * 1 by omega, Nat.add_mul_mod_self_left]
    exact Nat.mod_eq_of_lt hs
  · rw [show a + W - b = s by omega]
    exact Nat.mod_eq_of_lt hs
/-- A difference's words. -/
theorem sub_words {a b : Nat} (ha : a < W256) (hb : b < W256) {s3 c3 s2 c2 s1 c1 s0 c0 : Nat} (e3 : lb a 3 + cW * c3 = s3 + lb b 3) (e2 : lb a 2 + cW * c2 = s2 + lb b 2 + c3) (e1 : lb a 1 + cW * c1 = s1 + lb b 1 + c2) (e0 : lb a 0 + cW * c0 = s0 + lb b 0 + c1)
    (h3 : s3 < cW) (h2 : s2 < cW) (h1 : s1 < cW) (h0 : s0 < cW) (k0 : c0 ≤ 1) : lb ((a + W256 - b) % W256) 0 = s0 ∧ lb ((a + W256 - b) % W256) 1 = s1 ∧ lb ((a + W256 - b) % W256) 2 = s2 ∧ lb ((a + W256 - b) % W256) 3 = s3 := by
  refine lb_eq h0 h1 h2 h3 ?_
  have ea := lb_sum ha
  have eb := lb_sum hb
  have hx := digits_lt h0 h1 h2 h3
  have e : a + W256 * c0 = s0 * cW ^ 3 + s1 * cW ^ 2 + s2 * cW + s3 + b := by
    generalize lb a 0 = x0 at *; generalize lb a 1 = x1 at *; generalize lb a 2 = x2 at *; generalize lb a 3 = x3 at *
    generalize lb b 0 = y0 at *; generalize lb b 1 = y1 at *; generalize lb b 2 = y2 at *; generalize lb b 3 = y3 at *
    rw [ea, eb]
    have hW : W256 = cW * cW * cW * cW := rfl
    rw [hW]
    clear hW hx ea eb ha hb h0 h1 h2 h3 k0
    generalize cW = c at *
    grind
  exact mod_sub e hx hb k0
/-- A quotient's words: long division. -/
theorem div_words {a t d : Nat} (ha : a < W256) (hd : 0 < d) (ht : t < d) {q0 t0 q1 t1 q2 t2 q3 t3 : Nat} (e0 : t * cW + lb a 0 = q0 * d + t0) (e1 : t0 * cW + lb a 1 = q1 * d + t1) (e2 : t1 * cW + lb a 2 = q2 * d + t2) (e3 : t2 * cW + lb a 3 = q3 * d + t3)
    (r0 : t0 < d) (r1 : t1 < d) (r2 : t2 < d) (r3 : t3 < d) : (lb ((t * W256 + a) / d) 0 = q0 ∧ lb ((t * W256 + a) / d) 1 = q1 ∧ lb ((t * W256 + a) / d) 2 = q2 ∧ lb ((t * W256 + a) / d) 3 = q3) ∧ (t * W256 + a) / d < W256 := by
  have lt : ∀ {x y l q r : Nat}, l < cW → x < d → x * cW + l = q * d + r → q < cW := fun {x y l q r} hl hx e => by
    refine Nat.lt_of_not_le fun hge => ?_
    have h1 : cW * d ≤ q * d := Nat.mul_le_mul_right d hge
    have h2 : (x + 1) * cW ≤ d * cW := Nat.mul_le_mul_right cW hx
    rw [Nat.mul_comm cW d] at h1
    rw [Nat.succ_mul] at h2
    omega
  have l0 := lt (y := 0) (lb_lt a 0) ht e0
  have l1 := lt (y := 0) (lb_lt a 1) r0 e1
  have l2 := lt (y := 0) (lb_lt a 2) r1 e2
  have l3 := lt (y := 0) (lb_lt a 3) r2 e3
  have ea := lb_sum ha
  have hx := digits_lt l0 l1 l2 l3
  have e : t * W256 + a = (q0 * cW ^ 3 + q1 * cW ^ 2 + q2 * cW + q3) * d + t3 := by
    have hW : W256 = cW * cW * cW * cW := rfl
    generalize lb a 0 = x0 at *; generalize lb a 1 = x1 at *; generalize lb a 2 = x2 at *; generalize lb a 3 = x3 at *
    rw [hW]
    clear hW hx l0 l1 l2 l3 lt ha r0 r1 r2 r3 ht hd
    generalize cW = c at *
    have s1 : t * (c * c * c * c) + a = (t * c + x0) * (c * c * c) + x1 * (c * c) + x2 * c + x3 := by rw [ea]; grind
    have s2 : (q0 * d + t0) * (c * c * c) + x1 * (c * c) + x2 * c + x3 = q0 * d * (c * c * c) + (t0 * c + x1) * (c * c) + x2 * c + x3 := by grind
    have s3 : q0 * d * (c * c * c) + (q1 * d + t1) * (c * c) + x2 * c + x3 = q0 * d * (c * c * c) + q1 * d * (c * c) + (t1 * c + x2) * c + x3 := by grind
    have s4 : q0 * d * (c * c * c) + q1 * d * (c * c) + (q2 * d + t2) * c + x3 = q0 * d * (c * c * c) + q1 * d * (c * c) + q2 * d * c + (t2 * c + x3) := by grind
    rw [s1, e0, s2, e1, s3, e2, s4, e3]
    clear s1 s2 s3 s4 e0 e1 e2 e3 ea
    grind
  have e2' : (t * W256 + a) / d = q0 * cW ^ 3 + q1 * cW ^ 2 + q2 * cW + q3 := by
    rw [e, Nat.mul_comm, Nat.mul_add_div hd, Nat.div_eq_of_lt r3, Nat.add_zero]
  exact ⟨lb_eq l0 l1 l2 l3 e2', by rw [e2']; exact hx⟩
end Go.Proofs.YthilhhegchmjeaaGreat.TT
/- Numbers of 256 binary digits: the walks of their differences and quotients. -/
set_option linter.unusedVariables false
set_option maxHeartbeats 4000000
namespace Go.Proofs.YthilhhegchmjeaaGreat
open Go.RowKit
open TT (W256 cW lb)

/-- A number's four words. -/
abbrev numV (x : Nat) : Value := .agg [.int .u64 (lb x 0 : Int), .int .u64 (lb x 1 : Int), .int .u64 (lb x 2 : Int), .int .u64 (lb x 3 : Int)].toArray
theorem lb_u64 (x i : Nat) : 0 ≤ (lb x i : Int) ∧ (lb x i : Int) < 18446744073709551616 := by
  have := TT.lb_lt x i
  simp only [cW] at this
  omega
theorem num_val {x : Nat} {s0 s1 s2 s3 : Int} (b0 : 0 ≤ s0) (b1 : 0 ≤ s1) (b2 : 0 ≤ s2) (b3 : 0 ≤ s3) (h : lb x 0 = s0.toNat ∧ lb x 1 = s1.toNat ∧ lb x 2 = s2.toNat ∧ lb x 3 = s3.toNat) : (Value.agg [.int .u64 s0, .int .u64 s1, .int .u64 s2, .int .u64 s3].toArray) = numV x := by
  obtain ⟨h0, h1, h2, h3⟩ := h
  unfold numV
  rw [h0, h1, h2, h3, Int.toNat_of_nonneg b0, Int.toNat_of_nonneg b1, Int.toNat_of_nonneg b2, Int.toNat_of_nonneg b3]
theorem sub_val {a b : Nat} (ha : a < W256) (hb : b < W256) {s3 c3 s2 c2 s1 c1 s0 c0 : Int} (e3 : (lb a 3 : Int) + 18446744073709551616 * c3 = s3 + lb b 3 + 0) (e2 : (lb a 2 : Int) + 18446744073709551616 * c2 = s2 + lb b 2 + c3) (e1 : (lb a 1 : Int) + 18446744073709551616 * c1 = s1 + lb b 1 + c2) (e0 : (lb a 0 : Int) + 18446744073709551616 * c0 = s0 + lb b 0 + c1)
    (h3 : 0 ≤ s3 ∧ s3 < 18446744073709551616) (h2 : 0 ≤ s2 ∧ s2 < 18446744073709551616) (h1 : 0 ≤ s1 ∧ s1 < 18446744073709551616) (h0 : 0 ≤ s0 ∧ s0 < 18446744073709551616) (k3 : 0 ≤ c3 ∧ c3 ≤ 1) (k2 : 0 ≤ c2 ∧ c2 ≤ 1) (k1 : 0 ≤ c1 ∧ c1 ≤ 1) (k0 : 0 ≤ c0 ∧ c0 ≤ 1) :
    (Value.agg [.int .u64 s0, .int .u64 s1, .int .u64 s2, .int .u64 s3].toArray) = numV ((a + W256 - b) % W256) := by
  refine num_val h0.1 h1.1 h2.1 h3.1 ?_
  refine TT.sub_words ha hb (c3 := c3.toNat) (c2 := c2.toNat) (c1 := c1.toNat) (c0 := c0.toNat) ?_ ?_ ?_ ?_ ?_ ?_ ?_ ?_ ?_
  all_goals (clear ha hb; (try simp only [cW]); omega)
section
variable {n : Nat} {L : FL} {w0 : World} {H : List Hl} {d : Option Tmp} {ty : TypeId} {pos : String} {af : Array Edge} {gd : Option (Nat × Bool)} {x y z : Operand} {K : Value → Prop} {tys : Array TypeId} {a b k : Int}
theorem run_sub64I (hk : 0 ≤ k ∧ k ≤ 1) (ha : 0 ≤ a ∧ a < 18446744073709551616) (hb : 0 ≤ b ∧ b < 18446744073709551616) (w : World) : ∃ s c : Int, (callFunc 155 [.int .u64 a, .int .u64 b, .int .u64 k].toArray).run Tryz.prog w = .ok (.value (.tuple [.int .u64 s, .int .u64 c].toArray)) w ∧ s = (a + 18446744073709551616 - b - k) % 18446744073709551616 ∧ c = if a < b + k then 1 else 0 := by
  obtain ⟨A, rfl⟩ := Int.eq_ofNat_of_zero_le ha.1
  obtain ⟨B, rfl⟩ := Int.eq_ofNat_of_zero_le hb.1
  obtain ⟨N, rfl⟩ := Int.eq_ofNat_of_zero_le hk.1
  refine ⟨((((A + 18446744073709551616 - B - N) % 18446744073709551616 : Nat)) : Int), ((if A < B + N then 1 else 0 : Nat) : Int), ?_, ?_, ?_⟩
  · rw [run_callFunc_extern Tryz.func155 (by kernel_rfl) (by kernel_rfl) (by kernel_rfl) (e := sub64Entry) (by kernel_rfl), run_sub64 A B N (by omega)]
    rfl
  · omega
  · split <;> split <;> omega
theorem sub64K (hx : evO L x = some (.int .u64 a)) (hy : evO L y = some (.int .u64 b)) (hz : evO L z = some (.int .u64 k)) (ha : 0 ≤ a ∧ a < 18446744073709551616) (hb : 0 ≤ b ∧ b < 18446744073709551616) (hk : 0 ≤ k ∧ k ≤ 1)
    (h : ∀ s c : Int, a + 18446744073709551616 * c = s + b + k → (0 ≤ s ∧ s < 18446744073709551616) → (0 ≤ c ∧ c ≤ 1) → K (.tuple [.int .u64 s, .int .u64 c].toArray)) :
    YK Tryz.prog n L w0 H ⟨d, .call { callee := .value (.func 155), args := #[x, y, z], argTypes := tys }, ty, pos, af, gd⟩ K := by
  have key : ∀ w, (callFunc 155 [.int .u64 a, .int .u64 b, .int .u64 k].toArray).run Tryz.prog w = .ok (.value (.tuple [.int .u64 ((a + 18446744073709551616 - b - k) % 18446744073709551616), .int .u64 (if a < b + k then 1 else 0)].toArray)) w := fun w => by
    obtain ⟨s, c, h1, h2, h3⟩ := run_sub64I hk ha hb w
    rw [h1, h2, h3]
  refine YK.ofV (y_extern (xs := [x, y, z]) key ⟨hx, hy, hz, rfl⟩) (h _ _ ?_ ?_ ?_)
  · split <;> omega
  · omega
  · split <;> omega
end
theorem sub_c {a b : Nat} (ha : a < W256) (hb : b < W256) : Cont Tryz.prog 128 [numV a, numV b] (numV ((a + W256 - b) % W256)) := fun w => by
  have a0 := lb_u64 a 0; have a1 := lb_u64 a 1; have a2 := lb_u64 a 2; have a3 := lb_u64 a 3
  have b0 := lb_u64 b 0; have b1 := lb_u64 b 1; have b2 := lb_u64 b 2; have b3 := lb_u64 b 3
  refine enter0 Tryz.func128 rfl rfl rfl ?_
  repeat' (first
    | (show G _ _ _ _ _ _ (.loop _); refine G.loopN 6 (GR.step ?_))
    | (show X (Exit.then (Code.rounds _ _ _ _) _) _ _ _ _ .normal; refine X.round (GR.step ?_))
    | (show YK _ _ _ _ _ ⟨_, .call { callee := .value (.func 155), args := _, argTypes := _ }, _, _, _, _⟩ _; refine sub64K rfl rfl rfl (by omega) (by omega) (by omega) (fun s c e h k => ?_))
    | (show YK _ _ _ _ _ ⟨_, .indexAddr 154 _ _, _, _, _, _⟩ _; refine YK.ofV (y_indexArr (len := 4) rfl rfl (by first | exact (rfl : _ = ((0 : Nat) : Int)) | exact (rfl : _ = ((1 : Nat) : Int)) | exact (rfl : _ = ((2 : Nat) : Int)) | exact (rfl : _ = ((3 : Nat) : Int))) (by decide +kernel) rfl) ?_)
    | (show VK _ _ _ _ _ ⟨_, .indexAddr 154 _ _, _, _, _, _⟩ _; refine VK.mk (y_indexArr (len := 4) rfl rfl (by first | exact (rfl : _ = ((0 : Nat) : Int)) | exact (rfl : _ = ((1 : Nat) : Int)) | exact (rfl : _ = ((2 : Nat) : Int)) | exact (rfl : _ = ((3 : Nat) : Int))) (by decide +kernel) rfl) ?_)
    | (show VFrK _ _ _ _ _ ⟨_, .indexAddr 154 _ _, _, _, _, _⟩ _; refine VFrK.mk (vf_of fun _ => y_indexArr (len := 4) rfl rfl (by first | exact (rfl : _ = ((0 : Nat) : Int)) | exact (rfl : _ = ((1 : Nat) : Int)) | exact (rfl : _ = ((2 : Nat) : Int)) | exact (rfl : _ = ((3 : Nat) : Int))) (by decide +kernel) rfl) ?_)
    | (refine G.mixedFH 5 [.go 0, .go 1, .go 2, .go 3, .go 4, .go 5, .go 6, .go 7, .go 8, .go 9, .go 10, .go 11, .go 12, .go 13, .go 14] ?_)
    | (refine nxRF ?_)
    | (refine nxVF ?_)
    | (refine nxV ?_)
    | (show RS _ _ _ _ _ _ _ _; first | (refine nxRS ?_) | (refine nxRS1 fun _ => ?_))
    | (show RM _ _ _ _ _ _ _ _ _ _; first | (refine nxRM ?_) | (refine nxRM1 fun _ => ?_))
    | (refine nxG ?_)
    | (refine nxX ?_)
    | (refine G.condN rfl (fun hc => ?_) (fun hc => ?_) <;> (try first | exact False.elim hc | (exfalso; omega))))
  refine X.ret (vs := [_]) rfl ⟨⟨_, _, _, _, rfl, (by exact memA), (by (repeat (first | exact .nil | apply LenIs.cons))), by decide +kernel, rfl⟩, rfl⟩ rfl (fun w hw => ⟨?_, hw.ext⟩)
  exact congrArg Ending.returned (sub_val ha hb (by assumption) (by assumption) (by assumption) (by assumption) (by assumption) (by assumption) (by assumption) (by assumption) (by assumption) (by assumption) (by assumption) (by assumption))
end Go.Proofs.YthilhhegchmjeaaGreat
/- Numbers of 256 binary digits: quotients, angles in radians. -/
set_option linter.unusedVariables false
set_option maxHeartbeats 4000000
namespace Go.Proofs.YthilhhegchmjeaaGreat
open Go.RowKit
open TT (W256 cW lb)
section
variable {n : Nat} {L : FL} {w0 : World} {H : List Hl} {d : Option Tmp} {ty : TypeId} {pos : String} {af : Array Edge} {gd : Option (Nat × Bool)} {x y z : Operand} {K : Value → Prop} {tys : Array TypeId} {a b k : Int}
theorem div64K (hx : evO L x = some (.int .u64 a)) (hy : evO L y = some (.int .u64 b)) (hz : evO L z = some (.int .u64 k)) (ha : 0 ≤ a ∧ a < k) (hb : 0 ≤ b ∧ b < 18446744073709551616) (hk : k < 18446744073709551616)
    (h : ∀ q r : Int, a * 18446744073709551616 + b = q * k + r → (0 ≤ q ∧ q < 18446744073709551616) → (0 ≤ r ∧ r < k) → K (.tuple [.int .u64 q, .int .u64 r].toArray)) :
    YK Tryz.prog n L w0 H ⟨d, .call { callee := .value (.func 169), args := #[x, y, z], argTypes := tys }, ty, pos, af, gd⟩ K := by
  have hc := div64_c (hi := a) (lo := b) (y := k) (by omega)
  refine YK.mk (y_call (xs := [x, y, z]) hc ⟨hx, hy, hz, rfl⟩ (by decide +kernel)) (h _ _ ?_ ?_ ?_)
  · have := Int.emod_add_mul_ediv (a * 18446744073709551616 + b) k
    rw [Int.mul_comm k] at this
    omega
  · have h1 : a * 18446744073709551616 + b < 18446744073709551616 * k := by omega
    refine ⟨Int.ediv_nonneg (by omega) (by omega), Int.ediv_lt_of_lt_mul (by omega) h1⟩
  · exact ⟨Int.emod_nonneg _ (by omega), Int.emod_lt_of_pos _ (by omega)⟩
theorem mul64K (hx : evO L x = some (.int .u64 a)) (hy : evO L y = some (.int .u64 b)) (ha : 0 ≤ a ∧ a < 18446744073709551616) (hb : 0 ≤ b ∧ b < 18446744073709551616)
    (h : ∀ p q : Int, a * b = p * 18446744073709551616 + q → (0 ≤ p ∧ p * 18446744073709551616 + q ≤ 340282366920938463426481119284349108225) → (0 ≤ q ∧ q < 18446744073709551616) → K (.tuple [.int .u64 p, .int .u64 q].toArray)) :
    YK Tryz.prog n L w0 H ⟨d, .call { callee := .value (.func 90), args := #[x, y], argTypes := tys }, ty, pos, af, gd⟩ K := by
  have hc := mul64_c (x := a) (y := b) (by omega)
  refine YK.mk (y_call (xs := [x, y]) hc ⟨hx, hy, rfl⟩ (by decide +kernel)) (h _ _ ?_ ?_ ?_)
  · have := Int.emod_add_mul_ediv (a * b) 18446744073709551616
    omega
  · have h1 : a * b ≤ 18446744073709551615 * 18446744073709551615 := Int.mul_le_mul (by omega) (by omega) (by omega) (by omega)
    have h0 : 0 ≤ a * b := Int.mul_nonneg ha.1 hb.1
    generalize a * b = m at *
    omega
  · omega
theorem add64K (hx : evO L x = some (.int .u64 a)) (hy : evO L y = some (.int .u64 b)) (hz : evO L z = some (.int .u64 k)) (ha : 0 ≤ a ∧ a < 18446744073709551616) (hb : 0 ≤ b ∧ b < 18446744073709551616) (hk : 0 ≤ k ∧ k ≤ 1)
    (h : ∀ s c : Int, a + b + k = s + 18446744073709551616 * c → (0 ≤ s ∧ s < 18446744073709551616) → (0 ≤ c ∧ c ≤ 1) → K (.tuple [.int .u64 s, .int .u64 c].toArray)) :
    YK Tryz.prog n L w0 H ⟨d, .call { callee := .value (.func 153), args := #[x, y, z], argTypes := tys }, ty, pos, af, gd⟩ K := by
  have key : ∀ w, (callFunc 153 [.int .u64 a, .int .u64 b, .int .u64 k].toArray).run Tryz.prog w = .ok (.value (.tuple [.int .u64 ((a + b + k) % 18446744073709551616), .int .u64 ((a + b + k) / 18446744073709551616)].toArray)) w := fun w => by
    rw [run_callFunc_extern Tryz.func153 (by kernel_rfl) (by kernel_rfl) (by kernel_rfl) (e := add64Entry) (by kernel_rfl), run_add64 a b k (by omega) (by omega) (by omega) (by omega)]
    rfl
  refine YK.ofV (y_extern (xs := [x, y, z]) key ⟨hx, hy, hz, rfl⟩) (h _ _ ?_ ?_ ?_)
  · omega
  · omega
  · omega
end
theorem div_val {a t d : Nat} (ha : a < W256) (hd : 0 < d) (ht : t < d) {q0 t0 q1 t1 q2 t2 q3 t3 : Int} (e0 : (t : Int) * 18446744073709551616 + lb a 0 = q0 * d + t0) (e1 : t0 * 18446744073709551616 + lb a 1 = q1 * d + t1) (e2 : t1 * 18446744073709551616 + lb a 2 = q2 * d + t2) (e3 : t2 * 18446744073709551616 + lb a 3 = q3 * d + t3)
    (h0 : 0 ≤ q0 ∧ q0 < 18446744073709551616) (h1 : 0 ≤ q1 ∧ q1 < 18446744073709551616) (h2 : 0 ≤ q2 ∧ q2 < 18446744073709551616) (h3 : 0 ≤ q3 ∧ q3 < 18446744073709551616) (r0 : 0 ≤ t0 ∧ t0 < d) (r1 : 0 ≤ t1 ∧ t1 < d) (r2 : 0 ≤ t2 ∧ t2 < d) (r3 : 0 ≤ t3 ∧ t3 < d) :
    (Value.agg [.int .u64 q0, .int .u64 q1, .int .u64 q2, .int .u64 q3].toArray) = numV ((t * W256 + a) / d) := by
  obtain ⟨Q0, rfl⟩ := Int.eq_ofNat_of_zero_le h0.1
  obtain ⟨Q1, rfl⟩ := Int.eq_ofNat_of_zero_le h1.1
  obtain ⟨Q2, rfl⟩ := Int.eq_ofNat_of_zero_le h2.1
  obtain ⟨Q3, rfl⟩ := Int.eq_ofNat_of_zero_le h3.1
  obtain ⟨T0, rfl⟩ := Int.eq_ofNat_of_zero_le r0.1
  obtain ⟨T1, rfl⟩ := Int.eq_ofNat_of_zero_le r1.1
  obtain ⟨T2, rfl⟩ := Int.eq_ofNat_of_zero_le r2.1
  obtain ⟨T3, rfl⟩ := Int.eq_ofNat_of_zero_le r3.1
  refine num_val h0.1 h1.1 h2.1 h3.1 ?_
  have nat : ∀ {x y z u v : Nat}, (x : Int) * 18446744073709551616 + y = (z : Int) * u + v → x * cW + y = z * u + v := fun {x y z u v} h => by
    have : ((x * 18446744073709551616 + y : Nat) : Int) = ((z * u + v : Nat) : Int) := by simpa using h
    exact Int.ofNat.inj this
  exact (TT.div_words ha hd ht (nat e0) (nat e1) (nat e2) (nat e3) (by omega) (by omega) (by omega) (by omega)).1
theorem ndiv_c {a t d : Nat} (ha : a < W256) (hd : 0 < d) (ht : t < d) (hd1 : d < 18446744073709551616) : Cont Tryz.prog 154 [numV a, .int .u64 (t : Int), .int .u64 (d : Int)] (numV ((t * W256 + a) / d)) := fun w => by
  have a0 := lb_u64 a 0; have a1 := lb_u64 a 1; have a2 := lb_u64 a 2; have a3 := lb_u64 a 3
  refine enter0 Tryz.func154 rfl rfl rfl ?_
  repeat' (first
    | (show G _ _ _ _ _ _ (.loop _); refine G.loopN 6 (GR.step ?_))
    | (show X (Exit.then (Code.rounds _ _ _ _) _) _ _ _ _ .normal; refine X.round (GR.step ?_))
    | (show YK _ _ _ _ _ ⟨_, .call { callee := .value (.func 169), args := _, argTypes := _ }, _, _, _, _⟩ _; refine div64K rfl rfl rfl (by omega) (by omega) (by omega) (fun s c e h k => ?_))
    | (show YK _ _ _ _ _ ⟨_, .indexAddr 154 _ _, _, _, _, _⟩ _; refine YK.ofV (y_indexArr (len := 4) rfl rfl (by first | exact (rfl : _ = ((0 : Nat) : Int)) | exact (rfl : _ = ((1 : Nat) : Int)) | exact (rfl : _ = ((2 : Nat) : Int)) | exact (rfl : _ = ((3 : Nat) : Int))) (by decide +kernel) rfl) ?_)
    | (show VK _ _ _ _ _ ⟨_, .indexAddr 154 _ _, _, _, _, _⟩ _; refine VK.mk (y_indexArr (len := 4) rfl rfl (by first | exact (rfl : _ = ((0 : Nat) : Int)) | exact (rfl : _ = ((1 : Nat) : Int)) | exact (rfl : _ = ((2 : Nat) : Int)) | exact (rfl : _ = ((3 : Nat) : Int))) (by decide +kernel) rfl) ?_)
    | (refine nxV ?_)
    | (show RS _ _ _ _ _ _ _ _; first | (refine nxRS ?_) | (refine nxRS1 fun _ => ?_))
    | (show RM _ _ _ _ _ _ _ _ _ _; first | (refine nxRM ?_) | (refine nxRM1 fun _ => ?_))
    | (refine nxG ?_)
    | (refine nxX ?_)
    | (refine G.condN rfl (fun hc => ?_) (fun hc => ?_) <;> (try first | exact False.elim hc | (exfalso; omega))))
  refine X.ret (vs := [_]) rfl ⟨⟨_, _, _, _, rfl, (by exact memA), (by (repeat (first | exact .nil | apply LenIs.cons))), by decide +kernel, rfl⟩, rfl⟩ rfl (fun w hw => ⟨?_, hw.ext⟩)
  exact congrArg Ending.returned (div_val ha hd ht (by assumption) (by assumption) (by assumption) (by assumption) (by assumption) (by assumption) (by assumption) (by assumption) (by assumption) (by assumption) (by assumption) (by assumption))
end Go.Proofs.YthilhhegchmjeaaGreat
/- Numbers of 256 binary digits: products. -/
set_option linter.unusedVariables false
set_option maxHeartbeats 8000000
namespace Go.Proofs.YthilhhegchmjeaaGreat
open Go.RowKit
open TT (W256 cW lb)
/-- The value of six words. -/
def vo (o0 o1 o2 o3 o4 o5 : Int) : Int := o5 + o4 * 18446744073709551616 + o3 * 340282366920938463463374607431768211456 + o2 * 6277101735386680763835789423207666416102355444464034512896 + o1 * 115792089237316195423570985008687907853269984665640564039457584007913129639936 + o0 * 2135987035920910082395021706169552114602704522356652769947041607822219725780640550022962086936576
/-- What the rows behind row i have brought. -/
def psum (a b : Nat) : Int → Int
  | 3 => 0
  | 2 => (lb a 3 : Int) * lb b 1 + (lb a 3 : Int) * lb b 0 * 18446744073709551616
  | 1 => (lb a 3 : Int) * lb b 1 + (lb a 3 : Int) * lb b 0 * 18446744073709551616 + (lb a 2 : Int) * lb b 2 + (lb a 2 : Int) * lb b 1 * 18446744073709551616 + (lb a 2 : Int) * lb b 0 * 340282366920938463463374607431768211456
  | 0 => (lb a 3 : Int) * lb b 1 + (lb a 3 : Int) * lb b 0 * 18446744073709551616 + (lb a 2 : Int) * lb b 2 + (lb a 2 : Int) * lb b 1 * 18446744073709551616 + (lb a 2 : Int) * lb b 0 * 340282366920938463463374607431768211456 + (lb a 1 : Int) * lb b 3 + (lb a 1 : Int) * lb b 2 * 18446744073709551616 + (lb a 1 : Int) * lb b 1 * 340282366920938463463374607431768211456 + (lb a 1 : Int) * lb b 0 * 6277101735386680763835789423207666416102355444464034512896
  | _ => (lb a 3 : Int) * lb b 1 + (lb a 3 : Int) * lb b 0 * 18446744073709551616 + (lb a 2 : Int) * lb b 2 + (lb a 2 : Int) * lb b 1 * 18446744073709551616 + (lb a 2 : Int) * lb b 0 * 340282366920938463463374607431768211456 + (lb a 1 : Int) * lb b 3 + (lb a 1 : Int) * lb b 2 * 18446744073709551616 + (lb a 1 : Int) * lb b 1 * 340282366920938463463374607431768211456 + (lb a 1 : Int) * lb b 0 * 6277101735386680763835789423207666416102355444464034512896 + (lb a 0 : Int) * lb b 3 * 18446744073709551616 + (lb a 0 : Int) * lb b 2 * 340282366920938463463374607431768211456 + (lb a 0 : Int) * lb b 1 * 6277101735386680763835789423207666416102355444464034512896 + (lb a 0 : Int) * lb b 0 * 115792089237316195423570985008687907853269984665640564039457584007913129639936
theorem ps3 (a b : Nat) : psum a b 3 = 0 := rfl
theorem ps2 (a b : Nat) : psum a b 2 = (lb a 3 : Int) * lb b 1 + (lb a 3 : Int) * lb b 0 * 18446744073709551616 := rfl
theorem ps1 (a b : Nat) : psum a b 1 = (lb a 3 : Int) * lb b 1 + (lb a 3 : Int) * lb b 0 * 18446744073709551616 + (lb a 2 : Int) * lb b 2 + (lb a 2 : Int) * lb b 1 * 18446744073709551616 + (lb a 2 : Int) * lb b 0 * 340282366920938463463374607431768211456 := rfl
theorem ps0 (a b : Nat) : psum a b 0 = (lb a 3 : Int) * lb b 1 + (lb a 3 : Int) * lb b 0 * 18446744073709551616 + (lb a 2 : Int) * lb b 2 + (lb a 2 : Int) * lb b 1 * 18446744073709551616 + (lb a 2 : Int) * lb b 0 * 340282366920938463463374607431768211456 + (lb a 1 : Int) * lb b 3 + (lb a 1 : Int) * lb b 2 * 18446744073709551616 + (lb a 1 : Int) * lb b 1 * 340282366920938463463374607431768211456 + (lb a 1 : Int) * lb b 0 * 6277101735386680763835789423207666416102355444464034512896 := rfl
theorem psm (a b : Nat) : psum a b (-1) = (lb a 3 : Int) * lb b 1 + (lb a 3 : Int) * lb b 0 * 18446744073709551616 + (lb a 2 : Int) * lb b 2 + (lb a 2 : Int) * lb b 1 * 18446744073709551616 + (lb a 2 : Int) * lb b 0 * 340282366920938463463374607431768211456 + (lb a 1 : Int) * lb b 3 + (lb a 1 : Int) * lb b 2 * 18446744073709551616 + (lb a 1 : Int) * lb b 1 * 340282366920938463463374607431768211456 + (lb a 1 : Int) * lb b 0 * 6277101735386680763835789423207666416102355444464034512896 + (lb a 0 : Int) * lb b 3 * 18446744073709551616 + (lb a 0 : Int) * lb b 2 * 340282366920938463463374607431768211456 + (lb a 0 : Int) * lb b 1 * 6277101735386680763835789423207666416102355444464034512896 + (lb a 0 : Int) * lb b 0 * 115792089237316195423570985008687907853269984665640564039457584007913129639936 := rfl
theorem mul_val {a b : Nat} {o0 o1 o2 o3 o4 o5 : Int} (h : vo o0 o1 o2 o3 o4 o5 = psum a b (-1)) (h0 : 0 ≤ o0 ∧ o0 < 18446744073709551616) (h1 : 0 ≤ o1 ∧ o1 < 18446744073709551616) (h2 : 0 ≤ o2 ∧ o2 < 18446744073709551616) (h3 : 0 ≤ o3 ∧ o3 < 18446744073709551616) (h4 : 0 ≤ o4 ∧ o4 < 18446744073709551616) (h5 : 0 ≤ o5 ∧ o5 < 18446744073709551616) :
    (Value.agg [.int .u64 o0, .int .u64 o1, .int .u64 o2, .int .u64 o3].toArray) = numV (TT.mulF a b) := by
  obtain ⟨O0, rfl⟩ := Int.eq_ofNat_of_zero_le h0.1
  obtain ⟨O1, rfl⟩ := Int.eq_ofNat_of_zero_le h1.1
  obtain ⟨O2, rfl⟩ := Int.eq_ofNat_of_zero_le h2.1
  obtain ⟨O3, rfl⟩ := Int.eq_ofNat_of_zero_le h3.1
  obtain ⟨O4, rfl⟩ := Int.eq_ofNat_of_zero_le h4.1
  obtain ⟨O5, rfl⟩ := Int.eq_ofNat_of_zero_le h5.1
  have hS : TT.mulS a b = O5 + O4 * cW + (O0 * cW ^ 3 + O1 * cW ^ 2 + O2 * cW + O3) * cW ^ 2 := by
    have e : ((TT.mulS a b : Nat) : Int) = vo O0 O1 O2 O3 O4 O5 := by
      rw [h]
      show ((TT.mulS a b : Nat) : Int) = (lb a 3 : Int) * lb b 1 + (lb a 3 : Int) * lb b 0 * 18446744073709551616 + (lb a 2 : Int) * lb b 2 + (lb a 2 : Int) * lb b 1 * 18446744073709551616 + (lb a 2 : Int) * lb b 0 * 340282366920938463463374607431768211456 + (lb a 1 : Int) * lb b 3 + (lb a 1 : Int) * lb b 2 * 18446744073709551616 + (lb a 1 : Int) * lb b 1 * 340282366920938463463374607431768211456 + (lb a 1 : Int) * lb b 0 * 6277101735386680763835789423207666416102355444464034512896 + (lb a 0 : Int) * lb b 3 * 18446744073709551616 + (lb a 0 : Int) * lb b 2 * 340282366920938463463374607431768211456 + (lb a 0 : Int) * lb b 1 * 6277101735386680763835789423207666416102355444464034512896 + (lb a 0 : Int) * lb b 0 * 115792089237316195423570985008687907853269984665640564039457584007913129639936
      unfold TT.mulS
      simp only [Int.natCast_add, Int.natCast_mul, Int.natCast_pow]
      generalize (lb a 0 : Int) = x0; generalize (lb a 1 : Int) = x1; generalize (lb a 2 : Int) = x2; generalize (lb a 3 : Int) = x3
      generalize (lb b 0 : Int) = y0; generalize (lb b 1 : Int) = y1; generalize (lb b 2 : Int) = y2; generalize (lb b 3 : Int) = y3
      have hc : ((cW : Nat) : Int) = 18446744073709551616 := rfl
      rw [hc]
      grind
    have e2 : ((TT.mulS a b : Nat) : Int) = ((O5 + O4 * cW + (O0 * cW ^ 3 + O1 * cW ^ 2 + O2 * cW + O3) * cW ^ 2 : Nat) : Int) := by
      rw [e]
      unfold vo
      simp only [Int.natCast_add, Int.natCast_mul, Int.natCast_pow]
      have hc : ((cW : Nat) : Int) = 18446744073709551616 := rfl
      rw [hc]
      grind
    exact Int.ofNat.inj e2
  have lt : ∀ {z : Nat}, (z : Int) < 18446744073709551616 → z < cW := fun {z} h => by simp only [cW]; omega
  have hq : TT.mulF a b = O0 * cW ^ 3 + O1 * cW ^ 2 + O2 * cW + O3 := by
    unfold TT.mulF
    rw [hS, Nat.add_mul_div_right _ _ (by decide)]
    have hlt : O5 + O4 * cW < cW ^ 2 := by
      have l5 := lt h5.2; have l4 := lt h4.2
      have : (O4 + 1) * cW ≤ cW * cW := Nat.mul_le_mul_right _ l4
      rw [Nat.succ_mul] at this
      rw [Nat.pow_two]; omega
    rw [Nat.div_eq_of_lt hlt, Nat.zero_add]
  exact num_val h0.1 h1.1 h2.1 h3.1 (TT.lb_eq (lt h0.2) (lt h1.2) (lt h2.2) (lt h3.2) hq)
end Go.Proofs.YthilhhegchmjeaaGreat
/- Numbers of 256 binary digits: the walk of a product. -/
set_option linter.unusedVariables false
set_option maxHeartbeats 16000000
namespace Go.Proofs.YthilhhegchmjeaaGreat
open Go.RowKit
open TT (W256 cW lb)
/-- The state at the head of a row. -/
structure MSt where
  i : Int
  o0 : Int
  o1 : Int
  o2 : Int
  o3 : Int
  o4 : Int
  o5 : Int
abbrev b64 (x : Int) : Prop := 0 ≤ x ∧ x < 18446744073709551616
abbrev mPre (a b : Nat) (s : MSt) : Prop := (s.i = 3 ∨ s.i = 2 ∨ s.i = 1 ∨ s.i = 0 ∨ s.i = -1) ∧ vo s.o0 s.o1 s.o2 s.o3 s.o4 s.o5 = psum a b s.i ∧ (b64 s.o0 ∧ b64 s.o1 ∧ b64 s.o2 ∧ b64 s.o3 ∧ b64 s.o4 ∧ b64 s.o5) ∧ (0 ≤ s.i → s.o0 = 0) ∧ (1 ≤ s.i → s.o1 = 0) ∧ (2 ≤ s.i → s.o2 = 0) ∧ (3 ≤ s.i → s.o3 = 0)
theorem mPre_mk {a b : Nat} {i o0 o1 o2 o3 o4 o5 : Int} (h0 : i = 3 ∨ i = 2 ∨ i = 1 ∨ i = 0 ∨ i = -1) (h1 : vo o0 o1 o2 o3 o4 o5 = psum a b i) (h2 : b64 o0) (h3 : b64 o1) (h4 : b64 o2) (h5 : b64 o3) (h6 : b64 o4) (h7 : b64 o5) (z0 : 0 ≤ i → o0 = 0) (z1 : 1 ≤ i → o1 = 0) (z2 : 2 ≤ i → o2 = 0) (z3 : 3 ≤ i → o3 = 0) : mPre a b ⟨i, o0, o1, o2, o3, o4, o5⟩ :=
  ⟨h0, h1, ⟨h2, h3, h4, h5, h6, h7⟩, z0, z1, z2, z3⟩
theorem mMu {i o0 o1 o2 o3 o4 o5 : Int} {mx : Nat} (h : (i - 1 + 1).toNat < mx) : ((⟨i - 1, o0, o1, o2, o3, o4, o5⟩ : MSt).i + 1).toNat < mx := h
set_option maxRecDepth 20000 in
theorem nmul_c {a b : Nat} (ha : a < W256) (hb : b < W256) : Cont Tryz.prog 129 [numV a, numV b] (numV (TT.mulF a b)) := fun w => by
  have a0 := lb_u64 a 0; have a1 := lb_u64 a 1; have a2 := lb_u64 a 2; have a3 := lb_u64 a 3
  have b0 := lb_u64 b 0; have b1 := lb_u64 b 1; have b2 := lb_u64 b 2; have b3 := lb_u64 b 3
  refine enter0 Tryz.func129 rfl rfl rfl ?_
  repeat' (first
    | (refine nxV ?_)
    | (show RS _ _ _ _ _ _ _ _; first | (refine nxRS ?_) | (refine nxRS1 fun _ => ?_))
    | (show RM _ _ _ _ _ _ _ _ _ _; first | (refine nxRM ?_) | (refine nxRM1 fun _ => ?_))
    | (refine nxG ?_)
    | (refine G.mixedA 10 [.go 0, .go 1, .go 2, .go 3, .go 4, .go 5, .go 6, .go 7, .go 8, .go 9, .go 10, .go 11] ?_)
    | (refine nxX ?_)
    | (refine G.condN rfl (fun hc => ?_) (fun hc => ?_) <;> (try first | exact False.elim hc | (exfalso; omega))))
  rename_i q2 q3 q4 q5
  refine G.loop (ι := MSt) (fun s => [(2, .pointer (some ⟨q2, 0, none⟩)), (3, .pointer (some ⟨q3, 0, none⟩)), (4, .pointer (some ⟨q4, 0, none⟩)), (5, .pointer (some ⟨q5, 0, none⟩)), (6, .int .i64 s.i)])
    (fun s => [Hl.blk q5 179 [.int .u64 s.o0, .int .u64 s.o1, .int .u64 s.o2, .int .u64 s.o3, .int .u64 s.o4, .int .u64 s.o5], Hl.blk q4 154 [.int .u64 0, .int .u64 0, .int .u64 0, .int .u64 0], Hl.blk q3 154 [.int .u64 (lb b 0 : Int), .int .u64 (lb b 1 : Int), .int .u64 (lb b 2 : Int), .int .u64 (lb b 3 : Int)], Hl.blk q2 154 [.int .u64 (lb a 0 : Int), .int .u64 (lb a 1 : Int), .int .u64 (lb a 2 : Int), .int .u64 (lb a 3 : Int)]])
    (mPre a b) (fun s => (s.i + 1).toNat) ⟨3, 0, 0, 0, 0, 0, 0⟩ ⟨.inl rfl, rfl, ⟨by decide, by decide, by decide, by decide, by decide, by decide⟩, fun _ => rfl, fun _ => rfl, fun _ => rfl, fun _ => rfl⟩ ⟨rfl, rfl, rfl, rfl, rfl, trivial⟩ (by exact fun w h => h.sub (by repeat (first | exact List.Sublist.refl _ | apply List.Sublist.cons_cons | apply List.Sublist.cons))) ?_
  rintro ⟨i, o0, o1, o2, o3, o4, o5⟩ mx ⟨g0, g1, ⟨g2, g3, g4, g5, g6, g7⟩, z0, z1, z2, z3⟩ hmx
  dsimp only at g0 g1 g2 g3 g4 g5 g6 g7 z0 z1 z2 z3 hmx ⊢
  rcases g0 with rfl | rfl | rfl | rfl | rfl
  · obtain rfl := z0 (by omega); obtain rfl := z1 (by omega); obtain rfl := z2 (by omega); obtain rfl := z3 (by omega); clear z0 z1 z2 z3
    rw [ps3] at g1
    unfold vo at g1
    repeat' (first
    | (show G _ _ _ _ _ _ (.loop _); refine G.loopN 6 (GR.step ?_))
    | (show X (Exit.then (Code.rounds _ _ _ _) _) _ _ _ _ .normal; refine X.round (GR.step ?_))
    | (show YK _ _ _ _ _ ⟨_, .call { callee := .value (.func 90), args := _, argTypes := _ }, _, _, _, _⟩ _; refine mul64K rfl rfl (by omega) (by omega) (fun s c e h k => ?_))
    | (show YK _ _ _ _ _ ⟨_, .call { callee := .value (.func 153), args := _, argTypes := _ }, _, _, _, _⟩ _; refine add64K rfl rfl rfl (by omega) (by omega) (by omega) (fun s c e h k => ?_))
    | (show YK _ _ _ _ _ ⟨_, .indexAddr 154 _ _, _, _, _, _⟩ _; refine YK.ofV (y_indexArr (len := 4) rfl rfl (by first | exact (rfl : _ = ((0 : Nat) : Int)) | exact (rfl : _ = ((1 : Nat) : Int)) | exact (rfl : _ = ((2 : Nat) : Int)) | exact (rfl : _ = ((3 : Nat) : Int))) (by decide +kernel) rfl) ?_)
    | (show VK _ _ _ _ _ ⟨_, .indexAddr 154 _ _, _, _, _, _⟩ _; refine VK.mk (y_indexArr (len := 4) rfl rfl (by first | exact (rfl : _ = ((0 : Nat) : Int)) | exact (rfl : _ = ((1 : Nat) : Int)) | exact (rfl : _ = ((2 : Nat) : Int)) | exact (rfl : _ = ((3 : Nat) : Int))) (by decide +kernel) rfl) ?_)
    | (show YK _ _ _ _ _ ⟨_, .indexAddr 179 _ _, _, _, _, _⟩ _; refine YK.ofV (y_indexArr (len := 6) rfl rfl (by first | exact (rfl : _ = ((0 : Nat) : Int)) | exact (rfl : _ = ((1 : Nat) : Int)) | exact (rfl : _ = ((2 : Nat) : Int)) | exact (rfl : _ = ((3 : Nat) : Int)) | exact (rfl : _ = ((4 : Nat) : Int)) | exact (rfl : _ = ((5 : Nat) : Int))) (by decide +kernel) rfl) ?_)
    | (show VK _ _ _ _ _ ⟨_, .indexAddr 179 _ _, _, _, _, _⟩ _; refine VK.mk (y_indexArr (len := 6) rfl rfl (by first | exact (rfl : _ = ((0 : Nat) : Int)) | exact (rfl : _ = ((1 : Nat) : Int)) | exact (rfl : _ = ((2 : Nat) : Int)) | exact (rfl : _ = ((3 : Nat) : Int)) | exact (rfl : _ = ((4 : Nat) : Int)) | exact (rfl : _ = ((5 : Nat) : Int))) (by decide +kernel) rfl) ?_)
    | (refine nxV ?_)
    | (show RS _ _ _ _ _ _ _ _; first | (refine nxRS ?_) | (refine nxRS1 fun _ => ?_))
    | (show RM _ _ _ _ _ _ _ _ _ _; first | (refine nxRM ?_) | (refine nxRM1 fun _ => ?_))
    | (refine nxG ?_)
    | (refine G.mixedA 10 [.go 0, .go 1, .go 2, .go 3, .go 4, .go 5, .go 6, .go 7, .go 8, .go 9, .go 10, .go 11] ?_)
    | (refine nxX ?_)
    | (refine G.condN rfl (fun hc => ?_) (fun hc => ?_) <;> (try first | exact False.elim hc | (exfalso; omega))))
    all_goals (
      refine X.again ⟨_, _, _, _, _, _, _⟩ ?_ ?_ ⟨rfl, rfl, rfl, rfl, rfl, trivial⟩ (fun w h => h)
      · refine mPre_mk (by decide) ?_ (by omega) (by omega) (by omega) (by omega) (by omega) (by omega) ?_ ?_ ?_ ?_
        · show vo _ _ _ _ _ _ = psum a b 2
          rw [ps2]
          unfold vo
          omega
        all_goals first | exact fun _ => rfl | exact fun h => absurd h (by decide)
      · refine mMu ?_; omega)
  · obtain rfl := z0 (by omega); obtain rfl := z1 (by omega); obtain rfl := z2 (by omega); clear z0 z1 z2 z3
    rw [ps2] at g1
    unfold vo at g1
    repeat' (first
    | (show G _ _ _ _ _ _ (.loop _); refine G.loopN 6 (GR.step ?_))
    | (show X (Exit.then (Code.rounds _ _ _ _) _) _ _ _ _ .normal; refine X.round (GR.step ?_))
    | (show YK _ _ _ _ _ ⟨_, .call { callee := .value (.func 90), args := _, argTypes := _ }, _, _, _, _⟩ _; refine mul64K rfl rfl (by omega) (by omega) (fun s c e h k => ?_))
    | (show YK _ _ _ _ _ ⟨_, .call { callee := .value (.func 153), args := _, argTypes := _ }, _, _, _, _⟩ _; refine add64K rfl rfl rfl (by omega) (by omega) (by omega) (fun s c e h k => ?_))
    | (show YK _ _ _ _ _ ⟨_, .indexAddr 154 _ _, _, _, _, _⟩ _; refine YK.ofV (y_indexArr (len := 4) rfl rfl (by first | exact (rfl : _ = ((0 : Nat) : Int)) | exact (rfl : _ = ((1 : Nat) : Int)) | exact (rfl : _ = ((2 : Nat) : Int)) | exact (rfl : _ = ((3 : Nat) : Int))) (by decide +kernel) rfl) ?_)
    | (show VK _ _ _ _ _ ⟨_, .indexAddr 154 _ _, _, _, _, _⟩ _; refine VK.mk (y_indexArr (len := 4) rfl rfl (by first | exact (rfl : _ = ((0 : Nat) : Int)) | exact (rfl : _ = ((1 : Nat) : Int)) | exact (rfl : _ = ((2 : Nat) : Int)) | exact (rfl : _ = ((3 : Nat) : Int))) (by decide +kernel) rfl) ?_)
    | (show YK _ _ _ _ _ ⟨_, .indexAddr 179 _ _, _, _, _, _⟩ _; refine YK.ofV (y_indexArr (len := 6) rfl rfl (by first | exact (rfl : _ = ((0 : Nat) : Int)) | exact (rfl : _ = ((1 : Nat) : Int)) | exact (rfl : _ = ((2 : Nat) : Int)) | exact (rfl : _ = ((3 : Nat) : Int)) | exact (rfl : _ = ((4 : Nat) : Int)) | exact (rfl : _ = ((5 : Nat) : Int))) (by decide +kernel) rfl) ?_)
    | (show VK _ _ _ _ _ ⟨_, .indexAddr 179 _ _, _, _, _, _⟩ _; refine VK.mk (y_indexArr (len := 6) rfl rfl (by first | exact (rfl : _ = ((0 : Nat) : Int)) | exact (rfl : _ = ((1 : Nat) : Int)) | exact (rfl : _ = ((2 : Nat) : Int)) | exact (rfl : _ = ((3 : Nat) : Int)) | exact (rfl : _ = ((4 : Nat) : Int)) | exact (rfl : _ = ((5 : Nat) : Int))) (by decide +kernel) rfl) ?_)
    | (refine nxV ?_)
    | (show RS _ _ _ _ _ _ _ _; first | (refine nxRS ?_) | (refine nxRS1 fun _ => ?_))
    | (show RM _ _ _ _ _ _ _ _ _ _; first | (refine nxRM ?_) | (refine nxRM1 fun _ => ?_))
    | (refine nxG ?_)
    | (refine G.mixedA 10 [.go 0, .go 1, .go 2, .go 3, .go 4, .go 5, .go 6, .go 7, .go 8, .go 9, .go 10, .go 11] ?_)
    | (refine nxX ?_)
    | (refine G.condN rfl (fun hc => ?_) (fun hc => ?_) <;> (try first | exact False.elim hc | (exfalso; omega))))
    all_goals (
      refine X.again ⟨_, _, _, _, _, _, _⟩ ?_ ?_ ⟨rfl, rfl, rfl, rfl, rfl, trivial⟩ (fun w h => h)
      · refine mPre_mk (by decide) ?_ (by omega) (by omega) (by omega) (by omega) (by omega) (by omega) ?_ ?_ ?_ ?_
        · show vo _ _ _ _ _ _ = psum a b 1
          rw [ps1]
          unfold vo
          omega
        all_goals first | exact fun _ => rfl | exact fun h => absurd h (by decide)
      · refine mMu ?_; omega)
  · obtain rfl := z0 (by omega); obtain rfl := z1 (by omega); clear z0 z1 z2 z3
    rw [ps1] at g1
    unfold vo at g1
    repeat' (first
    | (show G _ _ _ _ _ _ (.loop _); refine G.loopN 6 (GR.step ?_))
    | (show X (Exit.then (Code.rounds _ _ _ _) _) _ _ _ _ .normal; refine X.round (GR.step ?_))
    | (show YK _ _ _ _ _ ⟨_, .call { callee := .value (.func 90), args := _, argTypes := _ }, _, _, _, _⟩ _; refine mul64K rfl rfl (by omega) (by omega) (fun s c e h k => ?_))
    | (show YK _ _ _ _ _ ⟨_, .call { callee := .value (.func 153), args := _, argTypes := _ }, _, _, _, _⟩ _; refine add64K rfl rfl rfl (by omega) (by omega) (by omega) (fun s c e h k => ?_))
    | (show YK _ _ _ _ _ ⟨_, .indexAddr 154 _ _, _, _, _, _⟩ _; refine YK.ofV (y_indexArr (len := 4) rfl rfl (by first | exact (rfl : _ = ((0 : Nat) : Int)) | exact (rfl : _ = ((1 : Nat) : Int)) | exact (rfl : _ = ((2 : Nat) : Int)) | exact (rfl : _ = ((3 : Nat) : Int))) (by decide +kernel) rfl) ?_)
    | (show VK _ _ _ _ _ ⟨_, .indexAddr 154 _ _, _, _, _, _⟩ _; refine VK.mk (y_indexArr (len := 4) rfl rfl (by first | exact (rfl : _ = ((0 : Nat) : Int)) | exact (rfl : _ = ((1 : Nat) : Int)) | exact (rfl : _ = ((2 : Nat) : Int)) | exact (rfl : _ = ((3 : Nat) : Int))) (by decide +kernel) rfl) ?_)
    | (show YK _ _ _ _ _ ⟨_, .indexAddr 179 _ _, _, _, _, _⟩ _; refine YK.ofV (y_indexArr (len := 6) rfl rfl (by first | exact (rfl : _ = ((0 : Nat) : Int)) | exact (rfl : _ = ((1 : Nat) : Int)) | exact (rfl : _ = ((2 : Nat) : Int)) | exact (rfl : _ = ((3 : Nat) : Int)) | exact (rfl : _ = ((4 : Nat) : Int)) | exact (rfl : _ = ((5 : Nat) : Int))) (by decide +kernel) rfl) ?_)
    | (show VK _ _ _ _ _ ⟨_, .indexAddr 179 _ _, _, _, _, _⟩ _; refine VK.mk (y_indexArr (len := 6) rfl rfl (by first | exact (rfl : _ = ((0 : Nat) : Int)) | exact (rfl : _ = ((1 : Nat) : Int)) | exact (rfl : _ = ((2 : Nat) : Int)) | exact (rfl : _ = ((3 : Nat) : Int)) | exact (rfl : _ = ((4 : Nat) : Int)) | exact (rfl : _ = ((5 : Nat) : Int))) (by decide +kernel) rfl) ?_)
    | (refine nxV ?_)
    | (show RS _ _ _ _ _ _ _ _; first | (refine nxRS ?_) | (refine nxRS1 fun _ => ?_))
    | (show RM _ _ _ _ _ _ _ _ _ _; first | (refine nxRM ?_) | (refine nxRM1 fun _ => ?_))
    | (refine nxG ?_)
    | (refine G.mixedA 10 [.go 0, .go 1, .go 2, .go 3, .go 4, .go 5, .go 6, .go 7, .go 8, .go 9, .go 10, .go 11] ?_)
    | (refine nxX ?_)
    | (refine G.condN rfl (fun hc => ?_) (fun hc => ?_) <;> (try first | exact False.elim hc | (exfalso; omega))))
    all_goals (
      refine X.again ⟨_, _, _, _, _, _, _⟩ ?_ ?_ ⟨rfl, rfl, rfl, rfl, rfl, trivial⟩ (fun w h => h)
      · refine mPre_mk (by decide) ?_ (by omega) (by omega) (by omega) (by omega) (by omega) (by omega) ?_ ?_ ?_ ?_
        · show vo _ _ _ _ _ _ = psum a b 0
          rw [ps0]
          unfold vo
          omega
        all_goals first | exact fun _ => rfl | exact fun h => absurd h (by decide)
      · refine mMu ?_; omega)
  · obtain rfl := z0 (by omega); clear z0 z1 z2 z3
    rw [ps0] at g1
    unfold vo at g1
    repeat' (first
    | (show G _ _ _ _ _ _ (.loop _); refine G.loopN 6 (GR.step ?_))
    | (show X (Exit.then (Code.rounds _ _ _ _) _) _ _ _ _ .normal; refine X.round (GR.step ?_))
    | (show YK _ _ _ _ _ ⟨_, .call { callee := .value (.func 90), args := _, argTypes := _ }, _, _, _, _⟩ _; refine mul64K rfl rfl (by omega) (by omega) (fun s c e h k => ?_))
    | (show YK _ _ _ _ _ ⟨_, .call { callee := .value (.func 153), args := _, argTypes := _ }, _, _, _, _⟩ _; refine add64K rfl rfl rfl (by omega) (by omega) (by omega) (fun s c e h k => ?_))
    | (show YK _ _ _ _ _ ⟨_, .indexAddr 154 _ _, _, _, _, _⟩ _; refine YK.ofV (y_indexArr (len := 4) rfl rfl (by first | exact (rfl : _ = ((0 : Nat) : Int)) | exact (rfl : _ = ((1 : Nat) : Int)) | exact (rfl : _ = ((2 : Nat) : Int)) | exact (rfl : _ = ((3 : Nat) : Int))) (by decide +kernel) rfl) ?_)
    | (show VK _ _ _ _ _ ⟨_, .indexAddr 154 _ _, _, _, _, _⟩ _; refine VK.mk (y_indexArr (len := 4) rfl rfl (by first | exact (rfl : _ = ((0 : Nat) : Int)) | exact (rfl : _ = ((1 : Nat) : Int)) | exact (rfl : _ = ((2 : Nat) : Int)) | exact (rfl : _ = ((3 : Nat) : Int))) (by decide +kernel) rfl) ?_)
    | (show YK _ _ _ _ _ ⟨_, .indexAddr 179 _ _, _, _, _, _⟩ _; refine YK.ofV (y_indexArr (len := 6) rfl rfl (by first | exact (rfl : _ = ((0 : Nat) : Int)) | exact (rfl : _ = ((1 : Nat) : Int)) | exact (rfl : _ = ((2 : Nat) : Int)) | exact (rfl : _ = ((3 : Nat) : Int)) | exact (rfl : _ = ((4 : Nat) : Int)) | exact (rfl : _ = ((5 : Nat) : Int))) (by decide +kernel) rfl) ?_)
    | (show VK _ _ _ _ _ ⟨_, .indexAddr 179 _ _, _, _, _, _⟩ _; refine VK.mk (y_indexArr (len := 6) rfl rfl (by first | exact (rfl : _ = ((0 : Nat) : Int)) | exact (rfl : _ = ((1 : Nat) : Int)) | exact (rfl : _ = ((2 : Nat) : Int)) | exact (rfl : _ = ((3 : Nat) : Int)) | exact (rfl : _ = ((4 : Nat) : Int)) | exact (rfl : _ = ((5 : Nat) : Int))) (by decide +kernel) rfl) ?_)
    | (refine nxV ?_)
    | (show RS _ _ _ _ _ _ _ _; first | (refine nxRS ?_) | (refine nxRS1 fun _ => ?_))
    | (show RM _ _ _ _ _ _ _ _ _ _; first | (refine nxRM ?_) | (refine nxRM1 fun _ => ?_))
    | (refine nxG ?_)
    | (refine G.mixedA 10 [.go 0, .go 1, .go 2, .go 3, .go 4, .go 5, .go 6, .go 7, .go 8, .go 9, .go 10, .go 11] ?_)
    | (refine nxX ?_)
    | (refine G.condN rfl (fun hc => ?_) (fun hc => ?_) <;> (try first | exact False.elim hc | (exfalso; omega))))
    all_goals (
      refine X.again ⟨_, _, _, _, _, _, _⟩ ?_ ?_ ⟨rfl, rfl, rfl, rfl, rfl, trivial⟩ (fun w h => h)
      · refine mPre_mk (by decide) ?_ (by omega) (by omega) (by omega) (by omega) (by omega) (by omega) ?_ ?_ ?_ ?_
        · show vo _ _ _ _ _ _ = psum a b (-1)
          rw [psm]
          unfold vo
          omega
        all_goals first | exact fun _ => rfl | exact fun h => absurd h (by decide)
      · refine mMu ?_; omega)
  · clear z0 z1 z2 z3 hmx
    repeat' (first
    | (show RS _ _ _ _ _ _ _ (⟨_, .slice _ _ none (some _) none, _, _, _, _⟩ :: _); refine RS.step (V.y (y_sliceArr (len := 6) (m := 4) rfl rfl (by decide +kernel) rfl rfl)) rfl ?_)
    | (show RS _ _ _ _ _ _ _ (⟨_, .sliceToArrayPointer _ _, _, _, _, _⟩ :: _); refine RS.step (V.y (y_arrPtr (len := 4) rfl (by decide +kernel) rfl)) rfl ?_)
    | (show YK _ _ _ _ _ ⟨_, .load 154 _, _, _, _, _⟩ _; refine YK.ofV (v := .agg [.int .u64 o0, .int .u64 o1, .int .u64 o2, .int .u64 o3].toArray) (y_loadPart (k := 4) (i := 0) rfl (List.Mem.head _) (by decide +kernel) rfl) ?_)
    | (refine nxV ?_)
    | (show RS _ _ _ _ _ _ _ _; first | (refine nxRS ?_) | (refine nxRS1 fun _ => ?_))
    | (show RM _ _ _ _ _ _ _ _ _ _; first | (refine nxRM ?_) | (refine nxRM1 fun _ => ?_))
    | (refine nxG ?_)
    | (refine G.mixedA 10 [.go 0, .go 1, .go 2, .go 3, .go 4, .go 5, .go 6, .go 7, .go 8, .go 9, .go 10, .go 11] ?_)
    | (refine nxX ?_)
    | (refine G.condN rfl (fun hc => ?_) (fun hc => ?_) <;> (try first | exact False.elim hc | (exfalso; omega))))
    refine X.ret (vs := [_]) rfl ⟨⟨_, _, _, _, rfl, (by exact memA), (by (repeat (first | exact .nil | apply LenIs.cons))), by decide +kernel, rfl⟩, rfl⟩ rfl (fun w hw => ⟨?_, hw.ext⟩)
    exact congrArg Ending.returned (mul_val g1 g2 g3 g4 g5 g6 g7)
end Go.Proofs.YthilhhegchmjeaaGreat
/- Angles in radians, and what is missing from 1: the walks. -/
set_option linter.unusedVariables false
set_option maxHeartbeats 8000000
namespace Go.Proofs.YthilhhegchmjeaaGreat
open Go.RowKit
open TT (W256 cW lb)
/-- The words of a product by a small number, with what is carried out. -/
theorem rad_val {n : Nat} (h : n ≤ 2700000) {q3 s3 q2 s2 q1 s1 q0 s0 c3 c2 c1 c0 p3 p2 p1 p0 : Int} (m3 : (589684135938649225 : Int) * n = p3 * 18446744073709551616 + q3) (e3 : q3 + 0 + 0 = s3 + 18446744073709551616 * c3) (m2 : (11820040416388919760 : Int) * n = p2 * 18446744073709551616 + q2) (e2 : q2 + (p3 + c3) + 0 = s2 + 18446744073709551616 * c2)
    (m1 : (1376283091369227076 : Int) * n = p1 * 18446744073709551616 + q1) (e1 : q1 + (p2 + c2) + 0 = s1 + 18446744073709551616 * c1) (m0 : (2611923443488327891 : Int) * n = p0 * 18446744073709551616 + q0) (e0 : q0 + (p1 + c1) + 0 = s0 + 18446744073709551616 * c0)
    (b3 : 0 ≤ s3 ∧ s3 < 18446744073709551616) (b2 : 0 ≤ s2 ∧ s2 < 18446744073709551616) (b1 : 0 ≤ s1 ∧ s1 < 18446744073709551616) (b0 : 0 ≤ s0 ∧ s0 < 18446744073709551616) (k0 : 0 ≤ c0) (l0 : 0 ≤ p0) :
    ∃ a t : Nat, a < W256 ∧ (Value.agg [.int .u64 s0, .int .u64 s1, .int .u64 s2, .int .u64 s3].toArray) = numV a ∧ (t : Int) = p0 + c0 + 3 * n ∧ t * W256 + a = n * TT.piN ∧ t < 10800000 := by
  obtain ⟨S0, rfl⟩ := Int.eq_ofNat_of_zero_le b0.1
  obtain ⟨S1, rfl⟩ := Int.eq_ofNat_of_zero_le b1.1
  obtain ⟨S2, rfl⟩ := Int.eq_ofNat_of_zero_le b2.1
  obtain ⟨S3, rfl⟩ := Int.eq_ofNat_of_zero_le b3.1
  obtain ⟨P0, rfl⟩ := Int.eq_ofNat_of_zero_le l0
  obtain ⟨C0, rfl⟩ := Int.eq_ofNat_of_zero_le k0
  have lt : ∀ {z : Nat}, (z : Int) < 18446744073709551616 → z < cW := fun {z} h => by simp only [cW]; omega
  have key : ((P0 : Int) + C0 + 3 * n) * 115792089237316195423570985008687907853269984665640564039457584007913129639936 + (S0 * 6277101735386680763835789423207666416102355444464034512896 + S1 * 340282366920938463463374607431768211456 + S2 * 18446744073709551616 + S3) = n * 363771576891766324280234942777729862653393377328392429958772151117938894466185 := by
    clear b0 b1 b2 b3 k0 l0 lt
    grind
  obtain ⟨A, hA⟩ : ∃ A, A = S0 * cW ^ 3 + S1 * cW ^ 2 + S2 * cW + S3 := ⟨_, rfl⟩
  have hlt := TT.digits_lt (lt b0.2) (lt b1.2) (lt b2.2) (lt b3.2)
  have hlb := TT.lb_eq (lt b0.2) (lt b1.2) (lt b2.2) (lt b3.2) hA
  rw [← hA] at hlt
  refine ⟨A, P0 + C0 + 3 * n, hlt, num_val b0.1 b1.1 b2.1 b3.1 hlb, by omega, ?_, ?_⟩
  · have : (((P0 + C0 + 3 * n) * W256 + A : Nat) : Int) = ((n * TT.piN : Nat) : Int) := by
      rw [hA]
      simp only [Int.natCast_add, Int.natCast_mul, Int.natCast_pow]
      exact key
    exact Int.ofNat.inj this
  · clear key
    omega
theorem pi_built : Tryz.prog.built 154 [(0, Value.int .u64 2611923443488327891), (1, Value.int .u64 1376283091369227076), (2, Value.int .u64 11820040416388919760), (3, Value.int .u64 589684135938649225)] = some [Value.int .u64 2611923443488327891, Value.int .u64 1376283091369227076, Value.int .u64 11820040416388919760, Value.int .u64 589684135938649225].toArray := by kernel_rfl
theorem rad_c {n : Nat} (hn : n ≤ 2700000) : Cont Tryz.prog 127 [.int .i64 (n : Int)] (numV (TT.radF n)) := fun w => by
  refine enter0 Tryz.func127 rfl rfl rfl ?_
  repeat' (first
    | (show G _ _ _ _ _ _ (.loop _); refine G.loopN 6 (GR.step ?_))
    | (show X (Exit.then (Code.rounds _ _ _ _) _) _ _ _ _ .normal; refine X.round (GR.step ?_))
    | (show YK _ _ _ _ _ ⟨_, .call { callee := .value (.func 90), args := _, argTypes := _ }, _, _, _, _⟩ _; refine mul64K rfl rfl (by omega) (by omega) (fun s c e h k => ?_))
    | (show YK _ _ _ _ _ ⟨_, .call { callee := .value (.func 153), args := _, argTypes := _ }, _, _, _, _⟩ _; refine add64K rfl rfl rfl (by omega) (by omega) (by omega) (fun s c e h k => ?_))
    | (show YK _ _ _ _ _ ⟨_, .indexAddr 154 _ _, _, _, _, _⟩ _; refine YK.ofV (y_indexArr (len := 4) rfl rfl (by first | exact (rfl : _ = ((0 : Nat) : Int)) | exact (rfl : _ = ((1 : Nat) : Int)) | exact (rfl : _ = ((2 : Nat) : Int)) | exact (rfl : _ = ((3 : Nat) : Int))) (by decide +kernel) rfl) ?_)
    | (show VK _ _ _ _ _ ⟨_, .indexAddr 154 _ _, _, _, _, _⟩ _; refine VK.mk (y_indexArr (len := 4) rfl rfl (by first | exact (rfl : _ = ((0 : Nat) : Int)) | exact (rfl : _ = ((1 : Nat) : Int)) | exact (rfl : _ = ((2 : Nat) : Int)) | exact (rfl : _ = ((3 : Nat) : Int))) (by decide +kernel) rfl) ?_)
    | (show YK _ _ _ _ _ ⟨_, .build 154 _, _, _, _, _⟩ _; refine YK.ofV (y_build (cells := [Value.int .u64 2611923443488327891, Value.int .u64 1376283091369227076, Value.int .u64 11820040416388919760, Value.int .u64 589684135938649225]) (parts := [(0, _), (1, _), (2, _), (3, _)]) (vs := [Value.int .u64 2611923443488327891, Value.int .u64 1376283091369227076, Value.int .u64 11820040416388919760, Value.int .u64 589684135938649225]) ⟨rfl, rfl, rfl, rfl, rfl⟩ pi_built) ?_)
    | (refine nxV ?_)
    | (show RS _ _ _ _ _ _ _ _; first | (refine nxRS ?_) | (refine nxRS1 fun _ => ?_))
    | (show RM _ _ _ _ _ _ _ _ _ _; first | (refine nxRM ?_) | (refine nxRM1 fun _ => ?_))
    | (refine nxG ?_)
    | (refine nxX ?_)
    | (refine G.condN rfl (fun hc => ?_) (fun hc => ?_) <;> (try first | exact False.elim hc | (exfalso; omega))))
  obtain ⟨A, t, hA, hv, ht, he, hlt⟩ := rad_val (n := n) hn (by assumption) (by assumption) (by assumption) (by assumption) (by assumption) (by assumption) (by assumption) (by assumption) (by assumption) (by assumption) (by assumption) (by assumption) (by omega) (by omega)
  have hq := ndiv_c (a := A) (t := t) (d := 10800000) hA (by decide) hlt (by decide)
  refine YK.mk (y_call (xs := [_, _, _]) hq ⟨congrArg some hv, congrArg some (congrArg (Value.int .u64) (by rw [← ht]; omega)), rfl, rfl⟩ (by decide +kernel)) ?_
  repeat' (first
    | (refine nxV ?_)
    | (show RS _ _ _ _ _ _ _ _; first | (refine nxRS ?_) | (refine nxRS1 fun _ => ?_))
    | (show RM _ _ _ _ _ _ _ _ _ _; first | (refine nxRM ?_) | (refine nxRM1 fun _ => ?_))
    | (refine nxG ?_)
    | (refine nxX ?_)
    | (refine G.condN rfl (fun hc => ?_) (fun hc => ?_) <;> (try first | exact False.elim hc | (exfalso; omega))))
  refine X.ret (vs := [_]) rfl ⟨⟨_, _, _, _, rfl, (by exact memA), (by (repeat (first | exact .nil | apply LenIs.cons))), by decide +kernel, rfl⟩, rfl⟩ rfl (fun w hw => ⟨?_, hw.ext⟩)
  rw [he]
  rfl
end Go.Proofs.YthilhhegchmjeaaGreat
/- What is missing from 1, and the sine of the first quarter: the walks. -/
set_option linter.unusedVariables false
set_option maxHeartbeats 8000000
namespace Go.Proofs.YthilhhegchmjeaaGreat
open Go.RowKit
open TT (W256 cW lb)
abbrev numC (x : Nat) : List Value := [.int .u64 (lb x 0 : Int), .int .u64 (lb x 1 : Int), .int .u64 (lb x 2 : Int), .int .u64 (lb x 3 : Int)]
theorem less_c {xx o : Nat} (hx : xx < W256) (ho : o ≤ 1) : Cont Tryz.prog 130 [numV xx, .int .u64 (o : Int)] (numV (TT.lessF o (TT.mulF xx xx) 0 34)) := fun w => by
  have q1 := nmul_c hx hx
  have hy : TT.mulF xx xx < W256 := Nat.lt_of_le_of_lt (TT.mulF_le hx hx) hx
  generalize TT.mulF xx xx = yy at *
  refine enter0 Tryz.func130 rfl rfl rfl ?_
  repeat' (first
    | (show YK _ _ _ _ _ _ _; first | refine YK.mk (y_callA (q1) ⟨rfl, rfl, rfl⟩) ?_)
    | (show YK _ _ _ _ _ _ _; refine YK.ofV vAuto ?_)
    | (show VK _ _ _ _ _ _ _; refine VK.mk vAuto ?_)
    | (show RS _ _ _ _ _ _ _ _; first | (refine nxRS ?_) | (refine nxRS1 fun _ => ?_))
    | (show RM _ _ _ _ _ _ _ _ _ _; first | (refine nxRM ?_) | (refine nxRM1 fun _ => ?_))
    | (show YG _ _ _ _ _ _ _ _; refine YG.mk (fun hb => by (try (have hc := And.left hb; have hb := And.right hb; rw [hc])); (try rw [hb]); first | exact (y_callA (q1) ⟨rfl, rfl, rfl⟩) | exact V.y vAuto) ?_)
    | (show VG _ _ _ _ _ _ _ _; refine VG.mk (fun hb => by (try (have hc := And.left hb; have hb := And.right hb; rw [hc])); (try rw [hb]); exact vAuto) ?_)
    | (refine G.mixedA 8 [.go 0, .go 1, .go 2, .go 3, .go 4, .go 5] ?_)
    | (refine nxX ?_)
    | (refine G.condN rfl (fun hc => ?_) (fun hc => ?_) <;> (try first | exact False.elim hc | (exfalso; omega))))
  rename_i b2 b4 b5 b6
  have e0 : numC (TT.lessF o yy 34 (34 - 34)) = [.int .u64 0, .int .u64 0, .int .u64 0, .int .u64 0] := by
    have e : TT.lessF o yy 34 (34 - 34) = 0 := by rw [Nat.sub_self]; simp only [TT.lessF]
    rw [e]
    rfl
  refine G.loop (ι := Nat) (fun k => [(1, .int .u64 (o : Int)), (2, .pointer (some ⟨b2, 0, none⟩)), (4, .pointer (some ⟨b4, 0, none⟩)), (5, .pointer (some ⟨b5, 0, none⟩)), (6, .pointer (some ⟨b6, 0, none⟩)), (7, .int .u64 (k : Int))])
    (fun k => [Hl.blk b6 154 (numC (TT.lessF o yy k (34 - k))), Hl.blk b5 154 (numC yy), Hl.blk b4 154 [.int .u64 0, .int .u64 0, .int .u64 0, .int .u64 0], Hl.blk b2 154 (numC xx)])
    (fun k => k ≤ 34) (fun k => k) 34 (Nat.le_refl _) ⟨rfl, rfl, rfl, rfl, rfl, rfl, trivial⟩ (fun w h => by rw [e0]; exact h) ?_
  clear e0
  rintro k mx hk hmx
  (try dsimp only at hk hmx ⊢)
  cases k with
  | zero =>
    repeat' (first
    | (refine nxV ?_)
    | (show RS _ _ _ _ _ _ _ _; first | (refine nxRS ?_) | (refine nxRS1 fun _ => ?_))
    | (show RM _ _ _ _ _ _ _ _ _ _; first | (refine nxRM ?_) | (refine nxRM1 fun _ => ?_))
    | (refine nxG ?_)
    | (refine G.mixedA 8 [.go 0, .go 1, .go 2, .go 3, .go 4, .go 5] ?_)
    | (refine nxX ?_)
    | (refine G.condN rfl (fun hc => ?_) (fun hc => ?_) <;> (try first | exact False.elim hc | (exfalso; omega))))
    refine X.ret (vs := [_]) rfl ⟨⟨_, _, _, _, rfl, (by exact memA), (by (repeat (first | exact .nil | apply LenIs.cons))), by decide +kernel, rfl⟩, rfl⟩ rfl (fun w hw => ⟨rfl, hw.ext⟩)
  | succ k =>
    have hde : (2 * ((k + 1 : Nat) : Int) - 1 + (o : Int)) * (2 * ((k + 1 : Nat) : Int) + (o : Int)) = ((TT.dd o k : Nat) : Int) := by
      unfold TT.dd
      simp only [Int.natCast_mul, Int.natCast_add]
      grind
    have hdb : TT.dd o k ≤ 5000 := by
      unfold TT.dd
      exact Nat.le_trans (Nat.mul_le_mul (show 2 * k + 1 + o ≤ 70 by omega) (show 2 * k + 2 + o ≤ 70 by omega)) (by decide)
    have hd2 := TT.dd_ge o k
    have hl := TT.lessF_le o yy hy (34 - (k + 1)) (k + 1)
    have hu : TT.lessF o yy (k + 1) (34 - (k + 1)) < W256 := Nat.lt_of_le_of_lt hl hy
    have hq : yy / TT.dd o k < W256 := Nat.lt_of_le_of_lt (Nat.div_le_self _ _) hy
    have hm := TT.mulF_le hq hu
    have q2 := ndiv_c (a := yy) (t := 0) (d := TT.dd o k) hy (by omega) (by omega) (by omega)
    rw [← hde, Nat.zero_mul, Nat.zero_add] at q2
    have q3 := nmul_c hq hu
    have q4 := sub_c hq (Nat.lt_of_le_of_lt hm hq)
    have e4 : (yy / TT.dd o k + W256 - TT.mulF (yy / TT.dd o k) (TT.lessF o yy (k + 1) (34 - (k + 1)))) % W256 = TT.lessF o yy k (34 - k) := by
      rw [show 34 - k = (34 - (k + 1)) + 1 by omega]
      show _ = yy / TT.dd o k - TT.mulF (yy / TT.dd o k) (TT.lessF o yy (k + 1) (34 - (k + 1)))
      rw [Nat.add_comm, Nat.add_sub_assoc hm, Nat.add_mod_left]
      exact Nat.mod_eq_of_lt (Nat.lt_of_le_of_lt (Nat.sub_le _ _) hq)
    rw [e4] at q4
    have hb : 0 ≤ (2 * ((k + 1 : Nat) : Int) - 1 + (o : Int)) * (2 * ((k + 1 : Nat) : Int) + (o : Int)) ∧ (2 * ((k + 1 : Nat) : Int) - 1 + (o : Int)) * (2 * ((k + 1 : Nat) : Int) + (o : Int)) ≤ 5000 := by rw [hde]; omega
    clear hde hdb hd2 hl e4 hm
    generalize hu' : TT.lessF o yy k (34 - k) = u' at q4
    generalize TT.lessF o yy (k + 1) (34 - (k + 1)) = u at *
    generalize yy / TT.dd o k = q at *
    generalize TT.mulF q u = m at *
    repeat' (first
    | (show YK _ _ _ _ _ _ _; first | refine YK.mk (y_callA (q2) ⟨rfl, rfl, rfl, rfl⟩) ?_ | refine YK.mk (y_callA (q3) ⟨rfl, rfl, rfl⟩) ?_ | refine YK.mk (y_callA (q4) ⟨rfl, rfl, rfl⟩) ?_)
    | (show YK _ _ _ _ _ _ _; refine YK.ofV vAuto ?_)
    | (show VK _ _ _ _ _ _ _; refine VK.mk vAuto ?_)
    | (show RS _ _ _ _ _ _ _ _; first | (refine nxRS ?_) | (refine nxRS1 fun _ => ?_))
    | (show RM _ _ _ _ _ _ _ _ _ _; first | (refine nxRM ?_) | (refine nxRM1 fun _ => ?_))
    | (show YG _ _ _ _ _ _ _ _; refine YG.mk (fun hb => by (try (have hc := And.left hb; have hb := And.right hb; rw [hc])); (try rw [hb]); first | exact (y_callA (q2) ⟨rfl, rfl, rfl, rfl⟩) | exact (y_callA (q3) ⟨rfl, rfl, rfl⟩) | exact (y_callA (q4) ⟨rfl, rfl, rfl⟩) | exact V.y vAuto) ?_)
    | (show VG _ _ _ _ _ _ _ _; refine VG.mk (fun hb => by (try (have hc := And.left hb; have hb := And.right hb; rw [hc])); (try rw [hb]); exact vAuto) ?_)
    | (refine G.mixedA 8 [.go 0, .go 1, .go 2, .go 3, .go 4, .go 5] ?_)
    | (refine nxX ?_)
    | (refine G.condN rfl (fun hc => ?_) (fun hc => ?_) <;> (try first | exact False.elim hc | (exfalso; omega))))
    refine X.again k (by omega) (by omega) ⟨rfl, rfl, rfl, rfl, rfl, congrArg some (congrArg (Value.int .u64) (by omega)), trivial⟩ (fun w h => ?_)
    rw [hu']
    exact h.sub (by repeat (first | exact List.Sublist.refl _ | apply List.Sublist.cons_cons | apply List.Sublist.cons))
theorem sub_eq {x m : Nat} (hm : m ≤ x) (hx : x < W256) : (x + W256 - m) % W256 = x - m := by
  rw [Nat.add_comm, Nat.add_sub_assoc hm, Nat.add_mod_left]
  exact Nat.mod_eq_of_lt (Nat.lt_of_le_of_lt (Nat.sub_le _ _) hx)
theorem top_eq {s : Nat} (hs : s < W256) : ((lb s 0 : Nat) : Int) / 17179869184 = ((s / 2 ^ 226 : Nat) : Int) := by
  have h1 : lb s 0 = s / cW ^ 3 := by
    unfold lb
    refine Nat.mod_eq_of_lt ?_
    refine (Nat.div_lt_iff_lt_mul (by decide)).2 ?_
    exact Nat.lt_of_lt_of_le hs (by decide)
  rw [h1, ← show ((17179869184 : Nat) : Int) = 17179869184 from rfl, ← Int.natCast_ediv, Nat.div_div_eq_div_mul]
  rfl
theorem wrap_top {s : Nat} (hs : s < W256) : IntKind.i64.wrap ((lb s 0 : Int) / 2 ^ min (Int.toNat 34) IntKind.u64.bits) = ((s / 2 ^ 226 : Nat) : Int) := by
  have hb := lb_u64 s 0
  have e5 : (2 : Int) ^ min (Int.toNat 34) IntKind.u64.bits = 17179869184 := by decide
  have e4 := top_eq hs
  rw [e5]
  have hlt : 0 ≤ (lb s 0 : Int) / 17179869184 ∧ (lb s 0 : Int) / 17179869184 ≤ 1073741823 := by omega
  rw [e4] at hlt ⊢
  exact IntWalk.i64_in _ (by omega)
theorem sine_c {r : Int} (h0 : 0 ≤ r) (h1 : r ≤ 5400000) : Cont Tryz.prog 117 [.int .i64 r] (.tuple [.int .i64 (TT.sinB r).1, .bool (TT.sinB r).2].toArray) := fun w => by
  unfold TT.sinB
  by_cases e0 : r = 0
  · subst e0
    refine enter0 Tryz.func117 rfl rfl rfl ?_
    repeat' (first
    | (refine nxV ?_)
    | (show RS _ _ _ _ _ _ _ _; first | (refine nxRS ?_) | (refine nxRS1 fun _ => ?_))
    | (show RM _ _ _ _ _ _ _ _ _ _; first | (refine nxRM ?_) | (refine nxRM1 fun _ => ?_))
    | (refine nxG ?_)
    | (refine G.mixedA 11 [.go 0, .go 1, .go 2, .go 3, .go 4, .go 5, .go 6] ?_)
    | (refine nxX ?_)
    | (refine G.condN rfl (fun hc => ?_) (fun hc => ?_) <;> (try first | exact False.elim hc | (exfalso; omega))))
    exact X.ret (vs := [_, _]) rfl ⟨rfl, rfl, rfl⟩ rfl (fun w hw => ⟨rfl, hw.ext⟩)
  by_cases e1 : r = 1800000
  · subst e1
    refine enter0 Tryz.func117 rfl rfl rfl ?_
    repeat' (first
    | (refine nxV ?_)
    | (show RS _ _ _ _ _ _ _ _; first | (refine nxRS ?_) | (refine nxRS1 fun _ => ?_))
    | (show RM _ _ _ _ _ _ _ _ _ _; first | (refine nxRM ?_) | (refine nxRM1 fun _ => ?_))
    | (refine nxG ?_)
    | (refine G.mixedA 11 [.go 0, .go 1, .go 2, .go 3, .go 4, .go 5, .go 6] ?_)
    | (refine nxX ?_)
    | (refine G.condN rfl (fun hc => ?_) (fun hc => ?_) <;> (try first | exact False.elim hc | (exfalso; omega))))
    exact X.ret (vs := [_, _]) rfl ⟨rfl, rfl, rfl⟩ rfl (fun w hw => ⟨rfl, hw.ext⟩)
  by_cases e2 : r = 5400000
  · subst e2
    refine enter0 Tryz.func117 rfl rfl rfl ?_
    repeat' (first
    | (refine nxV ?_)
    | (show RS _ _ _ _ _ _ _ _; first | (refine nxRS ?_) | (refine nxRS1 fun _ => ?_))
    | (show RM _ _ _ _ _ _ _ _ _ _; first | (refine nxRM ?_) | (refine nxRM1 fun _ => ?_))
    | (refine nxG ?_)
    | (refine G.mixedA 11 [.go 0, .go 1, .go 2, .go 3, .go 4, .go 5, .go 6] ?_)
    | (refine nxX ?_)
    | (refine G.condN rfl (fun hc => ?_) (fun hc => ?_) <;> (try first | exact False.elim hc | (exfalso; omega))))
    exact X.ret (vs := [_, _]) rfl ⟨rfl, rfl, rfl⟩ rfl (fun w hw => ⟨rfl, hw.ext⟩)
  rw [if_neg e0, if_neg e1, if_neg e2]
  by_cases hg : 2 * r ≤ 5400000
  · rw [if_pos hg]
    obtain ⟨n, rfl⟩ := Int.eq_ofNat_of_zero_le h0
    have hn : n ≤ 2700000 := by omega
    have q1 := rad_c hn
    have hr := TT.radF_lt hn
    have q2 := less_c (o := 1) hr (by omega)
    have hx1 : TT.mulF (TT.radF n) (TT.radF n) < W256 := Nat.lt_of_le_of_lt (TT.mulF_le hr hr) hr
    have hl : TT.lessF 1 (TT.mulF (TT.radF n) (TT.radF n)) 0 34 < W256 := Nat.lt_of_le_of_lt (TT.lessF_le 1 _ hx1 34 0) hx1
    have q3 := nmul_c hr hl
    have hm := TT.mulF_le hr hl
    have q4 := sub_c hr (Nat.lt_of_le_of_lt hm hr)
    rw [sub_eq hm hr, ← TT.sinF_1] at q4
    have hs : TT.sinF 1 n < W256 := by rw [TT.sinF_1]; exact Nat.lt_of_le_of_lt (Nat.sub_le _ _) hr
    have e4 := top_eq hs
    clear hm hl hx1
    generalize TT.mulF (TT.radF n) (TT.lessF 1 (TT.mulF (TT.radF n) (TT.radF n)) 0 34) = m at *
    generalize TT.lessF 1 (TT.mulF (TT.radF n) (TT.radF n)) 0 34 = u at *
    generalize TT.radF n = rr at *
    have hb := lb_u64 (TT.sinF 1 n) 0
    refine enter0 Tryz.func117 rfl rfl rfl ?_
    repeat' (first
    | (show YK _ _ _ _ _ ⟨_, .indexAddr 154 _ _, _, _, _, _⟩ _; refine YK.ofV (y_indexArr (len := 4) rfl rfl (by first | exact (rfl : _ = ((0 : Nat) : Int)) | exact (rfl : _ = ((1 : Nat) : Int)) | exact (rfl : _ = ((2 : Nat) : Int)) | exact (rfl : _ = ((3 : Nat) : Int))) (by decide +kernel) rfl) ?_)
    | (show VK _ _ _ _ _ ⟨_, .indexAddr 154 _ _, _, _, _, _⟩ _; refine VK.mk (y_indexArr (len := 4) rfl rfl (by first | exact (rfl : _ = ((0 : Nat) : Int)) | exact (rfl : _ = ((1 : Nat) : Int)) | exact (rfl : _ = ((2 : Nat) : Int)) | exact (rfl : _ = ((3 : Nat) : Int))) (by decide +kernel) rfl) ?_)
    | (show YK _ _ _ _ _ _ _; first | refine YK.mk (y_callA (q1) ⟨rfl, rfl⟩) ?_ | refine YK.mk (y_callA (q2) ⟨rfl, rfl, rfl⟩) ?_ | refine YK.mk (y_callA (q3) ⟨rfl, rfl, rfl⟩) ?_ | refine YK.mk (y_callA (q4) ⟨rfl, rfl, rfl⟩) ?_)
    | (show YK _ _ _ _ _ _ _; refine YK.ofV vAuto ?_)
    | (show VK _ _ _ _ _ _ _; refine VK.mk vAuto ?_)
    | (show RS _ _ _ _ _ _ _ _; first | (refine nxRS ?_) | (refine nxRS1 fun _ => ?_))
    | (show RM _ _ _ _ _ _ _ _ _ _; first | (refine nxRM ?_) | (refine nxRM1 fun _ => ?_))
    | (show YG _ _ _ _ _ _ _ _; refine YG.mk (fun hb => by (try (have hc := And.left hb; have hb := And.right hb; rw [hc])); (try rw [hb]); first | exact (y_callA (q1) ⟨rfl, rfl⟩) | exact (y_callA (q2) ⟨rfl, rfl, rfl⟩) | exact (y_callA (q3) ⟨rfl, rfl, rfl⟩) | exact (y_callA (q4) ⟨rfl, rfl, rfl⟩) | exact V.y vAuto) ?_)
    | (show VG _ _ _ _ _ _ _ _; refine VG.mk (fun hb => by (try (have hc := And.left hb; have hb := And.right hb; rw [hc])); (try rw [hb]); exact vAuto) ?_)
    | (refine G.mixedA 11 [.go 0, .go 1, .go 2, .go 3, .go 4, .go 5, .go 6] ?_)
    | (refine nxX ?_)
    | (refine G.condN rfl (fun hc => ?_) (fun hc => ?_) <;> (try first | exact False.elim hc | (exfalso; omega))))
    refine X.ret (vs := [_, _]) rfl ⟨rfl, rfl, rfl⟩ rfl (fun w hw => ⟨?_, hw.ext⟩)
    rw [wrap_top hs]
    rfl
  · rw [if_neg hg]
    obtain ⟨n, hn'⟩ := Int.eq_ofNat_of_zero_le (show 0 ≤ 5400000 - r by omega)
    have hn : n ≤ 2700000 := by omega
    have q1 := rad_c hn
    rw [← hn'] at q1
    have hr := TT.radF_lt hn
    have q2 := less_c (o := 0) hr (by omega)
    have hx1 : TT.mulF (TT.radF n) (TT.radF n) < W256 := Nat.lt_of_le_of_lt (TT.mulF_le hr hr) hr
    have hl : TT.lessF 0 (TT.mulF (TT.radF n) (TT.radF n)) 0 34 < W256 := Nat.lt_of_le_of_lt (TT.lessF_le 0 _ hx1 34 0) hx1
    have q4 := sub_c (a := 0) (by decide) hl
    have hlp := TT.lessC_pos (n := n) (by omega) hn
    rw [show (0 + W256 - TT.lessF 0 (TT.mulF (TT.radF n) (TT.radF n)) 0 34) % W256 = TT.sinF 0 n by rw [TT.sinF_0, Nat.zero_add]; exact Nat.mod_eq_of_lt (by omega)] at q4
    have hs : TT.sinF 0 n < W256 := by rw [TT.sinF_0]; omega
    clear hx1 hlp
    generalize TT.lessF 0 (TT.mulF (TT.radF n) (TT.radF n)) 0 34 = u at *
    generalize TT.radF n = rr at *
    have hb := lb_u64 (TT.sinF 0 n) 0
    refine enter0 Tryz.func117 rfl rfl rfl ?_
    repeat' (first
    | (show YK _ _ _ _ _ ⟨_, .indexAddr 154 _ _, _, _, _, _⟩ _; refine YK.ofV (y_indexArr (len := 4) rfl rfl (by first | exact (rfl : _ = ((0 : Nat) : Int)) | exact (rfl : _ = ((1 : Nat) : Int)) | exact (rfl : _ = ((2 : Nat) : Int)) | exact (rfl : _ = ((3 : Nat) : Int))) (by decide +kernel) rfl) ?_)
    | (show VK _ _ _ _ _ ⟨_, .indexAddr 154 _ _, _, _, _, _⟩ _; refine VK.mk (y_indexArr (len := 4) rfl rfl (by first | exact (rfl : _ = ((0 : Nat) : Int)) | exact (rfl : _ = ((1 : Nat) : Int)) | exact (rfl : _ = ((2 : Nat) : Int)) | exact (rfl : _ = ((3 : Nat) : Int))) (by decide +kernel) rfl) ?_)
    | (show YK _ _ _ _ _ ⟨_, .build 154 _, _, _, _, _⟩ _; refine YK.ofV (y_build0 (cs := [.int .u64 0, .int .u64 0, .int .u64 0, .int .u64 0]) ZeroTy.is (by decide +kernel)) ?_)
    | (show YK _ _ _ _ _ _ _; first | refine YK.mk (y_callA (q1) ⟨rfl, rfl⟩) ?_ | refine YK.mk (y_callA (q2) ⟨rfl, rfl, rfl⟩) ?_ | refine YK.mk (y_callA (q4) ⟨rfl, rfl, rfl⟩) ?_)
    | (show YK _ _ _ _ _ _ _; refine YK.ofV vAuto ?_)
    | (show VK _ _ _ _ _ _ _; refine VK.mk vAuto ?_)
    | (show RS _ _ _ _ _ _ _ _; first | (refine nxRS ?_) | (refine nxRS1 fun _ => ?_))
    | (show RM _ _ _ _ _ _ _ _ _ _; first | (refine nxRM ?_) | (refine nxRM1 fun _ => ?_))
    | (show YG _ _ _ _ _ _ _ _; refine YG.mk (fun hb => by (try (have hc := And.left hb; have hb := And.right hb; rw [hc])); (try rw [hb]); first | exact (y_callA (q1) ⟨rfl, rfl⟩) | exact (y_callA (q2) ⟨rfl, rfl, rfl⟩) | exact (y_callA (q4) ⟨rfl, rfl, rfl⟩) | exact V.y vAuto) ?_)
    | (show VG _ _ _ _ _ _ _ _; refine VG.mk (fun hb => by (try (have hc := And.left hb; have hb := And.right hb; rw [hc])); (try rw [hb]); exact vAuto) ?_)
    | (refine G.mixedA 11 [.go 0, .go 1, .go 2, .go 3, .go 4, .go 5, .go 6] ?_)
    | (refine nxX ?_)
    | (refine G.condN rfl (fun hc => ?_) (fun hc => ?_) <;> (try first | exact False.elim hc | (exfalso; omega))))
    refine X.ret (vs := [_, _]) rfl ⟨rfl, rfl, rfl⟩ rfl (fun w hw => ⟨?_, hw.ext⟩)
    rw [wrap_top hs, hn']
    rfl
end Go.Proofs.YthilhhegchmjeaaGreat
/- The program's sines and cosines of arcs: the walks. -/
set_option linter.unusedVariables false
set_option maxHeartbeats 8000000
namespace Go.Proofs.YthilhhegchmjeaaGreat
open Go.RowKit
theorem tmod_turn (n : Int) : (0 ≤ n ∧ n.tmod 21600000 = n % 21600000) ∨ (n < 0 ∧ n.tmod 21600000 = -((-n) % 21600000)) := by
  by_cases h : n < 0
  · refine .inr ⟨h, ?_⟩
    have : n = -(-n) := by omega
    rw [this, Int.neg_tmod, Int.tmod_eq_emod_of_nonneg (by omega), Int.neg_neg]
  · exact .inl ⟨by omega, Int.tmod_eq_emod_of_nonneg (by omega)⟩
theorem turned_c {n : Int} (h : -4611686018427387904 ≤ n ∧ n ≤ 4611686018427387904) : Cont Tryz.prog 116 [.int .i64 n] (.int .i64 (TT.turnI n)) := fun w => by
  have ht := tmod_turn n
  have hb : -21600000 < n.tmod 21600000 ∧ n.tmod 21600000 < 21600000 := by omega
  refine enter0 Tryz.func116 rfl rfl rfl ?_
  repeat' (first
    | (refine nxV ?_)
    | (show RS _ _ _ _ _ _ _ _; first | (refine nxRS ?_) | (refine nxRS1 fun _ => ?_))
    | (show RM _ _ _ _ _ _ _ _ _ _; first | (refine nxRM ?_) | (refine nxRM1 fun _ => ?_))
    | (refine nxG ?_)
    | (refine nxX ?_)
    | (refine G.condN rfl (fun hc => ?_) (fun hc => ?_) <;> (try first | exact False.elim hc | (exfalso; omega))))
  all_goals refine X.ret (vs := [_]) rfl ⟨rfl, rfl⟩ rfl (fun w hw => ⟨congrArg Ending.returned (congrArg (Value.int .i64) ?_), hw.ext⟩)
  all_goals (unfold TT.turnI; omega)
theorem foldI_cases (m : Int) (h0 : 0 ≤ m) (h1 : m < 21600000) : 0 ≤ TT.foldI m ∧ TT.foldI m ≤ 5400000 := TT.foldI_bd h0 h1
theorem bounds_c {n : Int} (h : -4611686018427387904 ≤ n ∧ n ≤ 4611686018427387904) : Cont Tryz.prog 95 [.int .i64 n] (.tuple [.int .i64 (TT.bnd n).1, .int .i64 (TT.bnd n).2].toArray) := fun w => by
  have q1 := turned_c h
  obtain ⟨m0, m1⟩ := TT.turnI_bd n
  obtain ⟨f0, f1⟩ := TT.foldI_bd m0 m1
  have q2 := sine_c f0 f1
  obtain ⟨b0, b1, b2⟩ := TT.sinB_bd f0 f1
  unfold TT.bnd
  unfold TT.hiB at *
  have hf : TT.foldI (TT.turnI n) = if (if 10800000 < TT.turnI n then TT.turnI n - 10800000 else TT.turnI n) > 5400000 then 10800000 - (if 10800000 < TT.turnI n then TT.turnI n - 10800000 else TT.turnI n) else (if 10800000 < TT.turnI n then TT.turnI n - 10800000 else TT.turnI n) := rfl
  generalize TT.foldI (TT.turnI n) = f at *
  generalize TT.turnI n = m at *
  generalize TT.sinB f = sb at *
  obtain ⟨lo, ex⟩ := sb
  dsimp only at *
  by_cases c1 : 10800000 < m
  · rw [if_pos c1] at hf ⊢
    by_cases c2 : m - 10800000 > 5400000
    · rw [if_pos c2] at hf; subst hf
      cases ex <;> (
        refine enter0 Tryz.func95 rfl rfl rfl ?_
        repeat' (first
    | (show YK _ _ _ _ _ _ _; first | refine YK.mk (y_callA (q1) ⟨rfl, rfl⟩) ?_ | refine YK.mk (y_callA (q2) ⟨rfl, rfl⟩) ?_)
    | (show YK _ _ _ _ _ _ _; refine YK.ofV vAuto ?_)
    | (show VK _ _ _ _ _ _ _; refine VK.mk vAuto ?_)
    | (show RS _ _ _ _ _ _ _ _; first | (refine nxRS ?_) | (refine nxRS1 fun _ => ?_))
    | (show RM _ _ _ _ _ _ _ _ _ _; first | (refine nxRM ?_) | (refine nxRM1 fun _ => ?_))
    | (show YG _ _ _ _ _ _ _ _; refine YG.mk (fun hb => by (try (have hc := And.left hb; have hb := And.right hb; rw [hc])); (try rw [hb]); first | exact (y_callA (q1) ⟨rfl, rfl⟩) | exact (y_callA (q2) ⟨rfl, rfl⟩) | exact V.y vAuto) ?_)
    | (show VG _ _ _ _ _ _ _ _; refine VG.mk (fun hb => by (try (have hc := And.left hb; have hb := And.right hb; rw [hc])); (try rw [hb]); exact vAuto) ?_)
    | (refine nxX ?_)
    | (refine G.condN rfl (fun hc => ?_) (fun hc => ?_) <;> (try first | exact False.elim hc | (exfalso; omega))))
        exact X.ret (vs := [_, _]) rfl ⟨rfl, rfl, rfl⟩ rfl (fun w hw => ⟨rfl, hw.ext⟩))
    · rw [if_neg c2] at hf; subst hf
      cases ex <;> (
        refine enter0 Tryz.func95 rfl rfl rfl ?_
        repeat' (first
    | (show YK _ _ _ _ _ _ _; first | refine YK.mk (y_callA (q1) ⟨rfl, rfl⟩) ?_ | refine YK.mk (y_callA (q2) ⟨rfl, rfl⟩) ?_)
    | (show YK _ _ _ _ _ _ _; refine YK.ofV vAuto ?_)
    | (show VK _ _ _ _ _ _ _; refine VK.mk vAuto ?_)
    | (show RS _ _ _ _ _ _ _ _; first | (refine nxRS ?_) | (refine nxRS1 fun _ => ?_))
    | (show RM _ _ _ _ _ _ _ _ _ _; first | (refine nxRM ?_) | (refine nxRM1 fun _ => ?_))
    | (show YG _ _ _ _ _ _ _ _; refine YG.mk (fun hb => by (try (have hc := And.left hb; have hb := And.right hb; rw [hc])); (try rw [hb]); first | exact (y_callA (q1) ⟨rfl, rfl⟩) | exact (y_callA (q2) ⟨rfl, rfl⟩) | exact V.y vAuto) ?_)
    | (show VG _ _ _ _ _ _ _ _; refine VG.mk (fun hb => by (try (have hc := And.left hb; have hb := And.right hb; rw [hc])); (try rw [hb]); exact vAuto) ?_)
    | (refine nxX ?_)
    | (refine G.condN rfl (fun hc => ?_) (fun hc => ?_) <;> (try first | exact False.elim hc | (exfalso; omega))))
        exact X.ret (vs := [_, _]) rfl ⟨rfl, rfl, rfl⟩ rfl (fun w hw => ⟨rfl, hw.ext⟩))
  · rw [if_neg c1] at hf ⊢
    by_cases c2 : m > 5400000
    · rw [if_pos c2] at hf; subst hf
      cases ex <;> (
        refine enter0 Tryz.func95 rfl rfl rfl ?_
        repeat' (first
    | (show YK _ _ _ _ _ _ _; first | refine YK.mk (y_callA (q1) ⟨rfl, rfl⟩) ?_ | refine YK.mk (y_callA (q2) ⟨rfl, rfl⟩) ?_)
    | (show YK _ _ _ _ _ _ _; refine YK.ofV vAuto ?_)
    | (show VK _ _ _ _ _ _ _; refine VK.mk vAuto ?_)
    | (show RS _ _ _ _ _ _ _ _; first | (refine nxRS ?_) | (refine nxRS1 fun _ => ?_))
    | (show RM _ _ _ _ _ _ _ _ _ _; first | (refine nxRM ?_) | (refine nxRM1 fun _ => ?_))
    | (show YG _ _ _ _ _ _ _ _; refine YG.mk (fun hb => by (try (have hc := And.left hb; have hb := And.right hb; rw [hc])); (try rw [hb]); first | exact (y_callA (q1) ⟨rfl, rfl⟩) | exact (y_callA (q2) ⟨rfl, rfl⟩) | exact V.y vAuto) ?_)
    | (show VG _ _ _ _ _ _ _ _; refine VG.mk (fun hb => by (try (have hc := And.left hb; have hb := And.right hb; rw [hc])); (try rw [hb]); exact vAuto) ?_)
    | (refine nxX ?_)
    | (refine G.condN rfl (fun hc => ?_) (fun hc => ?_) <;> (try first | exact False.elim hc | (exfalso; omega))))
        exact X.ret (vs := [_, _]) rfl ⟨rfl, rfl, rfl⟩ rfl (fun w hw => ⟨rfl, hw.ext⟩))
    · rw [if_neg c2] at hf; subst hf
      cases ex <;> (
        refine enter0 Tryz.func95 rfl rfl rfl ?_
        repeat' (first
    | (show YK _ _ _ _ _ _ _; first | refine YK.mk (y_callA (q1) ⟨rfl, rfl⟩) ?_ | refine YK.mk (y_callA (q2) ⟨rfl, rfl⟩) ?_)
    | (show YK _ _ _ _ _ _ _; refine YK.ofV vAuto ?_)
    | (show VK _ _ _ _ _ _ _; refine VK.mk vAuto ?_)
    | (show RS _ _ _ _ _ _ _ _; first | (refine nxRS ?_) | (refine nxRS1 fun _ => ?_))
    | (show RM _ _ _ _ _ _ _ _ _ _; first | (refine nxRM ?_) | (refine nxRM1 fun _ => ?_))
    | (show YG _ _ _ _ _ _ _ _; refine YG.mk (fun hb => by (try (have hc := And.left hb; have hb := And.right hb; rw [hc])); (try rw [hb]); first | exact (y_callA (q1) ⟨rfl, rfl⟩) | exact (y_callA (q2) ⟨rfl, rfl⟩) | exact V.y vAuto) ?_)
    | (show VG _ _ _ _ _ _ _ _; refine VG.mk (fun hb => by (try (have hc := And.left hb; have hb := And.right hb; rw [hc])); (try rw [hb]); exact vAuto) ?_)
    | (refine nxX ?_)
    | (refine G.condN rfl (fun hc => ?_) (fun hc => ?_) <;> (try first | exact False.elim hc | (exfalso; omega))))
        exact X.ret (vs := [_, _]) rfl ⟨rfl, rfl, rfl⟩ rfl (fun w hw => ⟨rfl, hw.ext⟩))
abbrev arcV (lo hi : Int) : Value := .agg [.int .i64 lo, .int .i64 hi].toArray
theorem meets_c {lo hi n : Int} (h1 : -2305843009213693952 ≤ lo ∧ lo ≤ 2305843009213693952) (h2 : -2305843009213693952 ≤ hi ∧ hi ≤ 2305843009213693952) (h3 : 0 ≤ n ∧ n ≤ 21600000) : Cont Tryz.prog 96 [arcV lo hi, .int .i64 n] (.bool (TT.meetsI lo hi n)) := fun w => by
  have q1 := turned_c (n := n - lo) (by omega)
  refine enter0 Tryz.func96 rfl rfl rfl ?_
  repeat' (first
    | (show YK _ _ _ _ _ _ _; first | refine YK.mk (y_callA (q1) ⟨rfl, rfl⟩) ?_)
    | (show YK _ _ _ _ _ _ _; refine YK.ofV vAuto ?_)
    | (show VK _ _ _ _ _ _ _; refine VK.mk vAuto ?_)
    | (show RS _ _ _ _ _ _ _ _; first | (refine nxRS ?_) | (refine nxRS1 fun _ => ?_))
    | (show RM _ _ _ _ _ _ _ _ _ _; first | (refine nxRM ?_) | (refine nxRM1 fun _ => ?_))
    | (show YG _ _ _ _ _ _ _ _; refine YG.mk (fun hb => by (try (have hc := And.left hb; have hb := And.right hb; rw [hc])); (try rw [hb]); first | exact (y_callA (q1) ⟨rfl, rfl⟩) | exact V.y vAuto) ?_)
    | (show VG _ _ _ _ _ _ _ _; refine VG.mk (fun hb => by (try (have hc := And.left hb; have hb := And.right hb; rw [hc])); (try rw [hb]); exact vAuto) ?_)
    | (refine G.mixedA 1 [.go 0, .go 1, .go 2, .go 3, .go 5, .go 6, .go 7, .go 8, .go 9, .go 4, .go 10, .go 11] ?_)
    | (refine nxX ?_)
    | (refine G.condN rfl (fun hc => ?_) (fun hc => ?_) <;> (try first | exact False.elim hc | (exfalso; omega))))
  exact X.ret (vs := [_]) rfl ⟨rfl, rfl⟩ rfl (fun w hw => ⟨rfl, hw.ext⟩)
theorem encl_c {lo hi : Int} (h1 : -2305843009213693952 ≤ lo ∧ lo ≤ 2305843009213693952) (h2 : -2305843009213693952 ≤ hi ∧ hi ≤ 2305843009213693952) : Cont Tryz.prog 65 [arcV lo hi] (arcV (TT.encl lo hi).1 (TT.encl lo hi).2) := fun w => by
  have q1 := bounds_c (n := lo) (by omega)
  have q2 := bounds_c (n := hi) (by omega)
  have q3 := meets_c (n := 5400000) h1 h2 (by omega)
  have q4 := meets_c (n := 16200000) h1 h2 (by omega)
  unfold TT.encl
  generalize TT.bnd lo = x at *
  generalize TT.bnd hi = y at *
  refine enter0 Tryz.func65 rfl rfl rfl ?_
  repeat' (first
    | (show YK _ _ _ _ _ _ _; first | refine YK.mk (y_callA (q1) ⟨rfl, rfl⟩) ?_ | refine YK.mk (y_callA (q2) ⟨rfl, rfl⟩) ?_ | refine YK.mk (y_callA (q3) ⟨rfl, rfl, rfl⟩) ?_ | refine YK.mk (y_callA (q4) ⟨rfl, rfl, rfl⟩) ?_)
    | (show YK _ _ _ _ _ _ _; refine YK.ofV vAuto ?_)
    | (show VK _ _ _ _ _ _ _; refine VK.mk vAuto ?_)
    | (show RS _ _ _ _ _ _ _ _; first | (refine nxRS ?_) | (refine nxRS1 fun _ => ?_))
    | (show RM _ _ _ _ _ _ _ _ _ _; first | (refine nxRM ?_) | (refine nxRM1 fun _ => ?_))
    | (show YG _ _ _ _ _ _ _ _; refine YG.mk (fun hb => by (try (have hc := And.left hb; have hb := And.right hb; rw [hc])); (try rw [hb]); first | exact (y_callA (q1) ⟨rfl, rfl⟩) | exact (y_callA (q2) ⟨rfl, rfl⟩) | exact (y_callA (q3) ⟨rfl, rfl, rfl⟩) | exact (y_callA (q4) ⟨rfl, rfl, rfl⟩) | exact V.y vAuto) ?_)
    | (show VG _ _ _ _ _ _ _ _; refine VG.mk (fun hb => by (try (have hc := And.left hb; have hb := And.right hb; rw [hc])); (try rw [hb]); exact vAuto) ?_)
    | (refine nxX ?_)
    | (refine G.condN rfl (fun hc => ?_) (fun hc => ?_) <;> (try first | exact False.elim hc | (exfalso; omega))))
  all_goals (
    refine X.ret (vs := [_]) rfl ⟨⟨_, _, _, _, rfl, (by exact memA), (by (repeat (first | exact .nil | apply LenIs.cons))), by decide +kernel, rfl⟩, rfl⟩ rfl (fun w hw => ⟨?_, hw.ext⟩)
    dsimp only
    first
      | rw [if_pos (by assumption), if_pos (by assumption)]
      | rw [if_pos (by assumption), if_neg (ne_true_of_eq_false (by assumption))]
      | rw [if_neg (ne_true_of_eq_false (by assumption)), if_pos (by assumption)]
      | rw [if_neg (ne_true_of_eq_false (by assumption)), if_neg (ne_true_of_eq_false (by assumption))])
theorem further_c {lo hi : Int} (h1 : -2305843009213693952 ≤ lo ∧ lo ≤ 2305843009213693952) (h2 : -2305843009213693952 ≤ hi ∧ hi ≤ 2305843009213693952) : Cont Tryz.prog 66 [arcV lo hi] (arcV (lo + 5400000) (hi + 5400000)) := fun w => by
  refine enter0 Tryz.func66 rfl rfl rfl ?_
  repeat' (first
    | (refine nxV ?_)
    | (show RS _ _ _ _ _ _ _ _; first | (refine nxRS ?_) | (refine nxRS1 fun _ => ?_))
    | (show RM _ _ _ _ _ _ _ _ _ _; first | (refine nxRM ?_) | (refine nxRM1 fun _ => ?_))
    | (refine nxG ?_)
    | (refine nxX ?_)
    | (refine G.condN rfl (fun hc => ?_) (fun hc => ?_) <;> (try first | exact False.elim hc | (exfalso; omega))))
  exact X.ret (vs := [_]) rfl ⟨⟨_, _, _, _, rfl, (by exact memA), (by (repeat (first | exact .nil | apply LenIs.cons))), by decide +kernel, rfl⟩, rfl⟩ rfl (fun w hw => ⟨rfl, hw.ext⟩)
def validI (lo hi : Int) : Bool := decide (-1099511627776 ≤ lo) && decide (lo ≤ hi) && decide (hi ≤ 1099511627776)
theorem tvalid_c {lo hi : Int} : Cont Tryz.prog 64 [arcV lo hi] (.bool (validI lo hi)) := fun w => by
  unfold validI
  refine enter0 Tryz.func64 rfl rfl rfl ?_
  repeat' (first
    | (refine nxV ?_)
    | (show RS _ _ _ _ _ _ _ _; first | (refine nxRS ?_) | (refine nxRS1 fun _ => ?_))
    | (show RM _ _ _ _ _ _ _ _ _ _; first | (refine nxRM ?_) | (refine nxRM1 fun _ => ?_))
    | (refine nxG ?_)
    | (refine nxX ?_)
    | (refine G.condN rfl (fun hc => ?_) (fun hc => ?_) <;> (try first | exact False.elim hc | (exfalso; omega))))
  exact X.ret (vs := [_]) rfl ⟨rfl, rfl⟩ rfl (fun w hw => ⟨rfl, hw.ext⟩)
/-- The least enclosures of the sine and of the cosine over a valid arc. -/
theorem Sin_c {lo hi : Int} (h : validI lo hi = true) : Cont Tryz.prog 25 [arcV lo hi] (.tuple [arcV (TT.encl lo hi).1 (TT.encl lo hi).2, .int .i64 0].toArray) := fun w => by
  have q1 := tvalid_c (lo := lo) (hi := hi)
  rw [h] at q1
  simp only [validI, Bool.and_eq_true, decide_eq_true_eq] at h
  have q2 := encl_c (lo := lo) (hi := hi) (by omega) (by omega)
  refine enter0 Tryz.func25 rfl rfl rfl ?_
  repeat' (first
    | (show YK _ _ _ _ _ _ _; first | refine YK.mk (y_callA (q1) ⟨rfl, rfl⟩) ?_ | refine YK.mk (y_callA (q2) ⟨rfl, rfl⟩) ?_)
    | (show YK _ _ _ _ _ _ _; refine YK.ofV vAuto ?_)
    | (show VK _ _ _ _ _ _ _; refine VK.mk vAuto ?_)
    | (show RS _ _ _ _ _ _ _ _; first | (refine nxRS ?_) | (refine nxRS1 fun _ => ?_))
    | (show RM _ _ _ _ _ _ _ _ _ _; first | (refine nxRM ?_) | (refine nxRM1 fun _ => ?_))
    | (show YG _ _ _ _ _ _ _ _; refine YG.mk (fun hb => by (try (have hc := And.left hb; have hb := And.right hb; rw [hc])); (try rw [hb]); first | exact (y_callA (q1) ⟨rfl, rfl⟩) | exact (y_callA (q2) ⟨rfl, rfl⟩) | exact V.y vAuto) ?_)
    | (show VG _ _ _ _ _ _ _ _; refine VG.mk (fun hb => by (try (have hc := And.left hb; have hb := And.right hb; rw [hc])); (try rw [hb]); exact vAuto) ?_)
    | (refine nxX ?_)
    | (refine G.condN rfl (fun hc => ?_) (fun hc => ?_) <;> (try first | exact False.elim hc | (exfalso; omega))))
  exact X.ret (vs := [_, _]) rfl ⟨⟨_, _, _, _, rfl, (by exact memA), (by (repeat (first | exact .nil | apply LenIs.cons))), by decide +kernel, rfl⟩, rfl, rfl⟩ rfl (fun w hw => ⟨rfl, hw.ext⟩)
theorem Cos_c {lo hi : Int} (h : validI lo hi = true) : Cont Tryz.prog 26 [arcV lo hi] (.tuple [arcV (TT.cosE lo hi).1 (TT.cosE lo hi).2, .int .i64 0].toArray) := fun w => by
  have q1 := tvalid_c (lo := lo) (hi := hi)
  rw [h] at q1
  simp only [validI, Bool.and_eq_true, decide_eq_true_eq] at h
  have q2 := further_c (lo := lo) (hi := hi) (by omega) (by omega)
  have q3 := encl_c (lo := lo + 5400000) (hi := hi + 5400000) (by omega) (by omega)
  unfold TT.cosE
  refine enter0 Tryz.func26 rfl rfl rfl ?_
  repeat' (first
    | (show YK _ _ _ _ _ _ _; first | refine YK.mk (y_callA (q1) ⟨rfl, rfl⟩) ?_ | refine YK.mk (y_callA (q2) ⟨rfl, rfl⟩) ?_ | refine YK.mk (y_callA (q3) ⟨rfl, rfl⟩) ?_)
    | (show YK _ _ _ _ _ _ _; refine YK.ofV vAuto ?_)
    | (show VK _ _ _ _ _ _ _; refine VK.mk vAuto ?_)
    | (show RS _ _ _ _ _ _ _ _; first | (refine nxRS ?_) | (refine nxRS1 fun _ => ?_))
    | (show RM _ _ _ _ _ _ _ _ _ _; first | (refine nxRM ?_) | (refine nxRM1 fun _ => ?_))
    | (show YG _ _ _ _ _ _ _ _; refine YG.mk (fun hb => by (try (have hc := And.left hb; have hb := And.right hb; rw [hc])); (try rw [hb]); first | exact (y_callA (q1) ⟨rfl, rfl⟩) | exact (y_callA (q2) ⟨rfl, rfl⟩) | exact (y_callA (q3) ⟨rfl, rfl⟩) | exact V.y vAuto) ?_)
    | (show VG _ _ _ _ _ _ _ _; refine VG.mk (fun hb => by (try (have hc := And.left hb; have hb := And.right hb; rw [hc])); (try rw [hb]); exact vAuto) ?_)
    | (refine nxX ?_)
    | (refine G.condN rfl (fun hc => ?_) (fun hc => ?_) <;> (try first | exact False.elim hc | (exfalso; omega))))
  exact X.ret (vs := [_, _]) rfl ⟨⟨_, _, _, _, rfl, (by exact memA), (by (repeat (first | exact .nil | apply LenIs.cons))), by decide +kernel, rfl⟩, rfl, rfl⟩ rfl (fun w hw => ⟨rfl, hw.ext⟩)
end Go.Proofs.YthilhhegchmjeaaGreat
