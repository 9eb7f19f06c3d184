/- The chronometer's functions. -/
import Derived.Test.YtaglecidaedjfaaDoorBits
import Derived.Test.YtaglecidaedjfaaDoorRatio
set_option linter.unusedVariables false
set_option maxHeartbeats 4000000
namespace Go.Proofs.YtaglecidaedjfaaDoor
open Go.RowKit

structure Chk where
  face : Int
  ut : Int
  within : Int
  deriving Inhabited
abbrev cC (c : Chk) : List Value := [.int .i64 c.face, .int .i64 c.ut, .int .i64 c.within]
abbrev chkV (c : Chk) : Value := .agg [.int .i64 c.face, .int .i64 c.ut, .int .i64 c.within].toArray
def timeB (n : Int) : Bool := decide (-70368744177664 ≤ n) && decide (n ≤ 70368744177664)
theorem timeB_iff {n : Int} : timeB n = true ↔ -70368744177664 ≤ n ∧ n ≤ 70368744177664 := by simp [timeB]
theorem ranges_c (n : Int) : Cont Tryd.prog 84 [.int .i64 n] (.bool (timeB n)) := fun w => by
  refine enter0 Tryd.func84 rfl rfl rfl ?_
  repeat' (first
    | (refine nxV ?_)
    | (show RS _ _ _ _ _ _ _ _; first | (refine nxRS ?_) | (refine nxRS1 fun _ => ?_))
    | (show RM _ _ _ _ _ _ _ _ _ _; first | (refine nxRM ?_) | (refine nxRM1 fun _ => ?_))
    | (refine nxG ?_)
    | (refine nxX ?_)
    | (refine G.condN rfl (fun hc => ?_) (fun hc => ?_) <;> (try first | exact False.elim hc | (exfalso; omega))))
  exact X.ret (vs := [_]) rfl ⟨rfl, rfl⟩ rfl (fun w hw => ⟨rfl, hw.ext⟩)
theorem slow_c {c : Chk} (h : -9223372036854775808 ≤ c.face - c.ut ∧ c.face - c.ut ≤ 9223372036854775807) : Cont Tryd.prog 80 [chkV c] (.int .i64 (c.face - c.ut)) := fun w => by
  refine enter0 Tryd.func80 rfl rfl rfl ?_
  repeat' (first
    | (refine nxV ?_)
    | (show RS _ _ _ _ _ _ _ _; first | (refine nxRS ?_) | (refine nxRS1 fun _ => ?_))
    | (show RM _ _ _ _ _ _ _ _ _ _; first | (refine nxRM ?_) | (refine nxRM1 fun _ => ?_))
    | (refine nxG ?_)
    | (refine nxX ?_)
    | (refine G.condN rfl (fun hc => ?_) (fun hc => ?_) <;> (try first | exact False.elim hc | (exfalso; omega))))
  exact X.ret (vs := [_]) rfl ⟨rfl, rfl⟩ rfl (fun w hw => ⟨rfl, hw.ext⟩)
theorem far_c {a b : Int} (h : (-9223372036854775808 ≤ a - b ∧ a - b ≤ 9223372036854775807) ∧ -9223372036854775808 ≤ b - a ∧ b - a ≤ 9223372036854775807) : Cont Tryd.prog 85 [.int .i64 a, .int .i64 b] (.int .i64 (max (a - b) (b - a))) := fun w => by
  refine enter0 Tryd.func85 rfl rfl rfl ?_
  repeat' (first
    | (refine nxV ?_)
    | (show RS _ _ _ _ _ _ _ _; first | (refine nxRS ?_) | (refine nxRS1 fun _ => ?_))
    | (show RM _ _ _ _ _ _ _ _ _ _; first | (refine nxRM ?_) | (refine nxRM1 fun _ => ?_))
    | (refine nxG ?_)
    | (refine nxX ?_)
    | (refine G.condN rfl (fun hc => ?_) (fun hc => ?_) <;> (try first | exact False.elim hc | (exfalso; omega))))
  exact X.ret (vs := [_]) rfl ⟨rfl, rfl⟩ rfl (fun w hw => ⟨rfl, hw.ext⟩)
def driftB (n d : Int) : Bool := validF n d && decide (0 ≤ n)
theorem drifts_c {n d : Int} (h : (-9223372036854775808 ≤ n ∧ n ≤ 9223372036854775807) ∧ -9223372036854775808 ≤ d ∧ d ≤ 9223372036854775807) : Cont Tryd.prog 83 [fracV n d] (.bool (driftB n d)) := fun w => by
  refine enter0 Tryd.func83 rfl rfl rfl ?_
  repeat' (first
    | (show YK _ _ _ _ _ _ _; first | refine YK.mk (y_callP rvalid_c ⟨rfl, rfl⟩) ?_)
    | (show YK _ _ _ _ _ _ _; refine YK.ofV vAuto ?_)
    | (show VK _ _ _ _ _ _ _; refine VK.mk vAuto ?_)
    | (show RS _ _ _ _ _ _ _ _; first | (refine nxRS ?_) | (refine nxRS1 fun _ => ?_))
    | (show RM _ _ _ _ _ _ _ _ _ _; first | (refine nxRM ?_) | (refine nxRM1 fun _ => ?_))
    | (show YG _ _ _ _ _ _ _ _; refine YG.mk (fun hb => by (try (have hc := And.left hb; have hb := And.right hb; rw [hc])); (try rw [hb]); first | exact (y_callP rvalid_c ⟨rfl, rfl⟩) | exact V.y vAuto) ?_)
    | (show VG _ _ _ _ _ _ _ _; refine VG.mk (fun hb => by (try (have hc := And.left hb; have hb := And.right hb; rw [hc])); (try rw [hb]); exact vAuto) ?_)
    | (refine nxX ?_)
    | (refine G.condN rfl (fun hc => ?_) (fun hc => ?_) <;> (try first | exact False.elim hc | (exfalso; omega))))
  exact X.ret (vs := [_]) rfl ⟨rfl, rfl⟩ rfl (fun w hw => ⟨rfl, hw.ext⟩)
/-- One comparison is fine behind the one before it. -/
def okB (l : List Chk) (i : Int) : Bool := timeB (nth l i).face && timeB (nth l i).ut && decide (0 ≤ (nth l i).within) && decide ((nth l i).within ≤ 86400000) && (decide (i ≤ 0) || (decide ((nth l (i - 1)).face < (nth l i).face) && decide ((nth l (i - 1)).ut < (nth l i).ut)))
def validC (l : List Chk) : Bool := decide (1 ≤ l.length) && decide (l.length ≤ 1000) && (List.range l.length).all fun i => okB l i
theorem validC_iff {l : List Chk} : validC l = true ↔ (1 ≤ l.length ∧ l.length ≤ 1000) ∧ ∀ i : Int, 0 ≤ i → i < l.length → okB l i = true := by
  unfold validC
  simp only [Bool.and_eq_true, decide_eq_true_eq, List.all_eq_true, List.mem_range]
  refine and_congr_right fun _ => ⟨fun h i h0 h1 => ?_, fun h i hi => h i (by omega) (by omega)⟩
  have := h i.toNat (by omega)
  rwa [Int.toNat_of_nonneg h0] at this
theorem validC_false {l : List Chk} {i : Int} (h0 : 0 ≤ i) (h1 : i < l.length) (h : okB l i = false) : validC l = false := by
  rw [Bool.eq_false_iff]
  intro hv
  rw [(validC_iff.1 hv).2 i h0 h1] at h
  cases h
theorem validC_len {l : List Chk} (h : l.length < 1 ∨ 1000 < l.length) : validC l = false := by
  rw [Bool.eq_false_iff]
  intro hv
  have := (validC_iff.1 hv).1
  omega
theorem cvalid_c (v : Value) (l : List Chk) (hl : l.length ≤ 1000000) : ContR Tryd.prog [Hl.rd v cC 3 l] 55 [v] (.bool (validC l)) := fun w hw0 => by
  refine enter Tryd.func55 rfl rfl rfl hw0 ?_
  repeat' (first
    | (show YK _ _ _ _ _ _ _; first | refine YK.mk (y_callA (ranges_c _) ⟨rfl, rfl⟩) ?_)
    | (show YK _ _ _ _ _ _ _; refine YK.ofV vAuto ?_)
    | (show VK _ _ _ _ _ _ _; refine VK.mk vAuto ?_)
    | (show RS _ _ _ _ _ _ _ _; first | (refine nxRS ?_) | (refine nxRS1 fun _ => ?_))
    | (show RM _ _ _ _ _ _ _ _ _ _; first | (refine nxRM ?_) | (refine nxRM1 fun _ => ?_))
    | (show YG _ _ _ _ _ _ _ _; refine YG.mk (fun hb => by (try (have hc := And.left hb; have hb := And.right hb; rw [hc])); (try rw [hb]); first | exact (y_callA (ranges_c _) ⟨rfl, rfl⟩) | exact V.y vAuto) ?_)
    | (show VG _ _ _ _ _ _ _ _; refine VG.mk (fun hb => by (try (have hc := And.left hb; have hb := And.right hb; rw [hc])); (try rw [hb]); exact vAuto) ?_)
    | (refine G.mixedA 6 [.go 0, .go 1, .go 2, .go 3, .go 4, .go 5, .go 6, .go 7, .go 8, .go 9, .go 10, .go 11, .go 12, .go 13, .go 14, .go 15, .go 16, .go 17, .go 18, .go 19, .go 20, .go 21, .go 22, .go 23, .go 24, .go 25, .go 26, .go 27, .go 28, .go 29, .go 30, .go 31, .go 32, .go 33, .go 34, .go 35, .go 36, .go 37, .go 38, .go 39, .go 40, .go 41, .go 42, .go 43, .go 44, .go 45] ?_)
    | (refine nxX ?_)
    | (refine G.condN rfl (fun hc => ?_) (fun hc => ?_) <;> (try first | exact False.elim hc | (exfalso; omega))))
  · exact X.ret (vs := [_]) rfl ⟨rfl, rfl⟩ rfl (fun w hw => ⟨ret_bool ((validC_len (by omega)).symm), hw.ext⟩)
  refine G.loop (ι := Int) (fun i => [(0, v), (13, v), (14, .int .i64 l.length), (15, .int .i64 i)]) (fun _ => [Hl.rd v cC 3 l]) (fun i => 0 ≤ i ∧ i ≤ l.length ∧ ∀ j : Int, 0 ≤ j → j < i → okB l j = true) (fun i => (l.length - i).toNat) 0 ⟨by omega, by omega, fun j h1 h2 => by omega⟩ ⟨rfl, rfl, rfl, rfl, trivial⟩ (fun w h => h) ?_
  rintro i mx ⟨h1, h2, h3⟩ hmx
  repeat' (first
    | (show YK _ _ _ _ _ _ _; first | refine YK.mk (y_callA (ranges_c _) ⟨rfl, rfl⟩) ?_)
    | (show YK _ _ _ _ _ _ _; refine YK.ofV vAuto ?_)
    | (show VK _ _ _ _ _ _ _; refine VK.mk vAuto ?_)
    | (show RS _ _ _ _ _ _ _ _; first | (refine nxRS ?_) | (refine nxRS1 fun _ => ?_))
    | (show RM _ _ _ _ _ _ _ _ _ _; first | (refine nxRM ?_) | (refine nxRM1 fun _ => ?_))
    | (show YG _ _ _ _ _ _ _ _; refine YG.mk (fun hb => by (try (have hc := And.left hb; have hb := And.right hb; rw [hc])); (try rw [hb]); first | exact (y_callA (ranges_c _) ⟨rfl, rfl⟩) | exact V.y vAuto) ?_)
    | (show VG _ _ _ _ _ _ _ _; refine VG.mk (fun hb => by (try (have hc := And.left hb; have hb := And.right hb; rw [hc])); (try rw [hb]); exact vAuto) ?_)
    | (refine G.mixedA 6 [.go 0, .go 1, .go 2, .go 3, .go 4, .go 5, .go 6, .go 7, .go 8, .go 9, .go 10, .go 11, .go 12, .go 13, .go 14, .go 15, .go 16, .go 17, .go 18, .go 19, .go 20, .go 21, .go 22, .go 23, .go 24, .go 25, .go 26, .go 27, .go 28, .go 29, .go 30, .go 31, .go 32, .go 33, .go 34, .go 35, .go 36, .go 37, .go 38, .go 39, .go 40, .go 41, .go 42, .go 43, .go 44, .go 45] ?_)
    | (refine nxX ?_)
    | (refine G.condN rfl (fun hc => ?_) (fun hc => ?_) <;> (try first | exact False.elim hc | (exfalso; omega))))
  · rename_i _ b
    have e : okB l i = false := by
      rw [Bool.eq_false_iff]
      intro hv
      simp only [okB, Bool.and_eq_true, Bool.or_eq_true, decide_eq_true_eq] at hv
      simp [hv.1.1.1.1, hv.1.1.1.2] at hc
      omega
    exact X.ret (vs := [_]) rfl ⟨rfl, rfl⟩ rfl (fun w hw => ⟨ret_bool (validC_false h1 (by assumption) e).symm, hw.ext⟩)
  · have e : okB l i = true := by
      simp only [okB, Bool.and_eq_true, Bool.or_eq_true, decide_eq_true_eq]
      obtain ⟨⟨⟨⟨g1, g2⟩, g3⟩, g4⟩, g5⟩ := hc
      refine ⟨⟨⟨⟨g1, g2⟩, by omega⟩, by omega⟩, by omega⟩
    refine X.again (i + 1) ⟨by omega, by omega, fun j j1 j2 => ?_⟩ (by omega) ⟨rfl, rfl, rfl, rfl, trivial⟩ (by exact fun w h => h.sub (by repeat (first | exact List.Sublist.refl _ | apply List.Sublist.cons_cons | apply List.Sublist.cons)))
    rcases Int.lt_or_eq_of_le (show j ≤ i by omega) with h | h
    · exact h3 j j1 h
    · rw [h]; exact e
  · exact X.ret (vs := [_]) rfl ⟨rfl, rfl⟩ rfl (fun w hw => ⟨ret_bool (validC_iff.2 ⟨by omega, fun j j1 j2 => h3 j j1 (by omega)⟩).symm, hw.ext⟩)
theorem max_natAbs (a : Int) : max a (-a) = a.natAbs := by omega
/-- allows: the difference's share of the drift. -/
def allowB (n d df t : Int) : Bool := decide (df ≤ 0) || decide (df * (d * 86400000) ≤ n * t)
theorem allows_c {n d df t : Int} (h : (0 ≤ n ∧ n ≤ 1073741824) ∧ (1 ≤ d ∧ d ≤ 1073741824) ∧ df ≤ 4611686018427387904 ∧ -9223372036854775808 ≤ df ∧ 0 ≤ t ∧ t ≤ 4611686018427387904) : Cont Tryd.prog 86 [fracV n d, .int .i64 df, .int .i64 t] (.bool (allowB n d df t)) := fun w => by
  obtain ⟨⟨h1, h2⟩, ⟨h3, h4⟩, h5, h6, h7, h8⟩ := h
  refine enter0 Tryd.func86 rfl rfl rfl ?_
  repeat' (first
    | (show YK _ _ _ _ _ _ _; first | refine YK.mk (y_callP mul64_c ⟨rfl, rfl, rfl⟩) ?_)
    | (show YK _ _ _ _ _ _ _; refine YK.ofV vAuto ?_)
    | (show VK _ _ _ _ _ _ _; refine VK.mk vAuto ?_)
    | (show RS _ _ _ _ _ _ _ _; first | (refine nxRS ?_) | (refine nxRS1 fun _ => ?_))
    | (show RM _ _ _ _ _ _ _ _ _ _; first | (refine nxRM ?_) | (refine nxRM1 fun _ => ?_))
    | (show YG _ _ _ _ _ _ _ _; refine YG.mk (fun hb => by (try (have hc := And.left hb; have hb := And.right hb; rw [hc])); (try rw [hb]); first | exact (y_callP mul64_c ⟨rfl, rfl, rfl⟩) | exact V.y vAuto) ?_)
    | (show VG _ _ _ _ _ _ _ _; refine VG.mk (fun hb => by (try (have hc := And.left hb; have hb := And.right hb; rw [hc])); (try rw [hb]); exact vAuto) ?_)
    | (refine nxX ?_)
    | (refine G.condN rfl (fun hc => ?_) (fun hc => ?_) <;> (try first | exact False.elim hc | (exfalso; omega))))
  · exact X.ret (vs := [_]) rfl ⟨rfl, rfl⟩ rfl (fun w hw => ⟨ret_bool (by unfold allowB; rw [decide_eq_true hc]; rfl), hw.ext⟩)
  · refine X.ret (vs := [_]) rfl ⟨rfl, rfl⟩ rfl (fun w hw => ⟨ret_bool ?_, hw.ext⟩)
    unfold allowB
    rw [decide_eq_false (show ¬ df ≤ 0 by omega), Bool.false_or]
    have hx : 0 ≤ df * (d * 86400000) := Int.mul_nonneg (by omega) (by omega)
    have hy : 0 ≤ n * t := Int.mul_nonneg h1 h7
    generalize df * (d * 86400000) = X at *
    generalize n * t = Y at *
    rw [Bool.eq_iff_iff]
    simp only [Bool.or_eq_true, Bool.and_eq_true, decide_eq_true_eq]
    omega
theorem mul_le_big {n t a b : Int} (h1 : 0 ≤ n) (h2 : n ≤ a) (h3 : 0 ≤ t) (h4 : t ≤ b) : n * t ≤ a * b := Int.mul_le_mul h2 h4 h3 (by omega)
theorem ceil_zero {X E : Int} (hE : 0 < E) (h : X % E = 0) : -(-X / E) = X / E := by
  have h1 := Int.emod_add_mul_ediv X E
  have : -X / E = -(X / E) := ((Int.ediv_emod_unique hE).2 ⟨show 0 + E * -(X / E) = -X by rw [Int.mul_neg]; omega, Int.le_refl _, hE⟩).1
  omega
theorem ceil_pos {X E : Int} (hE : 0 < E) (h : 0 < X % E) : -(-X / E) = X / E + 1 := by
  have h1 := Int.emod_add_mul_ediv X E
  have h2 := Int.emod_lt_of_pos X hE
  have : -X / E = -(X / E) - 1 := ((Int.ediv_emod_unique hE).2 ⟨show E - X % E + E * (-(X / E) - 1) = -X by rw [Int.mul_sub, Int.mul_neg]; omega, by omega, by omega⟩).1
  omega
theorem drifted_c {n d t : Int} (h : (0 ≤ n ∧ n ≤ 1073741824) ∧ (1 ≤ d ∧ d ≤ 1073741824) ∧ 0 ≤ t ∧ t ≤ 1125899906842624) : Cont Tryd.prog 87 [fracV n d, .int .i64 t] (.int .i64 (-(-(n * t) / (d * 86400000)))) := fun w => by
  obtain ⟨⟨h1, h2⟩, ⟨h3, h4⟩, h7, h8⟩ := h
  have hb := mul_le_big h1 h2 h7 h8
  have hy : 0 ≤ n * t := Int.mul_nonneg h1 h7
  have hq : n * t / 18446744073709551616 ≤ 65536 := by omega
  have eX : n * t / 18446744073709551616 * 18446744073709551616 + n * t % 18446744073709551616 = n * t := by omega
  have hD : 86400000 ≤ d * 86400000 := by omega
  have hqq : 0 ≤ n * t / (d * 86400000) ∧ n * t / (d * 86400000) ≤ 1152921504606846976 := by
    refine ⟨Int.ediv_nonneg hy (by omega), ?_⟩
    exact Int.ediv_le_of_le_mul (by omega) (by omega)
  rw [← eX] at hqq
  refine enter0 Tryd.func87 rfl rfl rfl ?_
  repeat' (first
    | (show YK _ _ _ _ _ _ _; first | refine YK.mk (y_callP mul64_c ⟨rfl, rfl, rfl⟩) ?_ | refine YK.mk (y_callP div64_c ⟨rfl, rfl, rfl, rfl⟩) ?_)
    | (show YK _ _ _ _ _ _ _; refine YK.ofV vAuto ?_)
    | (show VK _ _ _ _ _ _ _; refine VK.mk vAuto ?_)
    | (show RS _ _ _ _ _ _ _ _; first | (refine nxRS ?_) | (refine nxRS1 fun _ => ?_))
    | (show RM _ _ _ _ _ _ _ _ _ _; first | (refine nxRM ?_) | (refine nxRM1 fun _ => ?_))
    | (show YG _ _ _ _ _ _ _ _; refine YG.mk (fun hb => by (try (have hc := And.left hb; have hb := And.right hb; rw [hc])); (try rw [hb]); first | exact (y_callP mul64_c ⟨rfl, rfl, rfl⟩) | exact (y_callP div64_c ⟨rfl, rfl, rfl, rfl⟩) | exact V.y vAuto) ?_)
    | (show VG _ _ _ _ _ _ _ _; refine VG.mk (fun hb => by (try (have hc := And.left hb; have hb := And.right hb; rw [hc])); (try rw [hb]); exact vAuto) ?_)
    | (refine nxX ?_)
    | (refine G.condN rfl (fun hc => ?_) (fun hc => ?_) <;> (try first | exact False.elim hc | (exfalso; omega))))
  · rw [eX] at hc
    exact X.ret (vs := [_]) rfl ⟨rfl, rfl⟩ rfl (fun w hw => ⟨ret_int (by rw [eX, ceil_pos (by omega) hc]), hw.ext⟩)
  · rw [eX] at hc
    exact X.ret (vs := [_]) rfl ⟨rfl, rfl⟩ rfl (fun w hw => ⟨ret_int (by rw [eX, ceil_zero (by omega) (by have := Int.emod_nonneg (n * t) (show d * 86400000 ≠ 0 by omega); omega)]), hw.ext⟩)
/-- change * 1000 days over a time, rounded down: what multiple gives. -/
def kF (c t : Int) : Int := c * 86400000000 / t
theorem kF_neg {c t : Int} : - -(-(-c * 86400000000) / t) = kF c t := by rw [Int.neg_neg, Int.neg_mul, Int.neg_neg]; rfl
theorem multiple_c {c t : Int} (h : (-4611686018427387904 ≤ c ∧ c ≤ 4611686018427387904) ∧ 0 < t ∧ t ≤ 4611686018427387904) : Cont Tryd.prog 81 [.int .i64 c, .int .i64 t] (bif decide (1152921504606846976 < (c.natAbs : Int) * 86400000000 / t) then .tuple [.int .i64 0, .bool false].toArray else .tuple [.int .i64 (kF c t), .bool true].toArray) := fun w => by
  obtain ⟨⟨h1, h2⟩, h3, h4⟩ := h
  have hm := max_natAbs c
  have eX : max c (-c) * 86400000000 / 18446744073709551616 * 18446744073709551616 + max c (-c) * 86400000000 % 18446744073709551616 = max c (-c) * 86400000000 := by omega
  have hq0 : 0 ≤ max c (-c) * 86400000000 / t := Int.ediv_nonneg (by omega) (by omega)
  rw [← hm]
  rw [← eX] at hq0
  refine enter0 Tryd.func81 rfl rfl rfl ?_
  repeat' (first
    | (show YK _ _ _ _ _ _ _; first | refine YK.mk (y_callP mul64_c ⟨rfl, rfl, rfl⟩) ?_ | refine YK.mk (y_callP div64_c ⟨rfl, rfl, rfl, rfl⟩) ?_)
    | (show YK _ _ _ _ _ _ _; refine YK.ofV vAuto ?_)
    | (show VK _ _ _ _ _ _ _; refine VK.mk vAuto ?_)
    | (show RS _ _ _ _ _ _ _ _; first | (refine nxRS ?_) | (refine nxRS1 fun _ => ?_))
    | (show RM _ _ _ _ _ _ _ _ _ _; first | (refine nxRM ?_) | (refine nxRM1 fun _ => ?_))
    | (show YG _ _ _ _ _ _ _ _; refine YG.mk (fun hb => by (try (have hc := And.left hb; have hb := And.right hb; rw [hc])); (try rw [hb]); first | exact (y_callP mul64_c ⟨rfl, rfl, rfl⟩) | exact (y_callP div64_c ⟨rfl, rfl, rfl, rfl⟩) | exact V.y vAuto) ?_)
    | (show VG _ _ _ _ _ _ _ _; refine VG.mk (fun hb => by (try (have hc := And.left hb; have hb := And.right hb; rw [hc])); (try rw [hb]); exact vAuto) ?_)
    | (refine nxX ?_)
    | (refine G.condN rfl (fun hc => ?_) (fun hc => ?_) <;> (try first | exact False.elim hc | (exfalso; omega))))
  · have h5 : 2305843009213693952 ≤ max c (-c) * 86400000000 / t := Int.le_ediv_of_mul_le h3 (by omega)
    exact X.ret (vs := [_, _]) rfl ⟨rfl, rfl, rfl⟩ rfl (fun w hw => ⟨by rw [decide_eq_true (show 1152921504606846976 < max c (-c) * 86400000000 / t by omega)]; rfl, hw.ext⟩)
  · rw [eX] at hc
    exact X.ret (vs := [_, _]) rfl ⟨rfl, rfl, rfl⟩ rfl (fun w hw => ⟨by rw [decide_eq_true hc]; rfl, hw.ext⟩)
  · rename_i h5
    rw [eX] at h5
    refine X.ret (vs := [_, _]) rfl ⟨rfl, rfl, rfl⟩ rfl (fun w hw => ⟨?_, hw.ext⟩)
    rw [decide_eq_false (show ¬ 1152921504606846976 < max c (-c) * 86400000000 / t by omega), eX, show max c (-c) = c by omega]
    rfl
  · rename_i h5 _
    rw [eX] at h5 hc
    refine X.ret (vs := [_, _]) rfl ⟨rfl, rfl, rfl⟩ rfl (fun w hw => ⟨?_, hw.ext⟩)
    have h6 := ceil_pos h3 hc
    rw [decide_eq_false (show ¬ 1152921504606846976 < max c (-c) * 86400000000 / t by omega), eX, ← h6, show max c (-c) = -c by omega, kF_neg]
    rfl
  · rename_i h5 _
    rw [eX] at h5 hc
    refine X.ret (vs := [_, _]) rfl ⟨rfl, rfl, rfl⟩ rfl (fun w hw => ⟨?_, hw.ext⟩)
    have h6 := ceil_zero h3 (show max c (-c) * 86400000000 % t = 0 by have := Int.emod_nonneg (max c (-c) * 86400000000) (show t ≠ 0 by omega); omega)
    rw [decide_eq_false (show ¬ 1152921504606846976 < max c (-c) * 86400000000 / t by omega), eX, ← h6, show max c (-c) = -c by omega, kF_neg]
    rfl
end Go.Proofs.YtaglecidaedjfaaDoor
