/- The chronometer's Rate. -/
import Derived.Test.YtaglecidaedjfaaDoorChron
set_option linter.unusedVariables false
set_option maxHeartbeats 4000000
namespace Go.Proofs.YtaglecidaedjfaaDoor
open Go.RowKit

theorem valid_at {l : List Chk} (hv : validC l = true) {i : Int} (h0 : 0 ≤ i) (h1 : i < l.length) : (-70368744177664 ≤ (nth l i).face ∧ (nth l i).face ≤ 70368744177664) ∧ (-70368744177664 ≤ (nth l i).ut ∧ (nth l i).ut ≤ 70368744177664) ∧ 0 ≤ (nth l i).within ∧ (nth l i).within ≤ 86400000 := by
  have h := (validC_iff.1 hv).2 i h0 h1
  simp only [okB, timeB, Bool.and_eq_true, Bool.or_eq_true, decide_eq_true_eq] at h
  omega
theorem valid_step {l : List Chk} (hv : validC l = true) {i : Int} (h0 : 0 < i) (h1 : i < l.length) : (nth l (i - 1)).face < (nth l i).face ∧ (nth l (i - 1)).ut < (nth l i).ut := by
  have h := (validC_iff.1 hv).2 i (by omega) h1
  simp only [okB, timeB, Bool.and_eq_true, Bool.or_eq_true, decide_eq_true_eq] at h
  omega
theorem valid_mono {l : List Chk} (hv : validC l = true) {i : Int} (h0 : 0 ≤ i) : ∀ k : Nat, i + k + 1 < l.length → (nth l i).face < (nth l (i + k + 1)).face ∧ (nth l i).ut < (nth l (i + k + 1)).ut
  | 0, h => by
    have := valid_step hv (i := i + 1) (by omega) (by omega)
    simpa using this
  | k + 1, h => by
    have h1 := valid_mono hv h0 k (by omega)
    have h2 := valid_step hv (i := i + (k + 1 : Nat) + 1) (by omega) h
    rw [show i + ((k + 1 : Nat) : Int) + 1 - 1 = i + k + 1 by omega] at h2
    omega
theorem valid_lt {l : List Chk} (hv : validC l = true) {i j : Int} (h0 : 0 ≤ i) (hij : i < j) (h1 : j < l.length) : (nth l i).face < (nth l j).face ∧ (nth l i).ut < (nth l j).ut := by
  have := valid_mono hv h0 (j - i - 1).toNat (by omega)
  rwa [show i + ((j - i - 1).toNat : Int) + 1 = j by omega] at this
abbrev rateV (r : ((Int × Int) × Int × Int) × Int) : Value := .tuple [fracV r.1.1.1 r.1.1.2, fracV r.1.2.1 r.1.2.2, .int .i64 r.2].toArray
/-- What Rate returns. -/
def rateS (l : List Chk) : ((Int × Int) × Int × Int) × Int :=
  if validC l = false then (((0, 0), 0, 0), 1) else
  if l.length = 1 then (((0, 0), 0, 0), 3) else
  let a := nth l 0
  let b := nth l (l.length - 1)
  let mid := b.face - b.ut - (a.face - a.ut)
  let wide := a.within + b.within
  let t := b.face - a.face
  let x := makeF (kF (mid - wide) t) 1000
  let y := makeF (-kF (-mid - wide) t) 1000
  if x.2 ≠ 0 ∨ y.2 ≠ 0 then (((0, 0), 0, 0), 5) else ((x.1, y.1), 0)
theorem makeF_big {k : Int} (h : 1152921504606846976 ≤ (k.natAbs : Int)) : makeF k 1000 = ((0, 0), 5) := by
  have hg := gcd_pos' (n := k) (d := 1000) (by decide)
  have hg2 : Int.gcd k 1000 ≤ 1000 := Nat.le_of_dvd (by decide) (Nat.gcd_dvd_right k.natAbs 1000)
  have h1 : 1152921504606846 ≤ k.natAbs / Int.gcd k 1000 := by
    refine (Nat.le_div_iff_mul_le hg).2 ?_
    have := Nat.mul_le_mul_left 1152921504606846 hg2
    omega
  unfold makeF
  rw [if_neg (by decide)]; dsimp only
  rw [if_pos (.inl (by omega))]
theorem kF_abs {c t : Int} (ht : 0 < t) : (c.natAbs : Int) * 86400000000 / t ≤ ((kF c t).natAbs : Int) := by
  unfold kF
  rcases Int.lt_or_le c 0 with h | h
  · have e : (c.natAbs : Int) = -c := by omega
    have h1 := Int.emod_add_mul_ediv (c * 86400000000) t
    have h2 := Int.emod_nonneg (c * 86400000000) (show t ≠ 0 by omega)
    have h3 : (c.natAbs : Int) * 86400000000 / t ≤ -(c * 86400000000 / t) := by
      refine Int.ediv_le_of_le_mul ht ?_
      rw [Int.mul_comm t] at h1
      rw [e, Int.neg_mul, Int.neg_mul]
      omega
    omega
  · have e : (c.natAbs : Int) = c := by omega
    rw [e]
    omega
theorem kF_small {c t : Int} (ht : 0 < t) (h : ¬ 1152921504606846976 < (c.natAbs : Int) * 86400000000 / t) : -1152921504606846977 ≤ kF c t ∧ kF c t ≤ 1152921504606846976 := by
  have hn : 0 ≤ (c.natAbs : Int) * 86400000000 / t := Int.ediv_nonneg (by omega) (by omega)
  rcases Int.lt_or_le c 0 with hc | hc
  · have e : (c.natAbs : Int) = -c := by omega
    have h4 := @kF_neg c t
    rw [e] at h hn
    rcases Int.lt_or_eq_of_le (Int.emod_nonneg (-c * 86400000000) (show t ≠ 0 by omega)) with h5 | h5
    · rw [ceil_pos ht h5] at h4; omega
    · rw [ceil_zero ht h5.symm] at h4; omega
  · have e : (c.natAbs : Int) = c := by omega
    rw [e] at h hn
    unfold kF; omega
theorem multiple_ok {c t : Int} (h : ((-4611686018427387904 ≤ c ∧ c ≤ 4611686018427387904) ∧ 0 < t ∧ t ≤ 4611686018427387904) ∧ ¬ 1152921504606846976 < (c.natAbs : Int) * 86400000000 / t) : Cont Tryd.prog 81 [.int .i64 c, .int .i64 t] (.tuple [.int .i64 (kF c t), .bool true].toArray) := by
  have := multiple_c h.1
  rwa [decide_eq_false h.2] at this
theorem multiple_big {c t : Int} (h : ((-4611686018427387904 ≤ c ∧ c ≤ 4611686018427387904) ∧ 0 < t ∧ t ≤ 4611686018427387904) ∧ 1152921504606846976 < (c.natAbs : Int) * 86400000000 / t) : Cont Tryd.prog 81 [.int .i64 c, .int .i64 t] (.tuple [.int .i64 0, .bool false].toArray) := by
  have := multiple_c h.1
  rwa [decide_eq_true h.2] at this
theorem crate_c (v : Value) (l : List Chk) (hl : l.length ≤ 1000000) : ContR Tryd.prog [Hl.rd v cC 3 l] 50 [v] (rateV (rateS l)) := fun w hw0 => by
  cases hv : validC l with
  | false =>
    have hr : rateS l = (((0, 0), 0, 0), 1) := by unfold rateS; rw [if_pos hv]
    have hcv := cvalid_c v l hl
    rw [hv] at hcv
    refine enter Tryd.func50 rfl rfl rfl hw0 ?_
    repeat' (first
    | (show YK _ _ _ _ _ _ _; first | refine YK.mk (y_callRA (hcv) ⟨rfl, rfl⟩) ?_)
    | (show YK _ _ _ _ _ _ _; refine YK.ofV vAuto ?_)
    | (show VK _ _ _ _ _ _ _; refine VK.mk vAuto ?_)
    | (show RS _ _ _ _ _ _ _ _; first | (refine nxRS ?_) | (refine nxRS1 fun _ => ?_))
    | (show RM _ _ _ _ _ _ _ _ _ _; first | (refine nxRM ?_) | (refine nxRM1 fun _ => ?_))
    | (show YG _ _ _ _ _ _ _ _; refine YG.mk (fun hb => by (try (have hc := And.left hb; have hb := And.right hb; rw [hc])); (try rw [hb]); first | exact (y_callRA (hcv) ⟨rfl, rfl⟩) | exact V.y vAuto) ?_)
    | (show VG _ _ _ _ _ _ _ _; refine VG.mk (fun hb => by (try (have hc := And.left hb; have hb := And.right hb; rw [hc])); (try rw [hb]); exact vAuto) ?_)
    | (refine G.mixedA 5 [.go 0, .go 1, .go 2, .go 3, .go 4, .go 5, .go 6, .go 7, .go 8, .pend 9, .pend 10, .done, .done, .go 11, .go 12] ?_)
    | (refine G.mixedA 6 [.go 0, .go 2, .go 5, .go 6, .go 7, .go 8, .go 9, .go 10, .go 11, .go 12, .go 13, .go 14, .go 1, .go 3, .go 4, .go 15, .go 16, .go 17] ?_)
    | (refine G.mixedA 15 [.go 0, .go 1, .go 2, .go 3, .go 4] ?_)
    | (refine nxX ?_)
    | (refine G.condN rfl (fun hc => ?_) (fun hc => ?_) <;> (try first | exact False.elim hc | (exfalso; omega))))
    exact X.ret (vs := [_, _, _]) rfl ⟨⟨_, _, _, _, rfl, (by exact memA), (by (repeat (first | exact .nil | apply LenIs.cons))), by decide +kernel, rfl⟩, ⟨_, _, _, _, rfl, (by exact memA), (by (repeat (first | exact .nil | apply LenIs.cons))), by decide +kernel, rfl⟩, rfl, rfl⟩ rfl (fun w hw => ⟨by rw [hr], hw.ext⟩)
  | true =>
    have hlen := (validC_iff.1 hv).1
    have hcv := cvalid_c v l hl
    rw [hv] at hcv
    by_cases h1 : l.length = 1
    · have hr : rateS l = (((0, 0), 0, 0), 3) := by unfold rateS; rw [if_neg (by rw [hv]; decide), if_pos h1]
      refine enter Tryd.func50 rfl rfl rfl hw0 ?_
      repeat' (first
    | (show YK _ _ _ _ _ _ _; first | refine YK.mk (y_callRA (hcv) ⟨rfl, rfl⟩) ?_)
    | (show YK _ _ _ _ _ _ _; refine YK.ofV vAuto ?_)
    | (show VK _ _ _ _ _ _ _; refine VK.mk vAuto ?_)
    | (show RS _ _ _ _ _ _ _ _; first | (refine nxRS ?_) | (refine nxRS1 fun _ => ?_))
    | (show RM _ _ _ _ _ _ _ _ _ _; first | (refine nxRM ?_) | (refine nxRM1 fun _ => ?_))
    | (show YG _ _ _ _ _ _ _ _; refine YG.mk (fun hb => by (try (have hc := And.left hb; have hb := And.right hb; rw [hc])); (try rw [hb]); first | exact (y_callRA (hcv) ⟨rfl, rfl⟩) | exact V.y vAuto) ?_)
    | (show VG _ _ _ _ _ _ _ _; refine VG.mk (fun hb => by (try (have hc := And.left hb; have hb := And.right hb; rw [hc])); (try rw [hb]); exact vAuto) ?_)
    | (refine G.mixedA 5 [.go 0, .go 1, .go 2, .go 3, .go 4, .go 5, .go 6, .go 7, .go 8, .pend 9, .pend 10, .done, .done, .go 11, .go 12] ?_)
    | (refine G.mixedA 6 [.go 0, .go 2, .go 5, .go 6, .go 7, .go 8, .go 9, .go 10, .go 11, .go 12, .go 13, .go 14, .go 1, .go 3, .go 4, .go 15, .go 16, .go 17] ?_)
    | (refine G.mixedA 15 [.go 0, .go 1, .go 2, .go 3, .go 4] ?_)
    | (refine nxX ?_)
    | (refine G.condN rfl (fun hc => ?_) (fun hc => ?_) <;> (try first | exact False.elim hc | (exfalso; omega))))
      exact X.ret (vs := [_, _, _]) rfl ⟨⟨_, _, _, _, rfl, (by exact memA), (by (repeat (first | exact .nil | apply LenIs.cons))), by decide +kernel, rfl⟩, ⟨_, _, _, _, rfl, (by exact memA), (by (repeat (first | exact .nil | apply LenIs.cons))), by decide +kernel, rfl⟩, rfl, rfl⟩ rfl (fun w hw => ⟨by rw [hr], hw.ext⟩)
    · have b0 := valid_at hv (i := 0) (by omega) (by omega)
      have b1 := valid_at hv (i := (l.length : Int) - 1) (by omega) (by omega)
      have b2 := (valid_lt hv (i := 0) (j := (l.length : Int) - 1) (by omega) (by omega) (by omega)).1
      by_cases z1 : 1152921504606846976 < (((nth l ((l.length : Int) - 1)).face - (nth l ((l.length : Int) - 1)).ut - ((nth l 0).face - (nth l 0).ut) - ((nth l 0).within + (nth l ((l.length : Int) - 1)).within)).natAbs : Int) * 86400000000 / ((nth l ((l.length : Int) - 1)).face - (nth l 0).face)
      all_goals by_cases z2 : 1152921504606846976 < ((-((nth l ((l.length : Int) - 1)).face - (nth l ((l.length : Int) - 1)).ut - ((nth l 0).face - (nth l 0).ut)) - ((nth l 0).within + (nth l ((l.length : Int) - 1)).within)).natAbs : Int) * 86400000000 / ((nth l ((l.length : Int) - 1)).face - (nth l 0).face)
      all_goals try have s1 := kF_small (by omega) z1
      all_goals try have s2 := kF_small (by omega) z2
      all_goals refine enter Tryd.func50 rfl rfl rfl hw0 ?_
      all_goals
        repeat' (first
    | (refine G.mixedM 15 [.go 0, .go 1, .go 2, .go 3, .go 4] [true, true, false, false, false, false] ?_; dsimp only [maskH])
    | (show YK _ _ _ _ _ _ _; first | refine YK.mk (y_callRA (hcv) ⟨rfl, rfl⟩) ?_ | refine YK.mk (y_callP slow_c ⟨rfl, rfl⟩) ?_ | refine YK.mk (y_callP multiple_ok ⟨rfl, rfl, rfl⟩) ?_ | refine YK.mk (y_callP multiple_big ⟨rfl, rfl, rfl⟩) ?_ | refine YK.mk (y_callP rmake_c ⟨rfl, rfl, rfl⟩) ?_)
    | (show YK _ _ _ _ _ _ _; refine YK.ofV vAuto ?_)
    | (show VK _ _ _ _ _ _ _; refine VK.mk vAuto ?_)
    | (show RS _ _ _ _ _ _ _ _; first | (refine nxRS ?_) | (refine nxRS1 fun _ => ?_))
    | (show RM _ _ _ _ _ _ _ _ _ _; first | (refine nxRM ?_) | (refine nxRM1 fun _ => ?_))
    | (show YG _ _ _ _ _ _ _ _; refine YG.mk (fun hb => by (try (have hc := And.left hb; have hb := And.right hb; rw [hc])); (try rw [hb]); first | exact (y_callRA (hcv) ⟨rfl, rfl⟩) | exact (y_callP slow_c ⟨rfl, rfl⟩) | exact (y_callP multiple_ok ⟨rfl, rfl, rfl⟩) | exact (y_callP multiple_big ⟨rfl, rfl, rfl⟩) | exact (y_callP rmake_c ⟨rfl, rfl, rfl⟩) | exact V.y vAuto) ?_)
    | (show VG _ _ _ _ _ _ _ _; refine VG.mk (fun hb => by (try (have hc := And.left hb; have hb := And.right hb; rw [hc])); (try rw [hb]); exact vAuto) ?_)
    | (refine G.mixedA 5 [.go 0, .go 1, .go 2, .go 3, .go 4, .go 5, .go 6, .go 7, .go 8, .pend 9, .pend 10, .done, .done, .go 11, .go 12] ?_)
    | (refine G.mixedA 6 [.go 0, .go 2, .go 5, .go 6, .go 7, .go 8, .go 9, .go 10, .go 11, .go 12, .go 13, .go 14, .go 1, .go 3, .go 4, .go 15, .go 16, .go 17] ?_)
    | (refine nxX ?_)
    | (refine G.condN rfl (fun hc => ?_) (fun hc => ?_) <;> (try first | exact False.elim hc | (exfalso; omega))))
      · have e1 : makeF (kF ((nth l ((l.length : Int) - 1)).face - (nth l ((l.length : Int) - 1)).ut - ((nth l 0).face - (nth l 0).ut) - ((nth l 0).within + (nth l ((l.length : Int) - 1)).within)) ((nth l ((l.length : Int) - 1)).face - (nth l 0).face)) 1000 = ((0, 0), 5) := makeF_big (by exact Int.le_trans (Int.le_of_lt z1) (kF_abs (by omega)))
        have hr : rateS l = (((0, 0), 0, 0), 5) := by
          unfold rateS
          rw [if_neg (by rw [hv]; decide), if_neg h1]; dsimp only
          rw [if_pos (.inl (by rw [e1]; decide))]
        exact X.ret (vs := [_, _, _]) rfl ⟨⟨_, _, _, _, rfl, (by exact memA), (by (repeat (first | exact .nil | apply LenIs.cons))), by decide +kernel, rfl⟩, ⟨_, _, _, _, rfl, (by exact memA), (by (repeat (first | exact .nil | apply LenIs.cons))), by decide +kernel, rfl⟩, rfl, rfl⟩ rfl (fun w hw => ⟨by rw [hr], hw.ext⟩)
      · have e1 : makeF (kF ((nth l ((l.length : Int) - 1)).face - (nth l ((l.length : Int) - 1)).ut - ((nth l 0).face - (nth l 0).ut) - ((nth l 0).within + (nth l ((l.length : Int) - 1)).within)) ((nth l ((l.length : Int) - 1)).face - (nth l 0).face)) 1000 = ((0, 0), 5) := makeF_big (by exact Int.le_trans (Int.le_of_lt z1) (kF_abs (by omega)))
        have hr : rateS l = (((0, 0), 0, 0), 5) := by
          unfold rateS
          rw [if_neg (by rw [hv]; decide), if_neg h1]; dsimp only
          rw [if_pos (.inl (by rw [e1]; decide))]
        exact X.ret (vs := [_, _, _]) rfl ⟨⟨_, _, _, _, rfl, (by exact memA), (by (repeat (first | exact .nil | apply LenIs.cons))), by decide +kernel, rfl⟩, ⟨_, _, _, _, rfl, (by exact memA), (by (repeat (first | exact .nil | apply LenIs.cons))), by decide +kernel, rfl⟩, rfl, rfl⟩ rfl (fun w hw => ⟨by rw [hr], hw.ext⟩)
      · have e1 : makeF (-kF (-((nth l ((l.length : Int) - 1)).face - (nth l ((l.length : Int) - 1)).ut - ((nth l 0).face - (nth l 0).ut)) - ((nth l 0).within + (nth l ((l.length : Int) - 1)).within)) ((nth l ((l.length : Int) - 1)).face - (nth l 0).face)) 1000 = ((0, 0), 5) := makeF_big (by rw [Int.natAbs_neg]; exact Int.le_trans (Int.le_of_lt z2) (kF_abs (by omega)))
        have hr : rateS l = (((0, 0), 0, 0), 5) := by
          unfold rateS
          rw [if_neg (by rw [hv]; decide), if_neg h1]; dsimp only
          rw [if_pos (.inr (by rw [e1]; decide))]
        exact X.ret (vs := [_, _, _]) rfl ⟨⟨_, _, _, _, rfl, (by exact memA), (by (repeat (first | exact .nil | apply LenIs.cons))), by decide +kernel, rfl⟩, ⟨_, _, _, _, rfl, (by exact memA), (by (repeat (first | exact .nil | apply LenIs.cons))), by decide +kernel, rfl⟩, rfl, rfl⟩ rfl (fun w hw => ⟨by rw [hr], hw.ext⟩)
      · have hr : rateS l = (((0, 0), 0, 0), 5) := by
          unfold rateS
          rw [if_neg (by rw [hv]; decide), if_neg h1]; dsimp only
          rw [if_pos (by simpa using hc)]
        exact X.ret (vs := [_, _, _]) rfl ⟨⟨_, _, _, _, rfl, (by exact memA), (by (repeat (first | exact .nil | apply LenIs.cons))), by decide +kernel, rfl⟩, ⟨_, _, _, _, rfl, (by exact memA), (by (repeat (first | exact .nil | apply LenIs.cons))), by decide +kernel, rfl⟩, rfl, rfl⟩ rfl (fun w hw => ⟨by rw [hr], hw.ext⟩)
      · refine X.ret (vs := [_, _, _]) rfl ⟨⟨_, _, _, _, rfl, (by exact memA), (by (repeat (first | exact .nil | apply LenIs.cons))), by decide +kernel, rfl⟩, ⟨_, _, _, _, rfl, (by exact memA), (by (repeat (first | exact .nil | apply LenIs.cons))), by decide +kernel, rfl⟩, rfl, rfl⟩ rfl (fun w hw => ⟨?_, hw.ext⟩)
        unfold rateS
        rw [if_neg (by rw [hv]; decide), if_neg h1]; dsimp only
        rw [if_neg (by simpa using hc)]
end Go.Proofs.YtaglecidaedjfaaDoor
