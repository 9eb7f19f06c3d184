/- The chronometer's UT. -/
import Derived.Test.YtaglecidaedjfaaDoorRate
set_option linter.unusedVariables false
set_option maxHeartbeats 4000000
namespace Go.Proofs.YtaglecidaedjfaaDoor
open Go.RowKit

theorem drift_iff {n d : Int} (h : driftB n d = true) : (0 ≤ n ∧ n ≤ 1073741824) ∧ 1 ≤ d ∧ d ≤ 1073741824 := by
  simp only [driftB, validF, Bool.and_eq_true, decide_eq_true_eq] at h
  omega
/-- How far a face is from a comparison's. -/
def dC (face : Int) (c : Chk) : Int := max (face - c.face) (c.face - face)
/-- Two comparisons allow each other. -/
def alB (n d face : Int) (c k : Chk) : Bool := allowB n d (c.face - c.ut - c.within - (k.face - k.ut) - k.within) (dC face c + dC face k)
def missB (l : List Chk) (n d face : Int) : Bool := l.any fun c => l.any fun k => !alB n d face c k
/-- The drift's share and the error of a comparison. -/
def xC (n d face : Int) (c : Chk) : Int := -(-(n * dC face c) / (d * 86400000)) + c.within
def runMax (c0 : Int) (a : Nat → Int) : Nat → Int
  | 0 => c0
  | k + 1 => max (runMax c0 a k) (a k)
def runMin (c0 : Int) (a : Nat → Int) : Nat → Int
  | 0 => c0
  | k + 1 => min (runMin c0 a k) (a k)
def loP (l : List Chk) (n d face : Int) (k : Nat) : Int := runMax (-4611686018427387904) (fun i => face - ((nth l i).face - (nth l i).ut) - xC n d face (nth l i)) k
def hiP (l : List Chk) (n d face : Int) (k : Nat) : Int := runMin 4611686018427387904 (fun i => face - ((nth l i).face - (nth l i).ut) + xC n d face (nth l i)) k
abbrev utV (r : (Int × Int) × Int) : Value := .tuple [.agg [.int .i64 r.1.1, .int .i64 r.1.2].toArray, .int .i64 r.2].toArray
/-- What UT returns. -/
def utS (l : List Chk) (n d face : Int) : (Int × Int) × Int :=
  if validC l = false ∨ driftB n d = false then ((0, 0), 1) else
  if timeB face = false then ((0, 0), 2) else
  if missB l n d face = true then ((0, 0), 23) else
  if timeB (loP l n d face l.length) = true ∧ timeB (hiP l n d face l.length) = true then ((loP l n d face l.length, hiP l n d face l.length), 0) else ((0, 0), 20)
theorem nth_mem {l : List Chk} {i : Int} (h0 : 0 ≤ i) (h1 : i < l.length) : nth l i ∈ l := List.mem_of_getElem? (nth_some h0 h1)
theorem miss_true {l : List Chk} {n d face i j : Int} (h0 : 0 ≤ i) (h1 : i < l.length) (h2 : 0 ≤ j) (h3 : j < l.length) (h : alB n d face (nth l i) (nth l j) = false) : missB l n d face = true :=
  List.any_eq_true.2 ⟨_, nth_mem h0 h1, List.any_eq_true.2 ⟨_, nth_mem h2 h3, by rw [h]; rfl⟩⟩
theorem mem_nth {l : List Chk} {c : Chk} (h : c ∈ l) : ∃ i : Nat, i < l.length ∧ nth l i = c := by
  obtain ⟨i, hi, rfl⟩ := List.getElem_of_mem h
  refine ⟨i, hi, ?_⟩
  have := nth_some (l := l) (m := i) (by omega) (by omega)
  rw [Int.toNat_natCast, List.getElem?_eq_getElem hi] at this
  exact (Option.some.inj this).symm
theorem miss_false {l : List Chk} {n d face : Int} (h : ∀ i j : Nat, i < l.length → j < l.length → alB n d face (nth l i) (nth l j) = true) : missB l n d face = false := by
  rw [Bool.eq_false_iff]
  intro hm
  obtain ⟨c, hc, hk⟩ := List.any_eq_true.1 hm
  obtain ⟨k, hk2, hf⟩ := List.any_eq_true.1 hk
  obtain ⟨i, hi, rfl⟩ := mem_nth hc
  obtain ⟨j, hj, rfl⟩ := mem_nth hk2
  rw [h i j hi hj] at hf
  cases hf
theorem drift_bd {n d t : Int} (h : (0 ≤ n ∧ n ≤ 1073741824) ∧ 1 ≤ d ∧ d ≤ 1073741824) (ht : 0 ≤ t ∧ t ≤ 1125899906842624) : 0 ≤ -(-(n * t) / (d * 86400000)) ∧ -(-(n * t) / (d * 86400000)) ≤ 144115188075855872 := by
  have hb := mul_le_big h.1.1 h.1.2 ht.1 ht.2
  have hy : 0 ≤ n * t := Int.mul_nonneg h.1.1 ht.1
  have h1 : -144115188075855872 ≤ -(n * t) / (d * 86400000) := Int.le_ediv_of_mul_le (by omega) (by omega)
  have h2 : -(n * t) / (d * 86400000) ≤ 0 := Int.ediv_le_of_le_mul (by omega) (by omega)
  omega
theorem dC_bd {face : Int} {c : Chk} (h1 : -70368744177664 ≤ face ∧ face ≤ 70368744177664) (h2 : -70368744177664 ≤ c.face ∧ c.face ≤ 70368744177664) : 0 ≤ dC face c ∧ dC face c ≤ 140737488355328 := by unfold dC; omega
theorem farC {face : Int} {c : Chk} (h : (-9223372036854775808 ≤ face - c.face ∧ face - c.face ≤ 9223372036854775807) ∧ -9223372036854775808 ≤ c.face - face ∧ c.face - face ≤ 9223372036854775807) : Cont Tryd.prog 85 [.int .i64 face, .int .i64 c.face] (.int .i64 (dC face c)) := far_c h
theorem cutU_c (v : Value) (l : List Chk) (hl : l.length ≤ 1000000) {n d face : Int} (h : ((-9223372036854775808 ≤ n ∧ n ≤ 9223372036854775807) ∧ -9223372036854775808 ≤ d ∧ d ≤ 9223372036854775807)) : ContR Tryd.prog [Hl.rd v cC 3 l] 51 [v, .int .i64 face, fracV n d] (utV (utS l n d face)) := fun w hw0 => by
  have hcv := cvalid_c v l hl
  have hdr := drifts_c h
  have hrg := ranges_c face
  cases hv : validC l with
  | false =>
    have hr : utS l n d face = ((0, 0), 1) := by unfold utS; rw [if_pos (.inl hv)]
    rw [hv] at hcv
    refine enter Tryd.func51 rfl rfl rfl hw0 ?_
    repeat' (first
    | (show YK _ _ _ _ _ _ _; first | refine YK.mk (y_callRA (hcv) ⟨rfl, rfl⟩) ?_ | refine YK.mk (y_callA (hdr) ⟨rfl, rfl⟩) ?_)
    | (show YK _ _ _ _ _ _ _; refine YK.ofV vAuto ?_)
    | (show VK _ _ _ _ _ _ _; refine VK.mk vAuto ?_)
    | (show RS _ _ _ _ _ _ _ _; first | (refine nxRS ?_) | (refine nxRS1 fun _ => ?_))
    | (show RM _ _ _ _ _ _ _ _ _ _; first | (refine nxRM ?_) | (refine nxRM1 fun _ => ?_))
    | (show YG _ _ _ _ _ _ _ _; refine YG.mk (fun hb => by (try (have hc := And.left hb; have hb := And.right hb; rw [hc])); (try rw [hb]); first | exact (y_callRA (hcv) ⟨rfl, rfl⟩) | exact (y_callA (hdr) ⟨rfl, rfl⟩) | exact V.y vAuto) ?_)
    | (show VG _ _ _ _ _ _ _ _; refine VG.mk (fun hb => by (try (have hc := And.left hb; have hb := And.right hb; rw [hc])); (try rw [hb]); exact vAuto) ?_)
    | (refine G.mixedA 13 [.go 0, .go 1, .go 3, .go 4, .go 6, .go 9, .go 10, .go 12, .go 13, .go 14, .go 15, .go 2, .go 5, .go 7, .go 8, .go 11, .go 16, .go 17, .go 18, .go 19] ?_)
    | (refine G.mixedA 16 [.go 0, .go 1, .go 3, .go 4, .go 2, .go 5, .go 6] ?_)
    | (refine G.mixedA 17 [.go 0, .go 1, .go 2, .go 3, .go 6, .go 4, .go 5, .go 7, .go 8, .go 9, .go 10] ?_)
    | (refine G.mixedA 18 [.go 0, .go 1, .go 2, .go 3, .go 6, .go 4, .go 5, .go 7, .go 8, .go 9, .go 10] ?_)
    | (refine nxX ?_)
    | (refine G.condN rfl (fun hc => ?_) (fun hc => ?_) <;> (try first | exact False.elim hc | (exfalso; omega))))
    exact X.ret (vs := [_, _]) rfl ⟨⟨_, _, _, _, rfl, (by exact memA), (by (repeat (first | exact .nil | apply LenIs.cons))), by decide +kernel, rfl⟩, rfl, rfl⟩ rfl (fun w hw => ⟨by rw [hr], hw.ext⟩)
  | true =>
  rw [hv] at hcv
  cases hd : driftB n d with
  | false =>
    have hr : utS l n d face = ((0, 0), 1) := by unfold utS; rw [if_pos (.inr hd)]
    rw [hd] at hdr
    refine enter Tryd.func51 rfl rfl rfl hw0 ?_
    repeat' (first
    | (show YK _ _ _ _ _ _ _; first | refine YK.mk (y_callRA (hcv) ⟨rfl, rfl⟩) ?_ | refine YK.mk (y_callA (hdr) ⟨rfl, rfl⟩) ?_)
    | (show YK _ _ _ _ _ _ _; refine YK.ofV vAuto ?_)
    | (show VK _ _ _ _ _ _ _; refine VK.mk vAuto ?_)
    | (show RS _ _ _ _ _ _ _ _; first | (refine nxRS ?_) | (refine nxRS1 fun _ => ?_))
    | (show RM _ _ _ _ _ _ _ _ _ _; first | (refine nxRM ?_) | (refine nxRM1 fun _ => ?_))
    | (show YG _ _ _ _ _ _ _ _; refine YG.mk (fun hb => by (try (have hc := And.left hb; have hb := And.right hb; rw [hc])); (try rw [hb]); first | exact (y_callRA (hcv) ⟨rfl, rfl⟩) | exact (y_callA (hdr) ⟨rfl, rfl⟩) | exact V.y vAuto) ?_)
    | (show VG _ _ _ _ _ _ _ _; refine VG.mk (fun hb => by (try (have hc := And.left hb; have hb := And.right hb; rw [hc])); (try rw [hb]); exact vAuto) ?_)
    | (refine G.mixedA 13 [.go 0, .go 1, .go 3, .go 4, .go 6, .go 9, .go 10, .go 12, .go 13, .go 14, .go 15, .go 2, .go 5, .go 7, .go 8, .go 11, .go 16, .go 17, .go 18, .go 19] ?_)
    | (refine G.mixedA 16 [.go 0, .go 1, .go 3, .go 4, .go 2, .go 5, .go 6] ?_)
    | (refine G.mixedA 17 [.go 0, .go 1, .go 2, .go 3, .go 6, .go 4, .go 5, .go 7, .go 8, .go 9, .go 10] ?_)
    | (refine G.mixedA 18 [.go 0, .go 1, .go 2, .go 3, .go 6, .go 4, .go 5, .go 7, .go 8, .go 9, .go 10] ?_)
    | (refine nxX ?_)
    | (refine G.condN rfl (fun hc => ?_) (fun hc => ?_) <;> (try first | exact False.elim hc | (exfalso; omega))))
    exact X.ret (vs := [_, _]) rfl ⟨⟨_, _, _, _, rfl, (by exact memA), (by (repeat (first | exact .nil | apply LenIs.cons))), by decide +kernel, rfl⟩, rfl, rfl⟩ rfl (fun w hw => ⟨by rw [hr], hw.ext⟩)
  | true =>
  rw [hd] at hdr
  cases ht : timeB face with
  | false =>
    have hr : utS l n d face = ((0, 0), 2) := by unfold utS; rw [if_neg (by rw [hv, hd]; decide), if_pos ht]
    rw [ht] at hrg
    refine enter Tryd.func51 rfl rfl rfl hw0 ?_
    repeat' (first
    | (show YK _ _ _ _ _ _ _; first | refine YK.mk (y_callRA (hcv) ⟨rfl, rfl⟩) ?_ | refine YK.mk (y_callA (hdr) ⟨rfl, rfl⟩) ?_ | refine YK.mk (y_callA (hrg) ⟨rfl, rfl⟩) ?_)
    | (show YK _ _ _ _ _ _ _; refine YK.ofV vAuto ?_)
    | (show VK _ _ _ _ _ _ _; refine VK.mk vAuto ?_)
    | (show RS _ _ _ _ _ _ _ _; first | (refine nxRS ?_) | (refine nxRS1 fun _ => ?_))
    | (show RM _ _ _ _ _ _ _ _ _ _; first | (refine nxRM ?_) | (refine nxRM1 fun _ => ?_))
    | (show YG _ _ _ _ _ _ _ _; refine YG.mk (fun hb => by (try (have hc := And.left hb; have hb := And.right hb; rw [hc])); (try rw [hb]); first | exact (y_callRA (hcv) ⟨rfl, rfl⟩) | exact (y_callA (hdr) ⟨rfl, rfl⟩) | exact (y_callA (hrg) ⟨rfl, rfl⟩) | exact V.y vAuto) ?_)
    | (show VG _ _ _ _ _ _ _ _; refine VG.mk (fun hb => by (try (have hc := And.left hb; have hb := And.right hb; rw [hc])); (try rw [hb]); exact vAuto) ?_)
    | (refine G.mixedA 13 [.go 0, .go 1, .go 3, .go 4, .go 6, .go 9, .go 10, .go 12, .go 13, .go 14, .go 15, .go 2, .go 5, .go 7, .go 8, .go 11, .go 16, .go 17, .go 18, .go 19] ?_)
    | (refine G.mixedA 16 [.go 0, .go 1, .go 3, .go 4, .go 2, .go 5, .go 6] ?_)
    | (refine G.mixedA 17 [.go 0, .go 1, .go 2, .go 3, .go 6, .go 4, .go 5, .go 7, .go 8, .go 9, .go 10] ?_)
    | (refine G.mixedA 18 [.go 0, .go 1, .go 2, .go 3, .go 6, .go 4, .go 5, .go 7, .go 8, .go 9, .go 10] ?_)
    | (refine nxX ?_)
    | (refine G.condN rfl (fun hc => ?_) (fun hc => ?_) <;> (try first | exact False.elim hc | (exfalso; omega))))
    exact X.ret (vs := [_, _]) rfl ⟨⟨_, _, _, _, rfl, (by exact memA), (by (repeat (first | exact .nil | apply LenIs.cons))), by decide +kernel, rfl⟩, rfl, rfl⟩ rfl (fun w hw => ⟨by rw [hr], hw.ext⟩)
  | true =>
  rw [ht] at hrg
  have hnd := drift_iff hd
  have hfb := timeB_iff.1 ht
  have hlen := (validC_iff.1 hv).1
  have hu : utS l n d face = if missB l n d face = true then ((0, 0), 23) else
      if timeB (loP l n d face l.length) = true ∧ timeB (hiP l n d face l.length) = true then ((loP l n d face l.length, hiP l n d face l.length), 0) else ((0, 0), 20) := by
    unfold utS; rw [if_neg (by rw [hv, hd]; decide), if_neg (by rw [ht]; decide)]
  refine enter Tryd.func51 rfl rfl rfl hw0 ?_
  repeat' (first
    | (show YK _ _ _ _ _ _ _; first | refine YK.mk (y_callRA (hcv) ⟨rfl, rfl⟩) ?_ | refine YK.mk (y_callA (hdr) ⟨rfl, rfl⟩) ?_ | refine YK.mk (y_callA (hrg) ⟨rfl, rfl⟩) ?_)
    | (show YK _ _ _ _ _ _ _; refine YK.ofV vAuto ?_)
    | (show VK _ _ _ _ _ _ _; refine VK.mk vAuto ?_)
    | (show RS _ _ _ _ _ _ _ _; first | (refine nxRS ?_) | (refine nxRS1 fun _ => ?_))
    | (show RM _ _ _ _ _ _ _ _ _ _; first | (refine nxRM ?_) | (refine nxRM1 fun _ => ?_))
    | (show YG _ _ _ _ _ _ _ _; refine YG.mk (fun hb => by (try (have hc := And.left hb; have hb := And.right hb; rw [hc])); (try rw [hb]); first | exact (y_callRA (hcv) ⟨rfl, rfl⟩) | exact (y_callA (hdr) ⟨rfl, rfl⟩) | exact (y_callA (hrg) ⟨rfl, rfl⟩) | exact V.y vAuto) ?_)
    | (show VG _ _ _ _ _ _ _ _; refine VG.mk (fun hb => by (try (have hc := And.left hb; have hb := And.right hb; rw [hc])); (try rw [hb]); exact vAuto) ?_)
    | (refine G.mixedA 13 [.go 0, .go 1, .go 3, .go 4, .go 6, .go 9, .go 10, .go 12, .go 13, .go 14, .go 15, .go 2, .go 5, .go 7, .go 8, .go 11, .go 16, .go 17, .go 18, .go 19] ?_)
    | (refine G.mixedA 16 [.go 0, .go 1, .go 3, .go 4, .go 2, .go 5, .go 6] ?_)
    | (refine G.mixedA 17 [.go 0, .go 1, .go 2, .go 3, .go 6, .go 4, .go 5, .go 7, .go 8, .go 9, .go 10] ?_)
    | (refine G.mixedA 18 [.go 0, .go 1, .go 2, .go 3, .go 6, .go 4, .go 5, .go 7, .go 8, .go 9, .go 10] ?_)
    | (refine nxX ?_)
    | (refine G.condN rfl (fun hc => ?_) (fun hc => ?_) <;> (try first | exact False.elim hc | (exfalso; omega))))
  rename_i b5 b6 _ b8
  refine G.loop (ι := Nat) (fun i => [(0, v), (1, .int .i64 face), (5, .pointer (some ⟨b5, 0, none⟩)), (6, .pointer (some ⟨b6, 0, none⟩)), (8, .pointer (some ⟨b8, 0, none⟩)), (31, v), (32, .int .i64 l.length), (33, .int .i64 (i : Int))]) (fun i => [Hl.blk b8 92 [.int .i64 (loP l n d face i), .int .i64 (hiP l n d face i)], Hl.blk b6 92 [.int .i64 0, .int .i64 0], Hl.blk b5 89 [.int .i64 n, .int .i64 d], Hl.rd v cC 3 l]) (fun i => i ≤ l.length ∧ ∀ a b : Nat, a < i → b < l.length → alB n d face (nth l a) (nth l b) = true) (fun i => l.length - i) 0 ⟨by omega, fun a b h => by omega⟩ ⟨rfl, rfl, rfl, rfl, rfl, rfl, rfl, rfl, trivial⟩ (fun w h => h) ?_
  rintro i mx ⟨g1, g2⟩ hmx
  rcases Nat.lt_or_ge i l.length with hi | hi
  · have bi := valid_at hv (i := i) (by omega) (by omega)
    have di := dC_bd hfb bi.1
    have xi := drift_bd hnd (t := dC face (nth l i)) (by omega)
    repeat' (first
    | (show YK _ _ _ _ _ _ _; first | refine YK.mk (y_callP slow_c ⟨rfl, rfl⟩) ?_ | refine YK.mk (y_callP farC ⟨rfl, rfl, rfl⟩) ?_)
    | (show YK _ _ _ _ _ _ _; refine YK.ofV vAuto ?_)
    | (show VK _ _ _ _ _ _ _; refine VK.mk vAuto ?_)
    | (show RS _ _ _ _ _ _ _ _; first | (refine nxRS ?_) | (refine nxRS1 fun _ => ?_))
    | (show RM _ _ _ _ _ _ _ _ _ _; first | (refine nxRM ?_) | (refine nxRM1 fun _ => ?_))
    | (show YG _ _ _ _ _ _ _ _; refine YG.mk (fun hb => by (try (have hc := And.left hb; have hb := And.right hb; rw [hc])); (try rw [hb]); first | exact (y_callP slow_c ⟨rfl, rfl⟩) | exact (y_callP farC ⟨rfl, rfl, rfl⟩) | exact V.y vAuto) ?_)
    | (show VG _ _ _ _ _ _ _ _; refine VG.mk (fun hb => by (try (have hc := And.left hb; have hb := And.right hb; rw [hc])); (try rw [hb]); exact vAuto) ?_)
    | (refine G.mixedA 13 [.go 0, .go 1, .go 3, .go 4, .go 6, .go 9, .go 10, .go 12, .go 13, .go 14, .go 15, .go 2, .go 5, .go 7, .go 8, .go 11, .go 16, .go 17, .go 18, .go 19] ?_)
    | (refine G.mixedA 16 [.go 0, .go 1, .go 3, .go 4, .go 2, .go 5, .go 6] ?_)
    | (refine G.mixedA 17 [.go 0, .go 1, .go 2, .go 3, .go 6, .go 4, .go 5, .go 7, .go 8, .go 9, .go 10] ?_)
    | (refine G.mixedA 18 [.go 0, .go 1, .go 2, .go 3, .go 6, .go 4, .go 5, .go 7, .go 8, .go 9, .go 10] ?_)
    | (refine nxX ?_)
    | (refine G.condN rfl (fun hc => ?_) (fun hc => ?_) <;> (try first | exact False.elim hc | (exfalso; omega))))
    rename_i b10
    refine G.loop (ι := Nat) (fun j => [(0, v), (1, .int .i64 face), (5, .pointer (some ⟨b5, 0, none⟩)), (6, .pointer (some ⟨b6, 0, none⟩)), (8, .pointer (some ⟨b8, 0, none⟩)), (31, v), (32, .int .i64 l.length), (33, .int .i64 (i : Int)), (10, .pointer (some ⟨b10, 0, none⟩)), (11, .int .i64 (dC face (nth l i))), (41, v), (42, .int .i64 l.length), (43, .int .i64 (j : Int))])
      (fun j => [Hl.blk b10 58 [.int .i64 (nth l i).face, .int .i64 (nth l i).ut, .int .i64 (nth l i).within], Hl.blk b8 92 [.int .i64 (loP l n d face i), .int .i64 (hiP l n d face i)], Hl.blk b6 92 [.int .i64 0, .int .i64 0], Hl.blk b5 89 [.int .i64 n, .int .i64 d], Hl.rd v cC 3 l])
      (fun j => j ≤ l.length ∧ ∀ b : Nat, b < j → alB n d face (nth l i) (nth l b) = true) (fun j => l.length - j) 0 ⟨by omega, fun b h => by omega⟩ ⟨rfl, rfl, rfl, rfl, rfl, rfl, rfl, rfl, rfl, rfl, rfl, rfl, rfl, trivial⟩ (by exact fun w h => h.sub (by repeat (first | exact List.Sublist.refl _ | apply List.Sublist.cons_cons | apply List.Sublist.cons))) ?_
    rintro j mj ⟨g3, g4⟩ hmj
    rcases Nat.lt_or_ge j l.length with hj | hj
    · have bj := valid_at hv (i := j) (by omega) (by omega)
      have dj := dC_bd hfb bj.1
      repeat' (first
    | (show YK _ _ _ _ _ _ _; first | refine YK.mk (y_callP slow_c ⟨rfl, rfl⟩) ?_ | refine YK.mk (y_callP farC ⟨rfl, rfl, rfl⟩) ?_ | refine YK.mk (y_callP allows_c ⟨rfl, rfl, rfl, rfl⟩) ?_)
    | (show YK _ _ _ _ _ _ _; refine YK.ofV vAuto ?_)
    | (show VK _ _ _ _ _ _ _; refine VK.mk vAuto ?_)
    | (show RS _ _ _ _ _ _ _ _; first | (refine nxRS ?_) | (refine nxRS1 fun _ => ?_))
    | (show RM _ _ _ _ _ _ _ _ _ _; first | (refine nxRM ?_) | (refine nxRM1 fun _ => ?_))
    | (show YG _ _ _ _ _ _ _ _; refine YG.mk (fun hb => by (try (have hc := And.left hb; have hb := And.right hb; rw [hc])); (try rw [hb]); first | exact (y_callP slow_c ⟨rfl, rfl⟩) | exact (y_callP farC ⟨rfl, rfl, rfl⟩) | exact (y_callP allows_c ⟨rfl, rfl, rfl, rfl⟩) | exact V.y vAuto) ?_)
    | (show VG _ _ _ _ _ _ _ _; refine VG.mk (fun hb => by (try (have hc := And.left hb; have hb := And.right hb; rw [hc])); (try rw [hb]); exact vAuto) ?_)
    | (refine G.mixedA 13 [.go 0, .go 1, .go 3, .go 4, .go 6, .go 9, .go 10, .go 12, .go 13, .go 14, .go 15, .go 2, .go 5, .go 7, .go 8, .go 11, .go 16, .go 17, .go 18, .go 19] ?_)
    | (refine G.mixedA 16 [.go 0, .go 1, .go 3, .go 4, .go 2, .go 5, .go 6] ?_)
    | (refine G.mixedA 17 [.go 0, .go 1, .go 2, .go 3, .go 6, .go 4, .go 5, .go 7, .go 8, .go 9, .go 10] ?_)
    | (refine G.mixedA 18 [.go 0, .go 1, .go 2, .go 3, .go 6, .go 4, .go 5, .go 7, .go 8, .go 9, .go 10] ?_)
    | (refine nxX ?_)
    | (refine G.condN rfl (fun hc => ?_) (fun hc => ?_) <;> (try first | exact False.elim hc | (exfalso; omega))))
      · have e1 : alB n d face (nth l i) (nth l j) = false := hc
        have e2 := miss_true (n := n) (d := d) (face := face) (l := l) (i := i) (j := j) (by omega) (by omega) (by omega) (by omega) e1
        rw [if_pos e2] at hu
        exact X.ret (vs := [_, _]) rfl ⟨⟨_, _, _, _, rfl, (by exact memA), (by (repeat (first | exact .nil | apply LenIs.cons))), by decide +kernel, rfl⟩, rfl, rfl⟩ rfl (fun w hw => ⟨by rw [hu], hw.ext⟩)
      · have e1 : alB n d face (nth l i) (nth l j) = true := hc
        refine X.again (j + 1) ⟨by omega, fun b hb => ?_⟩ (by omega) ⟨rfl, rfl, rfl, rfl, rfl, rfl, rfl, rfl, rfl, rfl, rfl, rfl, rfl, trivial⟩ (by exact fun w h => h.sub (by repeat (first | exact List.Sublist.refl _ | apply List.Sublist.cons_cons | apply List.Sublist.cons)))
        rcases Nat.lt_or_ge b j with h | h
        · exact g4 b h
        · rw [show b = j by omega]; exact e1
    · repeat' (first
    | (show YK _ _ _ _ _ _ _; first | refine YK.mk (y_callP slow_c ⟨rfl, rfl⟩) ?_ | refine YK.mk (y_callP farC ⟨rfl, rfl, rfl⟩) ?_ | refine YK.mk (y_callP drifted_c ⟨rfl, rfl, rfl⟩) ?_)
    | (show YK _ _ _ _ _ _ _; refine YK.ofV vAuto ?_)
    | (show VK _ _ _ _ _ _ _; refine VK.mk vAuto ?_)
    | (show RS _ _ _ _ _ _ _ _; first | (refine nxRS ?_) | (refine nxRS1 fun _ => ?_))
    | (show RM _ _ _ _ _ _ _ _ _ _; first | (refine nxRM ?_) | (refine nxRM1 fun _ => ?_))
    | (show YG _ _ _ _ _ _ _ _; refine YG.mk (fun hb => by (try (have hc := And.left hb; have hb := And.right hb; rw [hc])); (try rw [hb]); first | exact (y_callP slow_c ⟨rfl, rfl⟩) | exact (y_callP farC ⟨rfl, rfl, rfl⟩) | exact (y_callP drifted_c ⟨rfl, rfl, rfl⟩) | exact V.y vAuto) ?_)
    | (show VG _ _ _ _ _ _ _ _; refine VG.mk (fun hb => by (try (have hc := And.left hb; have hb := And.right hb; rw [hc])); (try rw [hb]); exact vAuto) ?_)
    | (refine G.mixedA 13 [.go 0, .go 1, .go 3, .go 4, .go 6, .go 9, .go 10, .go 12, .go 13, .go 14, .go 15, .go 2, .go 5, .go 7, .go 8, .go 11, .go 16, .go 17, .go 18, .go 19] ?_)
    | (refine G.mixedA 16 [.go 0, .go 1, .go 3, .go 4, .go 2, .go 5, .go 6] ?_)
    | (refine G.mixedA 17 [.go 0, .go 1, .go 2, .go 3, .go 6, .go 4, .go 5, .go 7, .go 8, .go 9, .go 10] ?_)
    | (refine G.mixedA 18 [.go 0, .go 1, .go 2, .go 3, .go 6, .go 4, .go 5, .go 7, .go 8, .go 9, .go 10] ?_)
    | (refine nxX ?_)
    | (refine G.condN rfl (fun hc => ?_) (fun hc => ?_) <;> (try first | exact False.elim hc | (exfalso; omega))))
      refine X.again (i + 1) ⟨by omega, fun a b ha hb => ?_⟩ (by omega) ⟨rfl, rfl, rfl, rfl, rfl, rfl, rfl, rfl, trivial⟩ (by exact fun w h => h.sub (by repeat (first | exact List.Sublist.refl _ | apply List.Sublist.cons_cons | apply List.Sublist.cons)))
      rcases Nat.lt_or_ge a i with h | h
      · exact g2 a b h hb
      · rw [show a = i by omega]; exact g4 b (by omega)
  · have ei : i = l.length := by omega
    subst ei
    have em := miss_false g2
    rw [if_neg (by rw [em]; decide)] at hu
    repeat' (first
    | (show YK _ _ _ _ _ _ _; first | refine YK.mk (y_callA (ranges_c _) ⟨rfl, rfl⟩) ?_)
    | (show YK _ _ _ _ _ _ _; refine YK.ofV vAuto ?_)
    | (show VK _ _ _ _ _ _ _; refine VK.mk vAuto ?_)
    | (show RS _ _ _ _ _ _ _ _; first | (refine nxRS ?_) | (refine nxRS1 fun _ => ?_))
    | (show RM _ _ _ _ _ _ _ _ _ _; first | (refine nxRM ?_) | (refine nxRM1 fun _ => ?_))
    | (show YG _ _ _ _ _ _ _ _; refine YG.mk (fun hb => by (try (have hc := And.left hb; have hb := And.right hb; rw [hc])); (try rw [hb]); first | exact (y_callA (ranges_c _) ⟨rfl, rfl⟩) | exact V.y vAuto) ?_)
    | (show VG _ _ _ _ _ _ _ _; refine VG.mk (fun hb => by (try (have hc := And.left hb; have hb := And.right hb; rw [hc])); (try rw [hb]); exact vAuto) ?_)
    | (refine G.mixedA 13 [.go 0, .go 1, .go 3, .go 4, .go 6, .go 9, .go 10, .go 12, .go 13, .go 14, .go 15, .go 2, .go 5, .go 7, .go 8, .go 11, .go 16, .go 17, .go 18, .go 19] ?_)
    | (refine G.mixedA 16 [.go 0, .go 1, .go 3, .go 4, .go 2, .go 5, .go 6] ?_)
    | (refine G.mixedA 17 [.go 0, .go 1, .go 2, .go 3, .go 6, .go 4, .go 5, .go 7, .go 8, .go 9, .go 10] ?_)
    | (refine G.mixedA 18 [.go 0, .go 1, .go 2, .go 3, .go 6, .go 4, .go 5, .go 7, .go 8, .go 9, .go 10] ?_)
    | (refine nxX ?_)
    | (refine G.condN rfl (fun hc => ?_) (fun hc => ?_) <;> (try first | exact False.elim hc | (exfalso; omega))))
    · rw [if_neg (fun h => hc.elim (fun hc => by rw [h.1] at hc; cases hc) (fun hc => by rw [h.2] at hc; cases hc))] at hu
      exact X.ret (vs := [_, _]) rfl ⟨⟨_, _, _, _, rfl, (by exact memA), (by (repeat (first | exact .nil | apply LenIs.cons))), by decide +kernel, rfl⟩, rfl, rfl⟩ rfl (fun w hw => ⟨by rw [hu], hw.ext⟩)
    · rw [if_pos hc] at hu
      exact X.ret (vs := [_, _]) rfl ⟨⟨_, _, _, _, rfl, (by exact memA), (by (repeat (first | exact .nil | apply LenIs.cons))), by decide +kernel, rfl⟩, rfl, rfl⟩ rfl (fun w hw => ⟨by rw [hu], hw.ext⟩)
end Go.Proofs.YtaglecidaedjfaaDoor
