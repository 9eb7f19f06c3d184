/- Consistent: the chronometer's and the reference's. -/
import Derived.Test.YtcjganfppcjdfaaUtLaw
set_option linter.unusedVariables false
set_option maxHeartbeats 4000000
namespace Go.Proofs.Ytcjganfppcjdfaa
open Go.RowKit

/-- Two comparisons are within the drift of each other. -/
def nearB (n d : Int) (a b : Chk) : Bool := allowB n d (max (a.face - a.ut - (b.face - b.ut)) (b.face - b.ut - (a.face - a.ut)) - a.within - b.within) (max (a.face - b.face) (b.face - a.face))
abbrev okC (c : Chk) : Prop := (-70368744177664 ≤ c.face ∧ c.face ≤ 70368744177664) ∧ (-70368744177664 ≤ c.ut ∧ c.ut ≤ 70368744177664) ∧ 0 ≤ c.within ∧ c.within ≤ 86400000
theorem apart_c {a b : Chk} {n d : Int} (h : (okC a ∧ okC b) ∧ (0 ≤ n ∧ n ≤ 1073741824) ∧ 1 ≤ d ∧ d ≤ 1073741824) : Cont Try.prog 44 [chkV a, chkV b, fracV n d] (.bool (!nearB n d a b)) := fun w => by
  obtain ⟨⟨ha, hb⟩, hnd⟩ := h
  have p1 := prod_bd (x := max (a.face - a.ut - (b.face - b.ut)) (b.face - b.ut - (a.face - a.ut)) - a.within - b.within) (y := d * 86400000) (X := 1125899906842624) (Y := 92771293593600000) (by omega) (by omega)
  have hnt := Int.mul_nonneg hnd.1.1 (show 0 ≤ max (a.face - b.face) (b.face - a.face) by omega)
  have hnt2 := mul_le_big hnd.1.1 hnd.1.2 (show 0 ≤ max (a.face - b.face) (b.face - a.face) by omega) (show max (a.face - b.face) (b.face - a.face) ≤ 140737488355328 by omega)
  have t1 : Sz (max (a.face - a.ut - (b.face - b.ut)) (b.face - b.ut - (a.face - a.ut)) - a.within - b.within) := Sz.small (by omega)
  have t2 : Sz (d * 86400000) := Sz.small (by omega)
  have t3 : Sz ((max (a.face - a.ut - (b.face - b.ut)) (b.face - b.ut - (a.face - a.ut)) - a.within - b.within) * (d * 86400000)) := Sz.small (by omega)
  have t4 : Sz (n * max (a.face - b.face) (b.face - a.face)) := Sz.small (by omega)
  have e3 : max (a.face - a.ut - (b.face - b.ut)) (b.face - b.ut - (a.face - a.ut)) - a.within - b.within ≤ 0 → (max (a.face - a.ut - (b.face - b.ut)) (b.face - b.ut - (a.face - a.ut)) - a.within - b.within) * (d * 86400000) ≤ 0 := fun h => Int.mul_nonpos_of_nonpos_of_nonneg h (by omega)
  refine enter0 Try.func44 rfl rfl rfl ?_
  repeat' (first
    | (show YK _ _ _ _ _ _ _; first | refine YK.mk (y_callP distance_c ⟨rfl, rfl, rfl⟩) ?_ | refine YK.mk (y_callRP compare_c ⟨rfl, rfl, rfl⟩) ?_)
    | (show YK _ _ _ _ _ _ _; refine YK.ofV vAuto ?_)
    | (show VK _ _ _ _ _ _ _; refine VK.mk vAuto ?_)
    | (show RS _ _ _ _ _ _ _ _; first | (refine RS.callP spread_c ⟨rfl, rfl, rfl⟩ ?_; rintro s _) | (refine RS.callXG spread_c ⟨rfl, rfl, rfl⟩ ?_; rintro s _) | (refine RS.callP mul_c ⟨rfl, rfl, rfl⟩ ?_; rintro s _) | (refine RS.callXG mul_c ⟨rfl, rfl, rfl⟩ ?_; rintro s _) | (refine RS.callP scale_c ⟨rfl, rfl⟩ ?_; rintro s _) | (refine RS.callXG scale_c ⟨rfl, rfl⟩ ?_; rintro s _) | (refine RS.callP num_c ⟨rfl, rfl⟩ ?_; rintro s _) | (refine RS.callXG num_c ⟨rfl, rfl⟩ ?_; rintro s _) | (refine nxRS ?_) | (refine nxRS1 fun _ => ?_))
    | (show RM _ _ _ _ _ _ _ _ _ _; first | (refine RM.callP spread_c ?_; rintro s _) | (refine RM.callXG spread_c ?_; rintro s _) | (refine RM.callP mul_c ?_; rintro s _) | (refine RM.callXG mul_c ?_; rintro s _) | (refine RM.callP scale_c ?_; rintro s _) | (refine RM.callXG scale_c ?_; rintro s _) | (refine RM.callP num_c ?_; rintro s _) | (refine RM.callXG num_c ?_; rintro s _) | (refine nxRM ?_) | (refine nxRM1 fun _ => ?_))
    | (show YG _ _ _ _ _ _ _ _; refine YG.mk (fun hb => by (try (have hc := And.left hb; have hb := And.right hb; rw [hc])); (try rw [hb]); first | exact (y_callP distance_c ⟨rfl, rfl, rfl⟩) | exact (y_callRP compare_c ⟨rfl, rfl, rfl⟩) | exact V.y vAuto) ?_)
    | (show VG _ _ _ _ _ _ _ _; refine VG.mk (fun hb => by (try (have hc := And.left hb; have hb := And.right hb; rw [hc])); (try rw [hb]); exact vAuto) ?_)
    | (refine G.mixedA 1 [.go 0, .go 1, .go 2, .go 3, .go 4, .go 5, .go 6, .go 7, .go 8, .go 9, .go 11, .go 12, .go 14, .go 15, .go 10, .go 13, .go 16, .go 17] ?_)
    | (refine G.mixedA 2 [.go 0, .go 2, .go 5, .go 6, .go 7, .go 8, .go 9, .go 1, .go 3, .go 4, .go 10, .go 11, .go 12, .go 13, .go 14] ?_)
    | (refine nxX ?_)
    | (refine G.condN rfl (fun hc => ?_) (fun hc => ?_) <;> (try first | exact False.elim hc | (exfalso; omega))))
  refine X.ret (vs := [_]) rfl ⟨rfl, rfl⟩ rfl (fun w hw => ⟨ret_bool ?_, hw.ext⟩)
  unfold nearB allowB
  rw [Bool.eq_iff_iff]
  simp only [decide_eq_true_eq, Bool.not_eq_true', Bool.or_eq_false_iff, decide_eq_false_iff_not]
  rw [cmpI_gt]
  constructor
  · intro g
    exact ⟨fun g1 => by have := e3 g1; omega, by omega⟩
  · rintro ⟨g1, g2⟩; omega
/-- The first comparison that is apart from one before it. -/
def firstBad (l : List Chk) (n d : Int) (k : Nat) : Bool := (List.range k).any fun i => !nearB n d (nth l i) (nth l k)
abbrev consV (r : Bool × Int × Int) : Value := .tuple [.bool r.1, .int .i64 r.2.1, .int .i64 r.2.2].toArray
/-- What Consistent returns. -/
def consS (l : List Chk) (n d : Int) : Bool × Int × Int :=
  if validC l = false ∨ driftB n d = false then (false, 0, 1) else
  match (List.range l.length).find? (firstBad l n d) with
  | some k => (false, (k : Int), 0)
  | none => (true, -1, 0)
theorem bad_true {l : List Chk} {n d : Int} {i k : Nat} (hi : i < k) (h : nearB n d (nth l i) (nth l k) = false) : firstBad l n d k = true := List.any_eq_true.2 ⟨i, List.mem_range.2 hi, by rw [h]; rfl⟩
theorem bad_false {l : List Chk} {n d : Int} {k : Nat} (h : ∀ i : Nat, i < k → nearB n d (nth l i) (nth l k) = true) : firstBad l n d k = false := by
  rw [Bool.eq_false_iff]
  intro hb
  obtain ⟨i, hi, hf⟩ := List.any_eq_true.1 hb
  rw [h i (List.mem_range.1 hi)] at hf
  cases hf
theorem find_some {p : Nat → Bool} {m j : Nat} (hj : j < m) (h1 : ∀ k, k < j → p k = false) (h2 : p j = true) : (List.range m).find? p = some j :=
  List.find?_range_eq_some.2 ⟨h2, List.mem_range.2 hj, fun k hk => by rw [h1 k hk]; rfl⟩
theorem find_none {p : Nat → Bool} {m : Nat} (h1 : ∀ k, k < m → p k = false) : (List.range m).find? p = none :=
  List.find?_range_eq_none.2 fun k hk => by rw [h1 k hk]; rfl
theorem rcons_c (v : Value) (l : List Chk) (hl : l.length ≤ 1000000) {n d : Int} (h : ((-9223372036854775808 ≤ n ∧ n ≤ 9223372036854775807) ∧ -9223372036854775808 ≤ d ∧ d ≤ 9223372036854775807)) : ContR Try.prog [Hl.rd v cC 3 l] 18 [v, fracV n d] (consV (consS l n d)) := fun w hw0 => by
  have hcv := rvalidt_c v l hl
  have hdr := rdrift_c h
  cases hv : validC l with
  | false =>
    have hr : consS l n d = (false, 0, 1) := by unfold consS; rw [if_pos (.inl hv)]
    rw [hv] at hcv
    refine enter Try.func18 rfl rfl rfl hw0 ?_
    repeat' (first
    | (show YK _ _ _ _ _ _ _; first | refine YK.mk (y_callRA (hcv) ⟨rfl, rfl⟩) ?_ | refine YK.mk (y_callA (hdr) ⟨rfl, rfl⟩) ?_)
    | (show YK _ _ _ _ _ _ _; refine YK.ofV vAuto ?_)
    | (show VK _ _ _ _ _ _ _; refine VK.mk vAuto ?_)
    | (show RS _ _ _ _ _ _ _ _; first | (refine nxRS ?_) | (refine nxRS1 fun _ => ?_))
    | (show RM _ _ _ _ _ _ _ _ _ _; first | (refine nxRM ?_) | (refine nxRM1 fun _ => ?_))
    | (show YG _ _ _ _ _ _ _ _; refine YG.mk (fun hb => by (try (have hc := And.left hb; have hb := And.right hb; rw [hc])); (try rw [hb]); first | exact (y_callRA (hcv) ⟨rfl, rfl⟩) | exact (y_callA (hdr) ⟨rfl, rfl⟩) | exact V.y vAuto) ?_)
    | (show VG _ _ _ _ _ _ _ _; refine VG.mk (fun hb => by (try (have hc := And.left hb; have hb := And.right hb; rw [hc])); (try rw [hb]); exact vAuto) ?_)
    | (refine G.mixedA 9 [.go 0, .go 1, .go 2, .go 3, .go 4, .go 5, .go 6, .go 7, .go 8, .go 9] ?_)
    | (refine nxX ?_)
    | (refine G.condN rfl (fun hc => ?_) (fun hc => ?_) <;> (try first | exact False.elim hc | (exfalso; omega))))
    exact X.ret (vs := [_, _, _]) rfl ⟨rfl, rfl, rfl, rfl⟩ rfl (fun w hw => ⟨by rw [hr], hw.ext⟩)
  | true =>
  rw [hv] at hcv
  cases hd : driftB n d with
  | false =>
    have hr : consS l n d = (false, 0, 1) := by unfold consS; rw [if_pos (.inr hd)]
    rw [hd] at hdr
    refine enter Try.func18 rfl rfl rfl hw0 ?_
    repeat' (first
    | (show YK _ _ _ _ _ _ _; first | refine YK.mk (y_callRA (hcv) ⟨rfl, rfl⟩) ?_ | refine YK.mk (y_callA (hdr) ⟨rfl, rfl⟩) ?_)
    | (show YK _ _ _ _ _ _ _; refine YK.ofV vAuto ?_)
    | (show VK _ _ _ _ _ _ _; refine VK.mk vAuto ?_)
    | (show RS _ _ _ _ _ _ _ _; first | (refine nxRS ?_) | (refine nxRS1 fun _ => ?_))
    | (show RM _ _ _ _ _ _ _ _ _ _; first | (refine nxRM ?_) | (refine nxRM1 fun _ => ?_))
    | (show YG _ _ _ _ _ _ _ _; refine YG.mk (fun hb => by (try (have hc := And.left hb; have hb := And.right hb; rw [hc])); (try rw [hb]); first | exact (y_callRA (hcv) ⟨rfl, rfl⟩) | exact (y_callA (hdr) ⟨rfl, rfl⟩) | exact V.y vAuto) ?_)
    | (show VG _ _ _ _ _ _ _ _; refine VG.mk (fun hb => by (try (have hc := And.left hb; have hb := And.right hb; rw [hc])); (try rw [hb]); exact vAuto) ?_)
    | (refine G.mixedA 9 [.go 0, .go 1, .go 2, .go 3, .go 4, .go 5, .go 6, .go 7, .go 8, .go 9] ?_)
    | (refine nxX ?_)
    | (refine G.condN rfl (fun hc => ?_) (fun hc => ?_) <;> (try first | exact False.elim hc | (exfalso; omega))))
    exact X.ret (vs := [_, _, _]) rfl ⟨rfl, rfl, rfl, rfl⟩ rfl (fun w hw => ⟨by rw [hr], hw.ext⟩)
  | true =>
  rw [hd] at hdr
  have hnd := drift_iff hd
  have hlen := (validC_iff.1 hv).1
  have hu : consS l n d = match (List.range l.length).find? (firstBad l n d) with
      | some k => (false, (k : Int), 0)
      | none => (true, -1, 0) := by unfold consS; rw [if_neg (by rw [hv, hd]; decide)]
  refine enter Try.func18 rfl rfl rfl hw0 ?_
  repeat' (first
    | (show YK _ _ _ _ _ _ _; first | refine YK.mk (y_callRA (hcv) ⟨rfl, rfl⟩) ?_ | refine YK.mk (y_callA (hdr) ⟨rfl, rfl⟩) ?_)
    | (show YK _ _ _ _ _ _ _; refine YK.ofV vAuto ?_)
    | (show VK _ _ _ _ _ _ _; refine VK.mk vAuto ?_)
    | (show RS _ _ _ _ _ _ _ _; first | (refine nxRS ?_) | (refine nxRS1 fun _ => ?_))
    | (show RM _ _ _ _ _ _ _ _ _ _; first | (refine nxRM ?_) | (refine nxRM1 fun _ => ?_))
    | (show YG _ _ _ _ _ _ _ _; refine YG.mk (fun hb => by (try (have hc := And.left hb; have hb := And.right hb; rw [hc])); (try rw [hb]); first | exact (y_callRA (hcv) ⟨rfl, rfl⟩) | exact (y_callA (hdr) ⟨rfl, rfl⟩) | exact V.y vAuto) ?_)
    | (show VG _ _ _ _ _ _ _ _; refine VG.mk (fun hb => by (try (have hc := And.left hb; have hb := And.right hb; rw [hc])); (try rw [hb]); exact vAuto) ?_)
    | (refine G.mixedA 9 [.go 0, .go 1, .go 2, .go 3, .go 4, .go 5, .go 6, .go 7, .go 8, .go 9] ?_)
    | (refine nxX ?_)
    | (refine G.condN rfl (fun hc => ?_) (fun hc => ?_) <;> (try first | exact False.elim hc | (exfalso; omega))))
  rename_i b3
  refine G.loop (ι := Nat) (fun j => [(0, v), (3, .pointer (some ⟨b3, 0, none⟩)), (7, .int .i64 (j : Int))]) (fun j => [Hl.blk b3 26 [.int .i64 n, .int .i64 d], Hl.rd v cC 3 l]) (fun j => j ≤ l.length ∧ ∀ k, k < j → firstBad l n d k = false) (fun j => l.length - j) 0 ⟨by omega, fun k hk => by omega⟩ ⟨rfl, rfl, rfl, trivial⟩ (fun w h => h) ?_
  rintro j mx ⟨g1, g2⟩ hmx
  rcases Nat.lt_or_ge j l.length with hj | hj
  · have bj := valid_at hv (i := j) (by omega) (by omega)
    repeat' (first
    | (refine nxV ?_)
    | (show RS _ _ _ _ _ _ _ _; first | (refine nxRS ?_) | (refine nxRS1 fun _ => ?_))
    | (show RM _ _ _ _ _ _ _ _ _ _; first | (refine nxRM ?_) | (refine nxRM1 fun _ => ?_))
    | (refine nxG ?_)
    | (refine G.mixedA 9 [.go 0, .go 1, .go 2, .go 3, .go 4, .go 5, .go 6, .go 7, .go 8, .go 9] ?_)
    | (refine nxX ?_)
    | (refine G.condN rfl (fun hc => ?_) (fun hc => ?_) <;> (try first | exact False.elim hc | (exfalso; omega))))
    refine G.loop (ι := Nat) (fun i => [(0, v), (3, .pointer (some ⟨b3, 0, none⟩)), (7, .int .i64 (j : Int)), (8, .int .i64 (i : Int))]) (fun i => [Hl.blk b3 26 [.int .i64 n, .int .i64 d], Hl.rd v cC 3 l]) (fun i => i ≤ j ∧ ∀ k, k < i → nearB n d (nth l k) (nth l j) = true) (fun i => j - i) 0 ⟨by omega, fun k hk => by omega⟩ ⟨rfl, rfl, rfl, rfl, trivial⟩ (fun w h => h) ?_
    rintro i mi ⟨g3, g4⟩ hmi
    rcases Nat.lt_or_ge i j with hi | hi
    · have bi := valid_at hv (i := i) (by omega) (by omega)
      have hpre := And.intro bi bj
      repeat' (first
    | (show YK _ _ _ _ _ _ _; first | refine YK.mk (y_callP apart_c ⟨rfl, rfl, rfl, rfl⟩) ?_)
    | (show YK _ _ _ _ _ _ _; refine YK.ofV vAuto ?_)
    | (show VK _ _ _ _ _ _ _; refine VK.mk vAuto ?_)
    | (show RS _ _ _ _ _ _ _ _; first | (refine nxRS ?_) | (refine nxRS1 fun _ => ?_))
    | (show RM _ _ _ _ _ _ _ _ _ _; first | (refine nxRM ?_) | (refine nxRM1 fun _ => ?_))
    | (show YG _ _ _ _ _ _ _ _; refine YG.mk (fun hb => by (try (have hc := And.left hb; have hb := And.right hb; rw [hc])); (try rw [hb]); first | exact (y_callP apart_c ⟨rfl, rfl, rfl, rfl⟩) | exact V.y vAuto) ?_)
    | (show VG _ _ _ _ _ _ _ _; refine VG.mk (fun hb => by (try (have hc := And.left hb; have hb := And.right hb; rw [hc])); (try rw [hb]); exact vAuto) ?_)
    | (refine G.mixedA 9 [.go 0, .go 1, .go 2, .go 3, .go 4, .go 5, .go 6, .go 7, .go 8, .go 9] ?_)
    | (refine nxX ?_)
    | (refine G.condN rfl (fun hc => ?_) (fun hc => ?_) <;> (try first | exact False.elim hc | (exfalso; omega))))
      · have e1 : firstBad l n d j = true := bad_true hi (by rw [hc])
        rw [find_some hj g2 e1] at hu
        exact X.ret (vs := [_, _, _]) rfl ⟨rfl, rfl, rfl, rfl⟩ rfl (fun w hw => ⟨by rw [hu], hw.ext⟩)
      · refine X.again (i + 1) ⟨by omega, fun k hk => ?_⟩ (by omega) ⟨rfl, rfl, rfl, rfl, trivial⟩ (by exact fun w h => h.sub (by repeat (first | exact List.Sublist.refl _ | apply List.Sublist.cons_cons | apply List.Sublist.cons)))
        rcases Nat.lt_or_ge k i with h | h
        · exact g4 k h
        · rw [show k = i by omega]; exact hc
    · repeat' (first
    | (refine nxV ?_)
    | (show RS _ _ _ _ _ _ _ _; first | (refine nxRS ?_) | (refine nxRS1 fun _ => ?_))
    | (show RM _ _ _ _ _ _ _ _ _ _; first | (refine nxRM ?_) | (refine nxRM1 fun _ => ?_))
    | (refine nxG ?_)
    | (refine G.mixedA 9 [.go 0, .go 1, .go 2, .go 3, .go 4, .go 5, .go 6, .go 7, .go 8, .go 9] ?_)
    | (refine nxX ?_)
    | (refine G.condN rfl (fun hc => ?_) (fun hc => ?_) <;> (try first | exact False.elim hc | (exfalso; omega))))
      refine X.again (j + 1) ⟨by omega, fun k hk => ?_⟩ (by omega) ⟨rfl, rfl, rfl, trivial⟩ (by exact fun w h => h.sub (by repeat (first | exact List.Sublist.refl _ | apply List.Sublist.cons_cons | apply List.Sublist.cons)))
      rcases Nat.lt_or_ge k j with h | h
      · exact g2 k h
      · rw [show k = j by omega]; exact bad_false fun a ha => g4 a (by omega)
  · repeat' (first
    | (refine nxV ?_)
    | (show RS _ _ _ _ _ _ _ _; first | (refine nxRS ?_) | (refine nxRS1 fun _ => ?_))
    | (show RM _ _ _ _ _ _ _ _ _ _; first | (refine nxRM ?_) | (refine nxRM1 fun _ => ?_))
    | (refine nxG ?_)
    | (refine G.mixedA 9 [.go 0, .go 1, .go 2, .go 3, .go 4, .go 5, .go 6, .go 7, .go 8, .go 9] ?_)
    | (refine nxX ?_)
    | (refine G.condN rfl (fun hc => ?_) (fun hc => ?_) <;> (try first | exact False.elim hc | (exfalso; omega))))
    rw [find_none (fun k hk => g2 k (by omega))] at hu
    exact X.ret (vs := [_, _, _]) rfl ⟨rfl, rfl, rfl, rfl⟩ rfl (fun w hw => ⟨by rw [hu], hw.ext⟩)
end Go.Proofs.Ytcjganfppcjdfaa
