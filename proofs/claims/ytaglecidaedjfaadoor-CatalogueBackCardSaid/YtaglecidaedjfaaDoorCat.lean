/- catalogue.Valid, Between. -/
import Derived.Test.YtaglecidaedjfaaDoorStar
set_option linter.unusedVariables false
set_option maxHeartbeats 4000000
namespace Go.Proofs.YtaglecidaedjfaaDoor
open Go.RowKit

def okS (l : List StarT) (i : Nat) : Bool := nameB (nth l (i : Int)).1 && numB (nth l (i : Int)) && decide (idxS l (nth l (i : Int)).1 = (i : Int))
def validS (l : List StarT) : Bool := decide ((l.length : Int) ≤ 100) && (List.range l.length).all fun i => okS l i
abbrev namesOk (l : List StarT) : Prop := ∀ i : Nat, i < l.length → (nth l (i : Int)).1.length ≤ 1000000
theorem validS_t {l : List StarT} (h : validS l = true) : l.length ≤ 100 ∧ ∀ i : Nat, i < l.length → okS l i = true := by
  unfold validS at h
  simp only [Bool.and_eq_true, decide_eq_true_eq, List.all_eq_true] at h
  exact ⟨by omega, fun i hi => h.2 i (List.mem_range.2 hi)⟩
theorem validS_mk {l : List StarT} (h1 : l.length ≤ 100) (h2 : ∀ i : Nat, i < l.length → okS l i = true) : validS l = true := by
  unfold validS
  simp only [Bool.and_eq_true, decide_eq_true_eq, List.all_eq_true]
  exact ⟨by omega, fun i hi => h2 i (List.mem_range.1 hi)⟩
theorem validS_f {l : List StarT} {i : Nat} (hi : i < l.length) (h : okS l i = false) : validS l = false := by
  cases hv : validS l with
  | false => rfl
  | true =>
    have := (validS_t hv).2 i hi
    rw [h] at this; cases this
theorem valid_c (v : Value) (l : List StarT) (hl : l.length ≤ 9223372036854775807) (hn : l.length ≤ 100 → namesOk l) : ContR Tryd.prog [Hl.rd v cSt 4 l] 9 [v] (.bool (validS l)) := fun w hw0 => by
  by_cases h100 : 100 < l.length
  · have e : validS l = false := by
      cases hv : validS l with
      | false => rfl
      | true => have := (validS_t hv).1; omega
    refine enter Tryd.func9 rfl rfl rfl hw0 ?_
    repeat' (first
    | (refine nxV ?_)
    | (show RS _ _ _ _ _ _ _ _; first | (refine nxRS ?_) | (refine nxRS1 fun _ => ?_))
    | (show RM _ _ _ _ _ _ _ _ _ _; first | (refine nxRM ?_) | (refine nxRM1 fun _ => ?_))
    | (refine nxG ?_)
    | (refine nxX ?_)
    | (refine G.condN rfl (fun hc => ?_) (fun hc => ?_) <;> (try first | exact False.elim hc | (exfalso; omega))))
    exact X.ret (vs := [_]) rfl ⟨rfl, rfl⟩ rfl (fun w hw => ⟨ret_bool e.symm, hw.ext⟩)
  · have hn' := hn (by omega)
    refine enter Tryd.func9 rfl rfl rfl hw0 ?_
    repeat' (first
    | (refine nxV ?_)
    | (show RS _ _ _ _ _ _ _ _; first | (refine nxRS ?_) | (refine nxRS1 fun _ => ?_))
    | (show RM _ _ _ _ _ _ _ _ _ _; first | (refine nxRM ?_) | (refine nxRM1 fun _ => ?_))
    | (refine nxG ?_)
    | (refine nxX ?_)
    | (refine G.condN rfl (fun hc => ?_) (fun hc => ?_) <;> (try first | exact False.elim hc | (exfalso; omega))))
    refine G.loop (ι := Nat) (fun i => [(0, v), (8, v), (9, .int .i64 l.length), (10, .int .i64 (i : Int))]) (fun _ => [Hl.rd v cSt 4 l]) (fun i => i ≤ l.length ∧ ∀ k : Nat, k < i → okS l k = true) (fun i => l.length - i) 0 ⟨Nat.zero_le _, fun k hk => by omega⟩ ⟨rfl, rfl, rfl, rfl, trivial⟩ (by exact fun w h => h.sub (by repeat (first | exact List.Sublist.refl _ | apply List.Sublist.cons_cons | apply List.Sublist.cons))) ?_
    rintro i mx ⟨g1, g2⟩ hmx
    rcases Nat.lt_or_ge i l.length with hi | hi
    · have q1 := isName_c (nth l (i : Int)).1 (hn' i hi)
      have q2 := numbers_c (nth l (i : Int))
      have q3 := index_c (nth l (i : Int)).1 v l (by omega)
      have hok : okS l i = (nameB (nth l (i : Int)).1 && numB (nth l (i : Int)) && decide (idxS l (nth l (i : Int)).1 = (i : Int))) := rfl
      generalize nameB (nth l (i : Int)).1 = b1 at q1 hok
      generalize numB (nth l (i : Int)) = b2 at q2 hok
      generalize idxS l (nth l (i : Int)).1 = b3 at q3 hok
      repeat' (first
    | (show YK _ _ _ _ _ _ _; first | refine YK.mk (y_callA (q1) ⟨rfl, rfl⟩) ?_ | refine YK.mk (y_callA (q2) ⟨rfl, rfl⟩) ?_ | refine YK.mk (y_callRA (q3) ⟨rfl, rfl, rfl⟩) ?_)
    | (show YK _ _ _ _ _ _ _; refine YK.ofV vAuto ?_)
    | (show VK _ _ _ _ _ _ _; refine VK.mk vAuto ?_)
    | (show RS _ _ _ _ _ _ _ _; first | (refine nxRS ?_) | (refine nxRS1 fun _ => ?_))
    | (show RM _ _ _ _ _ _ _ _ _ _; first | (refine nxRM ?_) | (refine nxRM1 fun _ => ?_))
    | (show YG _ _ _ _ _ _ _ _; refine YG.mk (fun hb => by (try (have hc := And.left hb; have hb := And.right hb; rw [hc])); (try rw [hb]); first | exact (y_callA (q1) ⟨rfl, rfl⟩) | exact (y_callA (q2) ⟨rfl, rfl⟩) | exact (y_callRA (q3) ⟨rfl, rfl, rfl⟩) | exact V.y vAuto) ?_)
    | (show VG _ _ _ _ _ _ _ _; refine VG.mk (fun hb => by (try (have hc := And.left hb; have hb := And.right hb; rw [hc])); (try rw [hb]); exact vAuto) ?_)
    | (refine nxVS ?_)
    | (refine nxGS ?_)
    | (refine nxX ?_)
    | (refine G.condN rfl (fun hc => ?_) (fun hc => ?_) <;> (try first | exact False.elim hc | (exfalso; omega))))
      · have hf : okS l i = false := by
          rw [hok]
          rcases hc with (h | h) | h
          · rw [h]; rfl
          · rw [h]; simp
          · rw [decide_eq_false h]; simp
        exact X.ret (vs := [_]) rfl ⟨rfl, rfl⟩ rfl (fun w hw => ⟨ret_bool (validS_f hi hf).symm, hw.ext⟩)
      · have ht : okS l i = true := by rw [hok, hc.1.1, hc.1.2, decide_eq_true hc.2]; rfl
        refine X.again (i + 1) ⟨by omega, fun k hk => ?_⟩ (by omega) ⟨rfl, rfl, rfl, rfl, trivial⟩ (by exact fun w h => h.sub (by repeat (first | exact List.Sublist.refl _ | apply List.Sublist.cons_cons | apply List.Sublist.cons)))
        rcases Nat.lt_or_ge k i with h | h
        · exact g2 k h
        · rw [show k = i by omega]; exact ht
    · repeat' (first
    | (refine nxV ?_)
    | (show RS _ _ _ _ _ _ _ _; first | (refine nxRS ?_) | (refine nxRS1 fun _ => ?_))
    | (show RM _ _ _ _ _ _ _ _ _ _; first | (refine nxRM ?_) | (refine nxRM1 fun _ => ?_))
    | (refine nxG ?_)
    | (refine nxX ?_)
    | (refine G.condN rfl (fun hc => ?_) (fun hc => ?_) <;> (try first | exact False.elim hc | (exfalso; omega))))
      exact X.ret (vs := [_]) rfl ⟨rfl, rfl⟩ rfl (fun w hw => ⟨ret_bool (validS_mk (by omega) (fun k hk => g2 k (by omega))).symm, hw.ext⟩)

theorem arc_c {n : Int} (h : -1000000000 ≤ n ∧ n ≤ 1000000000) : Cont Tryd.prog 38 [.int .i64 n] (.agg [.int .i64 (100 * n - 50), .int .i64 (100 * n + 50)].toArray) := fun w => by
  refine enter0 Tryd.func38 rfl rfl rfl ?_
  repeat' (first
    | (refine nxV ?_)
    | (show RS _ _ _ _ _ _ _ _; first | (refine nxRS ?_) | (refine nxRS1 fun _ => ?_))
    | (show RM _ _ _ _ _ _ _ _ _ _; first | (refine nxRM ?_) | (refine nxRM1 fun _ => ?_))
    | (refine nxG ?_)
    | (refine nxX ?_)
    | (refine G.condN rfl (fun hc => ?_) (fun hc => ?_) <;> (try first | exact False.elim hc | (exfalso; omega))))
  exact X.ret (vs := [_]) rfl ⟨⟨_, _, _, _, rfl, (by exact memA), (by (repeat (first | exact .nil | apply LenIs.cons))), by decide +kernel, rfl⟩, rfl⟩ rfl (fun w hw => ⟨rfl, hw.ext⟩)
def inB (l : List StarT) (so no : Int) (i : Nat) : Bool := decide (100 * (nth l (i : Int)).2.2.1 - 50 ≤ no) && decide (so ≤ 100 * (nth l (i : Int)).2.2.1 + 50)
def betL (l : List StarT) (so no : Int) (k : Nat) : List Int := ((List.range k).filter fun i => inB l so no i).map fun i : Nat => (i : Int)
theorem betL_succ (l : List StarT) (so no : Int) (k : Nat) : betL l so no (k + 1) = if inB l so no k = true then betL l so no k ++ [(k : Int)] else betL l so no k := by
  unfold betL
  rw [List.range_succ, List.filter_append, List.map_append]
  by_cases h : inB l so no k = true
  · rw [if_pos h]; simp [h]
  · rw [if_neg h]; simp [h]
theorem betL_len (l : List StarT) (so no : Int) (k : Nat) : (betL l so no k).length ≤ k := by
  unfold betL
  rw [List.length_map]
  exact Nat.le_trans (List.length_filter_le _ _) (by simp)
theorem num_of {l : List StarT} (h : validS l = true) {i : Nat} (hi : i < l.length) : (0 ≤ (nth l (i : Int)).2.1 ∧ (nth l (i : Int)).2.1 ≤ 215999) ∧ (-54000 ≤ (nth l (i : Int)).2.2.1 ∧ (nth l (i : Int)).2.2.1 ≤ 54000) ∧ -20 ≤ (nth l (i : Int)).2.2.2 ∧ (nth l (i : Int)).2.2.2 ≤ 150 := by
  have := (validS_t h).2 i hi
  simp only [okS, numB, Bool.and_eq_true, decide_eq_true_eq] at this
  omega
abbrev lstV (x : Sl) (e : Int) : Value := .tuple [x.v, .int .i64 e].toArray
theorem between_no {v : Value} {l : List StarT} {so no e : Int} {b : Bool} (pv : ContR Tryd.prog [Hl.rd v cSt 4 l] 9 [v] (.bool b)) (hb : b = false ∧ e = 1 ∨ b = true ∧ e = 2 ∧ (no < so ∨ so < -5400000 ∨ 5400000 < no)) :
    ContR Tryd.prog [Hl.rd v cSt 4 l] 11 [v, .int .i64 so, .int .i64 no] (.tuple [.slice none 0 0, .int .i64 e].toArray) := fun w hw0 => by
  rcases hb with ⟨rfl, rfl⟩ | ⟨rfl, rfl, hb⟩
  · refine enter Tryd.func11 rfl rfl rfl hw0 ?_
    repeat' (first
    | (show YK _ _ _ _ _ _ _; first | refine YK.mk (y_callRA (pv) ⟨rfl, rfl⟩) ?_)
    | (show YK _ _ _ _ _ _ _; refine YK.ofV vAuto ?_)
    | (show VK _ _ _ _ _ _ _; refine VK.mk vAuto ?_)
    | (show RS _ _ _ _ _ _ _ _; first | (refine nxRS ?_) | (refine nxRS1 fun _ => ?_))
    | (show RM _ _ _ _ _ _ _ _ _ _; first | (refine nxRM ?_) | (refine nxRM1 fun _ => ?_))
    | (show YG _ _ _ _ _ _ _ _; refine YG.mk (fun hb => by (try (have hc := And.left hb; have hb := And.right hb; rw [hc])); (try rw [hb]); first | exact (y_callRA (pv) ⟨rfl, rfl⟩) | exact V.y vAuto) ?_)
    | (show VG _ _ _ _ _ _ _ _; refine VG.mk (fun hb => by (try (have hc := And.left hb; have hb := And.right hb; rw [hc])); (try rw [hb]); exact vAuto) ?_)
    | (refine nxX ?_)
    | (refine G.condN rfl (fun hc => ?_) (fun hc => ?_) <;> (try first | exact False.elim hc | (exfalso; omega))))
    exact X.ret (vs := [_, _]) rfl ⟨rfl, rfl, rfl⟩ rfl (fun w hw => ⟨rfl, hw.ext⟩)
  · refine enter Tryd.func11 rfl rfl rfl hw0 ?_
    repeat' (first
    | (show YK _ _ _ _ _ _ _; first | refine YK.mk (y_callRA (pv) ⟨rfl, rfl⟩) ?_)
    | (show YK _ _ _ _ _ _ _; refine YK.ofV vAuto ?_)
    | (show VK _ _ _ _ _ _ _; refine VK.mk vAuto ?_)
    | (show RS _ _ _ _ _ _ _ _; first | (refine nxRS ?_) | (refine nxRS1 fun _ => ?_))
    | (show RM _ _ _ _ _ _ _ _ _ _; first | (refine nxRM ?_) | (refine nxRM1 fun _ => ?_))
    | (show YG _ _ _ _ _ _ _ _; refine YG.mk (fun hb => by (try (have hc := And.left hb; have hb := And.right hb; rw [hc])); (try rw [hb]); first | exact (y_callRA (pv) ⟨rfl, rfl⟩) | exact V.y vAuto) ?_)
    | (show VG _ _ _ _ _ _ _ _; refine VG.mk (fun hb => by (try (have hc := And.left hb; have hb := And.right hb; rw [hc])); (try rw [hb]); exact vAuto) ?_)
    | (refine nxX ?_)
    | (refine G.condN rfl (fun hc => ?_) (fun hc => ?_) <;> (try first | exact False.elim hc | (exfalso; omega))))
    exact X.ret (vs := [_, _]) rfl ⟨rfl, rfl, rfl⟩ rfl (fun w hw => ⟨rfl, hw.ext⟩)
theorem between_c {v : Value} {l : List StarT} {so no : Int} (hv : validS l = true) (pv : ContR Tryd.prog [Hl.rd v cSt 4 l] 9 [v] (.bool true)) (h : so ≤ no ∧ -5400000 ≤ so ∧ no ≤ 5400000) :
    ContX Tryd.prog [Hl.rd v cSt 4 l] 11 [v, .int .i64 so, .int .i64 no] (fun _ : Sl => True) (fun x => lstV x 0) (fun x => [Hl.nw x.v cI 1 (betL l so no l.length)]) := fun w hw0 => by
  have hlen := (validS_t hv).1
  refine enter Tryd.func11 rfl rfl rfl hw0 ?_
  repeat' (first
    | (show YK _ _ _ _ _ _ _; first | refine YK.mk (y_callRA (pv) ⟨rfl, rfl⟩) ?_)
    | (show YK _ _ _ _ _ _ _; refine YK.ofV vAuto ?_)
    | (show VK _ _ _ _ _ _ _; refine VK.mk vAuto ?_)
    | (show RS _ _ _ _ _ _ _ _; first | (refine nxRS ?_) | (refine nxRS1 fun _ => ?_))
    | (show RM _ _ _ _ _ _ _ _ _ _; first | (refine nxRM ?_) | (refine nxRM1 fun _ => ?_))
    | (show YG _ _ _ _ _ _ _ _; refine YG.mk (fun hb => by (try (have hc := And.left hb; have hb := And.right hb; rw [hc])); (try rw [hb]); first | exact (y_callRA (pv) ⟨rfl, rfl⟩) | exact V.y vAuto) ?_)
    | (show VG _ _ _ _ _ _ _ _; refine VG.mk (fun hb => by (try (have hc := And.left hb; have hb := And.right hb; rw [hc])); (try rw [hb]); exact vAuto) ?_)
    | (refine nxX ?_)
    | (refine G.condN rfl (fun hc => ?_) (fun hc => ?_) <;> (try first | exact False.elim hc | (exfalso; omega))))
  refine G.loop (ι := Nat × Sl) (fun x => [(1, .int .i64 so), (2, .int .i64 no), (8, x.2.v), (28, v), (29, .int .i64 l.length), (30, .int .i64 (x.1 : Int))]) (fun x => [Hl.rw x.2.v 3 cI 1 (betL l so no x.1), Hl.rd v cSt 4 l]) (fun x => x.1 ≤ l.length) (fun x => l.length - x.1) (0, ⟨none, 0, 0⟩) (Nat.zero_le _) ⟨rfl, rfl, rfl, rfl, rfl, rfl, trivial⟩ (fun w h => by have h2 := St.nilRow 3 cI 1 h; exact h2) ?_
  rintro ⟨i, x⟩ mx g1 hmx
  dsimp only at g1 hmx ⊢
  have hbl := betL_len l so no i
  rcases Nat.lt_or_ge i l.length with hi | hi
  · have hnum := num_of hv hi
    have q1 := arc_c (n := (nth l (i : Int)).2.2.1) (by omega)
    have hs := betL_succ l so no i
    repeat' (first
    | (show YK _ _ _ _ _ _ _; first | refine YK.mk (y_callA (q1) ⟨rfl, rfl⟩) ?_)
    | (show YK _ _ _ _ _ _ _; refine YK.ofV vAuto ?_)
    | (show VK _ _ _ _ _ _ _; refine VK.mk vAuto ?_)
    | (show RS _ _ _ _ _ _ _ _; first | (refine nxRS ?_) | (refine nxRS1 fun _ => ?_))
    | (show RM _ _ _ _ _ _ _ _ _ _; first | (refine nxRM ?_) | (refine nxRM1 fun _ => ?_))
    | (show YG _ _ _ _ _ _ _ _; refine YG.mk (fun hb => by (try (have hc := And.left hb; have hb := And.right hb; rw [hc])); (try rw [hb]); first | exact (y_callA (q1) ⟨rfl, rfl⟩) | exact V.y vAuto) ?_)
    | (show VG _ _ _ _ _ _ _ _; refine VG.mk (fun hb => by (try (have hc := And.left hb; have hb := And.right hb; rw [hc])); (try rw [hb]); exact vAuto) ?_)
    | (refine nxX ?_)
    | (refine G.condN rfl (fun hc => ?_) (fun hc => ?_) <;> (try first | exact False.elim hc | (exfalso; omega))))
    · have hb : inB l so no i = true := by unfold inB; rw [decide_eq_true hc.1, decide_eq_true hc.2]; rfl
      rw [if_pos hb] at hs
      rename_i y z
      refine X.again (i + 1, z) (by dsimp only; omega) (by dsimp only; omega) ⟨rfl, rfl, rfl, rfl, rfl, rfl, trivial⟩ (fun w h => ?_)
      dsimp only
      rw [hs]
      exact h.sub (by repeat (first | exact List.Sublist.refl _ | apply List.Sublist.cons_cons | apply List.Sublist.cons))
    · have hb : ¬ inB l so no i = true := fun g => by
        unfold inB at g
        simp only [Bool.and_eq_true, decide_eq_true_eq] at g
        omega
      rw [if_neg hb] at hs
      refine X.again (i + 1, x) (by dsimp only; omega) (by dsimp only; omega) ⟨rfl, rfl, rfl, rfl, rfl, rfl, trivial⟩ (fun w h => ?_)
      dsimp only
      rw [hs]
      exact h.sub (by repeat (first | exact List.Sublist.refl _ | apply List.Sublist.cons_cons | apply List.Sublist.cons))
  · obtain rfl : i = l.length := by omega
    repeat' (first
    | (refine nxV ?_)
    | (show RS _ _ _ _ _ _ _ _; first | (refine nxRS ?_) | (refine nxRS1 fun _ => ?_))
    | (show RM _ _ _ _ _ _ _ _ _ _; first | (refine nxRM ?_) | (refine nxRM1 fun _ => ?_))
    | (refine nxG ?_)
    | (refine nxX ?_)
    | (refine G.condN rfl (fun hc => ?_) (fun hc => ?_) <;> (try first | exact False.elim hc | (exfalso; omega))))
    exact X.retN (vs := [_, _]) x rfl ⟨rfl, rfl, rfl⟩ rfl trivial rfl (NewIn.rw (by exact memA) NewIn.nil)
end Go.Proofs.YtaglecidaedjfaaDoor
