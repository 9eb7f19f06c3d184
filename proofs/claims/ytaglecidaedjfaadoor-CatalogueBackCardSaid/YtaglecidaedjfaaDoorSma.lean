/- small of law 16; slices.Contains at ints. -/
import Derived.Test.YtaglecidaedjfaaDoorBri
set_option linter.unusedVariables false
set_option maxHeartbeats 4000000
namespace Go.Proofs.YtaglecidaedjfaaDoor
open Go.RowKit

def idxI (l : List Int) (x : Int) : Int := match (List.range l.length).find? (fun i : Nat => decide (x = nth l (i : Int))) with
  | some k => (k : Int)
  | none => -1
theorem indexI_c (v : Value) (l : List Int) (x : Int) (hl : l.length ≤ 1000000) : ContR Tryd.prog [Hl.rd v cI 1 l] 39 [v, .int .i64 x] (.int .i64 (idxI l x)) := fun w hw0 => by
  refine enter Tryd.func39 rfl rfl rfl hw0 ?_
  repeat' (first
    | (refine nxV ?_)
    | (show RS _ _ _ _ _ _ _ _; first | (refine nxRS ?_) | (refine nxRS1 fun _ => ?_))
    | (show RM _ _ _ _ _ _ _ _ _ _; first | (refine nxRM ?_) | (refine nxRM1 fun _ => ?_))
    | (refine nxG ?_)
    | (refine nxX ?_)
    | (refine G.condN rfl (fun hc => ?_) (fun hc => ?_) <;> (try first | exact False.elim hc | (exfalso; omega))))
  refine G.loop (ι := Nat) (fun i => [(0, v), (1, .int .i64 x), (7, .int .i64 l.length), (8, .int .i64 (i : Int))]) (fun _ => [Hl.rd v cI 1 l]) (fun i => i ≤ l.length ∧ ∀ k : Nat, k < i → decide (x = nth l (k : Int)) = false) (fun i => l.length - i) 0 ⟨by omega, fun k hk => by omega⟩ ⟨rfl, rfl, rfl, rfl, trivial⟩ (fun w h => h) ?_
  rintro i mx ⟨g1, g2⟩ hmx
  have hr : idxI l x = match (List.range l.length).find? (fun i : Nat => decide (x = nth l (i : Int))) with
    | some k => (k : Int)
    | none => -1 := rfl
  rcases Nat.lt_or_ge i l.length with hi | hi
  · repeat' (first
    | (refine nxV ?_)
    | (show RS _ _ _ _ _ _ _ _; first | (refine nxRS ?_) | (refine nxRS1 fun _ => ?_))
    | (show RM _ _ _ _ _ _ _ _ _ _; first | (refine nxRM ?_) | (refine nxRM1 fun _ => ?_))
    | (refine nxG ?_)
    | (refine nxX ?_)
    | (refine G.condN rfl (fun hc => ?_) (fun hc => ?_) <;> (try first | exact False.elim hc | (exfalso; omega))))
    · rw [findr_some hi g2 (decide_eq_true hc)] at hr
      exact X.ret (vs := [_]) rfl ⟨rfl, rfl⟩ rfl (fun w hw => ⟨ret_int hr.symm, hw.ext⟩)
    · refine X.again (i + 1) ⟨by omega, fun k hk => ?_⟩ (by omega) ⟨rfl, rfl, rfl, rfl, trivial⟩ (by exact fun w h => h.sub (by repeat (first | exact List.Sublist.refl _ | apply List.Sublist.cons_cons | apply List.Sublist.cons)))
      rcases Nat.lt_or_ge k i with h | h
      · exact g2 k h
      · rw [show k = i by omega]; exact decide_eq_false hc
  · repeat' (first
    | (refine nxV ?_)
    | (show RS _ _ _ _ _ _ _ _; first | (refine nxRS ?_) | (refine nxRS1 fun _ => ?_))
    | (show RM _ _ _ _ _ _ _ _ _ _; first | (refine nxRM ?_) | (refine nxRM1 fun _ => ?_))
    | (refine nxG ?_)
    | (refine nxX ?_)
    | (refine G.condN rfl (fun hc => ?_) (fun hc => ?_) <;> (try first | exact False.elim hc | (exfalso; omega))))
    rw [findr_none (fun k hk => g2 k (by omega))] at hr
    exact X.ret (vs := [_]) rfl ⟨rfl, rfl⟩ rfl (fun w hw => ⟨ret_int hr.symm, hw.ext⟩)
theorem idxI_mem (l : List Int) (x : Int) : decide (0 ≤ idxI l x) = decide (x ∈ l) := by
  have hr : idxI l x = match (List.range l.length).find? (fun i : Nat => decide (x = nth l (i : Int))) with
    | some k => (k : Int)
    | none => -1 := rfl
  have hn : ∀ i (h : i < l.length), nth l (i : Int) = l[i] := fun i h => by
    show l.getD i default = l[i]
    rw [List.getD_eq_getElem?_getD, List.getElem?_eq_getElem h]; rfl
  cases hf : (List.range l.length).find? (fun i : Nat => decide (x = nth l (i : Int))) with
  | none =>
    rw [hf] at hr
    rw [hr]
    have := List.find?_eq_none.1 hf
    rw [decide_eq_false (by decide), decide_eq_false]
    intro hm
    obtain ⟨i, hi, e⟩ := List.getElem_of_mem hm
    exact this i (List.mem_range.2 hi) (decide_eq_true (by rw [hn i hi, e]))
  | some k =>
    rw [hf] at hr
    have hr2 : idxI l x = (k : Int) := hr
    rw [hr2]
    have h1 := List.find?_some hf
    have h2 := List.mem_range.1 (List.mem_of_find?_eq_some hf)
    have h3 := of_decide_eq_true h1
    rw [decide_eq_true (by omega), decide_eq_true]
    rw [h3, hn k h2]
    exact List.getElem_mem h2
theorem contains_c (v : Value) (l : List Int) (x : Int) (hl : l.length ≤ 1000000) : ContR Tryd.prog [Hl.rd v cI 1 l] 12 [v, .int .i64 x] (.bool (decide (x ∈ l))) := fun w hw0 => by
  have q1 := indexI_c v l x hl
  have q2 := idxI_mem l x
  generalize idxI l x = j at q1 q2
  refine enter Tryd.func12 rfl rfl rfl hw0 ?_
  repeat' (first
    | (show YK _ _ _ _ _ _ _; first | refine YK.mk (y_callRA (q1) ⟨rfl, rfl, rfl⟩) ?_)
    | (show YK _ _ _ _ _ _ _; refine YK.ofV vAuto ?_)
    | (show VK _ _ _ _ _ _ _; refine VK.mk vAuto ?_)
    | (show RS _ _ _ _ _ _ _ _; first | (refine nxRS ?_) | (refine nxRS1 fun _ => ?_))
    | (show RM _ _ _ _ _ _ _ _ _ _; first | (refine nxRM ?_) | (refine nxRM1 fun _ => ?_))
    | (show YG _ _ _ _ _ _ _ _; refine YG.mk (fun hb => by (try (have hc := And.left hb; have hb := And.right hb; rw [hc])); (try rw [hb]); first | exact (y_callRA (q1) ⟨rfl, rfl, rfl⟩) | exact V.y vAuto) ?_)
    | (show VG _ _ _ _ _ _ _ _; refine VG.mk (fun hb => by (try (have hc := And.left hb; have hb := And.right hb; rw [hc])); (try rw [hb]); exact vAuto) ?_)
    | (refine nxX ?_)
    | (refine G.condN rfl (fun hc => ?_) (fun hc => ?_) <;> (try first | exact False.elim hc | (exfalso; omega))))
  exact X.ret (vs := [_]) rfl ⟨rfl, rfl⟩ rfl (fun w hw => ⟨ret_bool q2, hw.ext⟩)

def longB (s : StarT) : Bool := decide (60 < (s.1.length : Int))
theorem small1_c (s : StarT) : ContIn Tryd.prog (fun _ => True) 31 ([stV s] ++ (#[] : Array Value).toList) (.bool (longB s)) := fun w _ => by
  refine enter0 Tryd.func31 rfl rfl rfl ?_
  repeat' (first
    | (refine nxV ?_)
    | (show RS _ _ _ _ _ _ _ _; first | (refine nxRS ?_) | (refine nxRS1 fun _ => ?_))
    | (show RM _ _ _ _ _ _ _ _ _ _; first | (refine nxRM ?_) | (refine nxRM1 fun _ => ?_))
    | (refine nxG ?_)
    | (refine nxVS ?_)
    | (refine nxGS ?_)
    | (refine nxX ?_)
    | (refine G.condN rfl (fun hc => ?_) (fun hc => ?_) <;> (try first | exact False.elim hc | (exfalso; omega))))
  exact X.ret (vs := [_]) rfl ⟨rfl, rfl⟩ rfl (fun w hw => ⟨rfl, hw.ext⟩)
def idxL (l : List StarT) : Int := match (List.range l.length).find? (fun i : Nat => longB (nth l (i : Int))) with
  | some k => (k : Int)
  | none => -1
theorem indexFL_c (v : Value) (l : List StarT) (hl : l.length ≤ 1000000) : ContR Tryd.prog [Hl.rd v cSt 4 l] 61 [v, .func (.func 31) #[] #[]] (.int .i64 (idxL l)) := fun w hw0 => by
  refine enter Tryd.func61 rfl rfl rfl hw0 ?_
  repeat' (first
    | (refine nxV ?_)
    | (show RS _ _ _ _ _ _ _ _; first | (refine nxRS ?_) | (refine nxRS1 fun _ => ?_))
    | (show RM _ _ _ _ _ _ _ _ _ _; first | (refine nxRM ?_) | (refine nxRM1 fun _ => ?_))
    | (refine nxG ?_)
    | (refine nxX ?_)
    | (refine G.condN rfl (fun hc => ?_) (fun hc => ?_) <;> (try first | exact False.elim hc | (exfalso; omega))))
  refine G.loop (ι := Nat) (fun i => [(0, v), (1, .func (.func 31) #[] #[]), (7, .int .i64 l.length), (8, .int .i64 (i : Int))]) (fun _ => [Hl.rd v cSt 4 l]) (fun i => i ≤ l.length ∧ ∀ k : Nat, k < i → longB (nth l (k : Int)) = false) (fun i => l.length - i) 0 ⟨by omega, fun k hk => by omega⟩ ⟨rfl, rfl, rfl, rfl, trivial⟩ (fun w h => h) ?_
  rintro i mx ⟨g1, g2⟩ hmx
  have hr : idxL l = match (List.range l.length).find? (fun i : Nat => longB (nth l (i : Int))) with
    | some k => (k : Int)
    | none => -1 := rfl
  rcases Nat.lt_or_ge i l.length with hi | hi
  · have q1 := small1_c (nth l (i : Int))
    cases hb : longB (nth l (i : Int)) with
    | true =>
      rw [hb] at q1
      repeat' (first
    | (show YK _ _ _ _ _ ⟨_, .call { callee := .value _, args := _, argTypes := _ }, _, _, _, _⟩ _; refine YK.mk (y_callV (f := 31) (by rfl) q1 (fun _ _ => trivial) ⟨rfl, rfl⟩ (by decide +kernel)) ?_)
    | (refine nxV ?_)
    | (show RS _ _ _ _ _ _ _ _; first | (refine nxRS ?_) | (refine nxRS1 fun _ => ?_))
    | (show RM _ _ _ _ _ _ _ _ _ _; first | (refine nxRM ?_) | (refine nxRM1 fun _ => ?_))
    | (refine nxG ?_)
    | (refine nxVS ?_)
    | (refine nxGS ?_)
    | (refine nxX ?_)
    | (refine G.condN rfl (fun hc => ?_) (fun hc => ?_) <;> (try first | exact False.elim hc | (exfalso; omega))))
      rw [findr_some hi g2 hb] at hr
      exact X.ret (vs := [_]) rfl ⟨rfl, rfl⟩ rfl (fun w hw => ⟨ret_int hr.symm, hw.ext⟩)
    | false =>
      rw [hb] at q1
      repeat' (first
    | (show YK _ _ _ _ _ ⟨_, .call { callee := .value _, args := _, argTypes := _ }, _, _, _, _⟩ _; refine YK.mk (y_callV (f := 31) (by rfl) q1 (fun _ _ => trivial) ⟨rfl, rfl⟩ (by decide +kernel)) ?_)
    | (refine nxV ?_)
    | (show RS _ _ _ _ _ _ _ _; first | (refine nxRS ?_) | (refine nxRS1 fun _ => ?_))
    | (show RM _ _ _ _ _ _ _ _ _ _; first | (refine nxRM ?_) | (refine nxRM1 fun _ => ?_))
    | (refine nxG ?_)
    | (refine nxVS ?_)
    | (refine nxGS ?_)
    | (refine nxX ?_)
    | (refine G.condN rfl (fun hc => ?_) (fun hc => ?_) <;> (try first | exact False.elim hc | (exfalso; omega))))
      refine X.again (i + 1) ⟨by omega, fun k hk => ?_⟩ (by omega) ⟨rfl, rfl, rfl, rfl, trivial⟩ (by exact fun w h => h.sub (by repeat (first | exact List.Sublist.refl _ | apply List.Sublist.cons_cons | apply List.Sublist.cons)))
      rcases Nat.lt_or_ge k i with h | h
      · exact g2 k h
      · rw [show k = i by omega]; exact hb
  · repeat' (first
    | (refine nxV ?_)
    | (show RS _ _ _ _ _ _ _ _; first | (refine nxRS ?_) | (refine nxRS1 fun _ => ?_))
    | (show RM _ _ _ _ _ _ _ _ _ _; first | (refine nxRM ?_) | (refine nxRM1 fun _ => ?_))
    | (refine nxG ?_)
    | (refine nxX ?_)
    | (refine G.condN rfl (fun hc => ?_) (fun hc => ?_) <;> (try first | exact False.elim hc | (exfalso; omega))))
    rw [findr_none (fun k hk => g2 k (by omega))] at hr
    exact X.ret (vs := [_]) rfl ⟨rfl, rfl⟩ rfl (fun w hw => ⟨ret_int hr.symm, hw.ext⟩)
theorem idxL_no {l : List StarT} (h : idxL l < 0) {i : Nat} (hi : i < l.length) : (nth l (i : Int)).1.length ≤ 60 := by
  have hr : idxL l = match (List.range l.length).find? (fun i : Nat => longB (nth l (i : Int))) with
    | some k => (k : Int)
    | none => -1 := rfl
  cases hf : (List.range l.length).find? (fun i : Nat => longB (nth l (i : Int))) with
  | none =>
    have h1 := List.find?_eq_none.1 hf i (List.mem_range.2 hi)
    simp only [longB, decide_eq_true_eq] at h1
    omega
  | some k =>
    rw [hf] at hr
    have hr2 : idxL l = (k : Int) := hr
    omega
theorem containsL_c (v : Value) (l : List StarT) (hl : l.length ≤ 1000000) : ContR Tryd.prog [Hl.rd v cSt 4 l] 30 [v, .func (.func 31) #[] #[]] (.bool (decide (0 ≤ idxL l))) := fun w hw0 => by
  have q1 := indexFL_c v l hl
  generalize idxL l = j at q1
  refine enter Tryd.func30 rfl rfl rfl hw0 ?_
  repeat' (first
    | (show YK _ _ _ _ _ _ _; first | refine YK.mk (y_callRA (q1) ⟨rfl, rfl, rfl⟩) ?_)
    | (show YK _ _ _ _ _ _ _; refine YK.ofV vAuto ?_)
    | (show VK _ _ _ _ _ _ _; refine VK.mk vAuto ?_)
    | (show RS _ _ _ _ _ _ _ _; first | (refine nxRS ?_) | (refine nxRS1 fun _ => ?_))
    | (show RM _ _ _ _ _ _ _ _ _ _; first | (refine nxRM ?_) | (refine nxRM1 fun _ => ?_))
    | (show YG _ _ _ _ _ _ _ _; refine YG.mk (fun hb => by (try (have hc := And.left hb; have hb := And.right hb; rw [hc])); (try rw [hb]); first | exact (y_callRA (q1) ⟨rfl, rfl, rfl⟩) | exact V.y vAuto) ?_)
    | (show VG _ _ _ _ _ _ _ _; refine VG.mk (fun hb => by (try (have hc := And.left hb; have hb := And.right hb; rw [hc])); (try rw [hb]); exact vAuto) ?_)
    | (refine nxX ?_)
    | (refine G.condN rfl (fun hc => ?_) (fun hc => ?_) <;> (try first | exact False.elim hc | (exfalso; omega))))
  exact X.ret (vs := [_]) rfl ⟨rfl, rfl⟩ rfl (fun w hw => ⟨ret_bool rfl, hw.ext⟩)
/-- small, for a list of at most 30 stars. -/
theorem small_c (v : Value) (l : List StarT) (hl : l.length ≤ 30) : ContR Tryd.prog [Hl.rd v cSt 4 l] 8 [v] (.bool (decide (idxL l < 0))) := fun w hw0 => by
  have q1 := containsL_c v l (by omega)
  generalize idxL l = j at q1
  refine enter Tryd.func8 rfl rfl rfl hw0 ?_
  repeat' (first
    | (show YK _ _ _ _ _ _ _; first | refine YK.mk (y_callRA (q1) ⟨rfl, rfl, rfl⟩) ?_)
    | (show YK _ _ _ _ _ _ _; refine YK.ofV vAuto ?_)
    | (show VK _ _ _ _ _ _ _; refine VK.mk vAuto ?_)
    | (show RS _ _ _ _ _ _ _ _; first | (refine nxRS ?_) | (refine nxRS1 fun _ => ?_))
    | (show RM _ _ _ _ _ _ _ _ _ _; first | (refine nxRM ?_) | (refine nxRM1 fun _ => ?_))
    | (show YG _ _ _ _ _ _ _ _; refine YG.mk (fun hb => by (try (have hc := And.left hb; have hb := And.right hb; rw [hc])); (try rw [hb]); first | exact (y_callRA (q1) ⟨rfl, rfl, rfl⟩) | exact V.y vAuto) ?_)
    | (show VG _ _ _ _ _ _ _ _; refine VG.mk (fun hb => by (try (have hc := And.left hb; have hb := And.right hb; rw [hc])); (try rw [hb]); exact vAuto) ?_)
    | (refine nxX ?_)
    | (refine G.condN rfl (fun hc => ?_) (fun hc => ?_) <;> (try first | exact False.elim hc | (exfalso; omega))))
  have e : ((decide ((l.length : Int) ≤ 30) || decide ((100 : Int) < l.length) && decide ((l.length : Int) < 105)) && !decide (0 ≤ j)) = decide (j < 0) := by
    rw [decide_eq_true (show (l.length : Int) ≤ 30 by omega), Bool.true_or, Bool.true_and, ← decide_not]
    exact decide_eq_decide.2 (by omega)
  exact X.ret (vs := [_]) rfl ⟨rfl, rfl⟩ rfl (fun w hw => ⟨ret_bool e, hw.ext⟩)
end Go.Proofs.YtaglecidaedjfaaDoor
