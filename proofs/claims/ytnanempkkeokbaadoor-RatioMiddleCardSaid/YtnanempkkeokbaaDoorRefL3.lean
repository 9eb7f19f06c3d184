/- The reference's lists of fractions: ValidAll, given, Sorted, Median, Mean; slices.Clone, slices.Equal. -/
import Derived.Test.YtnanempkkeokbaaDoorList3
import Derived.Test.YtnanempkkeokbaaDoorOrdP
import Derived.Test.YtnanempkkeokbaaDoorRowSt
set_option linter.unusedVariables false
set_option maxHeartbeats 4000000
namespace Go.Proofs.YtnanempkkeokbaaDoor
open Go.RowKit

theorem of3_c (n : Int) : Cont Tryd.prog 54 [.int .i64 n] (fracV n 1) := fun w => by
  refine enter0 Tryd.func54 rfl rfl rfl ?_
  repeat' (first
    | (refine nxV ?_)
    | (show RS _ _ _ _ _ _ _ _; first | (refine nxRS ?_) | (refine nxRS1 fun _ => ?_))
    | (show RM _ _ _ _ _ _ _ _ _ _; first | (refine nxRM ?_) | (refine nxRM1 fun _ => ?_))
    | (refine nxG ?_)
    | (refine nxX ?_)
    | (refine G.condN rfl (fun hc => ?_) (fun hc => ?_) <;> (try first | exact False.elim hc | (exfalso; omega))))
  exact X.ret (vs := [_]) rfl ⟨⟨_, _, _, _, rfl, (by exact memA), (by (repeat (first | exact .nil | apply LenIs.cons))), by decide +kernel, rfl⟩, rfl⟩ rfl (fun w hw => ⟨rfl, hw.ext⟩)
def allV (l : List FrP) : Bool := !((List.range l.length).any fun i : Nat => !vF (nth l i))
theorem allV_t {l : List FrP} (h : ∀ k : Nat, k < l.length → vF (nth l (k : Int)) = true) : allV l = true := by
  unfold allV
  rw [Bool.not_eq_true', List.any_eq_false]
  intro k hk
  simp [h k (List.mem_range.1 hk)]
theorem allV_f {l : List FrP} {k : Nat} (hk : k < l.length) (h : vF (nth l (k : Int)) = false) : allV l = false := by
  unfold allV
  rw [Bool.not_eq_false', List.any_eq_true]
  exact ⟨k, List.mem_range.2 hk, by simp [h]⟩
theorem validAll_c (v : Value) (l : List FrP) (hl : l.length ≤ 1000000) (hj : allJ l) : ContR Tryd.prog [Hl.rd v cF 2 l] 31 [v] (.bool (allV l)) := fun w hw0 => by
  refine enter Tryd.func31 rfl rfl rfl hw0 ?_
  repeat' (first
    | (refine nxV ?_)
    | (show RS _ _ _ _ _ _ _ _; first | (refine nxRS ?_) | (refine nxRS1 fun _ => ?_))
    | (show RM _ _ _ _ _ _ _ _ _ _; first | (refine nxRM ?_) | (refine nxRM1 fun _ => ?_))
    | (refine nxG ?_)
    | (refine nxX ?_)
    | (refine G.condN rfl (fun hc => ?_) (fun hc => ?_) <;> (try first | exact False.elim hc | (exfalso; omega))))
  refine G.loop (ι := Nat) (fun i => [(0, v), (3, .int .i64 (i : Int))]) (fun _ => [Hl.rd v cF 2 l]) (fun i => i ≤ l.length ∧ ∀ k : Nat, k < i → vF (nth l (k : Int)) = true) (fun i => l.length - i) 0 ⟨by omega, fun k hk => by omega⟩ ⟨rfl, rfl, trivial⟩ (by exact fun w h => h.sub (by repeat (first | exact List.Sublist.refl _ | apply List.Sublist.cons_cons | apply List.Sublist.cons))) ?_
  rintro i mx ⟨g1, g2⟩ hmx
  rcases Nat.lt_or_ge i l.length with hi | hi
  · have q1 := valid3_c (hj i hi)
    change Cont _ _ _ (.bool (vF (nth l (i : Int)))) at q1
    cases hv : vF (nth l (i : Int)) with
    | false =>
      rw [hv] at q1
      repeat' (first
    | (show YK _ _ _ _ _ _ _; first | refine YK.mk (y_callA (q1) ⟨rfl, rfl⟩) ?_)
    | (show YK _ _ _ _ _ _ _; refine YK.ofV vAuto ?_)
    | (show VK _ _ _ _ _ _ _; refine VK.mk vAuto ?_)
    | (show RS _ _ _ _ _ _ _ _; first | (refine nxRS ?_) | (refine nxRS1 fun _ => ?_))
    | (show RM _ _ _ _ _ _ _ _ _ _; first | (refine nxRM ?_) | (refine nxRM1 fun _ => ?_))
    | (show YG _ _ _ _ _ _ _ _; refine YG.mk (fun hb => by (try (have hc := And.left hb; have hb := And.right hb; rw [hc])); (try rw [hb]); first | exact (y_callA (q1) ⟨rfl, rfl⟩) | exact V.y vAuto) ?_)
    | (show VG _ _ _ _ _ _ _ _; refine VG.mk (fun hb => by (try (have hc := And.left hb; have hb := And.right hb; rw [hc])); (try rw [hb]); exact vAuto) ?_)
    | (refine nxX ?_)
    | (refine G.condN rfl (fun hc => ?_) (fun hc => ?_) <;> (try first | exact False.elim hc | (exfalso; omega))))
      exact X.ret (vs := [_]) rfl ⟨rfl, rfl⟩ rfl (fun w hw => ⟨ret_bool (allV_f hi hv).symm, hw.ext⟩)
    | true =>
      rw [hv] at q1
      repeat' (first
    | (show YK _ _ _ _ _ _ _; first | refine YK.mk (y_callA (q1) ⟨rfl, rfl⟩) ?_)
    | (show YK _ _ _ _ _ _ _; refine YK.ofV vAuto ?_)
    | (show VK _ _ _ _ _ _ _; refine VK.mk vAuto ?_)
    | (show RS _ _ _ _ _ _ _ _; first | (refine nxRS ?_) | (refine nxRS1 fun _ => ?_))
    | (show RM _ _ _ _ _ _ _ _ _ _; first | (refine nxRM ?_) | (refine nxRM1 fun _ => ?_))
    | (show YG _ _ _ _ _ _ _ _; refine YG.mk (fun hb => by (try (have hc := And.left hb; have hb := And.right hb; rw [hc])); (try rw [hb]); first | exact (y_callA (q1) ⟨rfl, rfl⟩) | exact V.y vAuto) ?_)
    | (show VG _ _ _ _ _ _ _ _; refine VG.mk (fun hb => by (try (have hc := And.left hb; have hb := And.right hb; rw [hc])); (try rw [hb]); exact vAuto) ?_)
    | (refine nxX ?_)
    | (refine G.condN rfl (fun hc => ?_) (fun hc => ?_) <;> (try first | exact False.elim hc | (exfalso; omega))))
      refine X.again (i + 1) ⟨by omega, fun k hk => ?_⟩ (by omega) ⟨rfl, rfl, trivial⟩ (by exact fun w h => h.sub (by repeat (first | exact List.Sublist.refl _ | apply List.Sublist.cons_cons | apply List.Sublist.cons)))
      rcases Nat.lt_or_ge k i with h | h
      · exact g2 k h
      · rw [show k = i by omega]; exact hv
  · repeat' (first
    | (refine nxV ?_)
    | (show RS _ _ _ _ _ _ _ _; first | (refine nxRS ?_) | (refine nxRS1 fun _ => ?_))
    | (show RM _ _ _ _ _ _ _ _ _ _; first | (refine nxRM ?_) | (refine nxRM1 fun _ => ?_))
    | (refine nxG ?_)
    | (refine nxX ?_)
    | (refine G.condN rfl (fun hc => ?_) (fun hc => ?_) <;> (try first | exact False.elim hc | (exfalso; omega))))
    exact X.ret (vs := [_]) rfl ⟨rfl, rfl⟩ rfl (fun w hw => ⟨ret_bool (allV_t (fun k hk => g2 k (by omega))).symm, hw.ext⟩)
theorem given_c (v : Value) (l : List FrP) (hl : l.length ≤ 1000000) (hj : allJ l) : ContR Tryd.prog [Hl.rd v cF 2 l] 53 [v] (.int .i64 (listS l)) := fun w hw0 => by
  have q1 := validAll_c v l hl hj
  cases hb : allV l with
  | false =>
    have e : listS l = 1 := by
      unfold listS; unfold allV at hb
      rw [if_pos (by simpa using hb)]
    rw [hb] at q1
    refine enter Tryd.func53 rfl rfl rfl hw0 ?_
    repeat' (first
    | (show YK _ _ _ _ _ _ _; first | refine YK.mk (y_callRA (q1) ⟨rfl, rfl⟩) ?_)
    | (show YK _ _ _ _ _ _ _; refine YK.ofV vAuto ?_)
    | (show VK _ _ _ _ _ _ _; refine VK.mk vAuto ?_)
    | (show RS _ _ _ _ _ _ _ _; first | (refine nxRS ?_) | (refine nxRS1 fun _ => ?_))
    | (show RM _ _ _ _ _ _ _ _ _ _; first | (refine nxRM ?_) | (refine nxRM1 fun _ => ?_))
    | (show YG _ _ _ _ _ _ _ _; refine YG.mk (fun hb => by (try (have hc := And.left hb; have hb := And.right hb; rw [hc])); (try rw [hb]); first | exact (y_callRA (q1) ⟨rfl, rfl⟩) | exact V.y vAuto) ?_)
    | (show VG _ _ _ _ _ _ _ _; refine VG.mk (fun hb => by (try (have hc := And.left hb; have hb := And.right hb; rw [hc])); (try rw [hb]); exact vAuto) ?_)
    | (refine nxX ?_)
    | (refine G.condN rfl (fun hc => ?_) (fun hc => ?_) <;> (try first | exact False.elim hc | (exfalso; omega))))
    exact X.ret (vs := [_]) rfl ⟨rfl, rfl⟩ rfl (fun w hw => ⟨ret_int e.symm, hw.ext⟩)
  | true =>
    have e : listS l = if 1000 < l.length then 4 else if l.length = 0 then 14 else 0 := by
      unfold listS; unfold allV at hb
      rw [if_neg (by simpa using hb)]
    rw [hb] at q1
    refine enter Tryd.func53 rfl rfl rfl hw0 ?_
    repeat' (first
    | (show YK _ _ _ _ _ _ _; first | refine YK.mk (y_callRA (q1) ⟨rfl, rfl⟩) ?_)
    | (show YK _ _ _ _ _ _ _; refine YK.ofV vAuto ?_)
    | (show VK _ _ _ _ _ _ _; refine VK.mk vAuto ?_)
    | (show RS _ _ _ _ _ _ _ _; first | (refine nxRS ?_) | (refine nxRS1 fun _ => ?_))
    | (show RM _ _ _ _ _ _ _ _ _ _; first | (refine nxRM ?_) | (refine nxRM1 fun _ => ?_))
    | (show YG _ _ _ _ _ _ _ _; refine YG.mk (fun hb => by (try (have hc := And.left hb; have hb := And.right hb; rw [hc])); (try rw [hb]); first | exact (y_callRA (q1) ⟨rfl, rfl⟩) | exact V.y vAuto) ?_)
    | (show VG _ _ _ _ _ _ _ _; refine VG.mk (fun hb => by (try (have hc := And.left hb; have hb := And.right hb; rw [hc])); (try rw [hb]); exact vAuto) ?_)
    | (refine nxX ?_)
    | (refine G.condN rfl (fun hc => ?_) (fun hc => ?_) <;> (try first | exact False.elim hc | (exfalso; omega))))
    all_goals refine X.ret (vs := [_]) rfl ⟨rfl, rfl⟩ rfl (fun w hw => ⟨ret_int ?_, hw.ext⟩)
    all_goals (rw [e]; (repeat' split) <;> first | rfl | omega)
theorem mean3_c (v : Value) (l : List FrP) (hl : l.length ≤ 1000000) (hj : allJ l) : ContR Tryd.prog [Hl.rd v cF 2 l] 38 [v] (mkV (meanS l)) := fun w hw0 => by
  have h1 := given_c v l hl hj
  have h0 := of3_c 0
  have hn := of3_c l.length
  by_cases he : listS l = 0
  · have hu : meanS l = if (meanGo (0, 1) l).2 ≠ 0 then ((0, 0), (meanGo (0, 1) l).2) else divF (meanGo (0, 1) l).1.1 (meanGo (0, 1) l).1.2 l.length 1 := by unfold meanS; rw [if_neg (by omega)]
    rw [he] at h1
    refine enter Tryd.func38 rfl rfl rfl hw0 ?_
    repeat' (first
    | (show YK _ _ _ _ _ _ _; first | refine YK.mk (y_callRA (h1) ⟨rfl, rfl⟩) ?_ | refine YK.mk (y_callA (h0) ⟨rfl, rfl⟩) ?_)
    | (show YK _ _ _ _ _ _ _; refine YK.ofV vAuto ?_)
    | (show VK _ _ _ _ _ _ _; refine VK.mk vAuto ?_)
    | (show RS _ _ _ _ _ _ _ _; first | (refine nxRS ?_) | (refine nxRS1 fun _ => ?_))
    | (show RM _ _ _ _ _ _ _ _ _ _; first | (refine nxRM ?_) | (refine nxRM1 fun _ => ?_))
    | (show YG _ _ _ _ _ _ _ _; refine YG.mk (fun hb => by (try (have hc := And.left hb; have hb := And.right hb; rw [hc])); (try rw [hb]); first | exact (y_callRA (h1) ⟨rfl, rfl⟩) | exact (y_callA (h0) ⟨rfl, rfl⟩) | exact V.y vAuto) ?_)
    | (show VG _ _ _ _ _ _ _ _; refine VG.mk (fun hb => by (try (have hc := And.left hb; have hb := And.right hb; rw [hc])); (try rw [hb]); exact vAuto) ?_)
    | (refine G.mixedA 8 [.go 0, .go 1, .go 2, .go 3, .go 4, .go 5, .go 6, .go 7, .go 8, .go 9, .go 10] ?_)
    | (refine G.mixedA 11 [.go 0, .go 1, .go 2, .go 3, .go 4, .go 5, .go 6, .go 7, .go 8] ?_)
    | (refine nxX ?_)
    | (refine G.condN rfl (fun hc => ?_) (fun hc => ?_) <;> (try first | exact False.elim hc | (exfalso; omega))))
    rename_i b2 b5
    refine G.loop (ι := Nat × FrP) (fun x => [(0, v), (2, .pointer (some ⟨b2, 0, none⟩)), (5, .pointer (some ⟨b5, 0, none⟩)), (6, .int .i64 (x.1 : Int))]) (fun x => [Hl.blk b5 24 (cF x.2), Hl.blk b2 24 [.int .i64 0, .int .i64 0], Hl.rd v cF 2 l]) (fun x => x.1 ≤ l.length ∧ (J64 x.2.1 ∧ J64 x.2.2) ∧ meanGo x.2 (l.drop x.1) = meanGo (0, 1) l) (fun x => l.length - x.1) (0, (0, 1)) ⟨Nat.zero_le _, by decide, rfl⟩ ⟨rfl, rfl, rfl, rfl, trivial⟩ (by exact fun w h => h.sub (by repeat (first | exact List.Sublist.refl _ | apply List.Sublist.cons_cons | apply List.Sublist.cons))) ?_
    rintro ⟨i, s⟩ mx ⟨g1, g2, g3⟩ hmx
    dsimp only at g1 g2 g3 hmx ⊢
    rcases Nat.lt_or_ge i l.length with hi | hi
    · rw [drop_consF hi] at g3
      have q1 := add3_c (a := s.1) (b := s.2) (c := (nth l (i : Int)).1) (d := (nth l (i : Int)).2) ⟨g2, hj i hi⟩
      have q2 := addF_J s.1 s.2 (nth l (i : Int)).1 (nth l (i : Int)).2
      rw [meanGo_cons] at g3
      generalize addF s.1 s.2 (nth l (i : Int)).1 (nth l (i : Int)).2 = u at q1 q2 g3
      repeat' (first
    | (refine G.mixedFH 8 [.go 0, .go 1, .go 2, .go 3, .go 4, .go 5, .go 6, .go 7, .go 8, .go 9, .go 10] ?_)
    | (refine nxRF ?_)
    | (refine nxVF ?_)
    | (show YK _ _ _ _ _ _ _; first | refine YK.mk (y_callA (q1) ⟨rfl, rfl, rfl⟩) ?_)
    | (show YK _ _ _ _ _ _ _; refine YK.ofV vAuto ?_)
    | (show VK _ _ _ _ _ _ _; refine VK.mk vAuto ?_)
    | (show RS _ _ _ _ _ _ _ _; first | (refine nxRS ?_) | (refine nxRS1 fun _ => ?_))
    | (show RM _ _ _ _ _ _ _ _ _ _; first | (refine nxRM ?_) | (refine nxRM1 fun _ => ?_))
    | (show YG _ _ _ _ _ _ _ _; refine YG.mk (fun hb => by (try (have hc := And.left hb; have hb := And.right hb; rw [hc])); (try rw [hb]); first | exact (y_callA (q1) ⟨rfl, rfl, rfl⟩) | exact V.y vAuto) ?_)
    | (show VG _ _ _ _ _ _ _ _; refine VG.mk (fun hb => by (try (have hc := And.left hb; have hb := And.right hb; rw [hc])); (try rw [hb]); exact vAuto) ?_)
    | (refine G.mixedA 11 [.go 0, .go 1, .go 2, .go 3, .go 4, .go 5, .go 6, .go 7, .go 8] ?_)
    | (refine nxX ?_)
    | (refine G.condN rfl (fun hc => ?_) (fun hc => ?_) <;> (try first | exact False.elim hc | (exfalso; omega))))
      · rw [if_neg hc] at g3
        exact X.ret (vs := [_, _]) rfl ⟨⟨_, _, _, _, rfl, (by exact memA), (by (repeat (first | exact .nil | apply LenIs.cons))), by decide +kernel, rfl⟩, rfl, rfl⟩ rfl (fun w hw => ⟨by rw [hu, ← g3, if_pos (show ((0, 0), u.2).2 ≠ 0 from hc)], hw.ext⟩)
      · rw [if_pos hc] at g3
        refine X.again (i + 1, u.1) ⟨by dsimp only; omega, by dsimp only; omega, g3⟩ (by dsimp only; omega) ⟨rfl, rfl, rfl, rfl, trivial⟩ ?_
        exact fun w h => h.sub (by repeat (first | exact List.Sublist.refl _ | apply List.Sublist.cons_cons | apply List.Sublist.cons))
    · obtain rfl : i = l.length := by omega
      rw [List.drop_length] at g3
      have q1 := div3_c (a := s.1) (b := s.2) (c := (l.length : Int)) (d := 1) ⟨g2, by omega, by omega⟩
      rw [show meanS l = divF s.1 s.2 l.length 1 by rw [hu, ← g3, meanGo_nil, if_neg (fun g => g rfl)]]
      repeat' (first
    | (refine G.mixedFH 11 [.go 0, .go 1, .go 2, .go 3, .go 4, .go 5, .go 6, .go 7, .go 8] ?_)
    | (refine nxRF ?_)
    | (refine nxVF ?_)
    | (show YK _ _ _ _ _ _ _; first | refine YK.mk (y_callA (q1) ⟨rfl, rfl, rfl⟩) ?_ | refine YK.mk (y_callA (hn) ⟨rfl, rfl⟩) ?_)
    | (show YK _ _ _ _ _ _ _; refine YK.ofV vAuto ?_)
    | (show VK _ _ _ _ _ _ _; refine VK.mk vAuto ?_)
    | (show RS _ _ _ _ _ _ _ _; first | (refine nxRS ?_) | (refine nxRS1 fun _ => ?_))
    | (show RM _ _ _ _ _ _ _ _ _ _; first | (refine nxRM ?_) | (refine nxRM1 fun _ => ?_))
    | (show YG _ _ _ _ _ _ _ _; refine YG.mk (fun hb => by (try (have hc := And.left hb; have hb := And.right hb; rw [hc])); (try rw [hb]); first | exact (y_callA (q1) ⟨rfl, rfl, rfl⟩) | exact (y_callA (hn) ⟨rfl, rfl⟩) | exact V.y vAuto) ?_)
    | (show VG _ _ _ _ _ _ _ _; refine VG.mk (fun hb => by (try (have hc := And.left hb; have hb := And.right hb; rw [hc])); (try rw [hb]); exact vAuto) ?_)
    | (refine G.mixedA 8 [.go 0, .go 1, .go 2, .go 3, .go 4, .go 5, .go 6, .go 7, .go 8, .go 9, .go 10] ?_)
    | (refine nxX ?_)
    | (refine G.condN rfl (fun hc => ?_) (fun hc => ?_) <;> (try first | exact False.elim hc | (exfalso; omega))))
      exact X.ret (vs := [_, _]) rfl ⟨⟨_, _, _, _, rfl, (by exact memA), (by (repeat (first | exact .nil | apply LenIs.cons))), by decide +kernel, rfl⟩, rfl, rfl⟩ rfl (fun w hw => ⟨rfl, hw.ext⟩)
  · have hu : meanS l = ((0, 0), listS l) := by unfold meanS; rw [if_pos he]
    rw [hu]
    refine enter Tryd.func38 rfl rfl rfl hw0 ?_
    repeat' (first
    | (show YK _ _ _ _ _ _ _; first | refine YK.mk (y_callRA (h1) ⟨rfl, rfl⟩) ?_)
    | (show YK _ _ _ _ _ _ _; refine YK.ofV vAuto ?_)
    | (show VK _ _ _ _ _ _ _; refine VK.mk vAuto ?_)
    | (show RS _ _ _ _ _ _ _ _; first | (refine nxRS ?_) | (refine nxRS1 fun _ => ?_))
    | (show RM _ _ _ _ _ _ _ _ _ _; first | (refine nxRM ?_) | (refine nxRM1 fun _ => ?_))
    | (show YG _ _ _ _ _ _ _ _; refine YG.mk (fun hb => by (try (have hc := And.left hb; have hb := And.right hb; rw [hc])); (try rw [hb]); first | exact (y_callRA (h1) ⟨rfl, rfl⟩) | exact V.y vAuto) ?_)
    | (show VG _ _ _ _ _ _ _ _; refine VG.mk (fun hb => by (try (have hc := And.left hb; have hb := And.right hb; rw [hc])); (try rw [hb]); exact vAuto) ?_)
    | (refine G.mixedA 8 [.go 0, .go 1, .go 2, .go 3, .go 4, .go 5, .go 6, .go 7, .go 8, .go 9, .go 10] ?_)
    | (refine G.mixedA 11 [.go 0, .go 1, .go 2, .go 3, .go 4, .go 5, .go 6, .go 7, .go 8] ?_)
    | (refine nxX ?_)
    | (refine G.condN rfl (fun hc => ?_) (fun hc => ?_) <;> (try first | exact False.elim hc | (exfalso; omega))))
    exact X.ret (vs := [_, _]) rfl ⟨⟨_, _, _, _, rfl, (by exact memA), (by (repeat (first | exact .nil | apply LenIs.cons))), by decide +kernel, rfl⟩, rfl, rfl⟩ rfl (fun w hw => ⟨rfl, hw.ext⟩)

/-! The insertion sort, plain -/
abbrev cfr (x y : FrP) : Int := cmpF x.1 x.2 y.1 y.2
abbrev leF (x y : FrP) : Prop := ¬ cfr y x < 0
theorem cfr_neg (x y : FrP) : cfr x y = -cfr y x := cmpF_neg ..
theorem leF_iff {x y : FrP} : leF x y ↔ x.1 * y.2 ≤ y.1 * x.2 := by
  rw [← cmpF_le]
  have := cfr_neg x y
  show ¬ cfr y x < 0 ↔ cfr x y ≤ 0
  omega
theorem leF_trans {x y z : FrP} (hx : vF x = true) (hy : vF y = true) (hz : vF z = true) (h1 : leF x y) (h2 : leF y z) : leF x z := by
  have g1 := validF_bd hx
  have g2 := validF_bd hy
  have g3 := validF_bd hz
  rw [leF_iff] at h1 h2 ⊢
  exact order_le (by omega) (by omega) (by omega) h1 h2
theorem nth_set {α : Type} [Inhabited α] {l : List α} {m j : Int} {b : α} (hm : 0 ≤ m ∧ m < l.length) (hj : 0 ≤ j) : nth (l.set m.toNat b) j = if j = m then b else nth l j := by
  unfold nth
  rw [List.getD_eq_getElem?_getD, List.getD_eq_getElem?_getD, List.getElem?_set]
  by_cases e : j = m
  · subst e
    rw [if_pos rfl, if_pos rfl, if_pos (by omega)]; rfl
  · rw [if_neg (by omega), if_neg e]
theorem nth_mem {α : Type} [Inhabited α] {l : List α} {m : Int} (h : 0 ≤ m ∧ m < l.length) : nth l m ∈ l := List.mem_of_getElem? (nth_some h.1 h.2)
def swp {α : Type} [Inhabited α] (l : List α) (a b : Int) : List α := (l.set a.toNat (nth l b)).set b.toNat (nth l a)
theorem swp_len {α : Type} [Inhabited α] (l : List α) (a b : Int) : (swp l a b).length = l.length := by simp [swp]
theorem swp_perm {α : Type} [Inhabited α] {l : List α} {a b : Int} (ha : 0 ≤ a ∧ a < l.length) (hb : 0 ≤ b ∧ b < l.length) : (swp l a b).Perm l := by
  have h1 := nth_some ha.1 ha.2
  have h2 := nth_some hb.1 hb.2
  have e1 : l[a.toNat]'(by omega) = nth l a := Option.some.inj ((List.getElem?_eq_getElem _).symm.trans h1)
  have e2 : l[b.toNat]'(by omega) = nth l b := Option.some.inj ((List.getElem?_eq_getElem _).symm.trans h2)
  unfold swp
  rw [← e1, ← e2]
  exact List.set_set_perm _ _
theorem swp_nth {α : Type} [Inhabited α] {l : List α} {a b j : Int} (ha : 0 ≤ a ∧ a < l.length) (hb : 0 ≤ b ∧ b < l.length) (hj : 0 ≤ j) : nth (swp l a b) j = if j = b then nth l a else if j = a then nth l b else nth l j := by
  unfold swp
  rw [nth_set (by simpa using hb) hj, nth_set ha hj]
def upTo (i : Int) (ds : List FrP) : Prop := ∀ p q : Int, 0 ≤ p → p < q → q < i → leF (nth ds p) (nth ds q)
def holeP (i k : Int) (ds : List FrP) : Prop := (∀ p q : Int, 0 ≤ p → p < q → q ≤ i → p ≠ k → q ≠ k → leF (nth ds p) (nth ds q)) ∧ ∀ q : Int, k < q → q ≤ i → leF (nth ds k) (nth ds q)
theorem hole_start {i : Int} {ds : List FrP} (h : upTo i ds) : holeP i i ds := ⟨fun p q h0 h1 h2 h3 h4 => h p q h0 h1 (by omega), fun q h1 h2 => by omega⟩
theorem hole_end {i k : Int} {ds : List FrP} (hk : 0 ≤ k ∧ k ≤ i ∧ i < ds.length) (hv : ∀ x ∈ ds, vF x = true) (h : holeP i k ds) (hc : k ≤ 0 ∨ 0 ≤ cfr (nth ds k) (nth ds (k - 1))) : upTo (i + 1) ds := fun p q h0 h1 h2 => by
  by_cases e1 : p = k
  · subst e1; exact h.2 q h1 (by omega)
  by_cases e2 : q = k
  · subst e2
    have hc' : leF (nth ds (q - 1)) (nth ds q) := by rcases hc with hc | hc <;> (show ¬ cfr _ _ < 0) <;> omega
    by_cases e3 : p = q - 1
    · subst e3; exact hc'
    · exact leF_trans (hv _ (nth_mem (by omega))) (hv _ (nth_mem (by omega))) (hv _ (nth_mem (by omega))) (h.1 p (q - 1) h0 (by omega) (by omega) e1 (by omega)) hc'
  · exact h.1 p q h0 h1 (by omega) e1 e2
theorem hole_step {i k : Int} {ds : List FrP} (hk : 0 < k ∧ k ≤ i ∧ i < ds.length) (h : holeP i k ds) (hc : cfr (nth ds k) (nth ds (k - 1)) < 0) : holeP i (k - 1) (swp ds k (k - 1)) := by
  have ha : 0 ≤ k ∧ k < ds.length := by omega
  have hb : 0 ≤ k - 1 ∧ k - 1 < ds.length := by omega
  have hlt : leF (nth ds k) (nth ds (k - 1)) := by
    have := cfr_neg (nth ds (k - 1)) (nth ds k)
    show ¬ cfr _ _ < 0
    omega
  refine ⟨fun p q h0 h1 h2 h3 h4 => ?_, fun q h1 h2 => ?_⟩
  · rw [swp_nth ha hb h0, swp_nth ha hb (by omega), if_neg h3, if_neg h4]
    by_cases e1 : p = k
    · rw [if_pos e1, if_neg (by omega)]
      exact h.1 (k - 1) q (by omega) (by omega) h2 (by omega) (by omega)
    · rw [if_neg e1]
      by_cases e2 : q = k
      · rw [if_pos e2]
        exact h.1 p (k - 1) h0 (by omega) (by omega) e1 (by omega)
      · rw [if_neg e2]
        exact h.1 p q h0 h1 h2 e1 e2
  · rw [swp_nth ha hb (by omega), swp_nth ha hb (by omega), if_pos rfl, if_neg (by omega)]
    by_cases e2 : q = k
    · rw [if_pos e2]; exact hlt
    · rw [if_neg e2]
      exact h.2 q (by omega) h2
theorem perm_v {ds l : List FrP} (hp : ds.Perm l) (hv : ∀ x ∈ l, vF x = true) : ∀ x ∈ ds, vF x = true := fun x hx => hv x (hp.mem_iff.1 hx)
theorem cmpN_c {ds : List FrP} {k : Int} (hv : ∀ x ∈ ds, vF x = true) (hk : k < ds.length) : 0 < k → Cont Tryd.prog 30 [frV (nth ds k), frV (nth ds (k - 1))] (.int .i64 (cfr (nth ds k) (nth ds (k - 1)))) := fun h0 => by
  have v1 := hv _ (nth_mem (m := k) (by omega))
  have v2 := hv _ (nth_mem (m := k - 1) (by omega))
  obtain ⟨b1, b2, _⟩ := prods v1 v2
  exact cmp3_c (by omega)
theorem sorted3_c (v : Value) (l : List FrP) (hl : l.length ≤ 3000) (hv : ∀ x ∈ l, vF x = true) : ContX Tryd.prog [Hl.rd v cF 2 l] 34 [v] (fun z : Sl × List FrP => z.2.Perm l ∧ upTo z.2.length z.2) (fun z => z.1.v) (fun z => [Hl.nw z.1.v cF 2 z.2]) := fun w hw0 => by
  refine enter Tryd.func34 rfl rfl rfl hw0 ?_
  repeat' (first
    | (refine nxV ?_)
    | (show RS _ _ _ _ _ _ _ _; first | (refine nxRS ?_) | (refine nxRS1 fun _ => ?_))
    | (show RM _ _ _ _ _ _ _ _ _ _; first | (refine nxRM ?_) | (refine nxRM1 fun _ => ?_))
    | (refine nxG ?_)
    | (refine G.mixedA 6 [.go 0, .go 1, .go 2, .go 3, .go 4, .go 5, .go 6, .go 7, .go 8, .go 9, .go 10, .go 11, .go 12, .go 13, .go 14] ?_)
    | (refine G.mixedA 8 [.go 0, .go 1, .go 2, .go 3, .go 4, .go 5, .go 6, .go 7, .go 8, .go 9, .go 10, .go 11, .go 12, .go 13, .go 14, .go 15, .go 16, .go 17] ?_)
    | (refine nxX ?_)
    | (refine G.condN rfl (fun hc => ?_) (fun hc => ?_) <;> (try first | exact False.elim hc | (exfalso; omega))))
  rename_i v0 v'
  refine G.loop (ι := Nat × List FrP) (fun x => [(0, v), (3, v'.v), (4, .int .i64 (x.1 : Int))]) (fun x => [Hl.rw v'.v 24 cF 2 x.2, Hl.rd v cF 2 l]) (fun x => 1 ≤ x.1 ∧ x.2.Perm l ∧ upTo x.1 x.2) (fun x => l.length - x.1) (1, l) ⟨Nat.le_refl _, .refl _, fun p q h0 h1 h2 => by dsimp only at h2; omega⟩ ⟨rfl, rfl, rfl, trivial⟩ (by exact fun w h => h.sub (by repeat (first | exact List.Sublist.refl _ | apply List.Sublist.cons_cons | apply List.Sublist.cons))) ?_
  rintro ⟨i, ds⟩ mx ⟨g1, g2, g3⟩ hmx
  dsimp only at g1 g2 g3 hmx ⊢
  have hlen := g2.length_eq
  rcases Nat.lt_or_ge i l.length with hi | hi
  · repeat' (first
    | (refine nxV ?_)
    | (show RS _ _ _ _ _ _ _ _; first | (refine nxRS ?_) | (refine nxRS1 fun _ => ?_))
    | (show RM _ _ _ _ _ _ _ _ _ _; first | (refine nxRM ?_) | (refine nxRM1 fun _ => ?_))
    | (refine nxG ?_)
    | (refine G.mixedA 6 [.go 0, .go 1, .go 2, .go 3, .go 4, .go 5, .go 6, .go 7, .go 8, .go 9, .go 10, .go 11, .go 12, .go 13, .go 14] ?_)
    | (refine G.mixedA 8 [.go 0, .go 1, .go 2, .go 3, .go 4, .go 5, .go 6, .go 7, .go 8, .go 9, .go 10, .go 11, .go 12, .go 13, .go 14, .go 15, .go 16, .go 17] ?_)
    | (refine nxX ?_)
    | (refine G.condN rfl (fun hc => ?_) (fun hc => ?_) <;> (try first | exact False.elim hc | (exfalso; omega))))
    refine G.loop (ι := Int × List FrP) (fun x => [(0, v), (3, v'.v), (4, .int .i64 (i : Int)), (5, .int .i64 x.1)]) (fun x => [Hl.rw v'.v 24 cF 2 x.2, Hl.rd v cF 2 l]) (fun x => (0 ≤ x.1 ∧ x.1 ≤ i) ∧ x.2.Perm l ∧ holeP i x.1 x.2) (fun x => x.1.toNat) ((i : Int), ds) ⟨by dsimp only; omega, g2, hole_start g3⟩ ⟨rfl, rfl, rfl, rfl, trivial⟩ (by exact fun w h => h.sub (by repeat (first | exact List.Sublist.refl _ | apply List.Sublist.cons_cons | apply List.Sublist.cons))) ?_
    rintro ⟨k, es⟩ my ⟨k1, k2, k3⟩ hmy
    dsimp only at k1 k2 k3 hmy ⊢
    have elen := k2.length_eq
    have q1 := cmpN_c (k := k) (perm_v k2 hv) (by omega)
    repeat' (first
    | (show RF _ _ _ _ _ _ _ _ _; refine RF.storeEl (f := cF) (l := es) (b := nth es (k - 1)) (by rfl) (by rfl) (by rfl) (by rfl) (by exact updA) (by omega) (fun _ => rfl) (by rfl) (by decide +kernel) (by decide +kernel) ?_)
    | (show RF _ _ _ _ _ _ _ _ _; refine RF.storeEl (f := cF) (l := es.set k.toNat (nth es (k - 1))) (b := nth es k) (by rfl) (by rfl) (by rfl) (by rfl) (by exact updA) (by rw [List.length_set]; omega) (fun _ => rfl) (by rfl) (by decide +kernel) (by decide +kernel) ?_)
    | (refine G.mixedFH 8 [.go 0, .go 1, .go 2, .go 3, .go 4, .go 5, .go 6, .go 7, .go 8, .go 9, .go 10, .go 11, .go 12, .go 13, .go 14, .go 15, .go 16, .go 17] ?_)
    | (refine nxRF ?_)
    | (refine nxVF ?_)
    | (show YK _ _ _ _ _ _ _; first | refine YK.mk (y_callP q1 ⟨rfl, rfl, rfl⟩) ?_)
    | (show YK _ _ _ _ _ _ _; refine YK.ofV vAuto ?_)
    | (show VK _ _ _ _ _ _ _; refine VK.mk vAuto ?_)
    | (show RS _ _ _ _ _ _ _ _; first | (refine nxRS ?_) | (refine nxRS1 fun _ => ?_))
    | (show RM _ _ _ _ _ _ _ _ _ _; first | (refine nxRM ?_) | (refine nxRM1 fun _ => ?_))
    | (show YG _ _ _ _ _ _ _ _; refine YG.mk (fun hb => by (try (have hc := And.left hb; have hb := And.right hb; rw [hc])); (try rw [hb]); first | exact (y_callP q1 ⟨rfl, rfl, rfl⟩) | exact V.y vAuto) ?_)
    | (show VG _ _ _ _ _ _ _ _; refine VG.mk (fun hb => by (try (have hc := And.left hb; have hb := And.right hb; rw [hc])); (try rw [hb]); exact vAuto) ?_)
    | (refine G.mixedA 6 [.go 0, .go 1, .go 2, .go 3, .go 4, .go 5, .go 6, .go 7, .go 8, .go 9, .go 10, .go 11, .go 12, .go 13, .go 14] ?_)
    | (refine nxX ?_)
    | (refine G.condN rfl (fun hc => ?_) (fun hc => ?_) <;> (try first | exact False.elim hc | (exfalso; omega))))
    · refine X.again (k - 1, swp es k (k - 1)) ⟨by dsimp only; omega, (swp_perm (by omega) (by omega)).trans k2, hole_step (by omega) k3 hc.2⟩ (by dsimp only; omega) ⟨rfl, rfl, rfl, rfl, trivial⟩ (by exact fun w h => h.sub (by repeat (first | exact List.Sublist.refl _ | apply List.Sublist.cons_cons | apply List.Sublist.cons)))
    · refine X.again (i + 1, es) ⟨by dsimp only; omega, k2, by dsimp only; exact hole_end (by omega) (perm_v k2 hv) k3 hc⟩ (by dsimp only; omega) ⟨rfl, rfl, rfl, trivial⟩ (by exact fun w h => h.sub (by repeat (first | exact List.Sublist.refl _ | apply List.Sublist.cons_cons | apply List.Sublist.cons)))
  · repeat' (first
    | (refine nxV ?_)
    | (show RS _ _ _ _ _ _ _ _; first | (refine nxRS ?_) | (refine nxRS1 fun _ => ?_))
    | (show RM _ _ _ _ _ _ _ _ _ _; first | (refine nxRM ?_) | (refine nxRM1 fun _ => ?_))
    | (refine nxG ?_)
    | (refine G.mixedA 6 [.go 0, .go 1, .go 2, .go 3, .go 4, .go 5, .go 6, .go 7, .go 8, .go 9, .go 10, .go 11, .go 12, .go 13, .go 14] ?_)
    | (refine G.mixedA 8 [.go 0, .go 1, .go 2, .go 3, .go 4, .go 5, .go 6, .go 7, .go 8, .go 9, .go 10, .go 11, .go 12, .go 13, .go 14, .go 15, .go 16, .go 17] ?_)
    | (refine nxX ?_)
    | (refine G.condN rfl (fun hc => ?_) (fun hc => ?_) <;> (try first | exact False.elim hc | (exfalso; omega))))
    exact X.retN (v', ds) rfl (vs := [_]) ⟨rfl, rfl⟩ rfl ⟨g2, fun p q h0 h1 h2 => g3 p q h0 h1 (by dsimp only at h2; omega)⟩ rfl (NewIn.rw (by exact memA) NewIn.nil)
end Go.Proofs.YtnanempkkeokbaaDoor
