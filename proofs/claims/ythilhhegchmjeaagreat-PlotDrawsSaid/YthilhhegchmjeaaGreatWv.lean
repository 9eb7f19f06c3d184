/- Joined texts: TidN, PRa, Bth, DrT, Mad3, LawDa, LawDb. -/
import Derived.Test.YthilhhegchmjeaaGreatWk
import Derived.Test.YthilhhegchmjeaaGreatWu
import Derived.Test.YthilhhegchmjeaaGreatWp
import Derived.Test.YthilhhegchmjeaaGreatWq
import Derived.Test.YthilhhegchmjeaaGreatWb
/- tidy: more than 4000 cells. The program's ValidRegion at cells that are no region. -/
set_option linter.unusedVariables false
set_option maxHeartbeats 8000000
namespace Go.Proofs.YthilhhegchmjeaaGreat
open Go.RowKit
theorem tidy_no (v : Value) (S : List (Nat × Nat)) (hS : ∀ s ∈ S, s.1 ≤ s.2 ∧ s.2 ≤ 8589934592) (hl : S.length ≤ 4000) (hn : 4000 < (RR.tidyL S).length) : ContR Tryz.prog [Hl.rd v cN2 2 S] 74 [v] (.tuple [.slice none 0 0, .bool false].toArray) := fun w hw0 => by
  refine enter Tryz.func74 rfl rfl rfl hw0 ?_
  repeat' (first
    | (refine nxN ?_)
    | (refine nxV ?_)
    | (show RS _ _ _ _ _ _ _ _; first | (refine nxRS ?_) | (refine nxRS1 fun _ => ?_))
    | (show RM _ _ _ _ _ _ _ _ _ _; first | (refine nxRM ?_) | (refine nxRM1 fun _ => ?_))
    | (refine nxG ?_)
    | (refine nxX ?_)
    | (refine G.condN rfl (fun hc => ?_) (fun hc => ?_) <;> (try first | exact False.elim hc | (exfalso; omega))))
  refine G.loop (ι := Sl × Nat) (fun z => [(4, z.1.v), (10, v), (11, .int .i64 S.length), (12, .int .i64 (z.2 : Int))]) (fun z => [Hl.rw z.1.v 110 cT 3 (RR.tidyL (S.take z.2)), Hl.rd v cN2 2 S]) (fun z => z.2 ≤ S.length ∧ (RR.tidyL (S.take z.2)).length ≤ 4000) (fun z => S.length - z.2) (⟨none, 0, 0⟩, 0) ⟨Nat.zero_le _, Nat.zero_le _⟩ ⟨rfl, rfl, rfl, rfl, trivial⟩ (fun w' h => St.nilRow 110 cT 3 h) ?_
  rintro ⟨z, i⟩ mx ⟨g1, g2⟩ hmx
  dsimp only at g1 g2 hmx ⊢
  rcases Nat.lt_or_ge i S.length with hi | hi
  · have hx : nth S (i : Int) ∈ S := by rw [nth_get hi]; exact List.getElem_mem hi
    obtain ⟨hs1, hs2⟩ := hS _ hx
    have e1 : RR.tidyL (S.take (i + 1)) = RR.tidyL (S.take i) ++ RR.greedy (nth S (i : Int)).1 (nth S (i : Int)).2 := by rw [RR.greedy_pre hi, nth_get hi]
    have hle : (RR.tidyL (S.take (i + 1))).length ≤ (RR.tidyL S).length := RR.tidyL_le
    rw [e1, List.length_append] at hle
    generalize RR.tidyL (S.take i) = O0 at *
    generalize ht : (nth S (i : Int)).2 = t at *
    generalize hf0 : (nth S (i : Int)).1 = f0 at *
    repeat' (first
    | (refine nxN ?_)
    | (refine nxV ?_)
    | (show RS _ _ _ _ _ _ _ _; first | (refine nxRS ?_) | (refine nxRS1 fun _ => ?_))
    | (show RM _ _ _ _ _ _ _ _ _ _; first | (refine nxRM ?_) | (refine nxRM1 fun _ => ?_))
    | (refine nxG ?_)
    | (refine nxX ?_)
    | (refine G.condN rfl (fun hc => ?_) (fun hc => ?_) <;> (try first | exact False.elim hc | (exfalso; omega))))
    rename_i b6
    have hr0 : O0 ++ RR.greedy f0 t = O0 ++ RR.greedy f0 t := rfl
    refine G.loop (ι := Sl × List RR.CellT × Nat) (fun y => [(4, y.1.v), (6, .pointer (some ⟨b6, 0, none⟩)), (10, v), (11, .int .i64 S.length), (12, .int .i64 (i : Int))]) (fun y => [Hl.rw y.1.v 110 cT 3 y.2.1, Hl.blk b6 136 [.int .i64 (y.2.2 : Int), .int .i64 (t : Int)], Hl.rd v cN2 2 S]) (fun y => y.2.1 ++ RR.greedy y.2.2 t = O0 ++ RR.greedy f0 t ∧ y.2.2 ≤ t ∧ y.2.1.length ≤ 4000) (fun y => t - y.2.2) (z, O0, f0) ⟨rfl, hs1, g2⟩ ⟨rfl, rfl, rfl, rfl, rfl, trivial⟩ (fun w' h => by
      subst ht
      subst hf0
      have h2 := h.perm (List.Perm.swap _ _ _)
      exact h2.sub (by repeat (first | exact List.Sublist.refl _ | apply List.Sublist.cons_cons | apply List.Sublist.cons))) ?_
    rintro ⟨y, O, f⟩ mx2 ⟨k1, k2, k3⟩ hmx2
    dsimp only at k1 k2 k3 hmx2 ⊢
    rcases Nat.lt_or_ge f t with hf | hf
    · have kl := congrArg List.length k1
      rw [RR.greedy_yes hf, List.length_append, List.length_append, List.length_cons] at kl
      have L1 := lvlF_le f t 16
      have hfm : f < 8589934592 := by omega
      have hnum := num_lt hfm L1
      have hszb := sz_bd (RR.lvlF f t 16)
      have hspec := (RR.lvlF_16 f t hf).2.1
      have k1' := k1
      rw [RR.greedy_yes hf] at k1'
      have hsz2 := sz_two L1
      repeat' (first
    | (refine nxN ?_)
    | (refine nxV ?_)
    | (show RS _ _ _ _ _ _ _ _; first | (refine nxRS ?_) | (refine nxRS1 fun _ => ?_))
    | (show RM _ _ _ _ _ _ _ _ _ _; first | (refine nxRM ?_) | (refine nxRM1 fun _ => ?_))
    | (refine nxG ?_)
    | (refine nxX ?_)
    | (refine G.condN rfl (fun hc => ?_) (fun hc => ?_) <;> (try first | exact False.elim hc | (exfalso; omega))))
      refine G.mid [(4, y.v), (6, .pointer (some ⟨b6, 0, none⟩)), (7, .int .i64 ((RR.lvlF f t 16 : Nat) : Int)), (10, v), (11, .int .i64 S.length), (12, .int .i64 (i : Int))] [Hl.rw y.v 110 cT 3 O, Hl.blk b6 136 [.int .i64 (f : Int), .int .i64 (t : Int)], Hl.rd v cN2 2 S] ?_ ?_
      · refine G.loop (ι := Nat) (fun L => [(4, y.v), (6, .pointer (some ⟨b6, 0, none⟩)), (7, .int .i64 (L : Int)), (10, v), (11, .int .i64 S.length), (12, .int .i64 (i : Int))]) (fun _ => [Hl.rw y.v 110 cT 3 O, Hl.blk b6 136 [.int .i64 (f : Int), .int .i64 (t : Int)], Hl.rd v cN2 2 S]) (fun L => L ≤ 16 ∧ RR.lvlF f t L = RR.lvlF f t 16) (fun L => L) 16 ⟨Nat.le_refl _, rfl⟩ ⟨rfl, rfl, rfl, rfl, rfl, rfl, trivial⟩ (fun w' h => h.sub (by repeat (first | exact List.Sublist.refl _ | apply List.Sublist.cons_cons | apply List.Sublist.cons))) ?_
        rintro L mx3 ⟨q1, q2⟩ hmx3
        (try dsimp only at q1 q2 hmx3 ⊢)
        cases L with
        | zero =>
          have e0 : RR.lvlF f t 16 = 0 := q2.symm
          repeat' (first
    | (refine nxN ?_)
    | (refine nxV ?_)
    | (show RS _ _ _ _ _ _ _ _; first | (refine nxRS ?_) | (refine nxRS1 fun _ => ?_))
    | (show RM _ _ _ _ _ _ _ _ _ _; first | (refine nxRM ?_) | (refine nxRM1 fun _ => ?_))
    | (refine nxG ?_)
    | (refine nxX ?_)
    | (refine G.condN rfl (fun hc => ?_) (fun hc => ?_) <;> (try first | exact False.elim hc | (exfalso; omega))))
          exact X.mid ⟨rfl, rfl, (by rw [e0]; rfl), rfl, rfl, rfl, trivial⟩ (fun w h => h.sub (by repeat (first | exact List.Sublist.refl _ | apply List.Sublist.cons_cons | apply List.Sublist.cons)))
        | succ L =>
          have hq := sz_down q1
          have hb := sz_bd L
          have hrem := tmod_nat (a := f) (b := RR.sz L)
          have hmlt := Nat.mod_le f (RR.sz L)
          replace q2 : (if f % RR.sz L = 0 ∧ f + RR.sz L ≤ t then RR.lvlF f t L else L + 1) = RR.lvlF f t 16 := q2
          generalize hSZ : RR.sz L = sz at *
          generalize hRM : f % sz = rm at *
          by_cases hc3 : rm = 0 ∧ f + sz ≤ t
          · rw [if_pos hc3] at q2
            repeat' (first
    | (refine nxN ?_)
    | (show VK _ _ _ _ _ ⟨_, .binOp .shl _ _ _ _, _, _, _, _⟩ _; refine VK.mk (y_shlA (m := 1) (j := 2 * (16 - (L + 1) + 1)) (by rfl) (by rfl) (by omega) (by omega) hq (by omega)) ?_)
    | (show YK _ _ _ _ _ ⟨_, .binOp .shl _ _ _ _, _, _, _, _⟩ _; refine YK.ofV (y_shlA (m := 1) (j := 2 * (16 - (L + 1) + 1)) (by rfl) (by rfl) (by omega) (by omega) hq (by omega)) ?_)
    | (show VG _ _ _ _ _ _ ⟨_, .binOp .shl _ _ _ _, _, _, _, _⟩ _; refine VG.mk (fun hb => by (try (have hc := And.left hb; have hb := And.right hb; rw [hc])); (try rw [hb]); exact y_shlA (m := 1) (j := 2 * (16 - (L + 1) + 1)) (by rfl) (by rfl) (by omega) (by omega) hq (by omega)) ?_)
    | (show YG _ _ _ _ _ _ ⟨_, .binOp .shl _ _ _ _, _, _, _, _⟩ _; refine YG.mk (fun hb => by (try (have hc := And.left hb; have hb := And.right hb; rw [hc])); (try rw [hb]); exact V.y (y_shlA (m := 1) (j := 2 * (16 - (L + 1) + 1)) (by rfl) (by rfl) (by omega) (by omega) hq (by omega))) ?_)
    | (show VK _ _ _ _ _ ⟨_, .binOp .rem _ _ _ _, _, _, _, _⟩ _; refine VK.mk (y_remN (by rfl) (by rfl) hrem (by omega)) ?_)
    | (show YK _ _ _ _ _ ⟨_, .binOp .rem _ _ _ _, _, _, _, _⟩ _; refine YK.ofV (y_remN (by rfl) (by rfl) hrem (by omega)) ?_)
    | (show VG _ _ _ _ _ _ ⟨_, .binOp .rem _ _ _ _, _, _, _, _⟩ _; refine VG.mk (fun hb => by (try (have hc := And.left hb; have hb := And.right hb; rw [hc])); (try rw [hb]); exact y_remN (by rfl) (by rfl) hrem (by omega)) ?_)
    | (show YG _ _ _ _ _ _ ⟨_, .binOp .rem _ _ _ _, _, _, _, _⟩ _; refine YG.mk (fun hb => by (try (have hc := And.left hb; have hb := And.right hb; rw [hc])); (try rw [hb]); exact V.y (y_remN (by rfl) (by rfl) hrem (by omega))) ?_)
    | (refine nxV ?_)
    | (show RS _ _ _ _ _ _ _ _; first | (refine nxRS ?_) | (refine nxRS1 fun _ => ?_))
    | (show RM _ _ _ _ _ _ _ _ _ _; first | (refine nxRM ?_) | (refine nxRM1 fun _ => ?_))
    | (refine nxG ?_)
    | (refine nxX ?_)
    | (refine G.condN rfl (fun hc => ?_) (fun hc => ?_) <;> (try first | exact False.elim hc | (exfalso; omega))))
            all_goals first | (exfalso; omega) | exact X.again L ⟨by omega, q2⟩ (by omega) ⟨rfl, rfl, (by exact congrArg (fun z => some (Value.int .i64 z)) (by omega)), rfl, rfl, rfl, trivial⟩ (fun w' h => h.sub (by repeat (first | exact List.Sublist.refl _ | apply List.Sublist.cons_cons | apply List.Sublist.cons)))
          · rw [if_neg hc3] at q2
            repeat' (first
    | (refine nxN ?_)
    | (show VK _ _ _ _ _ ⟨_, .binOp .shl _ _ _ _, _, _, _, _⟩ _; refine VK.mk (y_shlA (m := 1) (j := 2 * (16 - (L + 1) + 1)) (by rfl) (by rfl) (by omega) (by omega) hq (by omega)) ?_)
    | (show YK _ _ _ _ _ ⟨_, .binOp .shl _ _ _ _, _, _, _, _⟩ _; refine YK.ofV (y_shlA (m := 1) (j := 2 * (16 - (L + 1) + 1)) (by rfl) (by rfl) (by omega) (by omega) hq (by omega)) ?_)
    | (show VG _ _ _ _ _ _ ⟨_, .binOp .shl _ _ _ _, _, _, _, _⟩ _; refine VG.mk (fun hb => by (try (have hc := And.left hb; have hb := And.right hb; rw [hc])); (try rw [hb]); exact y_shlA (m := 1) (j := 2 * (16 - (L + 1) + 1)) (by rfl) (by rfl) (by omega) (by omega) hq (by omega)) ?_)
    | (show YG _ _ _ _ _ _ ⟨_, .binOp .shl _ _ _ _, _, _, _, _⟩ _; refine YG.mk (fun hb => by (try (have hc := And.left hb; have hb := And.right hb; rw [hc])); (try rw [hb]); exact V.y (y_shlA (m := 1) (j := 2 * (16 - (L + 1) + 1)) (by rfl) (by rfl) (by omega) (by omega) hq (by omega))) ?_)
    | (show VK _ _ _ _ _ ⟨_, .binOp .rem _ _ _ _, _, _, _, _⟩ _; refine VK.mk (y_remN (by rfl) (by rfl) hrem (by omega)) ?_)
    | (show YK _ _ _ _ _ ⟨_, .binOp .rem _ _ _ _, _, _, _, _⟩ _; refine YK.ofV (y_remN (by rfl) (by rfl) hrem (by omega)) ?_)
    | (show VG _ _ _ _ _ _ ⟨_, .binOp .rem _ _ _ _, _, _, _, _⟩ _; refine VG.mk (fun hb => by (try (have hc := And.left hb; have hb := And.right hb; rw [hc])); (try rw [hb]); exact y_remN (by rfl) (by rfl) hrem (by omega)) ?_)
    | (show YG _ _ _ _ _ _ ⟨_, .binOp .rem _ _ _ _, _, _, _, _⟩ _; refine YG.mk (fun hb => by (try (have hc := And.left hb; have hb := And.right hb; rw [hc])); (try rw [hb]); exact V.y (y_remN (by rfl) (by rfl) hrem (by omega))) ?_)
    | (refine nxV ?_)
    | (show RS _ _ _ _ _ _ _ _; first | (refine nxRS ?_) | (refine nxRS1 fun _ => ?_))
    | (show RM _ _ _ _ _ _ _ _ _ _; first | (refine nxRM ?_) | (refine nxRM1 fun _ => ?_))
    | (refine nxG ?_)
    | (refine nxX ?_)
    | (refine G.condN rfl (fun hc => ?_) (fun hc => ?_) <;> (try first | exact False.elim hc | (exfalso; omega))))
            all_goals first | (exfalso; omega) | exact X.mid ⟨rfl, rfl, (by rw [← q2]; rfl), rfl, rfl, rfl, trivial⟩ (fun w h => h.sub (by repeat (first | exact List.Sublist.refl _ | apply List.Sublist.cons_cons | apply List.Sublist.cons)))
      · have hquo := tdiv_nat (a := f) (b := RR.sz (RR.lvlF f t 16))
        have qc := cellOf_c L1 hnum
        have e5 : RR.cellAt (f / RR.sz (RR.lvlF f t 16)) (RR.lvlF f t 16) = ⟨RR.lvlF f t 16, RR.drow (RR.lvlF f t 16) (f / RR.sz (RR.lvlF f t 16)), RR.dcol (RR.lvlF f t 16) (f / RR.sz (RR.lvlF f t 16))⟩ := rfl
        rw [e5] at k1'
        have hdl := Nat.div_le_self f (RR.sz (RR.lvlF f t 16))
        generalize RR.sz (RR.lvlF f t 16) = sz at *
        generalize f / sz = nn at *
        generalize RR.lvlF f t 16 = L at *
        generalize RR.drow L nn = A at *
        generalize RR.dcol L nn = B at *
        repeat' (first
    | (refine nxN ?_)
    | (show VK _ _ _ _ _ ⟨_, .binOp .shl _ _ _ _, _, _, _, _⟩ _; refine VK.mk (y_shlA (m := 1) (j := 2 * (16 - L)) (by rfl) (by rfl) (by omega) (by omega) hsz2 (by omega)) ?_)
    | (show YK _ _ _ _ _ ⟨_, .binOp .shl _ _ _ _, _, _, _, _⟩ _; refine YK.ofV (y_shlA (m := 1) (j := 2 * (16 - L)) (by rfl) (by rfl) (by omega) (by omega) hsz2 (by omega)) ?_)
    | (show VG _ _ _ _ _ _ ⟨_, .binOp .shl _ _ _ _, _, _, _, _⟩ _; refine VG.mk (fun hb => by (try (have hc := And.left hb; have hb := And.right hb; rw [hc])); (try rw [hb]); exact y_shlA (m := 1) (j := 2 * (16 - L)) (by rfl) (by rfl) (by omega) (by omega) hsz2 (by omega)) ?_)
    | (show YG _ _ _ _ _ _ ⟨_, .binOp .shl _ _ _ _, _, _, _, _⟩ _; refine YG.mk (fun hb => by (try (have hc := And.left hb; have hb := And.right hb; rw [hc])); (try rw [hb]); exact V.y (y_shlA (m := 1) (j := 2 * (16 - L)) (by rfl) (by rfl) (by omega) (by omega) hsz2 (by omega))) ?_)
    | (show VK _ _ _ _ _ ⟨_, .binOp .quo _ _ _ _, _, _, _, _⟩ _; refine VK.mk (y_quoN (by rfl) (by rfl) hquo (by omega) (by omega)) ?_)
    | (show YK _ _ _ _ _ ⟨_, .binOp .quo _ _ _ _, _, _, _, _⟩ _; refine YK.ofV (y_quoN (by rfl) (by rfl) hquo (by omega) (by omega)) ?_)
    | (show VG _ _ _ _ _ _ ⟨_, .binOp .quo _ _ _ _, _, _, _, _⟩ _; refine VG.mk (fun hb => by (try (have hc := And.left hb; have hb := And.right hb; rw [hc])); (try rw [hb]); exact y_quoN (by rfl) (by rfl) hquo (by omega) (by omega)) ?_)
    | (show YG _ _ _ _ _ _ ⟨_, .binOp .quo _ _ _ _, _, _, _, _⟩ _; refine YG.mk (fun hb => by (try (have hc := And.left hb; have hb := And.right hb; rw [hc])); (try rw [hb]); exact V.y (y_quoN (by rfl) (by rfl) hquo (by omega) (by omega))) ?_)
    | (show RS _ _ _ _ _ _ _ (⟨some 55, .buildSlice _ _ _, _, _, _, _⟩ :: _); refine RS.lit1T (a := (⟨L, A, B⟩ : RR.CellT)) ?_ (by rfl); intro y1)
    | (show RS _ _ _ _ _ _ _ (⟨some 56, _, _, _, _, _⟩ :: _); refine RS.appendA (f := cT) (l := O) (l' := [(⟨L, A, B⟩ : RR.CellT)]) ?_ (by rfl) (by rfl) (by intro v'; exact updA) (by exact rdA) (by exact fun _ => rfl) (by (simp only [List.length_singleton]; omega)) rfl; intro y2)
    | (show YK _ _ _ _ _ _ _; first | refine YK.mk (y_callA (qc) ⟨rfl, rfl, rfl⟩) ?_)
    | (show YK _ _ _ _ _ _ _; refine YK.ofV vAuto ?_)
    | (show VK _ _ _ _ _ _ _; refine VK.mk vAuto ?_)
    | (show RS _ _ _ _ _ _ _ _; first | (refine nxRS ?_) | (refine nxRS1 fun _ => ?_))
    | (show RM _ _ _ _ _ _ _ _ _ _; first | (refine nxRM ?_) | (refine nxRM1 fun _ => ?_))
    | (show YG _ _ _ _ _ _ _ _; refine YG.mk (fun hb => by (try (have hc := And.left hb; have hb := And.right hb; rw [hc])); (try rw [hb]); first | exact (y_callA (qc) ⟨rfl, rfl, rfl⟩) | exact V.y vAuto) ?_)
    | (show VG _ _ _ _ _ _ _ _; refine VG.mk (fun hb => by (try (have hc := And.left hb; have hb := And.right hb; rw [hc])); (try rw [hb]); exact vAuto) ?_)
    | (refine nxX ?_)
    | (refine G.condN rfl (fun hc => ?_) (fun hc => ?_) <;> (try first | exact False.elim hc | (exfalso; omega))))
        · rw [List.length_append, List.length_singleton] at hc
          exact X.ret (vs := [_, _]) rfl ⟨rfl, rfl, rfl⟩ rfl (fun w hw => ⟨rfl, hw.ext⟩)
        · rw [List.length_append, List.length_singleton] at hc
          exact X.again (y2, O ++ [(⟨L, A, B⟩ : RR.CellT)], f + sz) ⟨by dsimp only; rw [List.append_assoc]; exact k1', by dsimp only; omega, by dsimp only; rw [List.length_append, List.length_singleton]; omega⟩ (by dsimp only; omega) ⟨rfl, rfl, rfl, rfl, rfl, trivial⟩ (fun w' h => h.sub (by repeat (first | exact List.Sublist.refl _ | apply List.Sublist.cons_cons | apply List.Sublist.cons)))
    · rw [RR.greedy_no (by omega), List.append_nil] at k1
      repeat' (first
    | (refine nxN ?_)
    | (refine nxV ?_)
    | (show RS _ _ _ _ _ _ _ _; first | (refine nxRS ?_) | (refine nxRS1 fun _ => ?_))
    | (show RM _ _ _ _ _ _ _ _ _ _; first | (refine nxRM ?_) | (refine nxRM1 fun _ => ?_))
    | (refine nxG ?_)
    | (refine nxX ?_)
    | (refine G.condN rfl (fun hc => ?_) (fun hc => ?_) <;> (try first | exact False.elim hc | (exfalso; omega))))
      refine X.again (y, i + 1) ⟨by dsimp only; omega, by dsimp only; rw [e1, ← k1]; exact k3⟩ (by dsimp only; omega) ⟨rfl, rfl, rfl, rfl, trivial⟩ (fun w' h => ?_)
      dsimp only
      rw [e1, ← k1]
      exact h.sub (by repeat (first | exact List.Sublist.refl _ | apply List.Sublist.cons_cons | apply List.Sublist.cons))
  · obtain rfl : i = S.length := by omega
    rw [List.take_length] at g2
    exfalso; omega
theorem vreg_no (v : Value) (l : List RR.CellT) (ok : ∀ x ∈ l, RR.okC x) (hv : ¬ RR.IdxOk l) (hl : l.length ≤ 4000) : ContR Tryz.prog [Hl.rd v cT 3 l] 41 [v] (.bool false) := fun w hw0 => by
  have q1 := celCont_c v (l.map ofT) (by rw [List.length_map]; omega)
  have ha : (l.map ofT).all ckB = true := by
    rw [List.all_eq_true]
    intro x hx
    obtain ⟨y, hy, rfl⟩ := List.mem_map.1 hx
    exact ofT_ok.2 (ok y hy)
  rw [rdT_K, ha] at q1
  have q2 := cover_c v l ok hl
  refine enter Tryz.func41 rfl rfl rfl hw0 ?_
  repeat' (first
    | (refine nxN ?_)
    | (show RS _ _ _ _ _ _ _ (⟨some 14, _, _, _, _, _⟩ :: _); refine RS.callX q2 ⟨rfl, rfl⟩ ?_; rintro ⟨z, C⟩ ⟨S, hS1, hS2, hS3⟩; dsimp only at hS3; subst hS3; dsimp only [List.cons_append, List.nil_append]; have hcf := cover_facts ok hS1; have hne : RR.tidyL (S.foldl RR.mergeS []) ≠ l := fun h => hv ((RR.region_iff ok hS1 hS2).1 h); generalize S.foldl RR.mergeS [] = F at *; rcases Nat.lt_or_ge 4000 (RR.tidyL F).length with hL | hL)
    | (show RS _ _ _ _ _ _ _ (⟨some 15, _, _, _, _, _⟩ :: _); refine RS.callX (tidy_c z.v F hcf.1 (by omega) hL) ⟨rfl, rfl⟩ ?_; rintro z2 -; dsimp only [List.cons_append, List.nil_append]; have q4 := celEq_c z2.v v (RR.tidyL F) l (by omega) (by omega); rw [decide_eq_false hne] at q4)
    | (show YK _ _ _ _ _ ⟨some 15, _, _, _, _, _⟩ _; refine YK.mk (y_callRA (tidy_no z.v F hcf.1 (by omega) hL) ⟨rfl, rfl⟩) ?_)
    | (show YK _ _ _ _ _ _ _; first | refine YK.mk (y_callRA (q1) ⟨rfl, rfl, rfl⟩) ?_ | refine YK.mk (y_callRA (q4) ⟨rfl, rfl, rfl⟩) ?_)
    | (show YK _ _ _ _ _ _ _; refine YK.ofV vAuto ?_)
    | (show VK _ _ _ _ _ _ _; refine VK.mk vAuto ?_)
    | (show RS _ _ _ _ _ _ _ _; first | (refine nxRS ?_) | (refine nxRS1 fun _ => ?_))
    | (show RM _ _ _ _ _ _ _ _ _ _; first | (refine nxRM ?_) | (refine nxRM1 fun _ => ?_))
    | (show YG _ _ _ _ _ _ _ _; refine YG.mk (fun hb => by (try (have hc := And.left hb; have hb := And.right hb; rw [hc])); (try rw [hb]); first | exact (y_callRA (q1) ⟨rfl, rfl, rfl⟩) | exact (y_callRA (q4) ⟨rfl, rfl, rfl⟩) | exact V.y vAuto) ?_)
    | (show VG _ _ _ _ _ _ _ _; refine VG.mk (fun hb => by (try (have hc := And.left hb; have hb := And.right hb; rw [hc])); (try rw [hb]); exact vAuto) ?_)
    | (refine nxX ?_)
    | (refine G.condN rfl (fun hc => ?_) (fun hc => ?_) <;> (try first | exact False.elim hc | (exfalso; omega))))
  all_goals first | (exfalso; omega) | exact X.ret (vs := [_]) rfl ⟨rfl, rfl⟩ rfl (fun w hw => ⟨rfl, hw.ext⟩)
end Go.Proofs.YthilhhegchmjeaaGreat
/- PlotDraws: the program's Region that draws nothing. -/
set_option linter.unusedVariables false
set_option maxHeartbeats 8000000
namespace Go.Proofs.YthilhhegchmjeaaGreat
open Go.RowKit
theorem contK_in {P : Program} {v : Value} {l : List Cel} {f : FuncId} {args : List Value} {u : Value} (h : ContR P [Hl.rd v cK 3 l] f args u) : ContIn P (fun w => RO w v 3 l.length (l.flatMap cK)) f args u := fun w hw => h w fun x hx => by
  rcases List.mem_singleton.1 hx with rfl
  exact ⟨⟨hw, fun h => by cases h⟩, rfl⟩
theorem region_arg {xt : Nat → List Value} {b : Nat} {la lo u cs : Int} {z : Sl} {rs : List (Sl × List Int)} {m : Int} {v : Sl} {lc : List Cel} {vb : Bool} (hm : 0 ≤ m ∧ m ≤ 255) (q : ContR Tryz.prog [Hl.rd v.v cK 3 lc] 41 [v.v] (.bool vb)) (hv : ((decide (33 ≤ m) && decide (m ≤ 126)) && vb) = false) :
    ContL Tryz.prog (fun w => RO w v.v 3 lc.length (lc.flatMap cK)) (shB b la lo u cs z.v :: rwS z (rs.map Prod.fst) :: rowsH xt rs) 10 [ptS b, v.v, .int .u8 m] (fun _ : Unit => True) (fun _ => .int .i64 1) (fun _ => shB b la lo u cs z.v :: rwS z (rs.map Prod.fst) :: rowsH xt rs) := fun w0 HR w hC hs => by
  have q1 := marks_c (b := b) (m := m) hm
  have q2 := contK_in q
  cases h1 : (decide (33 ≤ m) && decide (m ≤ 126)) <;> cases vb <;> rw [h1] at q1 hv <;> first
    | (exfalso; revert hv; decide)
    | (clear hv h1
       refine enterU Tryz.func10 rfl rfl rfl (H := shB b la lo u cs z.v :: rwS z (rs.map Prod.fst) :: (rowsH xt rs ++ HR)) hs ?_
       repeat' (first
    | (refine nxN ?_)
    | (show YK _ _ _ _ _ ⟨_, .call { callee := .value (.func 41), args := _, argTypes := _ }, _, _, _, _⟩ _; refine YK.mk (y_callIn (q2) (fun w' hw' => hC.stay hw'.ext) ⟨rfl, rfl⟩ (by decide +kernel)) ?_)
    | (show YG _ _ _ _ _ _ ⟨_, .call { callee := .value (.func 41), args := _, argTypes := _ }, _, _, _, _⟩ _; refine YG.mk (fun hb => by (try (have hc := And.left hb; have hb := And.right hb; rw [hc])); (try rw [hb]); exact y_callIn (q2) (fun w' hw' => hC.stay hw'.ext) ⟨rfl, rfl⟩ (by decide +kernel)) ?_)
    | (show YK _ _ _ _ _ _ _; first | refine YK.mk (y_callA (q1) ⟨rfl, rfl, rfl⟩) ?_)
    | (show YK _ _ _ _ _ _ _; refine YK.ofV vAuto ?_)
    | (show VK _ _ _ _ _ _ _; refine VK.mk vAuto ?_)
    | (show RS _ _ _ _ _ _ _ _; first | (refine nxRS ?_) | (refine nxRS1 fun _ => ?_))
    | (show RM _ _ _ _ _ _ _ _ _ _; first | (refine nxRM ?_) | (refine nxRM1 fun _ => ?_))
    | (show YG _ _ _ _ _ _ _ _; refine YG.mk (fun hb => by (try (have hc := And.left hb; have hb := And.right hb; rw [hc])); (try rw [hb]); first | exact (y_callA (q1) ⟨rfl, rfl, rfl⟩) | exact V.y vAuto) ?_)
    | (show VG _ _ _ _ _ _ _ _; refine VG.mk (fun hb => by (try (have hc := And.left hb; have hb := And.right hb; rw [hc])); (try rw [hb]); exact vAuto) ?_)
    | (refine nxX ?_)
    | (refine G.condN rfl (fun hc => ?_) (fun hc => ?_) <;> (try first | exact False.elim hc | (exfalso; omega))))
       exact X.ret (vs := [_]) rfl ⟨rfl, rfl⟩ rfl (fun w hw => ⟨(), trivial, rfl, St.sub hw (by repeat (first | exact List.Sublist.refl _ | apply List.Sublist.cons))⟩))
end Go.Proofs.YthilhhegchmjeaaGreat
/- PlotDraws: one draw on both sheets. -/
set_option linter.unusedVariables false
set_option maxHeartbeats 8000000
namespace Go.Proofs.YthilhhegchmjeaaGreat
open Go.RowKit
/-- A matrix of a sheet's pixels. -/
structure Mok (wd : Nat) (M : List (List Int)) : Prop where
  h : M.length = 2 * ((wd - 1) / 4) + 1
  w : ∀ r ∈ M, r.length = wd
  p : ∀ r ∈ M, ∀ n ∈ r, 11 ≤ n ∧ n ≤ 255
/-- A draw: what the program's method and the reference's function answer, and what the sheets hold then. -/
def StepOk (f g : FuncId) (vs : List Value) (C : World → Prop) (la lo u : Int) (wd : Nat) (M : List (List Int)) : Prop :=
  ∃ (e : Int) (M' : List (List Int)), Mok wd M' ∧
    (∀ (xt : Nat → List Value) (b : Nat) (z : Sl) (rs : List (Sl × List Int)), rs.map Prod.snd = M → (∀ r ∈ rs, hdOk wd r.1) → ∃ rs' : List (Sl × List Int), rs'.map Prod.fst = rs.map Prod.fst ∧ rs'.map Prod.snd = M' ∧
      ContL Tryz.prog C (shB b la lo u (TT.cosE la la).1 z.v :: rwS z (rs.map Prod.fst) :: rowsH xt rs) f (ptS b :: vs) (fun _ : Unit => True) (fun _ => .int .i64 e) (fun _ => shB b la lo u (TT.cosE la la).1 z.v :: rwS z (rs.map Prod.fst) :: rowsH xt rs')) ∧
    (∀ (z : Sl) (rs : List (Sl × List Int)), rs.map Prod.snd = M → ContXI Tryz.prog (fun w => RsW z rs w ∧ C w) g (rshV la lo u (wd : Int) z.v :: vs) (ShX.Ok z rs M') (fun x => .tuple [rshV la lo u (wd : Int) x.1.v, .int .i64 e].toArray) (fun x => x.2.2))
theorem ContXI.mono {P : Program} {C C' : World → Prop} {f : FuncId} {args : List Value} {ι : Type} {post : ι → Prop} {v : ι → Value} {Hn : ι → List Hl} (h : ContXI P C f args post v Hn) (hC : ∀ w, C' w → C w) : ContXI P C' f args post v Hn := fun w hw => h w (hC w hw)
theorem Mok.rows {wd : Nat} {M : List (List Int)} (h : Mok wd M) {rs : List (Sl × List Int)} (e : rs.map Prod.snd = M) : rs.length = 2 * ((wd - 1) / 4) + 1 ∧ ∀ r ∈ rs, r.2.length = wd := by
  refine ⟨by rw [← h.h, ← e, List.length_map], fun r hr => h.w r.2 ?_⟩
  rw [← e]
  exact List.mem_map_of_mem hr
theorem Mok.mk_ {wd : Nat} {M : List (List Int)} (h : Mok wd M) (sel : Nat → Nat → Bool) {m : Int} (hm : 11 ≤ m ∧ m ≤ 255) : Mok wd (mkM sel m 0 M) :=
  ⟨by rw [mkM_len]; exact h.h, mkM_mem h.w, mkM_pix hm h.p⟩
theorem shok_rs {la lo u : Int} {wd : Nat} {rs : List (Sl × List Int)} (hp : pointB la lo = true) (hla : -4800000 ≤ la ∧ la ≤ 4800000) (hu : 2 ≤ u ∧ u ≤ 100000) (hw : 11 ≤ wd ∧ wd ≤ 121) (hl : rs.length = 2 * ((wd - 1) / 4) + 1) (hr : ∀ r ∈ rs, hdOk wd r.1) : ShOk la lo u (TT.cosE la la).1 (rs.map Prod.fst) wd :=
  shok_new hp hla hu hw (by rw [List.length_map]; exact hl) fun s hs => by
    obtain ⟨r, h1, rfl⟩ := List.mem_map.1 hs
    exact hr r h1
theorem line_step {la lo u pla plo zl zh il ih m : Int} {wd : Nat} {M : List (List Int)} (hp : pointB la lo = true) (hla : -4800000 ≤ la ∧ la ≤ 4800000) (hu : 2 ≤ u ∧ u ≤ 100000) (hw : 11 ≤ wd ∧ wd ≤ 121) (hM : Mok wd M) (hm : 0 ≤ m ∧ m ≤ 255) :
    StepOk 8 9 [lineV pla plo zl zh il ih, .int .u8 m] (fun _ => True) la lo u wd M := by
  cases hv : ((decide (33 ≤ m) && decide (m ≤ 126)) && lvalB pla plo zl zh il ih) with
  | false =>
    exact ⟨1, M, hM, fun xt b z rs e hr => ⟨rs, rfl, e, line_arg hm hv⟩, fun z rs e => e ▸ (rline_arg hv).mono fun w h => h.1⟩
  | true =>
    have hv2 := hv
    simp only [Bool.and_eq_true] at hv2
    obtain ⟨⟨h1, h2⟩, h3⟩ := hv2
    have hmm : (decide (33 ≤ m) && decide (m ≤ 126)) = true := by rw [h1, h2]; rfl
    have hm' : 33 ≤ m ∧ m ≤ 126 := ⟨of_decide_eq_true h1, of_decide_eq_true h2⟩
    by_cases hne : pla = la ∧ plo = lo
    · obtain ⟨rfl, rfl⟩ := hne
      have e1 := TT.encl_le (midI zl zh) (midI zl zh) (Int.le_refl _) (by omega)
      have e2 := TT.cosE_bd (lo := midI zl zh) (hi := midI zl zh) (Int.le_refl _) (by omega)
      refine ⟨0, mkM (lineSel wd M.length u ((TT.encl (midI zl zh) (midI zl zh)).1 / 131072) ((TT.cosE (midI zl zh) (midI zl zh)).1 / 131072) (midI il ih)) m 0 M, hM.mk_ _ (by omega), fun xt b z rs e hr => ?_, fun z rs e => ?_⟩
      · obtain ⟨r1, r2⟩ := hM.rows e
        have q := line_ok (b := b) (z := z) (xt := xt) (rs := rs) (m := m) (zl := zl) (zh := zh) (il := il) (ih := ih) (shok_rs hp hla hu hw r1 hr) (fun r h => ⟨r2 r h, hr r h⟩) hm' h3 ⟨e1.1, by omega⟩ ⟨e2.1, by omega⟩
        refine ⟨_, pR_fst .., ?_, q⟩
        rw [mkM_pR, e, show rs.length = M.length by rw [← e, List.length_map]]
      · obtain ⟨r1, r2⟩ := hM.rows e
        have q := rline_ok (z := z) (rs := rs) (m := m) (zl := zl) (zh := zh) (il := il) (ih := ih) hmm h3 hu hw r1 r2 ⟨e1.1, by omega⟩ ⟨e2.1, by omega⟩
        rw [e, show rs.length = M.length by rw [← e, List.length_map]] at q
        exact q.mono fun w h => h.1
    · exact ⟨26, M, hM, fun xt b z rs e hr => ⟨rs, rfl, e, line_shape hm' h3 hne⟩, fun z rs e => e ▸ (rline_shape hmm h3 hne).mono fun w h => h.1⟩
theorem ContL.mono {P : Program} {C C' : World → Prop} {Xs : List Hl} {f : FuncId} {args : List Value} {ι : Type} {post : ι → Prop} {v : ι → Value} {Y : ι → List Hl} (h : ContL P C Xs f args post v Y) (hC : ∀ w, C' w → C w) : ContL P C' Xs f args post v Y := fun w0 HR w hw => h w0 HR w (hC w0 hw)
theorem region_step {la lo u m : Int} {wd : Nat} {v : Sl} {lc : List Cel} {M : List (List Int)} (hp : pointB la lo = true) (hla : -4800000 ≤ la ∧ la ≤ 4800000) (hu : 2 ≤ u ∧ u ≤ 100000) (hw : 11 ≤ wd ∧ wd ≤ 121) (hM : Mok wd M) (hm : 0 ≤ m ∧ m ≤ 255) (hl : lc.length ≤ 60) :
    StepOk 10 11 [v.v, .int .u8 m] (fun w => RO w v.v 3 lc.length (lc.flatMap cK)) la lo u wd M := by
  have bad : ∀ vb : Bool, ContR Tryz.prog [Hl.rd v.v cK 3 lc] 41 [v.v] (.bool vb) → ContR Tryz.prog [Hl.rd v.v cK 3 lc] 45 [v.v] (.bool vb) → ((decide (33 ≤ m) && decide (m ≤ 126)) && vb) = false → StepOk 10 11 [v.v, .int .u8 m] (fun w => RO w v.v 3 lc.length (lc.flatMap cK)) la lo u wd M := fun vb q r hv =>
    ⟨1, M, hM, fun xt b z rs e hr => ⟨rs, rfl, e, region_arg hm q hv⟩, fun z rs e => e ▸ rregion_arg r hv⟩
  cases hck : lc.all ckB with
  | false => exact bad false (vreg_bad v.v lc (by omega) (.inr hck)) (rvreg_bad v.v lc (by omega) hck) (Bool.and_false _)
  | true =>
    obtain ⟨L, rfl, okL⟩ := ofT_all hck
    rw [List.length_map] at hl
    by_cases hx : RR.IdxOk L
    · have q := vreg_c v.v L okL hx (by omega)
      have r := rvreg_c v.v L okL (by omega) (bb := true) (by simp [hx])
      cases hmm : (decide (33 ≤ m) && decide (m ≤ 126)) with
      | false => exact bad true (by rw [rdT_K]; exact q) (by rw [rdT_K]; exact r) (by rw [hmm]; rfl)
      | true =>
        have hm2 := hmm
        simp only [Bool.and_eq_true, decide_eq_true_eq] at hm2
        have hpp := hp
        simp only [pointB, Bool.and_eq_true, decide_eq_true_eq] at hpp
        refine ⟨0, mkM (regSel wd M.length la lo u (TT.cosE la la).1 L) m 0 M, hM.mk_ _ (by omega), fun xt b z rs e hr => ?_, fun z rs e => ?_⟩
        · obtain ⟨r1, r2⟩ := hM.rows e
          have q := region_ok (b := b) (z := z) (xt := xt) (rs := rs) (m := m) (v := v) (l := L) (shok_rs hp hla hu hw r1 hr) (fun r h => ⟨r2 r h, hr r h⟩) hm2 okL hx (by omega)
          refine ⟨_, pR_fst .., ?_, q.mono fun w h => ?_⟩
          · rw [mkM_pR, e, show rs.length = M.length by rw [← e, List.length_map]]
          · rw [flatT, List.length_map] at h
            exact h
        · obtain ⟨r1, r2⟩ := hM.rows e
          have q := rregion_ok (z := z) (rs := rs) (lo := lo) hmm r okL (by omega) hla (by omega) hu hw r1 r2
          rw [e, show rs.length = M.length by rw [← e, List.length_map]] at q
          refine q.mono fun w h => ⟨h.1, ?_⟩
          have h2 := h.2
          rw [flatT, List.length_map] at h2
          exact h2
    · exact bad false (by rw [rdT_K]; exact vreg_no v.v L okL hx (by omega)) (by rw [rdT_K]; exact rvreg_c v.v L okL (by omega) (bb := false) (by simp [hx])) (Bool.and_false _)
theorem Mok.set_ {wd : Nat} {M : List (List Int)} (h : Mok wd M) {i j : Nat} {m : Int} (hm : 11 ≤ m ∧ m ≤ 255) (hj : j < M.length) : Mok wd (setM M j i m) := by
  unfold setM
  have e : M.getD j [] = M[j] := by rw [List.getD_eq_getElem?_getD, List.getElem?_eq_getElem hj]; rfl
  have hr := List.getElem_mem hj
  rw [e]
  refine ⟨by rw [List.length_set]; exact h.h, fun r hr2 => ?_, fun r hr2 n hn => ?_⟩
  · rcases List.mem_or_eq_of_mem_set hr2 with h2 | rfl
    · exact h.w r h2
    · rw [List.length_set]; exact h.w _ hr
  · rcases List.mem_or_eq_of_mem_set hr2 with h2 | rfl
    · exact h.p r h2 n hn
    · rcases List.mem_or_eq_of_mem_set hn with h3 | rfl
      · exact h.p _ hr n h3
      · exact hm
theorem pix_in {wd h : Nat} {la lo u cs pla plo : Int} (he : (pixI wd h la lo u cs pla plo).2.2 = 0) : ∃ i j : Nat, pixI wd h la lo u cs pla plo = ((i : Int), (j : Int), 0) ∧ i < wd ∧ j < h := by
  unfold pixI at he ⊢
  split at he
  · split at he
    · rename_i h1 h2
      rw [if_pos h1, if_pos h2]
      simp only [hasI, Bool.and_eq_true, decide_eq_true_eq] at h2
      obtain ⟨i, hi⟩ := Int.eq_ofNat_of_zero_le h2.1.2
      obtain ⟨j, hj⟩ := Int.eq_ofNat_of_zero_le h2.1.1.1
      refine ⟨i, j, by rw [hi, hj], by omega, by omega⟩
    · exact absurd he (by decide)
  · exact absurd he (by decide)
theorem mark_step {la lo u pla plo m : Int} {wd : Nat} {M : List (List Int)} (hp : pointB la lo = true) (hla : -4800000 ≤ la ∧ la ≤ 4800000) (hu : 2 ≤ u ∧ u ≤ 100000) (hw : 11 ≤ wd ∧ wd ≤ 121) (hM : Mok wd M) (hm : 0 ≤ m ∧ m ≤ 255) (h1 : -9223372036854775808 ≤ pla ∧ pla ≤ 9223372036854775807) (h2 : -9223372036854775808 ≤ plo ∧ plo ≤ 9223372036854775807) :
    StepOk 12 13 [ptV pla plo, .int .u8 m] (fun _ => True) la lo u wd M := by
  have hpp := hp
  simp only [pointB, Bool.and_eq_true, decide_eq_true_eq] at hpp
  cases hmm : (decide (33 ≤ m) && decide (m ≤ 126)) with
  | false => exact ⟨1, M, hM, fun xt b z rs e hr => ⟨rs, rfl, e, mark_arg hm hmm⟩, fun z rs e => e ▸ (rmark_arg hmm).mono fun w h => h.1⟩
  | true =>
    have hm2 := hmm
    simp only [Bool.and_eq_true, decide_eq_true_eq] at hm2
    by_cases he : (pixI wd M.length la lo u (TT.cosE la la).1 pla plo).2.2 = 0
    · obtain ⟨i, j, hx, hi, hj⟩ := pix_in he
      refine ⟨0, setM M j i m, hM.set_ (by omega) hj, fun xt b z rs e hr => ?_, fun z rs e => ?_⟩
      · obtain ⟨r1, r2⟩ := hM.rows e
        have el : rs.length = M.length := by rw [← e, List.length_map]
        have hj2 : j < rs.length := by omega
        have hrs : rs = rs.take j ++ rs[j] :: rs.drop (j + 1) := by rw [List.getElem_cons_drop, List.take_append_drop]
        have hA : (rs.take j).length = j := by rw [List.length_take]; omega
        have hmem := List.getElem_mem hj2
        have q := mark_ok (b := b) (z := z) (xt := xt) (rs := rs) (A := rs.take j) (B := rs.drop (j + 1)) (r := rs[j]) (pla := pla) (plo := plo) (m := m) (i := i) (j := j) (shok_rs hp hla hu hw r1 hr) hm2 h1 h2 (by rw [List.length_map, el]; exact hx) hrs hA hi (r2 _ hmem) (hr _ hmem)
        have e2 : ∀ x : Sl × List Int, rs.take j ++ x :: rs.drop (j + 1) = rs.set j x := fun x => by rw [List.set_eq_take_append_cons_drop, if_pos hj2]
        rw [e2] at q
        refine ⟨rs.set j (rs[j].1, rs[j].2.set i m), ?_, ?_, q⟩
        · rw [List.map_set]
          refine List.ext_getElem? fun k => ?_
          by_cases ek : j = k
          · subst ek
            rw [List.getElem?_set_self (by rw [List.length_map]; exact hj2), List.getElem?_map, List.getElem?_eq_getElem hj2]; rfl
          · rw [List.getElem?_set_ne ek]
        · rw [List.map_set, e]
          unfold setM
          have : M.getD j [] = rs[j].2 := by rw [← e, List.getD_eq_getElem?_getD, List.getElem?_map, List.getElem?_eq_getElem hj2]; rfl
          rw [this]
      · obtain ⟨r1, r2⟩ := hM.rows e
        have el : rs.length = M.length := by rw [← e, List.length_map]
        have q := rmark_ok (z := z) (rs := rs) (lo := lo) hmm hla (by omega) hu hw r1 h1 h2 r2 (by rw [el]; exact hx) hi (by omega)
        rw [e] at q
        exact q.mono fun w h => h.1
    · refine ⟨(pixI wd M.length la lo u (TT.cosE la la).1 pla plo).2.2, M, hM, fun xt b z rs e hr => ?_, fun z rs e => ?_⟩
      · obtain ⟨r1, r2⟩ := hM.rows e
        have el : rs.length = M.length := by rw [← e, List.length_map]
        exact ⟨rs, rfl, e, mark_out (shok_rs hp hla hu hw r1 hr) hm2 h1 h2 (by rw [List.length_map, el]) he⟩
      · obtain ⟨r1, r2⟩ := hM.rows e
        have el : rs.length = M.length := by rw [← e, List.length_map]
        have q := rmark_out (z := z) (rs := rs) (lo := lo) (i := (pixI wd M.length la lo u (TT.cosE la la).1 pla plo).1) (j := (pixI wd M.length la lo u (TT.cosE la la).1 pla plo).2.1) hmm hla (by omega) hu hw r1 h1 h2 (by rw [el]) he
        rw [e] at q
        exact q.mono fun w h => h.1
end Go.Proofs.YthilhhegchmjeaaGreat
/- PlotDraws: draws; the law's first test. -/
set_option linter.unusedVariables false
set_option maxHeartbeats 8000000
namespace Go.Proofs.YthilhhegchmjeaaGreat
open Go.RowKit
/-- A draw. -/
structure DrwT where
  k : Int
  la : Int
  lo : Int
  zl : Int
  zh : Int
  il : Int
  ih : Int
  g : Sl
  l : List Cel
  pa : Int
  po : Int
  m : Int
instance : Inhabited DrwT := ⟨⟨0, 0, 0, 0, 0, 0, 0, ⟨none, 0, 0⟩, [], 0, 0, 0⟩⟩
abbrev cDr (d : DrwT) : List Value := [.int .i64 d.k, .int .i64 d.la, .int .i64 d.lo, .int .i64 d.zl, .int .i64 d.zh, .int .i64 d.il, .int .i64 d.ih, d.g.v, .int .i64 d.pa, .int .i64 d.po, .int .u8 d.m]
abbrev J64 (x : Int) : Prop := -9223372036854775808 ≤ x ∧ x ≤ 9223372036854775807
/-- What an argument's draw holds. -/
structure DrwB (w : World) (d : DrwT) : Prop where
  k : J64 d.k
  near : J64 d.la ∧ J64 d.lo
  az : J64 d.zl ∧ J64 d.zh
  ic : J64 d.il ∧ J64 d.ih
  pt : J64 d.pa ∧ J64 d.po
  m : 0 ≤ d.m ∧ d.m ≤ 255
  ro : RO w d.g.v 3 d.l.length (d.l.flatMap cK)
  len : d.l.length ≤ maxLen
  n : d.g.n = d.l.length
abbrev drV (d : DrwT) : Value := .agg (cDr d).toArray
abbrev bigF : Value := .func (.func 6) #[] #[]
/-- Has it at most 60 cells? -/
def smB (d : DrwT) : Bool := decide (d.g.n ≤ 60)
theorem drbig_c (d : DrwT) : Cont Tryz.prog 6 [drV d] (.bool (!smB d)) := fun w => by
  refine enter0 Tryz.func6 rfl rfl rfl ?_
  repeat' (first
    | (refine nxN ?_)
    | (show VK _ _ _ _ _ ⟨_, .call { callee := .builtin .len, args := _, argTypes := #[31] }, _, _, _, _⟩ _; refine VK.mk (y_lenV (by rfl) (by decide +kernel)) ?_)
    | (show YK _ _ _ _ _ ⟨_, .call { callee := .builtin .len, args := _, argTypes := #[31] }, _, _, _, _⟩ _; refine YK.ofV (y_lenV (by rfl) (by decide +kernel)) ?_)
    | (show VG _ _ _ _ _ _ ⟨_, .call { callee := .builtin .len, args := _, argTypes := #[31] }, _, _, _, _⟩ _; refine VG.mk (fun hb => by (try (have hc := And.left hb; have hb := And.right hb; rw [hc])); (try rw [hb]); exact y_lenV (by rfl) (by decide +kernel)) ?_)
    | (show YG _ _ _ _ _ _ ⟨_, .call { callee := .builtin .len, args := _, argTypes := #[31] }, _, _, _, _⟩ _; refine YG.mk (fun hb => by (try (have hc := And.left hb; have hb := And.right hb; rw [hc])); (try rw [hb]); exact V.y (y_lenV (by rfl) (by decide +kernel))) ?_)
    | (refine nxV ?_)
    | (show RS _ _ _ _ _ _ _ _; first | (refine nxRS ?_) | (refine nxRS1 fun _ => ?_))
    | (show RM _ _ _ _ _ _ _ _ _ _; first | (refine nxRM ?_) | (refine nxRM1 fun _ => ?_))
    | (refine nxG ?_)
    | (refine nxX ?_)
    | (refine G.condN rfl (fun hc => ?_) (fun hc => ?_) <;> (try first | exact False.elim hc | (exfalso; omega))))
  refine X.ret (vs := [_]) rfl ⟨rfl, rfl⟩ rfl (fun w hw => ⟨congrArg Ending.returned (congrArg Value.bool ?_), hw.ext⟩)
  unfold smB
  rw [← decide_not]
  exact decide_eq_decide.2 (by omega)
/-- Where the first cell is that is big. -/
def fbig : List DrwT → Int → Int
  | [], _ => -1
  | x :: r, k => if smB x = true then fbig r (k + 1) else k
theorem fbig_all : ∀ {l : List DrwT} {k : Int}, 0 ≤ k → decide (fbig l k ≥ 0) = !l.all smB
  | [], k, _ => rfl
  | x :: r, k, h => by
    unfold fbig
    cases hx : smB x with
    | true => rw [if_pos rfl, fbig_all (by omega), List.all_cons, hx, Bool.true_and]
    | false => rw [if_neg (by decide), List.all_cons, hx, Bool.false_and, decide_eq_true h]; rfl
theorem fbig_bd : ∀ {l : List DrwT} {k : Int}, 0 ≤ k → -1 ≤ fbig l k ∧ fbig l k ≤ k + l.length
  | [], k, _ => ⟨by simp [fbig], by simp [fbig]; omega⟩
  | x :: r, k, h => by
    have := fbig_bd (l := r) (k := k + 1) (by omega)
    unfold fbig
    rw [List.length_cons]
    split <;> omega
theorem drIx_c (v : Value) (l : List DrwT) (hl : l.length ≤ 1000000) : ContR Tryz.prog [Hl.rd v cDr 11 l] 19 [v, bigF] (.int .i64 (fbig l 0)) := fun w hw0 => by
  refine enter Tryz.func19 rfl rfl rfl hw0 ?_
  repeat' (first
    | (refine nxV ?_)
    | (show RS _ _ _ _ _ _ _ _; first | (refine nxRS ?_) | (refine nxRS1 fun _ => ?_))
    | (show RM _ _ _ _ _ _ _ _ _ _; first | (refine nxRM ?_) | (refine nxRM1 fun _ => ?_))
    | (refine nxG ?_)
    | (refine nxX ?_)
    | (refine G.condN rfl (fun hc => ?_) (fun hc => ?_) <;> (try first | exact False.elim hc | (exfalso; omega))))
  refine G.loop (ι := Nat) (fun i => [(0, v), (1, bigF), (7, .int .i64 l.length), (8, .int .i64 (i : Int))]) (fun _ => [Hl.rd v cDr 11 l]) (fun i => i ≤ l.length ∧ fbig l 0 = fbig (l.drop i) i) (fun i => l.length - i) 0 ⟨Nat.zero_le _, rfl⟩ ⟨rfl, rfl, rfl, rfl, trivial⟩ (by exact fun w h => h.sub (by repeat (first | exact List.Sublist.refl _ | apply List.Sublist.cons_cons | apply List.Sublist.cons))) ?_
  rintro i mx ⟨g1, g2⟩ hmx
  (try dsimp only at g1 g2 hmx ⊢)
  rcases Nat.lt_or_ge i l.length with hi | hi
  · have hd : l.drop i = nth l (i : Int) :: l.drop (i + 1) := by rw [nth_mem hi, List.getElem_cons_drop]
    rw [hd] at g2
    have q1 := drbig_c (nth l (i : Int))
    cases hv : smB (nth l (i : Int)) with
    | true =>
      rw [hv] at q1
      have q2 : ContIn Tryz.prog (fun _ => True) 6 ([drV (nth l (i : Int))] ++ (#[] : Array Value).toList) (.bool (!true)) := fun w' _ => q1 w'
      repeat' (first
    | (show YK _ _ _ _ _ ⟨_, .call _, _, _, _, _⟩ _; refine YK.mk (y_callV (f := 6) (by rfl) q2 (fun _ _ => trivial) ⟨rfl, rfl⟩ (by decide +kernel)) ?_)
    | (refine nxV ?_)
    | (show RS _ _ _ _ _ _ _ _; first | (refine nxRS ?_) | (refine nxRS1 fun _ => ?_))
    | (show RM _ _ _ _ _ _ _ _ _ _; first | (refine nxRM ?_) | (refine nxRM1 fun _ => ?_))
    | (refine nxG ?_)
    | (refine nxX ?_)
    | (refine G.condN rfl (fun hc => ?_) (fun hc => ?_) <;> (try first | exact False.elim hc | (exfalso; omega))))
      refine X.again (i + 1) ⟨by omega, ?_⟩ (by omega) ⟨rfl, rfl, rfl, rfl, trivial⟩ (by exact fun w h => h.sub (by repeat (first | exact List.Sublist.refl _ | apply List.Sublist.cons_cons | apply List.Sublist.cons)))
      rw [g2]
      show (if smB (nth l (i : Int)) = true then fbig (l.drop (i + 1)) ((i : Int) + 1) else (i : Int)) = _
      rw [if_pos hv]; rfl
    | false =>
      rw [hv] at q1
      have q2 : ContIn Tryz.prog (fun _ => True) 6 ([drV (nth l (i : Int))] ++ (#[] : Array Value).toList) (.bool (!false)) := fun w' _ => q1 w'
      repeat' (first
    | (show YK _ _ _ _ _ ⟨_, .call _, _, _, _, _⟩ _; refine YK.mk (y_callV (f := 6) (by rfl) q2 (fun _ _ => trivial) ⟨rfl, rfl⟩ (by decide +kernel)) ?_)
    | (refine nxV ?_)
    | (show RS _ _ _ _ _ _ _ _; first | (refine nxRS ?_) | (refine nxRS1 fun _ => ?_))
    | (show RM _ _ _ _ _ _ _ _ _ _; first | (refine nxRM ?_) | (refine nxRM1 fun _ => ?_))
    | (refine nxG ?_)
    | (refine nxX ?_)
    | (refine G.condN rfl (fun hc => ?_) (fun hc => ?_) <;> (try first | exact False.elim hc | (exfalso; omega))))
      refine X.ret (vs := [_]) rfl ⟨rfl, rfl⟩ rfl (fun w hw => ⟨?_, hw.ext⟩)
      rw [g2]
      show Ending.returned (.int .i64 (i : Int)) = .returned (.int .i64 (if smB (nth l (i : Int)) = true then fbig (l.drop (i + 1)) ((i : Int) + 1) else (i : Int)))
      rw [if_neg (by rw [hv]; decide)]
  · obtain rfl : i = l.length := by omega
    rw [List.drop_length] at g2
    repeat' (first
    | (refine nxV ?_)
    | (show RS _ _ _ _ _ _ _ _; first | (refine nxRS ?_) | (refine nxRS1 fun _ => ?_))
    | (show RM _ _ _ _ _ _ _ _ _ _; first | (refine nxRM ?_) | (refine nxRM1 fun _ => ?_))
    | (refine nxG ?_)
    | (refine nxX ?_)
    | (refine G.condN rfl (fun hc => ?_) (fun hc => ?_) <;> (try first | exact False.elim hc | (exfalso; omega))))
    exact X.ret (vs := [_]) rfl ⟨rfl, rfl⟩ rfl (fun w hw => ⟨by rw [g2]; rfl, hw.ext⟩)
theorem drCont_c (v : Value) (l : List DrwT) (hl : l.length ≤ 1000000) : ContR Tryz.prog [Hl.rd v cDr 11 l] 5 [v, bigF] (.bool (!l.all smB)) := fun w hw0 => by
  have q1 := drIx_c v l hl
  have e := fbig_all (l := l) (k := 0) (by omega)
  rw [← e]
  clear e
  generalize fbig l 0 = z at *
  refine enter Tryz.func5 rfl rfl rfl hw0 ?_
  repeat' (first
    | (show YK _ _ _ _ _ _ _; first | refine YK.mk (y_callRA (q1) ⟨rfl, rfl, rfl⟩) ?_)
    | (show YK _ _ _ _ _ _ _; refine YK.ofV vAuto ?_)
    | (show VK _ _ _ _ _ _ _; refine VK.mk vAuto ?_)
    | (show RS _ _ _ _ _ _ _ _; first | (refine nxRS ?_) | (refine nxRS1 fun _ => ?_))
    | (show RM _ _ _ _ _ _ _ _ _ _; first | (refine nxRM ?_) | (refine nxRM1 fun _ => ?_))
    | (show YG _ _ _ _ _ _ _ _; refine YG.mk (fun hb => by (try (have hc := And.left hb; have hb := And.right hb; rw [hc])); (try rw [hb]); first | exact (y_callRA (q1) ⟨rfl, rfl, rfl⟩) | exact V.y vAuto) ?_)
    | (show VG _ _ _ _ _ _ _ _; refine VG.mk (fun hb => by (try (have hc := And.left hb; have hb := And.right hb; rw [hc])); (try rw [hb]); exact vAuto) ?_)
    | (refine nxX ?_)
    | (refine G.condN rfl (fun hc => ?_) (fun hc => ?_) <;> (try first | exact False.elim hc | (exfalso; omega))))
  exact X.ret (vs := [_]) rfl ⟨rfl, rfl⟩ rfl (fun w hw => ⟨rfl, hw.ext⟩)
end Go.Proofs.YthilhhegchmjeaaGreat
/- law 49's made, with the reference's rows. -/
set_option linter.unusedVariables false
set_option maxHeartbeats 8000000
namespace Go.Proofs.YthilhhegchmjeaaGreat
open Go.RowKit
theorem perm_m3a {a b c x y : Hl} {A C HR : List Hl} : (c :: (C ++ (x :: y :: a :: b :: (A ++ HR)))).Perm (x :: y :: a :: b :: c :: (A ++ (C ++ HR))) := by
  classical
  refine List.perm_iff_count.2 fun e => ?_
  simp only [List.count_cons, List.count_append]
  omega
theorem perm_m3b {a b c : Hl} {A C HR : List Hl} : (a :: b :: c :: (A ++ (C ++ HR))).Perm ((a :: b :: (A ++ (c :: C))) ++ HR) := by
  classical
  refine List.perm_iff_count.2 fun e => ?_
  simp only [List.count_cons, List.count_append, List.cons_append]
  omega
theorem madeA_ok {la lo u : Int} {wd : Nat} (hp : pointB la lo = true) (hla : -4800000 ≤ la ∧ la ≤ 4800000) (hu : 2 ≤ u ∧ u ≤ 100000) (hw : 11 ≤ wd ∧ wd ≤ 121) (ho : wd % 2 = 1) :
    ContL Tryz.prog (fun _ => True) [] 7 [ptV la lo, .int .i64 u, .int .i64 (wd : Int)] (fun z : (Nat × Sl × List Sl × (Nat → List Value)) × Sl × List Sl => NewP wd z.1 ∧ z.2.2.length = 2 * ((wd - 1) / 4) + 1) (fun z => .tuple [ptS z.1.1, rshV la lo u wd z.2.1.v, .bool true].toArray) (fun z => shB z.1.1 la lo u (TT.cosE la la).1 z.1.2.1.v :: rwS z.1.2.1 z.1.2.2.1 :: (rowsH z.1.2.2.2 (newR wd z.1.2.2.1) ++ (rwS z.2.1 z.2.2 :: rowsR (newR wd z.2.2)))) := fun w0 HR w _ hs => by
  have q1 := new_ok hp hla hu hw ho
  have q2 := rnewA_ok hp hla hu hw ho
  refine enterU Tryz.func7 rfl rfl rfl (H := HR) hs ?_
  repeat' (first
    | (refine nxN ?_)
    | (show RS _ _ _ _ _ _ _ (⟨some 17, _, _, _, _, _⟩ :: _); refine RS.callL q1 trivial ?_; rintro ⟨b, z, rs, xt⟩ hz; dsimp only [List.cons_append, List.nil_append]; refine RS.permH ?_ perm_n2)
    | (show RS _ _ _ _ _ _ _ (⟨some 24, _, _, _, _, _⟩ :: _); refine RS.callL q2 trivial ?_; rintro ⟨y, rs2⟩ hy; dsimp only [List.cons_append, List.nil_append]; refine RS.permH ?_ perm_m3a)
    | (show YG _ _ _ _ _ _ ⟨some 34, _, _, _, _, _⟩ _; refine YG.mk (fun hb => (y_eqNil1 rfl rfl sh_ptr).y) ?_)
    | (show VG _ _ _ _ _ _ ⟨some 34, _, _, _, _, _⟩ _; refine VG.mk (fun hb => y_eqNil1 rfl rfl sh_ptr) ?_)
    | (refine G.mixedM 3 [.go 0, .go 1, .go 2, .go 3, .go 4, .go 5, .go 6, .go 7, .go 8, .go 9, .go 10, .go 11, .go 12, .go 13, .go 14] [true, false, true, true] ?_; dsimp only [maskH])
    | (refine nxV ?_)
    | (show RS _ _ _ _ _ _ _ _; first | (refine nxRS ?_) | (refine nxRS1 fun _ => ?_))
    | (show RM _ _ _ _ _ _ _ _ _ _; first | (refine nxRM ?_) | (refine nxRM1 fun _ => ?_))
    | (refine nxG ?_)
    | (refine nxX ?_)
    | (refine G.condN rfl (fun hc => ?_) (fun hc => ?_) <;> (try first | exact False.elim hc | (exfalso; omega))))
  refine X.ret (vs := [_, _, _]) rfl ⟨rfl, ⟨_, _, _, _, rfl, (by exact memA), (by (repeat (first | exact .nil | apply LenIs.cons))), by decide +kernel, rfl⟩, rfl, rfl⟩ rfl (fun w hw => ⟨((b, z, rs, xt), y, rs2), ⟨hz, hy⟩, rfl, ?_⟩)
  have h2 := St.sub hw (List.Sublist.cons _ (List.Sublist.cons _ (List.Sublist.cons _ (List.Sublist.refl _))))
  exact h2.perm perm_m3b
end Go.Proofs.YthilhhegchmjeaaGreat
/- PlotDraws: the law where nothing is drawn. -/
set_option linter.unusedVariables false
set_option maxHeartbeats 8000000
namespace Go.Proofs.YthilhhegchmjeaaGreat
open Go.RowKit
theorem dr_long {la lo u wd : Int} {v : Value} {l : List DrwT} (hl : 6 < l.length) : ContR Tryz.prog [Hl.rd v cDr 11 l] 3 [ptV la lo, .int .i64 u, .int .i64 wd, v] (.bool true) := fun w hw0 => by
  refine enter Tryz.func3 rfl rfl rfl hw0 ?_
  repeat' (first
    | (refine nxN ?_)
    | (show YG _ _ _ _ _ _ ⟨some 31, _, _, _, _, _⟩ _; refine YG.mk (v := .bool false) (fun hb => by exfalso; simp at hb; omega) ?_)
    | (show YK _ _ _ _ _ _ _; first | refine YK.mk (y_callA (awake49_c) rfl) ?_)
    | (show YK _ _ _ _ _ _ _; refine YK.ofV vAuto ?_)
    | (show VK _ _ _ _ _ _ _; refine VK.mk vAuto ?_)
    | (show RS _ _ _ _ _ _ _ _; first | (refine nxRS ?_) | (refine nxRS1 fun _ => ?_))
    | (show RM _ _ _ _ _ _ _ _ _ _; first | (refine nxRM ?_) | (refine nxRM1 fun _ => ?_))
    | (show YG _ _ _ _ _ _ _ _; refine YG.mk (fun hb => by (try (have hc := And.left hb; have hb := And.right hb; rw [hc])); (try rw [hb]); first | exact (y_callA (awake49_c) rfl) | exact V.y vAuto) ?_)
    | (show VG _ _ _ _ _ _ _ _; refine VG.mk (fun hb => by (try (have hc := And.left hb; have hb := And.right hb; rw [hc])); (try rw [hb]); exact vAuto) ?_)
    | (refine G.mixedA 22 [.go 0, .go 1, .go 2, .go 3, .go 4, .go 6, .go 5, .go 7, .go 8, .go 9] ?_)
    | (refine nxX ?_)
    | (refine G.condN rfl (fun hc => ?_) (fun hc => ?_) <;> (try first | exact False.elim hc | (exfalso; omega))))
  all_goals first | (exfalso; simp at hc; omega) | exact X.ret (vs := [_]) rfl ⟨rfl, rfl⟩ rfl (fun w hw => ⟨rfl, hw.ext⟩)
theorem dr_wide {la lo u wd : Int} {v : Value} {l : List DrwT} (hl : l.length ≤ 6) (h : (41 < wd ∧ wd ≤ 121) ∨ l.all smB = false) : ContR Tryz.prog [Hl.rd v cDr 11 l] 3 [ptV la lo, .int .i64 u, .int .i64 wd, v] (.bool true) := fun w hw0 => by
  have q1 := drCont_c v l (by omega)
  generalize l.all smB = sb at *
  refine enter Tryz.func3 rfl rfl rfl hw0 ?_
  repeat' (first
    | (refine nxN ?_)
    | (show YK _ _ _ _ _ _ _; first | refine YK.mk (y_callA (awake49_c) rfl) ?_ | refine YK.mk (y_callRA (q1) ⟨rfl, rfl, rfl⟩) ?_)
    | (show YK _ _ _ _ _ _ _; refine YK.ofV vAuto ?_)
    | (show VK _ _ _ _ _ _ _; refine VK.mk vAuto ?_)
    | (show RS _ _ _ _ _ _ _ _; first | (refine nxRS ?_) | (refine nxRS1 fun _ => ?_))
    | (show RM _ _ _ _ _ _ _ _ _ _; first | (refine nxRM ?_) | (refine nxRM1 fun _ => ?_))
    | (show YG _ _ _ _ _ _ _ _; refine YG.mk (fun hb => by (try (have hc := And.left hb; have hb := And.right hb; rw [hc])); (try rw [hb]); first | exact (y_callA (awake49_c) rfl) | exact (y_callRA (q1) ⟨rfl, rfl, rfl⟩) | exact V.y vAuto) ?_)
    | (show VG _ _ _ _ _ _ _ _; refine VG.mk (fun hb => by (try (have hc := And.left hb; have hb := And.right hb; rw [hc])); (try rw [hb]); exact vAuto) ?_)
    | (refine G.mixedA 22 [.go 0, .go 1, .go 2, .go 3, .go 4, .go 6, .go 5, .go 7, .go 8, .go 9] ?_)
    | (refine nxX ?_)
    | (refine G.condN rfl (fun hc => ?_) (fun hc => ?_) <;> (try first | exact False.elim hc | (exfalso; omega))))
  all_goals first | (exfalso; rcases h with h | h; (first | omega | (exfalso; omega)); (rw [h] at hc; exact absurd hc.2 (by decide))) | exact X.ret (vs := [_]) rfl ⟨rfl, rfl⟩ rfl (fun w hw => ⟨rfl, hw.ext⟩)
theorem dr_ref {la lo u wd e : Int} {v : Value} {l : List DrwT} (hl : l.length ≤ 6) (he : newE la lo u wd = e) (h0 : e = 1 ∨ e = 2) : ContR Tryz.prog [Hl.rd v cDr 11 l] 3 [ptV la lo, .int .i64 u, .int .i64 wd, v] (.bool true) := fun w hw0 => by
  have q1 := drCont_c v l (by omega)
  have q2 := made_no he h0
  refine enter Tryz.func3 rfl rfl rfl hw0 ?_
  repeat' (first
    | (refine nxN ?_)
    | (show YK _ _ _ _ _ ⟨some 45, _, _, _, _, _⟩ _; refine YK.ofV (y_eqNil0 rfl rfl sh_ptr) ?_)
    | (show YG _ _ _ _ _ _ ⟨some 45, _, _, _, _, _⟩ _; refine YG.mk (fun hb => (y_eqNil0 rfl rfl sh_ptr).y) ?_)
    | (show VG _ _ _ _ _ _ ⟨some 45, _, _, _, _, _⟩ _; refine VG.mk (fun hb => y_eqNil0 rfl rfl sh_ptr) ?_)
    | (show YK _ _ _ _ _ _ _; first | refine YK.mk (y_callA (awake49_c) rfl) ?_ | refine YK.mk (y_callRA (q1) ⟨rfl, rfl, rfl⟩) ?_ | refine YK.mk (y_callA (q2) ⟨rfl, rfl, rfl, rfl⟩) ?_)
    | (show YK _ _ _ _ _ _ _; refine YK.ofV vAuto ?_)
    | (show VK _ _ _ _ _ _ _; refine VK.mk vAuto ?_)
    | (show RS _ _ _ _ _ _ _ _; first | (refine nxRS ?_) | (refine nxRS1 fun _ => ?_))
    | (show RM _ _ _ _ _ _ _ _ _ _; first | (refine nxRM ?_) | (refine nxRM1 fun _ => ?_))
    | (show YG _ _ _ _ _ _ _ _; refine YG.mk (fun hb => by (try (have hc := And.left hb; have hb := And.right hb; rw [hc])); (try rw [hb]); first | exact (y_callA (awake49_c) rfl) | exact (y_callRA (q1) ⟨rfl, rfl, rfl⟩) | exact (y_callA (q2) ⟨rfl, rfl, rfl, rfl⟩) | exact V.y vAuto) ?_)
    | (show VG _ _ _ _ _ _ _ _; refine VG.mk (fun hb => by (try (have hc := And.left hb; have hb := And.right hb; rw [hc])); (try rw [hb]); exact vAuto) ?_)
    | (refine G.mixedA 22 [.go 0, .go 1, .go 2, .go 3, .go 4, .go 6, .go 5, .go 7, .go 8, .go 9] ?_)
    | (refine nxX ?_)
    | (refine G.condN rfl (fun hc => ?_) (fun hc => ?_) <;> (try first | exact False.elim hc | (exfalso; omega))))
  all_goals first | (exfalso; omega) | exact X.ret (vs := [_]) rfl ⟨rfl, rfl⟩ rfl (fun w hw => ⟨rfl, hw.ext⟩)
end Go.Proofs.YthilhhegchmjeaaGreat
/- PlotDraws: the law. -/
set_option linter.unusedVariables false
set_option maxHeartbeats 8000000
namespace Go.Proofs.YthilhhegchmjeaaGreat
open Go.RowKit
theorem perm_d0 {a b x1 x2 : Hl} {A : List Hl} : (a :: b :: (A ++ [x1, x2])).Perm (a :: b :: x1 :: x2 :: A) := by
  classical
  refine List.perm_iff_count.2 fun e => ?_
  simp only [List.count_cons, List.count_append, List.count_nil]
  omega
theorem perm_d1 {a b x0 x1 x2 : Hl} {R A : List Hl} : (x0 :: x1 :: a :: b :: x2 :: (R ++ A)).Perm ((a :: b :: R) ++ (x0 :: x1 :: x2 :: A)) := by
  classical
  refine List.perm_iff_count.2 fun e => ?_
  simp only [List.count_cons, List.count_append]
  omega
theorem perm_d2 {a b c d e : Hl} {X R A : List Hl} : (X ++ (a :: b :: c :: d :: e :: (R ++ A))).Perm (a :: b :: c :: d :: e :: (R ++ (X ++ A))) := by
  classical
  refine List.perm_iff_count.2 fun e => ?_
  simp only [List.count_cons, List.count_append]
  omega
theorem RsW.ofRw {y : Sl} {rs : List (Sl × List Int)} {base : Nat} {w : World} (h : ∀ g ∈ rwS y (rs.map Prod.fst) :: rowsR rs, g.holds base w) : RsW y rs w :=
  ⟨RO.of_row (h _ List.mem_cons_self), fun r hr => RO.of_row (h _ (List.mem_cons_of_mem _ (List.mem_map.2 ⟨r, hr, rfl⟩)))⟩
theorem mok_new {wd : Nat} (hw : 11 ≤ wd) {rs : List Sl} (h : rs.length = 2 * ((wd - 1) / 4) + 1) : Mok wd ((newR wd rs).map Prod.snd) := by
  refine ⟨by rw [List.length_map, List.length_map]; exact h, fun r hr => ?_, fun r hr n hn => ?_⟩
  all_goals
    obtain ⟨p, hp, rfl⟩ := List.mem_map.1 hr
    obtain ⟨s, _, rfl⟩ := List.mem_map.1 hp
  · exact List.length_replicate
  · obtain rfl := List.eq_of_mem_replicate hn
    omega
theorem new_snd {wd : Nat} {rs rs2 : List Sl} (h : rs.length = rs2.length) : (newR wd rs2).map Prod.snd = (newR wd rs).map Prod.snd := by
  unfold newR
  rw [List.map_map, List.map_map]
  show rs2.map (fun _ => List.replicate wd (46 : Int)) = rs.map (fun _ => List.replicate wd (46 : Int))
  rw [List.map_const', List.map_const', h]
theorem dr_ok {la lo u : Int} {wd : Nat} {v : Value} {l : List DrwT} (hl : l.length ≤ 6) (hs : l.all smB = true) (hwd : wd ≤ 41) (hp : pointB la lo = true) (hla : -4800000 ≤ la ∧ la ≤ 4800000) (hu : 2 ≤ u ∧ u ≤ 100000) (hw : 11 ≤ wd ∧ wd ≤ 121) (ho : wd % 2 = 1) (w : World) (hB : ∀ d ∈ l, DrwB w d) (hw0 : ∀ h ∈ [Hl.rd v cDr 11 l], h.holds w.heap.size w ∧ h.excl = false) :
    Calls Tryz.prog 3 [ptV la lo, .int .i64 u, .int .i64 (wd : Int), v].toArray w (fun e w' => e = .returned (.bool true) ∧ Below w.heap.size w w') := by
  have qm := madeA_ok hp hla hu hw ho
  have q1 := drCont_c v l (by omega)
  rw [hs] at q1
  refine enter Tryz.func3 rfl rfl rfl hw0 ?_
  repeat' (first
    | (refine nxN ?_)
    | (show RS _ _ _ _ _ _ _ (⟨some 37, _, _, _, _, _⟩ :: _); refine RS.callL qm trivial ?_ ⟨rfl, rfl, rfl, rfl⟩; rintro ⟨⟨b, z, rs, xt⟩, y0, rs0⟩ ⟨ha, hy⟩; dsimp only [List.cons_append, List.nil_append]; refine RS.permH ?_ perm_d0)
    | (show YK _ _ _ _ _ ⟨some 45, _, _, _, _, _⟩ _; refine YK.ofV (y_eqNil1 rfl rfl sh_ptr) ?_)
    | (show YG _ _ _ _ _ _ ⟨some 45, _, _, _, _, _⟩ _; refine YG.mk (fun hb => (y_eqNil1 rfl rfl sh_ptr).y) ?_)
    | (show VG _ _ _ _ _ _ ⟨some 45, _, _, _, _, _⟩ _; refine VG.mk (fun hb => y_eqNil1 rfl rfl sh_ptr) ?_)
    | (show YK _ _ _ _ _ _ _; first | refine YK.mk (y_callA (awake49_c) rfl) ?_ | refine YK.mk (y_callRA (q1) ⟨rfl, rfl, rfl⟩) ?_)
    | (show YK _ _ _ _ _ _ _; refine YK.ofV vAuto ?_)
    | (show VK _ _ _ _ _ _ _; refine VK.mk vAuto ?_)
    | (show RS _ _ _ _ _ _ _ _; first | (refine nxRS ?_) | (refine nxRS1 fun _ => ?_))
    | (show RM _ _ _ _ _ _ _ _ _ _; first | (refine nxRM ?_) | (refine nxRM1 fun _ => ?_))
    | (show YG _ _ _ _ _ _ _ _; refine YG.mk (fun hb => by (try (have hc := And.left hb; have hb := And.right hb; rw [hc])); (try rw [hb]); first | exact (y_callA (awake49_c) rfl) | exact (y_callRA (q1) ⟨rfl, rfl, rfl⟩) | exact V.y vAuto) ?_)
    | (show VG _ _ _ _ _ _ _ _; refine VG.mk (fun hb => by (try (have hc := And.left hb; have hb := And.right hb; rw [hc])); (try rw [hb]); exact vAuto) ?_)
    | (refine G.mixedA 22 [.go 0, .go 1, .go 2, .go 3, .go 4, .go 6, .go 5, .go 7, .go 8, .go 9] ?_)
    | (refine nxX ?_)
    | (refine G.condN rfl (fun hc => ?_) (fun hc => ?_) <;> (try first | exact False.elim hc | (exfalso; omega))))
  all_goals first | (exfalso; omega) | skip
  rename_i b4 _ _ b10
  have hrs : rs.length = 2 * ((wd - 1) / 4) + 1 := ha.len
  refine G.loop (ι := List (Sl × List Int) × Sl × List (Sl × List Int) × List Hl × Nat) (fun y => [(9, ptS b), (10, ptS b10), (48, v), (49, .int .i64 l.length), (50, .int .i64 (y.2.2.2.2 : Int))]) (fun y => rshB b10 la lo u wd y.2.1.v :: shB b la lo u (TT.cosE la la).1 z.v :: rwS z rs :: Hl.rd v cDr 11 l :: (rowsH xt y.1 ++ y.2.2.2.1)) (fun y => (∃ M, Mok wd M ∧ y.1.map Prod.fst = rs ∧ y.1.map Prod.snd = M ∧ y.2.2.1.map Prod.snd = M ∧ ∀ base w', (∀ h ∈ y.2.2.2.1, h.holds base w') → RsW y.2.1 y.2.2.1 w') ∧ y.2.2.2.2 ≤ l.length) (fun y => l.length - y.2.2.2.2) (newR wd rs, y0, newR wd rs0, rwS y0 rs0 :: rowsR (newR wd rs0), 0) ⟨⟨_, mok_new hw.1 hrs, newR_fst .., rfl, new_snd (hrs.trans (show rs0.length = 2 * ((wd - 1) / 4) + 1 from hy).symm), fun base w' h => RsW.ofRw (by rw [newR_fst]; exact h)⟩, Nat.zero_le _⟩ ⟨rfl, rfl, rfl, rfl, rfl, trivial⟩ (fun w' h => h.sub (by repeat (first | exact List.Sublist.refl _ | exact List.nil_sublist _ | apply List.Sublist.cons_cons | apply List.Sublist.cons))) ?_
  rintro ⟨pr, y, rs2', A, i⟩ mx ⟨⟨M, k1, k2, k3, k4, k5⟩, k6⟩ hmx
  dsimp only at k1 k2 k3 k4 k5 k6 hmx ⊢
  have hok : ∀ r ∈ pr, hdOk wd r.1 := fun r hr => by
    have h1 : r.1 ∈ pr.map Prod.fst := List.mem_map_of_mem hr
    rw [k2] at h1
    exact ha.ok r.1 h1
  rcases Nat.lt_or_ge i l.length with hi | hi
  · have hdm : nth l (i : Int) ∈ l := by rw [nth_mem hi]; exact List.getElem_mem hi
    have hd := hB _ hdm
    have hsm := List.all_eq_true.1 hs _ hdm
    simp only [smB, decide_eq_true_eq] at hsm
    have hdn := hd.n
    by_cases c1 : (nth l (i : Int)).k = 1
    · have S := line_step (pla := (nth l (i : Int)).la) (plo := (nth l (i : Int)).lo) (zl := (nth l (i : Int)).zl) (zh := (nth l (i : Int)).zh) (il := (nth l (i : Int)).il) (ih := (nth l (i : Int)).ih) hp hla hu hw k1 hd.m
      obtain ⟨e, M', hM', hP, hR⟩ := S
      obtain ⟨pr', f1, f2, hP⟩ := hP xt b z pr k3 hok
      replace hR := hR y rs2' k4
      rw [k2] at hP f1
      have hok' : ∀ r ∈ pr', hdOk wd r.1 := fun r hr => by
        have h1 : r.1 ∈ pr'.map Prod.fst := List.mem_map_of_mem hr
        rw [f1] at h1
        exact ha.ok r.1 h1
      have htk : ∀ r ∈ pr', r.2.length = wd ∧ hdOk wd r.1 := fun r hr => ⟨(hM'.rows f2).2 r hr, hok' r hr⟩
      have htx := text_c (b := b) (la := la) (lo := lo) (u := u) (cs := (TT.cosE la la).1) (z := z) (rs := pr') (wd := wd) (fun r hr => ⟨(hM'.rows f2).2 r hr, hM'.p r.2 (by rw [← f2]; exact List.mem_map_of_mem hr)⟩) (by have := (hM'.rows f2).1; omega) (by omega)
      rw [f2] at htx
      repeat' (first
    | (show YK _ _ _ _ _ ⟨_, .call { callee := .builtin .len, args := _, argTypes := #[9] }, _, _, _, _⟩ _; refine YK.ofV (y_lenS (by rfl) StrTy.is) ?_)
    | (show VK _ _ _ _ _ ⟨_, .call { callee := .builtin .len, args := _, argTypes := #[9] }, _, _, _, _⟩ _; refine VK.mk (y_lenS (by rfl) StrTy.is) ?_)
    | (show YG _ _ _ _ _ _ ⟨_, .call { callee := .builtin .len, args := _, argTypes := #[9] }, _, _, _, _⟩ _; refine YG.mk (fun hb => by (try (have hc := And.left hb; have hb := And.right hb; rw [hc])); (try rw [hb]); exact V.y (y_lenS (by rfl) StrTy.is)) ?_)
    | (show VG _ _ _ _ _ _ ⟨_, .call { callee := .builtin .len, args := _, argTypes := #[9] }, _, _, _, _⟩ _; refine VG.mk (fun hb => by (try (have hc := And.left hb; have hb := And.right hb; rw [hc])); (try rw [hb]); exact y_lenS (by rfl) StrTy.is) ?_)
    | (refine nxN ?_)
    | (show YK _ _ _ _ _ ⟨_, .load 23 _, _, _, _, _⟩ _; refine YK.ofV (y_loadPart (k := 2) (by rfl) (by exact memA) (by decide +kernel) (by rfl)) ?_)
    | (show VK _ _ _ _ _ ⟨_, .load 23 _, _, _, _, _⟩ _; refine VK.mk (y_loadPart (k := 2) (by rfl) (by exact memA) (by decide +kernel) (by rfl)) ?_)
    | (show VG _ _ _ _ _ _ ⟨_, .load 23 _, _, _, _, _⟩ _; refine VG.mk (fun hb => by (try (have hc := And.left hb; have hb := And.right hb; rw [hc])); (try rw [hb]); exact y_loadPart (k := 2) (by rfl) (by exact memA) (by decide +kernel) (by rfl)) ?_)
    | (show YG _ _ _ _ _ _ ⟨_, .load 23 _, _, _, _, _⟩ _; refine YG.mk (fun hb => by (try (have hc := And.left hb; have hb := And.right hb; rw [hc])); (try rw [hb]); exact V.y (y_loadPart (k := 2) (by rfl) (by exact memA) (by decide +kernel) (by rfl))) ?_)
    | (show YK _ _ _ _ _ ⟨_, .load 30 _, _, _, _, _⟩ _; refine YK.ofV (y_loadPart (k := 6) (by rfl) (by exact memA) (by decide +kernel) (by rfl)) ?_)
    | (show VK _ _ _ _ _ ⟨_, .load 30 _, _, _, _, _⟩ _; refine VK.mk (y_loadPart (k := 6) (by rfl) (by exact memA) (by decide +kernel) (by rfl)) ?_)
    | (show VG _ _ _ _ _ _ ⟨_, .load 30 _, _, _, _, _⟩ _; refine VG.mk (fun hb => by (try (have hc := And.left hb; have hb := And.right hb; rw [hc])); (try rw [hb]); exact y_loadPart (k := 6) (by rfl) (by exact memA) (by decide +kernel) (by rfl)) ?_)
    | (show YG _ _ _ _ _ _ ⟨_, .load 30 _, _, _, _, _⟩ _; refine YG.mk (fun hb => by (try (have hc := And.left hb; have hb := And.right hb; rw [hc])); (try rw [hb]); exact V.y (y_loadPart (k := 6) (by rfl) (by exact memA) (by decide +kernel) (by rfl))) ?_)
    | (show RS _ _ _ _ _ _ _ (⟨some 78, _, _, _, _, _⟩ :: _); refine RS.callPm hP (trivial) perm_d1 ?_ ⟨rfl, rfl, rfl, rfl⟩; rintro ⟨⟩ -; refine RS.permH ?_ perm_d1.symm)
    | (show RS _ _ _ _ _ _ _ (⟨some 85, _, _, _, _, _⟩ :: _); refine RS.callI hR ⟨rfl, rfl, rfl, rfl⟩ (fun w' hw' => ⟨k5 _ _ (fun h hm => hw'.all h (.tail _ (.tail _ (.tail _ (.tail _ (.tail _ (List.mem_append_right _ hm))))))), trivial⟩) ?_; rintro ⟨y2, rs3, A2⟩ hx2; refine RS.permH ?_ perm_d2; have hmat : rs3.map Prod.snd = M' := hx2.mat; have hrt := rtext_c (la := la) (lo := lo) (u := u) (wd' := (wd : Int)) (z := y2) (rs := rs3) (wd := wd) (hM'.rows hmat).2 (by omega) (by have := (hM'.rows hmat).1; omega); rw [hmat] at hrt)
    | (show YK _ _ _ _ _ ⟨some 110, .call { callee := .value (.func 14), args := _, argTypes := _ }, _, _, _, _⟩ _; refine YK.mk (y_callIn (htx) (fun w' hw' => TxW.ofSt (xt := xt) hw' (by exact memA) (by (rw [f1]; exact memA)) (fun h hm => .tail _ (.tail _ (.tail _ (.tail _ (.tail _ (List.mem_append_left _ hm)))))) htk (by have := (hM'.rows f2).1; omega)) ⟨rfl, rfl⟩ (by decide +kernel)) ?_)
    | (show YG _ _ _ _ _ _ ⟨some 110, .call { callee := .value (.func 14), args := _, argTypes := _ }, _, _, _, _⟩ _; refine YG.mk (fun hb => by (try (have hc := And.left hb; have hb := And.right hb; rw [hc])); (try rw [hb]); exact y_callIn (htx) (fun w' hw' => TxW.ofSt (xt := xt) hw' (by exact memA) (by (rw [f1]; exact memA)) (fun h hm => .tail _ (.tail _ (.tail _ (.tail _ (.tail _ (List.mem_append_left _ hm)))))) htk (by have := (hM'.rows f2).1; omega)) ⟨rfl, rfl⟩ (by decide +kernel)) ?_)
    | (show YK _ _ _ _ _ ⟨some 112, .call { callee := .value (.func 15), args := _, argTypes := _ }, _, _, _, _⟩ _; refine YK.mk (y_callIn (hrt) (fun w' hw' => hx2.rd _ _ (k5 _ _ (fun h hm => hw'.all h (.tail _ (.tail _ (.tail _ (.tail _ (.tail _ (List.mem_append_right _ (List.mem_append_right _ hm))))))))) (fun h hm => hw'.all h (.tail _ (.tail _ (.tail _ (.tail _ (.tail _ (List.mem_append_right _ (List.mem_append_left _ hm))))))))) ⟨rfl, rfl⟩ (by decide +kernel)) ?_)
    | (show YG _ _ _ _ _ _ ⟨some 112, .call { callee := .value (.func 15), args := _, argTypes := _ }, _, _, _, _⟩ _; refine YG.mk (fun hb => by (try (have hc := And.left hb; have hb := And.right hb; rw [hc])); (try rw [hb]); exact y_callIn (hrt) (fun w' hw' => hx2.rd _ _ (k5 _ _ (fun h hm => hw'.all h (.tail _ (.tail _ (.tail _ (.tail _ (.tail _ (List.mem_append_right _ (List.mem_append_right _ hm))))))))) (fun h hm => hw'.all h (.tail _ (.tail _ (.tail _ (.tail _ (.tail _ (List.mem_append_right _ (List.mem_append_left _ hm))))))))) ⟨rfl, rfl⟩ (by decide +kernel)) ?_)
    | (refine nxV ?_)
    | (show RS _ _ _ _ _ _ _ _; first | (refine nxRS ?_) | (refine nxRS1 fun _ => ?_))
    | (show RM _ _ _ _ _ _ _ _ _ _; first | (refine nxRM ?_) | (refine nxRM1 fun _ => ?_))
    | (refine nxG ?_)
    | (refine nxVS ?_)
    | (refine nxGS ?_)
    | (refine G.mixedA 22 [.go 0, .go 1, .go 2, .go 3, .go 4, .go 6, .go 5, .go 7, .go 8, .go 9] ?_)
    | (refine nxX ?_)
    | (refine G.condN rfl (fun hc => ?_) (fun hc => ?_) <;> (try first | exact False.elim hc | (exfalso; omega))))
      all_goals first | (exfalso; simp at hc; done) | exact X.again (pr', y2, rs3, A2 ++ A, i + 1) ⟨⟨M', hM', f1, f2, hx2.mat, fun base w' hA => hx2.rd base w' (k5 base w' fun h hm => hA h (List.mem_append_right _ hm)) fun h hm => hA h (List.mem_append_left _ hm)⟩, by dsimp only; omega⟩ (by dsimp only; omega) ⟨rfl, rfl, rfl, rfl, rfl, trivial⟩ (fun w' h => h.sub (by repeat (first | exact List.Sublist.refl _ | exact List.nil_sublist _ | apply List.Sublist.cons_cons | apply List.Sublist.cons)))
    · by_cases c2 : (nth l (i : Int)).k = 2
      · have S := region_step (v := (nth l (i : Int)).g) (lc := (nth l (i : Int)).l) hp hla hu hw k1 hd.m (by omega)
        obtain ⟨e, M', hM', hP, hR⟩ := S
        obtain ⟨pr', f1, f2, hP⟩ := hP xt b z pr k3 hok
        replace hR := hR y rs2' k4
        rw [k2] at hP f1
        have hok' : ∀ r ∈ pr', hdOk wd r.1 := fun r hr => by
          have h1 : r.1 ∈ pr'.map Prod.fst := List.mem_map_of_mem hr
          rw [f1] at h1
          exact ha.ok r.1 h1
        have htk : ∀ r ∈ pr', r.2.length = wd ∧ hdOk wd r.1 := fun r hr => ⟨(hM'.rows f2).2 r hr, hok' r hr⟩
        have htx := text_c (b := b) (la := la) (lo := lo) (u := u) (cs := (TT.cosE la la).1) (z := z) (rs := pr') (wd := wd) (fun r hr => ⟨(hM'.rows f2).2 r hr, hM'.p r.2 (by rw [← f2]; exact List.mem_map_of_mem hr)⟩) (by have := (hM'.rows f2).1; omega) (by omega)
        rw [f2] at htx
        repeat' (first
    | (show YK _ _ _ _ _ ⟨_, .call { callee := .builtin .len, args := _, argTypes := #[9] }, _, _, _, _⟩ _; refine YK.ofV (y_lenS (by rfl) StrTy.is) ?_)
    | (show VK _ _ _ _ _ ⟨_, .call { callee := .builtin .len, args := _, argTypes := #[9] }, _, _, _, _⟩ _; refine VK.mk (y_lenS (by rfl) StrTy.is) ?_)
    | (show YG _ _ _ _ _ _ ⟨_, .call { callee := .builtin .len, args := _, argTypes := #[9] }, _, _, _, _⟩ _; refine YG.mk (fun hb => by (try (have hc := And.left hb; have hb := And.right hb; rw [hc])); (try rw [hb]); exact V.y (y_lenS (by rfl) StrTy.is)) ?_)
    | (show VG _ _ _ _ _ _ ⟨_, .call { callee := .builtin .len, args := _, argTypes := #[9] }, _, _, _, _⟩ _; refine VG.mk (fun hb => by (try (have hc := And.left hb; have hb := And.right hb; rw [hc])); (try rw [hb]); exact y_lenS (by rfl) StrTy.is) ?_)
    | (refine nxN ?_)
    | (show YK _ _ _ _ _ ⟨_, .load 23 _, _, _, _, _⟩ _; refine YK.ofV (y_loadPart (k := 2) (by rfl) (by exact memA) (by decide +kernel) (by rfl)) ?_)
    | (show VK _ _ _ _ _ ⟨_, .load 23 _, _, _, _, _⟩ _; refine VK.mk (y_loadPart (k := 2) (by rfl) (by exact memA) (by decide +kernel) (by rfl)) ?_)
    | (show VG _ _ _ _ _ _ ⟨_, .load 23 _, _, _, _, _⟩ _; refine VG.mk (fun hb => by (try (have hc := And.left hb; have hb := And.right hb; rw [hc])); (try rw [hb]); exact y_loadPart (k := 2) (by rfl) (by exact memA) (by decide +kernel) (by rfl)) ?_)
    | (show YG _ _ _ _ _ _ ⟨_, .load 23 _, _, _, _, _⟩ _; refine YG.mk (fun hb => by (try (have hc := And.left hb; have hb := And.right hb; rw [hc])); (try rw [hb]); exact V.y (y_loadPart (k := 2) (by rfl) (by exact memA) (by decide +kernel) (by rfl))) ?_)
    | (show YK _ _ _ _ _ ⟨_, .load 30 _, _, _, _, _⟩ _; refine YK.ofV (y_loadPart (k := 6) (by rfl) (by exact memA) (by decide +kernel) (by rfl)) ?_)
    | (show VK _ _ _ _ _ ⟨_, .load 30 _, _, _, _, _⟩ _; refine VK.mk (y_loadPart (k := 6) (by rfl) (by exact memA) (by decide +kernel) (by rfl)) ?_)
    | (show VG _ _ _ _ _ _ ⟨_, .load 30 _, _, _, _, _⟩ _; refine VG.mk (fun hb => by (try (have hc := And.left hb; have hb := And.right hb; rw [hc])); (try rw [hb]); exact y_loadPart (k := 6) (by rfl) (by exact memA) (by decide +kernel) (by rfl)) ?_)
    | (show YG _ _ _ _ _ _ ⟨_, .load 30 _, _, _, _, _⟩ _; refine YG.mk (fun hb => by (try (have hc := And.left hb; have hb := And.right hb; rw [hc])); (try rw [hb]); exact V.y (y_loadPart (k := 6) (by rfl) (by exact memA) (by decide +kernel) (by rfl))) ?_)
    | (show RS _ _ _ _ _ _ _ (⟨some 95, _, _, _, _, _⟩ :: _); refine RS.callPm hP (hd.ro) perm_d1 ?_ ⟨rfl, rfl, rfl, rfl⟩; rintro ⟨⟩ -; refine RS.permH ?_ perm_d1.symm)
    | (show RS _ _ _ _ _ _ _ (⟨some 102, _, _, _, _, _⟩ :: _); refine RS.callI hR ⟨rfl, rfl, rfl, rfl⟩ (fun w' hw' => ⟨k5 _ _ (fun h hm => hw'.all h (.tail _ (.tail _ (.tail _ (.tail _ (.tail _ (List.mem_append_right _ hm))))))), hd.ro.stay hw'.ext⟩) ?_; rintro ⟨y2, rs3, A2⟩ hx2; refine RS.permH ?_ perm_d2; have hmat : rs3.map Prod.snd = M' := hx2.mat; have hrt := rtext_c (la := la) (lo := lo) (u := u) (wd' := (wd : Int)) (z := y2) (rs := rs3) (wd := wd) (hM'.rows hmat).2 (by omega) (by have := (hM'.rows hmat).1; omega); rw [hmat] at hrt)
    | (show YK _ _ _ _ _ ⟨some 110, .call { callee := .value (.func 14), args := _, argTypes := _ }, _, _, _, _⟩ _; refine YK.mk (y_callIn (htx) (fun w' hw' => TxW.ofSt (xt := xt) hw' (by exact memA) (by (rw [f1]; exact memA)) (fun h hm => .tail _ (.tail _ (.tail _ (.tail _ (.tail _ (List.mem_append_left _ hm)))))) htk (by have := (hM'.rows f2).1; omega)) ⟨rfl, rfl⟩ (by decide +kernel)) ?_)
    | (show YG _ _ _ _ _ _ ⟨some 110, .call { callee := .value (.func 14), args := _, argTypes := _ }, _, _, _, _⟩ _; refine YG.mk (fun hb => by (try (have hc := And.left hb; have hb := And.right hb; rw [hc])); (try rw [hb]); exact y_callIn (htx) (fun w' hw' => TxW.ofSt (xt := xt) hw' (by exact memA) (by (rw [f1]; exact memA)) (fun h hm => .tail _ (.tail _ (.tail _ (.tail _ (.tail _ (List.mem_append_left _ hm)))))) htk (by have := (hM'.rows f2).1; omega)) ⟨rfl, rfl⟩ (by decide +kernel)) ?_)
    | (show YK _ _ _ _ _ ⟨some 112, .call { callee := .value (.func 15), args := _, argTypes := _ }, _, _, _, _⟩ _; refine YK.mk (y_callIn (hrt) (fun w' hw' => hx2.rd _ _ (k5 _ _ (fun h hm => hw'.all h (.tail _ (.tail _ (.tail _ (.tail _ (.tail _ (List.mem_append_right _ (List.mem_append_right _ hm))))))))) (fun h hm => hw'.all h (.tail _ (.tail _ (.tail _ (.tail _ (.tail _ (List.mem_append_right _ (List.mem_append_left _ hm))))))))) ⟨rfl, rfl⟩ (by decide +kernel)) ?_)
    | (show YG _ _ _ _ _ _ ⟨some 112, .call { callee := .value (.func 15), args := _, argTypes := _ }, _, _, _, _⟩ _; refine YG.mk (fun hb => by (try (have hc := And.left hb; have hb := And.right hb; rw [hc])); (try rw [hb]); exact y_callIn (hrt) (fun w' hw' => hx2.rd _ _ (k5 _ _ (fun h hm => hw'.all h (.tail _ (.tail _ (.tail _ (.tail _ (.tail _ (List.mem_append_right _ (List.mem_append_right _ hm))))))))) (fun h hm => hw'.all h (.tail _ (.tail _ (.tail _ (.tail _ (.tail _ (List.mem_append_right _ (List.mem_append_left _ hm))))))))) ⟨rfl, rfl⟩ (by decide +kernel)) ?_)
    | (refine nxV ?_)
    | (show RS _ _ _ _ _ _ _ _; first | (refine nxRS ?_) | (refine nxRS1 fun _ => ?_))
    | (show RM _ _ _ _ _ _ _ _ _ _; first | (refine nxRM ?_) | (refine nxRM1 fun _ => ?_))
    | (refine nxG ?_)
    | (refine nxVS ?_)
    | (refine nxGS ?_)
    | (refine G.mixedA 22 [.go 0, .go 1, .go 2, .go 3, .go 4, .go 6, .go 5, .go 7, .go 8, .go 9] ?_)
    | (refine nxX ?_)
    | (refine G.condN rfl (fun hc => ?_) (fun hc => ?_) <;> (try first | exact False.elim hc | (exfalso; omega))))
        all_goals first | (exfalso; simp at hc; done) | exact X.again (pr', y2, rs3, A2 ++ A, i + 1) ⟨⟨M', hM', f1, f2, hx2.mat, fun base w' hA => hx2.rd base w' (k5 base w' fun h hm => hA h (List.mem_append_right _ hm)) fun h hm => hA h (List.mem_append_left _ hm)⟩, by dsimp only; omega⟩ (by dsimp only; omega) ⟨rfl, rfl, rfl, rfl, rfl, trivial⟩ (fun w' h => h.sub (by repeat (first | exact List.Sublist.refl _ | exact List.nil_sublist _ | apply List.Sublist.cons_cons | apply List.Sublist.cons)))
      · have S := mark_step (pla := (nth l (i : Int)).pa) (plo := (nth l (i : Int)).po) hp hla hu hw k1 hd.m hd.pt.1 hd.pt.2
        obtain ⟨e, M', hM', hP, hR⟩ := S
        obtain ⟨pr', f1, f2, hP⟩ := hP xt b z pr k3 hok
        replace hR := hR y rs2' k4
        rw [k2] at hP f1
        have hok' : ∀ r ∈ pr', hdOk wd r.1 := fun r hr => by
          have h1 : r.1 ∈ pr'.map Prod.fst := List.mem_map_of_mem hr
          rw [f1] at h1
          exact ha.ok r.1 h1
        have htk : ∀ r ∈ pr', r.2.length = wd ∧ hdOk wd r.1 := fun r hr => ⟨(hM'.rows f2).2 r hr, hok' r hr⟩
        have htx := text_c (b := b) (la := la) (lo := lo) (u := u) (cs := (TT.cosE la la).1) (z := z) (rs := pr') (wd := wd) (fun r hr => ⟨(hM'.rows f2).2 r hr, hM'.p r.2 (by rw [← f2]; exact List.mem_map_of_mem hr)⟩) (by have := (hM'.rows f2).1; omega) (by omega)
        rw [f2] at htx
        repeat' (first
    | (show YK _ _ _ _ _ ⟨_, .call { callee := .builtin .len, args := _, argTypes := #[9] }, _, _, _, _⟩ _; refine YK.ofV (y_lenS (by rfl) StrTy.is) ?_)
    | (show VK _ _ _ _ _ ⟨_, .call { callee := .builtin .len, args := _, argTypes := #[9] }, _, _, _, _⟩ _; refine VK.mk (y_lenS (by rfl) StrTy.is) ?_)
    | (show YG _ _ _ _ _ _ ⟨_, .call { callee := .builtin .len, args := _, argTypes := #[9] }, _, _, _, _⟩ _; refine YG.mk (fun hb => by (try (have hc := And.left hb; have hb := And.right hb; rw [hc])); (try rw [hb]); exact V.y (y_lenS (by rfl) StrTy.is)) ?_)
    | (show VG _ _ _ _ _ _ ⟨_, .call { callee := .builtin .len, args := _, argTypes := #[9] }, _, _, _, _⟩ _; refine VG.mk (fun hb => by (try (have hc := And.left hb; have hb := And.right hb; rw [hc])); (try rw [hb]); exact y_lenS (by rfl) StrTy.is) ?_)
    | (refine nxN ?_)
    | (show YK _ _ _ _ _ ⟨_, .load 23 _, _, _, _, _⟩ _; refine YK.ofV (y_loadPart (k := 2) (by rfl) (by exact memA) (by decide +kernel) (by rfl)) ?_)
    | (show VK _ _ _ _ _ ⟨_, .load 23 _, _, _, _, _⟩ _; refine VK.mk (y_loadPart (k := 2) (by rfl) (by exact memA) (by decide +kernel) (by rfl)) ?_)
    | (show VG _ _ _ _ _ _ ⟨_, .load 23 _, _, _, _, _⟩ _; refine VG.mk (fun hb => by (try (have hc := And.left hb; have hb := And.right hb; rw [hc])); (try rw [hb]); exact y_loadPart (k := 2) (by rfl) (by exact memA) (by decide +kernel) (by rfl)) ?_)
    | (show YG _ _ _ _ _ _ ⟨_, .load 23 _, _, _, _, _⟩ _; refine YG.mk (fun hb => by (try (have hc := And.left hb; have hb := And.right hb; rw [hc])); (try rw [hb]); exact V.y (y_loadPart (k := 2) (by rfl) (by exact memA) (by decide +kernel) (by rfl))) ?_)
    | (show YK _ _ _ _ _ ⟨_, .load 30 _, _, _, _, _⟩ _; refine YK.ofV (y_loadPart (k := 6) (by rfl) (by exact memA) (by decide +kernel) (by rfl)) ?_)
    | (show VK _ _ _ _ _ ⟨_, .load 30 _, _, _, _, _⟩ _; refine VK.mk (y_loadPart (k := 6) (by rfl) (by exact memA) (by decide +kernel) (by rfl)) ?_)
    | (show VG _ _ _ _ _ _ ⟨_, .load 30 _, _, _, _, _⟩ _; refine VG.mk (fun hb => by (try (have hc := And.left hb; have hb := And.right hb; rw [hc])); (try rw [hb]); exact y_loadPart (k := 6) (by rfl) (by exact memA) (by decide +kernel) (by rfl)) ?_)
    | (show YG _ _ _ _ _ _ ⟨_, .load 30 _, _, _, _, _⟩ _; refine YG.mk (fun hb => by (try (have hc := And.left hb; have hb := And.right hb; rw [hc])); (try rw [hb]); exact V.y (y_loadPart (k := 6) (by rfl) (by exact memA) (by decide +kernel) (by rfl))) ?_)
    | (show RS _ _ _ _ _ _ _ (⟨some 61, _, _, _, _, _⟩ :: _); refine RS.callPm hP (trivial) perm_d1 ?_ ⟨rfl, rfl, rfl, rfl⟩; rintro ⟨⟩ -; refine RS.permH ?_ perm_d1.symm)
    | (show RS _ _ _ _ _ _ _ (⟨some 68, _, _, _, _, _⟩ :: _); refine RS.callI hR ⟨rfl, rfl, rfl, rfl⟩ (fun w' hw' => ⟨k5 _ _ (fun h hm => hw'.all h (.tail _ (.tail _ (.tail _ (.tail _ (.tail _ (List.mem_append_right _ hm))))))), trivial⟩) ?_; rintro ⟨y2, rs3, A2⟩ hx2; refine RS.permH ?_ perm_d2; have hmat : rs3.map Prod.snd = M' := hx2.mat; have hrt := rtext_c (la := la) (lo := lo) (u := u) (wd' := (wd : Int)) (z := y2) (rs := rs3) (wd := wd) (hM'.rows hmat).2 (by omega) (by have := (hM'.rows hmat).1; omega); rw [hmat] at hrt)
    | (show YK _ _ _ _ _ ⟨some 110, .call { callee := .value (.func 14), args := _, argTypes := _ }, _, _, _, _⟩ _; refine YK.mk (y_callIn (htx) (fun w' hw' => TxW.ofSt (xt := xt) hw' (by exact memA) (by (rw [f1]; exact memA)) (fun h hm => .tail _ (.tail _ (.tail _ (.tail _ (.tail _ (List.mem_append_left _ hm)))))) htk (by have := (hM'.rows f2).1; omega)) ⟨rfl, rfl⟩ (by decide +kernel)) ?_)
    | (show YG _ _ _ _ _ _ ⟨some 110, .call { callee := .value (.func 14), args := _, argTypes := _ }, _, _, _, _⟩ _; refine YG.mk (fun hb => by (try (have hc := And.left hb; have hb := And.right hb; rw [hc])); (try rw [hb]); exact y_callIn (htx) (fun w' hw' => TxW.ofSt (xt := xt) hw' (by exact memA) (by (rw [f1]; exact memA)) (fun h hm => .tail _ (.tail _ (.tail _ (.tail _ (.tail _ (List.mem_append_left _ hm)))))) htk (by have := (hM'.rows f2).1; omega)) ⟨rfl, rfl⟩ (by decide +kernel)) ?_)
    | (show YK _ _ _ _ _ ⟨some 112, .call { callee := .value (.func 15), args := _, argTypes := _ }, _, _, _, _⟩ _; refine YK.mk (y_callIn (hrt) (fun w' hw' => hx2.rd _ _ (k5 _ _ (fun h hm => hw'.all h (.tail _ (.tail _ (.tail _ (.tail _ (.tail _ (List.mem_append_right _ (List.mem_append_right _ hm))))))))) (fun h hm => hw'.all h (.tail _ (.tail _ (.tail _ (.tail _ (.tail _ (List.mem_append_right _ (List.mem_append_left _ hm))))))))) ⟨rfl, rfl⟩ (by decide +kernel)) ?_)
    | (show YG _ _ _ _ _ _ ⟨some 112, .call { callee := .value (.func 15), args := _, argTypes := _ }, _, _, _, _⟩ _; refine YG.mk (fun hb => by (try (have hc := And.left hb; have hb := And.right hb; rw [hc])); (try rw [hb]); exact y_callIn (hrt) (fun w' hw' => hx2.rd _ _ (k5 _ _ (fun h hm => hw'.all h (.tail _ (.tail _ (.tail _ (.tail _ (.tail _ (List.mem_append_right _ (List.mem_append_right _ hm))))))))) (fun h hm => hw'.all h (.tail _ (.tail _ (.tail _ (.tail _ (.tail _ (List.mem_append_right _ (List.mem_append_left _ hm))))))))) ⟨rfl, rfl⟩ (by decide +kernel)) ?_)
    | (refine nxV ?_)
    | (show RS _ _ _ _ _ _ _ _; first | (refine nxRS ?_) | (refine nxRS1 fun _ => ?_))
    | (show RM _ _ _ _ _ _ _ _ _ _; first | (refine nxRM ?_) | (refine nxRM1 fun _ => ?_))
    | (refine nxG ?_)
    | (refine nxVS ?_)
    | (refine nxGS ?_)
    | (refine G.mixedA 22 [.go 0, .go 1, .go 2, .go 3, .go 4, .go 6, .go 5, .go 7, .go 8, .go 9] ?_)
    | (refine nxX ?_)
    | (refine G.condN rfl (fun hc => ?_) (fun hc => ?_) <;> (try first | exact False.elim hc | (exfalso; omega))))
        all_goals first | (exfalso; simp at hc; done) | exact X.again (pr', y2, rs3, A2 ++ A, i + 1) ⟨⟨M', hM', f1, f2, hx2.mat, fun base w' hA => hx2.rd base w' (k5 base w' fun h hm => hA h (List.mem_append_right _ hm)) fun h hm => hA h (List.mem_append_left _ hm)⟩, by dsimp only; omega⟩ (by dsimp only; omega) ⟨rfl, rfl, rfl, rfl, rfl, trivial⟩ (fun w' h => h.sub (by repeat (first | exact List.Sublist.refl _ | exact List.nil_sublist _ | apply List.Sublist.cons_cons | apply List.Sublist.cons)))
  · obtain rfl : i = l.length := by omega
    repeat' (first
    | (show YK _ _ _ _ _ ⟨_, .call { callee := .builtin .len, args := _, argTypes := #[9] }, _, _, _, _⟩ _; refine YK.ofV (y_lenS (by rfl) StrTy.is) ?_)
    | (show VK _ _ _ _ _ ⟨_, .call { callee := .builtin .len, args := _, argTypes := #[9] }, _, _, _, _⟩ _; refine VK.mk (y_lenS (by rfl) StrTy.is) ?_)
    | (show YG _ _ _ _ _ _ ⟨_, .call { callee := .builtin .len, args := _, argTypes := #[9] }, _, _, _, _⟩ _; refine YG.mk (fun hb => by (try (have hc := And.left hb; have hb := And.right hb; rw [hc])); (try rw [hb]); exact V.y (y_lenS (by rfl) StrTy.is)) ?_)
    | (show VG _ _ _ _ _ _ ⟨_, .call { callee := .builtin .len, args := _, argTypes := #[9] }, _, _, _, _⟩ _; refine VG.mk (fun hb => by (try (have hc := And.left hb; have hb := And.right hb; rw [hc])); (try rw [hb]); exact y_lenS (by rfl) StrTy.is) ?_)
    | (refine nxN ?_)
    | (refine nxV ?_)
    | (show RS _ _ _ _ _ _ _ _; first | (refine nxRS ?_) | (refine nxRS1 fun _ => ?_))
    | (show RM _ _ _ _ _ _ _ _ _ _; first | (refine nxRM ?_) | (refine nxRM1 fun _ => ?_))
    | (refine nxG ?_)
    | (refine nxVS ?_)
    | (refine nxGS ?_)
    | (refine G.mixedA 22 [.go 0, .go 1, .go 2, .go 3, .go 4, .go 6, .go 5, .go 7, .go 8, .go 9] ?_)
    | (refine nxX ?_)
    | (refine G.condN rfl (fun hc => ?_) (fun hc => ?_) <;> (try first | exact False.elim hc | (exfalso; omega))))
    all_goals first | (exfalso; omega) | exact X.ret (vs := [_]) rfl ⟨rfl, rfl⟩ rfl (fun w hw => ⟨rfl, hw.ext⟩)
theorem draws_law {la lo u wd : Int} (v : Value) (l : List DrwT) (W : World) (ro : RO W v 11 l.length (l.flatMap cDr)) (hB : ∀ d ∈ l, DrwB W d) : Calls Tryz.prog 3 [ptV la lo, .int .i64 u, .int .i64 wd, v].toArray W (fun e w' => e = .returned (.bool true) ∧ Below W.heap.size W w') := by
  have hw0 : ∀ h ∈ [Hl.rd v cDr 11 l], h.holds W.heap.size W ∧ h.excl = false := fun h hm => by
    rcases List.mem_singleton.1 hm with rfl
    exact ⟨⟨ro, fun h => by cases h⟩, rfl⟩
  by_cases hl : 6 < l.length
  · exact dr_long hl W hw0
  · by_cases hc : (41 < wd ∧ wd ≤ 121) ∨ l.all smB = false
    · exact dr_wide (by omega) hc W hw0
    · have hs : l.all smB = true := by
        cases h : l.all smB with
        | true => rfl
        | false => exact absurd (.inr h) hc
      have hwd : ¬ (41 < wd ∧ wd ≤ 121) := fun h => hc (.inl h)
      by_cases he : newE la lo u wd = 0
      · unfold newE at he
        split at he
        · rename_i hb
          split at he
          · rename_i hg
            simp only [Bool.and_eq_true, decide_eq_true_eq] at hb
            obtain ⟨wn, rfl⟩ := Int.eq_ofNat_of_zero_le (show 0 ≤ wd by omega)
            exact dr_ok (by omega) hs (by omega) hb.1.1 (by omega) (by omega) (by omega) (by omega) W hB hw0
          · exact absurd he (by decide)
        · exact absurd he (by decide)
      · refine dr_ref (by omega) rfl ?_ W hw0
        unfold newE at he ⊢
        split
        · split
          · rename_i h1 h2
            rw [if_pos h1, if_pos h2] at he
            exact absurd rfl he
          · exact .inr rfl
        · exact .inl rfl
end Go.Proofs.YthilhhegchmjeaaGreat
