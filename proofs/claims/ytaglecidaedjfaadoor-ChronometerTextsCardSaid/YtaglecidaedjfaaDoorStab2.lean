/- slices.SortStableFunc at ints: symMerge. -/
import Derived.Test.YtaglecidaedjfaaDoorStab
set_option linter.unusedVariables false
set_option maxHeartbeats 4000000
namespace Go.Proofs.YtaglecidaedjfaaDoor
open Go.RowKit

theorem X.retZ {P : Program} {n : Nat} {L : FL} {w0 : World} {H : List Hl} {fn : Func} {R : Ending → World → Prop} (hf : fn.results = #[]) (h : ∀ w, St w0 H w → R (.returned (.tuple #[])) w) : X (bodyPost P fn R) n L w0 H .ret := X.ret (rs := []) (vs := []) hf rfl rfl h
theorem half_out {mg : Int → Int} {l z : List Int} {a mid e b : Nat} (h : Half mg l mid e b) (d : DoneS mg l z a mid) : Half mg z mid e b := by
  have hl := d.len
  have g : ∀ i : Nat, mid ≤ i → gt0 z i = gt0 l i := fun i hi => d.out i (.inr hi)
  refine ⟨by have := h.le; omega, fun i j h1 h2 h3 => ?_, fun i j h1 h2 h3 => ?_, fun i j h1 h2 h3 h4 => ?_⟩
  · rw [g i h1, g j (by omega)]; exact h.left i j h1 h2 h3
  · have := h.le; rw [g i (by omega), g j (by omega)]; exact h.right i j h1 h2 h3
  · have := h.le; rw [g i h1, g j (by omega)]; exact h.idx i j h1 h2 h3 h4
theorem K_cmp {C : World → Prop} {f : FuncId} {cap : List Value} {mg : Int → Int} {N : Int} (K : CmpOk C f cap mg N) {l : List Int} (hin : inN N l) (x y : Int) (hx : 0 ≤ x ∧ x < l.length) (hy : 0 ≤ y ∧ y < l.length) :
    ContIn Tryd.prog C f ([.int .i64 (nth l x), .int .i64 (nth l y)] ++ (cap.toArray).toList) (.int .i64 (cmpI (mg (nth l x)) (mg (nth l y)))) := by
  have x1 := nth_inN hin hx
  have x2 := nth_inN hin hy
  exact K.cmp _ _ x1.1 x1.2 x2.1 x2.2
theorem sm_left1 {C : World → Prop} {f : FuncId} {cap : List Value} {mg : Int → Int} {N : Int} (K : CmpOk C f cap mg N) (v : Sl) (l : List Int) (hin : inN N l) {a b : Nat} (hl : l.length ≤ 1000) (h : Half mg l a (a + 1) b) :
    ContC Tryd.prog C (rwI v l) 97 [v.v, .int .i64 (a : Int), .int .i64 ((a : Int) + 1), .int .i64 (b : Int), cmpV f cap] (fun z : List Int => DoneS mg l z a b) (fun _ => .tuple #[]) (fun z => [rwI v z]) := fun w0 HR hC w hw => by
  have hle := h.le
  refine enterU Tryd.func97 rfl rfl rfl hw ?_
  repeat' (first
    | (refine nxV ?_)
    | (show RS _ _ _ _ _ _ _ _; first | (refine nxRS ?_) | (refine nxRS1 fun _ => ?_))
    | (show RM _ _ _ _ _ _ _ _ _ _; first | (refine nxRM ?_) | (refine nxRM1 fun _ => ?_))
    | (refine nxG ?_)
    | (refine G.mixedA 5 [.go 0, .go 1, .go 2, .go 3, .go 4, .go 5, .go 6, .go 7, .go 8, .go 9, .go 10] ?_)
    | (refine G.mixedA 11 [.go 0, .go 1, .go 2, .go 3, .go 4, .go 5, .go 6, .go 7, .go 8, .go 9, .go 10, .go 11, .go 12, .go 13, .go 14, .go 15, .go 16, .go 17] ?_)
    | (refine G.mixedA 17 [.go 0, .go 1, .go 2, .go 3, .go 4, .go 5, .go 6, .go 7, .go 8, .go 9, .go 10, .go 11] ?_)
    | (refine G.mixedA 23 [.go 0, .go 1, .go 2, .go 3, .go 4, .go 5, .go 6, .go 7, .go 8, .go 9, .go 10, .go 11, .go 12, .go 13, .go 14, .go 15, .go 16, .go 17] ?_)
    | (refine G.mixedA 35 [.go 0, .go 1, .go 2, .go 3, .go 4, .go 5, .go 6, .go 7, .go 8, .go 9, .go 10, .go 11, .go 12, .go 13] ?_)
    | (refine nxX ?_)
    | (refine G.condN rfl (fun hc => ?_) (fun hc => ?_) <;> (try first | exact False.elim hc | (exfalso; omega))))
  · refine G.loop (ι := Int × Int) (fun x => [(0, v.v), (1, .int .i64 (a : Int)), (4, cmpV f cap), (10, .int .i64 x.1), (11, .int .i64 x.2)]) (fun x => rwI v l :: HR) (fun x => ((a : Int) + 1 ≤ x.1 ∧ x.1 ≤ x.2 ∧ x.2 ≤ b) ∧ (∀ q : Nat, a + 1 ≤ q → (q : Int) < x.1 → lexLt mg (gt0 l q) (gt0 l a)) ∧ ∀ q : Nat, x.2 ≤ (q : Int) → q < b → lexLt mg (gt0 l a) (gt0 l q)) (fun x => (x.2 - x.1).toNat) ((a : Int) + 1, (b : Int)) ⟨by dsimp only; omega, fun q h1 h2 => by dsimp only at h2; omega, fun q h1 h2 => by dsimp only at h1; omega⟩ ⟨rfl, rfl, rfl, rfl, rfl, trivial⟩ (fun w h => h) ?_
    rintro ⟨I, J⟩ mx ⟨g1, g2, g3⟩ hmx
    dsimp only at g1 g2 g3 hmx ⊢
    rcases Int.lt_or_le I J with hc0 | hc0
    · have q1 := K_cmp K hin ((I + J) / 2) (a : Int) (by omega) (by omega)
      have hx : nth l ((I + J) / 2) = gt0 l ((I + J) / 2).toNat := rfl
      have hy : nth l (a : Int) = gt0 l a := rfl
      have hidx := h.idx a ((I + J) / 2).toNat (Nat.le_refl _) (by omega) (by omega) (by omega)
      repeat' (first
    | (show YK _ _ _ _ _ ⟨_, .call _, _, _, _, _⟩ _; refine YK.mk (y_callV (f := f) (by rfl) q1 (fun w hw => hC w (hw.sub (List.sublist_cons_self _ _))) ⟨rfl, rfl, rfl⟩ K.go) ?_)
    | (refine nxV ?_)
    | (show RS _ _ _ _ _ _ _ _; first | (refine nxRS ?_) | (refine nxRS1 fun _ => ?_))
    | (show RM _ _ _ _ _ _ _ _ _ _; first | (refine nxRM ?_) | (refine nxRM1 fun _ => ?_))
    | (refine nxG ?_)
    | (refine G.mixedA 5 [.go 0, .go 1, .go 2, .go 3, .go 4, .go 5, .go 6, .go 7, .go 8, .go 9, .go 10] ?_)
    | (refine G.mixedA 11 [.go 0, .go 1, .go 2, .go 3, .go 4, .go 5, .go 6, .go 7, .go 8, .go 9, .go 10, .go 11, .go 12, .go 13, .go 14, .go 15, .go 16, .go 17] ?_)
    | (refine G.mixedA 17 [.go 0, .go 1, .go 2, .go 3, .go 4, .go 5, .go 6, .go 7, .go 8, .go 9, .go 10, .go 11] ?_)
    | (refine G.mixedA 23 [.go 0, .go 1, .go 2, .go 3, .go 4, .go 5, .go 6, .go 7, .go 8, .go 9, .go 10, .go 11, .go 12, .go 13, .go 14, .go 15, .go 16, .go 17] ?_)
    | (refine G.mixedA 35 [.go 0, .go 1, .go 2, .go 3, .go 4, .go 5, .go 6, .go 7, .go 8, .go 9, .go 10, .go 11, .go 12, .go 13] ?_)
    | (refine nxX ?_)
    | (refine G.condN rfl (fun hc => ?_) (fun hc => ?_) <;> (try first | exact False.elim hc | (exfalso; omega))))
      · have h3 := cmpI_neg.1 hc
        rw [hx, hy] at h3
        have h4 := (lexLt_lt hidx).1 h3
        refine X.again ((I + J) / 2 + 1, J) ⟨by dsimp only; omega, fun q k1 k2 => ?_, g3⟩ (by dsimp only; omega) ⟨rfl, rfl, rfl, rfl, rfl, trivial⟩ (fun w h => h)
        dsimp only at k2
        by_cases hq : q = ((I + J) / 2).toNat
        · rw [hq]; exact h4
        · exact lexLt_trans (h.right q ((I + J) / 2).toNat k1 (by omega) (by omega)) h4
      · have h3 : ¬ (mg (gt0 l ((I + J) / 2).toNat) < mg (gt0 l a)) := fun h4 => by
          rw [← hx, ← hy] at h4
          have := cmpI_neg.2 h4
          omega
        have h4 := (lexLt_not hidx).1 h3
        refine X.again (I, (I + J) / 2) ⟨by dsimp only; omega, g2, fun q k1 k2 => ?_⟩ (by dsimp only; omega) ⟨rfl, rfl, rfl, rfl, rfl, trivial⟩ (fun w h => h)
        dsimp only at k1
        by_cases hq : q = ((I + J) / 2).toNat
        · rw [hq]; exact h4
        · exact lexLt_trans h4 (h.right ((I + J) / 2).toNat q (by omega) (by omega) k2)
    · obtain rfl : I = J := by omega
      obtain ⟨i, hi⟩ : ∃ i : Nat, I = i := ⟨I.toNat, by omega⟩
      subst hi
      have hdone := done_left1 (i := i) h (by omega) (fun q k1 k2 => g2 q k1 (by omega)) (fun q k1 k2 => g3 q (by omega) k2)
      repeat' (first
    | (refine nxV ?_)
    | (show RS _ _ _ _ _ _ _ _; first | (refine nxRS ?_) | (refine nxRS1 fun _ => ?_))
    | (show RM _ _ _ _ _ _ _ _ _ _; first | (refine nxRM ?_) | (refine nxRM1 fun _ => ?_))
    | (refine nxG ?_)
    | (refine G.mixedA 5 [.go 0, .go 1, .go 2, .go 3, .go 4, .go 5, .go 6, .go 7, .go 8, .go 9, .go 10] ?_)
    | (refine G.mixedA 11 [.go 0, .go 1, .go 2, .go 3, .go 4, .go 5, .go 6, .go 7, .go 8, .go 9, .go 10, .go 11, .go 12, .go 13, .go 14, .go 15, .go 16, .go 17] ?_)
    | (refine G.mixedA 17 [.go 0, .go 1, .go 2, .go 3, .go 4, .go 5, .go 6, .go 7, .go 8, .go 9, .go 10, .go 11] ?_)
    | (refine G.mixedA 23 [.go 0, .go 1, .go 2, .go 3, .go 4, .go 5, .go 6, .go 7, .go 8, .go 9, .go 10, .go 11, .go 12, .go 13, .go 14, .go 15, .go 16, .go 17] ?_)
    | (refine G.mixedA 35 [.go 0, .go 1, .go 2, .go 3, .go 4, .go 5, .go 6, .go 7, .go 8, .go 9, .go 10, .go 11, .go 12, .go 13] ?_)
    | (refine nxX ?_)
    | (refine G.condN rfl (fun hc => ?_) (fun hc => ?_) <;> (try first | exact False.elim hc | (exfalso; omega))))
      refine G.loop (ι := Int) (fun k => [(0, v.v), (10, .int .i64 (i : Int)), (13, .int .i64 k)]) (fun k => rwI v (rotL l a (a + 1) (k + 1).toNat) :: HR) (fun k => (a : Int) ≤ k ∧ k ≤ (i : Int) - 1) (fun k => ((i : Int) - k).toNat) (a : Int) (by omega) ⟨rfl, rfl, rfl, trivial⟩ (fun w h => by rw [show ((a : Int) + 1).toNat = a + 1 by omega, (rotL_same (l := l) (a := a) (b := a + 1) (by omega)).2]; exact h) ?_
      rintro k my k1 hmy
      obtain ⟨kn, hkn⟩ : ∃ kn : Nat, k = kn := ⟨k.toNat, by omega⟩
      subst hkn
      have e0 : ((kn : Int) + 1).toNat = kn + 1 := by omega
      rw [e0]
      rcases Int.lt_or_le (kn : Int) ((i : Int) - 1) with hk | hk
      · have hrl := rotL_len (l := l) (a := a) (m := a + 1) (b := kn + 1) (by omega)
        have e3 : ((rotL l a (a + 1) (kn + 1)).set (kn : Int).toNat (nth (rotL l a (a + 1) (kn + 1)) ((kn : Int) + 1))).set ((kn : Int) + 1).toNat (nth (rotL l a (a + 1) (kn + 1)) (kn : Int)) = rotL l a (a + 1) ((kn : Int) + 1 + 1).toNat := by
          rw [show ((kn : Int) + 1 + 1).toNat = kn + 2 by omega, ← rot_up (l := l) (a := a) (k := kn) (by omega), nth_gt0, nth_gt0, e0]; rfl
        generalize hcur : rotL l a (a + 1) (kn + 1) = cur at hrl e3
        repeat' (first
    | (show RF _ _ _ _ _ _ _ _ _; refine RF.storeI (ls := cur) (b := nth cur ((kn : Int) + 1)) (by rfl) (by rfl) (by rfl) (by exact updA) (by omega) (by decide +kernel) (by decide +kernel) ?_)
    | (show RF _ _ _ _ _ _ _ _ _; refine RF.storeI (ls := cur.set (kn : Int).toNat (nth cur ((kn : Int) + 1))) (b := nth cur (kn : Int)) (by rfl) (by rfl) (by rfl) (by exact updA) (by rw [List.length_set]; omega) (by decide +kernel) (by decide +kernel) ?_)
    | (refine G.mixedFH 11 [.go 0, .go 1, .go 2, .go 3, .go 4, .go 5, .go 6, .go 7, .go 8, .go 9, .go 10, .go 11, .go 12, .go 13, .go 14, .go 15, .go 16, .go 17] ?_)
    | (refine nxRF ?_)
    | (refine nxVF ?_)
    | (refine nxV ?_)
    | (show RS _ _ _ _ _ _ _ _; first | (refine nxRS ?_) | (refine nxRS1 fun _ => ?_))
    | (show RM _ _ _ _ _ _ _ _ _ _; first | (refine nxRM ?_) | (refine nxRM1 fun _ => ?_))
    | (refine nxG ?_)
    | (refine G.mixedA 5 [.go 0, .go 1, .go 2, .go 3, .go 4, .go 5, .go 6, .go 7, .go 8, .go 9, .go 10] ?_)
    | (refine G.mixedA 17 [.go 0, .go 1, .go 2, .go 3, .go 4, .go 5, .go 6, .go 7, .go 8, .go 9, .go 10, .go 11] ?_)
    | (refine G.mixedA 23 [.go 0, .go 1, .go 2, .go 3, .go 4, .go 5, .go 6, .go 7, .go 8, .go 9, .go 10, .go 11, .go 12, .go 13, .go 14, .go 15, .go 16, .go 17] ?_)
    | (refine G.mixedA 35 [.go 0, .go 1, .go 2, .go 3, .go 4, .go 5, .go 6, .go 7, .go 8, .go 9, .go 10, .go 11, .go 12, .go 13] ?_)
    | (refine nxX ?_)
    | (refine G.condN rfl (fun hc => ?_) (fun hc => ?_) <;> (try first | exact False.elim hc | (exfalso; omega))))
        exact X.again ((kn : Int) + 1) (by omega) (by omega) ⟨rfl, rfl, rfl, trivial⟩ (fun w h => e3 ▸ h)
      · repeat' (first
    | (refine nxV ?_)
    | (show RS _ _ _ _ _ _ _ _; first | (refine nxRS ?_) | (refine nxRS1 fun _ => ?_))
    | (show RM _ _ _ _ _ _ _ _ _ _; first | (refine nxRM ?_) | (refine nxRM1 fun _ => ?_))
    | (refine nxG ?_)
    | (refine G.mixedA 5 [.go 0, .go 1, .go 2, .go 3, .go 4, .go 5, .go 6, .go 7, .go 8, .go 9, .go 10] ?_)
    | (refine G.mixedA 11 [.go 0, .go 1, .go 2, .go 3, .go 4, .go 5, .go 6, .go 7, .go 8, .go 9, .go 10, .go 11, .go 12, .go 13, .go 14, .go 15, .go 16, .go 17] ?_)
    | (refine G.mixedA 17 [.go 0, .go 1, .go 2, .go 3, .go 4, .go 5, .go 6, .go 7, .go 8, .go 9, .go 10, .go 11] ?_)
    | (refine G.mixedA 23 [.go 0, .go 1, .go 2, .go 3, .go 4, .go 5, .go 6, .go 7, .go 8, .go 9, .go 10, .go 11, .go 12, .go 13, .go 14, .go 15, .go 16, .go 17] ?_)
    | (refine G.mixedA 35 [.go 0, .go 1, .go 2, .go 3, .go 4, .go 5, .go 6, .go 7, .go 8, .go 9, .go 10, .go 11, .go 12, .go 13] ?_)
    | (refine nxX ?_)
    | (refine G.condN rfl (fun hc => ?_) (fun hc => ?_) <;> (try first | exact False.elim hc | (exfalso; omega))))
        refine X.retZ rfl (fun w hw => ?_)
        rw [show kn + 1 = i by omega] at hw
        exact ⟨_, hdone, rfl, hw⟩
theorem sm_right1 {C : World → Prop} {f : FuncId} {cap : List Value} {mg : Int → Int} {N : Int} (K : CmpOk C f cap mg N) (v : Sl) (l : List Int) (hin : inN N l) {a m : Nat} (hl : l.length ≤ 1000) (ham : a + 1 < m) (h : Half mg l a m (m + 1)) :
    ContC Tryd.prog C (rwI v l) 97 [v.v, .int .i64 (a : Int), .int .i64 (m : Int), .int .i64 ((m : Int) + 1), cmpV f cap] (fun z : List Int => DoneS mg l z a (m + 1)) (fun _ => .tuple #[]) (fun z => [rwI v z]) := fun w0 HR hC w hw => by
  have hle := h.le
  refine enterU Tryd.func97 rfl rfl rfl hw ?_
  repeat' (first
    | (refine nxV ?_)
    | (show RS _ _ _ _ _ _ _ _; first | (refine nxRS ?_) | (refine nxRS1 fun _ => ?_))
    | (show RM _ _ _ _ _ _ _ _ _ _; first | (refine nxRM ?_) | (refine nxRM1 fun _ => ?_))
    | (refine nxG ?_)
    | (refine G.mixedA 5 [.go 0, .go 1, .go 2, .go 3, .go 4, .go 5, .go 6, .go 7, .go 8, .go 9, .go 10] ?_)
    | (refine G.mixedA 11 [.go 0, .go 1, .go 2, .go 3, .go 4, .go 5, .go 6, .go 7, .go 8, .go 9, .go 10, .go 11, .go 12, .go 13, .go 14, .go 15, .go 16, .go 17] ?_)
    | (refine G.mixedA 17 [.go 0, .go 1, .go 2, .go 3, .go 4, .go 5, .go 6, .go 7, .go 8, .go 9, .go 10, .go 11] ?_)
    | (refine G.mixedA 23 [.go 0, .go 1, .go 2, .go 3, .go 4, .go 5, .go 6, .go 7, .go 8, .go 9, .go 10, .go 11, .go 12, .go 13, .go 14, .go 15, .go 16, .go 17] ?_)
    | (refine G.mixedA 35 [.go 0, .go 1, .go 2, .go 3, .go 4, .go 5, .go 6, .go 7, .go 8, .go 9, .go 10, .go 11, .go 12, .go 13] ?_)
    | (refine nxX ?_)
    | (refine G.condN rfl (fun hc => ?_) (fun hc => ?_) <;> (try first | exact False.elim hc | (exfalso; omega))))
  refine G.loop (ι := Int × Int) (fun x => [(0, v.v), (2, .int .i64 (m : Int)), (4, cmpV f cap), (14, .int .i64 x.1), (15, .int .i64 x.2)]) (fun x => rwI v l :: HR) (fun x => ((a : Int) ≤ x.1 ∧ x.1 ≤ x.2 ∧ x.2 ≤ m) ∧ (∀ q : Nat, a ≤ q → (q : Int) < x.1 → lexLt mg (gt0 l q) (gt0 l m)) ∧ ∀ q : Nat, x.2 ≤ (q : Int) → q < m → lexLt mg (gt0 l m) (gt0 l q)) (fun x => (x.2 - x.1).toNat) ((a : Int), (m : Int)) ⟨by dsimp only; omega, fun q h1 h2 => by dsimp only at h2; omega, fun q h1 h2 => by dsimp only at h1; omega⟩ ⟨rfl, rfl, rfl, rfl, rfl, trivial⟩ (fun w h => h) ?_
  rintro ⟨I, J⟩ mx ⟨g1, g2, g3⟩ hmx
  dsimp only at g1 g2 g3 hmx ⊢
  rcases Int.lt_or_le I J with hc0 | hc0
  · have q1 := K_cmp K hin (m : Int) ((I + J) / 2) (by omega) (by omega)
    have hx : nth l ((I + J) / 2) = gt0 l ((I + J) / 2).toNat := rfl
    have hy : nth l (m : Int) = gt0 l m := rfl
    have hidx := h.idx ((I + J) / 2).toNat m (by omega) (by omega) (Nat.le_refl _) (by omega)
    repeat' (first
    | (show YK _ _ _ _ _ ⟨_, .call _, _, _, _, _⟩ _; refine YK.mk (y_callV (f := f) (by rfl) q1 (fun w hw => hC w (hw.sub (List.sublist_cons_self _ _))) ⟨rfl, rfl, rfl⟩ K.go) ?_)
    | (refine nxV ?_)
    | (show RS _ _ _ _ _ _ _ _; first | (refine nxRS ?_) | (refine nxRS1 fun _ => ?_))
    | (show RM _ _ _ _ _ _ _ _ _ _; first | (refine nxRM ?_) | (refine nxRM1 fun _ => ?_))
    | (refine nxG ?_)
    | (refine G.mixedA 5 [.go 0, .go 1, .go 2, .go 3, .go 4, .go 5, .go 6, .go 7, .go 8, .go 9, .go 10] ?_)
    | (refine G.mixedA 11 [.go 0, .go 1, .go 2, .go 3, .go 4, .go 5, .go 6, .go 7, .go 8, .go 9, .go 10, .go 11, .go 12, .go 13, .go 14, .go 15, .go 16, .go 17] ?_)
    | (refine G.mixedA 17 [.go 0, .go 1, .go 2, .go 3, .go 4, .go 5, .go 6, .go 7, .go 8, .go 9, .go 10, .go 11] ?_)
    | (refine G.mixedA 23 [.go 0, .go 1, .go 2, .go 3, .go 4, .go 5, .go 6, .go 7, .go 8, .go 9, .go 10, .go 11, .go 12, .go 13, .go 14, .go 15, .go 16, .go 17] ?_)
    | (refine G.mixedA 35 [.go 0, .go 1, .go 2, .go 3, .go 4, .go 5, .go 6, .go 7, .go 8, .go 9, .go 10, .go 11, .go 12, .go 13] ?_)
    | (refine nxX ?_)
    | (refine G.condN rfl (fun hc => ?_) (fun hc => ?_) <;> (try first | exact False.elim hc | (exfalso; omega))))
    · have h3 : ¬ (mg (gt0 l m) < mg (gt0 l ((I + J) / 2).toNat)) := fun h4 => by
        rw [← hx, ← hy] at h4
        have := cmpI_neg.2 h4
        omega
      have h4 := (lexLt_not hidx).1 h3
      refine X.again ((I + J) / 2 + 1, J) ⟨by dsimp only; omega, fun q k1 k2 => ?_, g3⟩ (by dsimp only; omega) ⟨rfl, rfl, rfl, rfl, rfl, trivial⟩ (fun w h => h)
      dsimp only at k2
      by_cases hq : q = ((I + J) / 2).toNat
      · rw [hq]; exact h4
      · exact lexLt_trans (h.left q ((I + J) / 2).toNat k1 (by omega) (by omega)) h4
    · have h3 := cmpI_neg.1 hc
      rw [hx, hy] at h3
      have h4 := (lexLt_lt hidx).1 h3
      refine X.again (I, (I + J) / 2) ⟨by dsimp only; omega, g2, fun q k1 k2 => ?_⟩ (by dsimp only; omega) ⟨rfl, rfl, rfl, rfl, rfl, trivial⟩ (fun w h => h)
      dsimp only at k1
      by_cases hq : q = ((I + J) / 2).toNat
      · rw [hq]; exact h4
      · exact lexLt_trans h4 (h.left ((I + J) / 2).toNat q (by omega) (by omega) k2)
  · obtain rfl : I = J := by omega
    obtain ⟨i, hi⟩ : ∃ i : Nat, I = i := ⟨I.toNat, by omega⟩
    subst hi
    have hdone := done_right1 (i := i) h (by omega) (fun q k1 k2 => g2 q k1 (by omega)) (fun q k1 k2 => g3 q (by omega) k2)
    repeat' (first
    | (refine nxV ?_)
    | (show RS _ _ _ _ _ _ _ _; first | (refine nxRS ?_) | (refine nxRS1 fun _ => ?_))
    | (show RM _ _ _ _ _ _ _ _ _ _; first | (refine nxRM ?_) | (refine nxRM1 fun _ => ?_))
    | (refine nxG ?_)
    | (refine G.mixedA 5 [.go 0, .go 1, .go 2, .go 3, .go 4, .go 5, .go 6, .go 7, .go 8, .go 9, .go 10] ?_)
    | (refine G.mixedA 11 [.go 0, .go 1, .go 2, .go 3, .go 4, .go 5, .go 6, .go 7, .go 8, .go 9, .go 10, .go 11, .go 12, .go 13, .go 14, .go 15, .go 16, .go 17] ?_)
    | (refine G.mixedA 17 [.go 0, .go 1, .go 2, .go 3, .go 4, .go 5, .go 6, .go 7, .go 8, .go 9, .go 10, .go 11] ?_)
    | (refine G.mixedA 23 [.go 0, .go 1, .go 2, .go 3, .go 4, .go 5, .go 6, .go 7, .go 8, .go 9, .go 10, .go 11, .go 12, .go 13, .go 14, .go 15, .go 16, .go 17] ?_)
    | (refine G.mixedA 35 [.go 0, .go 1, .go 2, .go 3, .go 4, .go 5, .go 6, .go 7, .go 8, .go 9, .go 10, .go 11, .go 12, .go 13] ?_)
    | (refine nxX ?_)
    | (refine G.condN rfl (fun hc => ?_) (fun hc => ?_) <;> (try first | exact False.elim hc | (exfalso; omega))))
    refine G.loop (ι := Int) (fun k => [(0, v.v), (14, .int .i64 (i : Int)), (17, .int .i64 k)]) (fun k => rwI v (rotL l k.toNat m (m + 1)) :: HR) (fun k => (i : Int) ≤ k ∧ k ≤ (m : Int)) (fun k => (k - (i : Int)).toNat) (m : Int) (by omega) ⟨rfl, rfl, rfl, trivial⟩ (fun w h => by rw [show (m : Int).toNat = m by omega, (rotL_same (l := l) (a := m) (b := m + 1) (by omega)).1]; exact h) ?_
    rintro k my k1 hmy
    obtain ⟨kn, hkn⟩ : ∃ kn : Nat, k = kn := ⟨k.toNat, by omega⟩
    subst hkn
    rw [Int.toNat_natCast]
    rcases Int.lt_or_le (i : Int) (kn : Int) with hk | hk
    · have hrl := rotL_len (l := l) (a := kn) (m := m) (b := m + 1) (by omega)
      have e3 : ((rotL l kn m (m + 1)).set (kn : Int).toNat (nth (rotL l kn m (m + 1)) ((kn : Int) - 1))).set ((kn : Int) - 1).toNat (nth (rotL l kn m (m + 1)) (kn : Int)) = rotL l ((kn : Int) - 1).toNat m (m + 1) := by
        rw [show ((kn : Int) - 1).toNat = kn - 1 by omega, ← rot_down (l := l) (m := m) (k := kn) (by omega), nth_gt0, nth_gt0, show ((kn : Int) - 1).toNat = kn - 1 by omega]; rfl
      generalize hcur : rotL l kn m (m + 1) = cur at hrl e3
      repeat' (first
    | (show RF _ _ _ _ _ _ _ _ _; refine RF.storeI (ls := cur) (b := nth cur ((kn : Int) - 1)) (by rfl) (by rfl) (by rfl) (by exact updA) (by omega) (by decide +kernel) (by decide +kernel) ?_)
    | (show RF _ _ _ _ _ _ _ _ _; refine RF.storeI (ls := cur.set (kn : Int).toNat (nth cur ((kn : Int) - 1))) (b := nth cur (kn : Int)) (by rfl) (by rfl) (by rfl) (by exact updA) (by rw [List.length_set]; omega) (by decide +kernel) (by decide +kernel) ?_)
    | (refine G.mixedFH 23 [.go 0, .go 1, .go 2, .go 3, .go 4, .go 5, .go 6, .go 7, .go 8, .go 9, .go 10, .go 11, .go 12, .go 13, .go 14, .go 15, .go 16, .go 17] ?_)
    | (refine nxRF ?_)
    | (refine nxVF ?_)
    | (refine nxV ?_)
    | (show RS _ _ _ _ _ _ _ _; first | (refine nxRS ?_) | (refine nxRS1 fun _ => ?_))
    | (show RM _ _ _ _ _ _ _ _ _ _; first | (refine nxRM ?_) | (refine nxRM1 fun _ => ?_))
    | (refine nxG ?_)
    | (refine G.mixedA 5 [.go 0, .go 1, .go 2, .go 3, .go 4, .go 5, .go 6, .go 7, .go 8, .go 9, .go 10] ?_)
    | (refine G.mixedA 11 [.go 0, .go 1, .go 2, .go 3, .go 4, .go 5, .go 6, .go 7, .go 8, .go 9, .go 10, .go 11, .go 12, .go 13, .go 14, .go 15, .go 16, .go 17] ?_)
    | (refine G.mixedA 17 [.go 0, .go 1, .go 2, .go 3, .go 4, .go 5, .go 6, .go 7, .go 8, .go 9, .go 10, .go 11] ?_)
    | (refine G.mixedA 35 [.go 0, .go 1, .go 2, .go 3, .go 4, .go 5, .go 6, .go 7, .go 8, .go 9, .go 10, .go 11, .go 12, .go 13] ?_)
    | (refine nxX ?_)
    | (refine G.condN rfl (fun hc => ?_) (fun hc => ?_) <;> (try first | exact False.elim hc | (exfalso; omega))))
      exact X.again ((kn : Int) - 1) (by omega) (by omega) ⟨rfl, rfl, rfl, trivial⟩ (fun w h => e3 ▸ h)
    · repeat' (first
    | (refine nxV ?_)
    | (show RS _ _ _ _ _ _ _ _; first | (refine nxRS ?_) | (refine nxRS1 fun _ => ?_))
    | (show RM _ _ _ _ _ _ _ _ _ _; first | (refine nxRM ?_) | (refine nxRM1 fun _ => ?_))
    | (refine nxG ?_)
    | (refine G.mixedA 5 [.go 0, .go 1, .go 2, .go 3, .go 4, .go 5, .go 6, .go 7, .go 8, .go 9, .go 10] ?_)
    | (refine G.mixedA 11 [.go 0, .go 1, .go 2, .go 3, .go 4, .go 5, .go 6, .go 7, .go 8, .go 9, .go 10, .go 11, .go 12, .go 13, .go 14, .go 15, .go 16, .go 17] ?_)
    | (refine G.mixedA 17 [.go 0, .go 1, .go 2, .go 3, .go 4, .go 5, .go 6, .go 7, .go 8, .go 9, .go 10, .go 11] ?_)
    | (refine G.mixedA 23 [.go 0, .go 1, .go 2, .go 3, .go 4, .go 5, .go 6, .go 7, .go 8, .go 9, .go 10, .go 11, .go 12, .go 13, .go 14, .go 15, .go 16, .go 17] ?_)
    | (refine G.mixedA 35 [.go 0, .go 1, .go 2, .go 3, .go 4, .go 5, .go 6, .go 7, .go 8, .go 9, .go 10, .go 11, .go 12, .go 13] ?_)
    | (refine nxX ?_)
    | (refine G.condN rfl (fun hc => ?_) (fun hc => ?_) <;> (try first | exact False.elim hc | (exfalso; omega))))
      refine X.retZ rfl (fun w hw => ?_)
      rw [show kn = i by omega] at hw
      exact ⟨_, hdone, rfl, hw⟩
end Go.Proofs.YtaglecidaedjfaaDoor
