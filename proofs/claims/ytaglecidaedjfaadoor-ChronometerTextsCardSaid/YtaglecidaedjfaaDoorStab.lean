/- slices.SortStableFunc at ints: its inner functions. -/
import Derived.Test.YtaglecidaedjfaaDoorTys
import Derived.Test.YtaglecidaedjfaaDoorRowSt
import Derived.Test.YtaglecidaedjfaaDoorContU
import Derived.Test.YtaglecidaedjfaaDoorSym
set_option linter.unusedVariables false
set_option maxHeartbeats 4000000
namespace Go.Proofs.YtaglecidaedjfaaDoor
open Go.RowKit

theorem X.endN {P : Program} {n : Nat} {L : FL} {w0 : World} {H : List Hl} {fn : Func} {R : Ending → World → Prop} (hf : fn.results = #[]) (h : ∀ w, St w0 H w → R (.returned (.tuple #[])) w) : X (bodyPost P fn R) n L w0 H .normal := by
  have h1 := X.ret (P := P) (n := n) (L := L) (w0 := w0) (H := H) (fn := fn) (R := R) (rs := []) (vs := []) hf rfl rfl h
  unfold X at h1 ⊢
  exact h1
abbrev rwI (v : Sl) (l : List Int) : Hl := Hl.rw v.v 3 cI 1 l
theorem nth_gt0 (l : List Int) (m : Int) : nth l m = gt0 l m.toNat := rfl
theorem swapRange_c (v : Sl) (l : List Int) (fv : Value) {a b n : Nat} {A B N : Int} (hA : A = a) (hB : B = b) (hN : N = n) (hl : l.length ≤ 1000) (h : a + n ≤ b ∧ b + n ≤ l.length) :
    ContU Tryd.prog (rwI v l) 143 [v.v, .int .i64 A, .int .i64 B, .int .i64 N, fv] (fun _ : Unit => True) (fun _ => .tuple #[]) (fun _ => [rwI v (swapR l a b n)]) := fun w0 HR w hw => by
  refine enterU Tryd.func143 rfl rfl rfl hw ?_
  repeat' (first
    | (refine nxV ?_)
    | (show RS _ _ _ _ _ _ _ _; first | (refine nxRS ?_) | (refine nxRS1 fun _ => ?_))
    | (show RM _ _ _ _ _ _ _ _ _ _; first | (refine nxRM ?_) | (refine nxRM1 fun _ => ?_))
    | (refine nxG ?_)
    | (refine G.mixedA 3 [.go 0, .go 1, .go 2, .go 3, .go 4, .go 5, .go 6, .go 7, .go 8, .go 9, .go 10, .go 11, .go 12, .go 13, .go 14, .go 15, .go 16, .go 17, .go 18, .go 19, .go 20, .go 21, .go 22, .go 23] ?_)
    | (refine nxX ?_)
    | (refine G.condN rfl (fun hc => ?_) (fun hc => ?_) <;> (try first | exact False.elim hc | (exfalso; omega))))
  refine G.loop (ι := Nat) (fun k => [(0, v.v), (1, .int .i64 A), (2, .int .i64 B), (3, .int .i64 N), (10, .int .i64 (k : Int))]) (fun k => rwI v (swapR l a b k) :: HR) (fun k => k ≤ n) (fun k => n - k) 0 (Nat.zero_le _) ⟨rfl, rfl, rfl, rfl, rfl, trivial⟩ (fun w h => h) ?_
  rintro k mx g1 hmx
  have hlen := swapR_len l a b k
  rcases Nat.lt_or_ge k n with hk | hk
  · have e : ((swapR l a b k).set (A + (k : Int)).toNat (nth (swapR l a b k) (B + (k : Int)))).set (B + (k : Int)).toNat (nth (swapR l a b k) (A + (k : Int))) = swapR l a b (k + 1) := by
      rw [nth_gt0, nth_gt0, show (A + (k : Int)).toNat = a + k by omega, show (B + (k : Int)).toNat = b + k by omega]; rfl
    generalize hcur : swapR l a b k = cur at hlen e
    repeat' (first
    | (show RF _ _ _ _ _ _ _ _ _; refine RF.storeI (ls := cur) (b := nth cur (B + (k : Int))) (by rfl) (by rfl) (by rfl) (by exact updA) (by omega) (by decide +kernel) (by decide +kernel) ?_)
    | (show RF _ _ _ _ _ _ _ _ _; refine RF.storeI (ls := cur.set (A + (k : Int)).toNat (nth cur (B + (k : Int)))) (b := nth cur (A + (k : Int))) (by rfl) (by rfl) (by rfl) (by exact updA) (by rw [List.length_set]; omega) (by decide +kernel) (by decide +kernel) ?_)
    | (refine G.mixedFH 3 [.go 0, .go 1, .go 2, .go 3, .go 4, .go 5, .go 6, .go 7, .go 8, .go 9, .go 10, .go 11, .go 12, .go 13, .go 14, .go 15, .go 16, .go 17, .go 18, .go 19, .go 20, .go 21, .go 22, .go 23] ?_)
    | (refine nxRF ?_)
    | (refine nxVF ?_)
    | (refine nxV ?_)
    | (show RS _ _ _ _ _ _ _ _; first | (refine nxRS ?_) | (refine nxRS1 fun _ => ?_))
    | (show RM _ _ _ _ _ _ _ _ _ _; first | (refine nxRM ?_) | (refine nxRM1 fun _ => ?_))
    | (refine nxG ?_)
    | (refine nxX ?_)
    | (refine G.condN rfl (fun hc => ?_) (fun hc => ?_) <;> (try first | exact False.elim hc | (exfalso; omega))))
    exact X.again (k + 1) (by omega) (by omega) ⟨rfl, rfl, rfl, rfl, rfl, trivial⟩ (fun w h => e ▸ h)
  · obtain rfl : k = n := by omega
    repeat' (first
    | (refine nxV ?_)
    | (show RS _ _ _ _ _ _ _ _; first | (refine nxRS ?_) | (refine nxRS1 fun _ => ?_))
    | (show RM _ _ _ _ _ _ _ _ _ _; first | (refine nxRM ?_) | (refine nxRM1 fun _ => ?_))
    | (refine nxG ?_)
    | (refine G.mixedA 3 [.go 0, .go 1, .go 2, .go 3, .go 4, .go 5, .go 6, .go 7, .go 8, .go 9, .go 10, .go 11, .go 12, .go 13, .go 14, .go 15, .go 16, .go 17, .go 18, .go 19, .go 20, .go 21, .go 22, .go 23] ?_)
    | (refine nxX ?_)
    | (refine G.condN rfl (fun hc => ?_) (fun hc => ?_) <;> (try first | exact False.elim hc | (exfalso; omega))))
    refine X.endN rfl (fun w hw => ?_)
    exact ⟨(), trivial, rfl, hw⟩

theorem rotate_c (v : Sl) (l : List Int) (fv : Value) {a m b : Nat} {A M B : Int} (hA : A = a) (hM : M = m) (hB : B = b) (hl : l.length ≤ 1000) (h : a < m ∧ m < b ∧ b ≤ l.length) :
    ContU Tryd.prog (rwI v l) 118 [v.v, .int .i64 A, .int .i64 M, .int .i64 B, fv] (fun _ : Unit => True) (fun _ => .tuple #[]) (fun _ => [rwI v (rotL l a m b)]) := fun w0 HR w hw => by
  subst hA hM hB
  refine enterU Tryd.func118 rfl rfl rfl hw ?_
  repeat' (first
    | (refine nxV ?_)
    | (show RS _ _ _ _ _ _ _ _; first | (refine nxRS ?_) | (refine nxRS1 fun _ => ?_))
    | (show RM _ _ _ _ _ _ _ _ _ _; first | (refine nxRM ?_) | (refine nxRM1 fun _ => ?_))
    | (refine nxG ?_)
    | (refine nxX ?_)
    | (refine G.condN rfl (fun hc => ?_) (fun hc => ?_) <;> (try first | exact False.elim hc | (exfalso; omega))))
  refine G.loop (ι := (Int × Int) × List Int) (fun x => [(0, v.v), (2, .int .i64 (m : Int)), (4, fv), (10, .int .i64 x.1.1), (11, .int .i64 x.1.2)]) (fun x => rwI v x.2 :: HR) (fun x => (0 < x.1.1 ∧ x.1.1 ≤ m) ∧ (0 < x.1.2 ∧ m + x.1.2 ≤ l.length) ∧ x.2.length = l.length ∧ rotL x.2 (m - x.1.1.toNat) m (m + x.1.2.toNat) = rotL l a m b) (fun x => x.1.1.toNat + x.1.2.toNat) (((m : Int) - a, (b : Int) - m), l) ⟨by dsimp only; omega, by dsimp only; omega, rfl, by dsimp only; rw [show m - ((m : Int) - a).toNat = a by omega, show m + ((b : Int) - m).toNat = b by omega]⟩ ⟨rfl, rfl, rfl, rfl, rfl, trivial⟩ (fun w h => h) ?_
  rintro ⟨⟨I, J⟩, ds⟩ mx ⟨g1, g2, g3, g4⟩ hmx
  dsimp only at g1 g2 g3 g4 hmx ⊢
  obtain ⟨i, hi⟩ : ∃ i : Nat, I = i := ⟨I.toNat, by omega⟩
  obtain ⟨j, hj⟩ : ∃ j : Nat, J = j := ⟨J.toNat, by omega⟩
  have gi : I.toNat = i := by omega
  have gj : J.toNat = j := by omega
  rw [gi, gj] at g4
  have hml : m + j ≤ l.length := by omega
  rcases Int.lt_trichotomy I J with hc0 | hc0 | hc0
  · have q1 := swapRange_c v ds fv (a := m - i) (b := m + j - i) (n := i) (A := (m : Int) - I) (B := (m : Int) + J - I) (N := I) (by omega) (by omega) (by omega) (by omega) (by omega)
    have e := rot_lt (l := ds) (m := m) (i := i) (j := j) (by omega) (by omega)
    have hsl := swapR_len ds (m - i) (m + j - i) i
    generalize swapR ds (m - i) (m + j - i) i = es at q1 e hsl
    repeat' (first
    | (refine RS.callU q1 ⟨rfl, rfl, rfl, rfl, rfl, rfl⟩ ?_; rintro z _; dsimp only [List.cons_append, List.nil_append])
    | (refine nxV ?_)
    | (show RS _ _ _ _ _ _ _ _; first | (refine nxRS ?_) | (refine nxRS1 fun _ => ?_))
    | (show RM _ _ _ _ _ _ _ _ _ _; first | (refine nxRM ?_) | (refine nxRM1 fun _ => ?_))
    | (refine nxG ?_)
    | (refine nxX ?_)
    | (refine G.condN rfl (fun hc => ?_) (fun hc => ?_) <;> (try first | exact False.elim hc | (exfalso; omega))))
    exact X.again ((I, J - I), es) ⟨g1, by dsimp only; omega, by dsimp only; omega, by dsimp only; rw [gi, show (J - I).toNat = j - i by omega, e, g4]⟩ (by dsimp only; omega) ⟨rfl, rfl, rfl, rfl, rfl, trivial⟩ (fun w h => h)
  · have q1 := swapRange_c v ds fv (a := m - i) (b := m) (n := i) (A := (m : Int) - I) (B := (m : Int)) (N := I) (by omega) rfl (by omega) (by omega) (by omega)
    have e := rot_eq (l := ds) (m := m) (i := i) (by omega)
    rw [e, show m + i = m + j by omega, g4] at q1
    repeat' (first
    | (refine RS.callU q1 ⟨rfl, rfl, rfl, rfl, rfl, rfl⟩ ?_; rintro z _; dsimp only [List.cons_append, List.nil_append])
    | (refine nxV ?_)
    | (show RS _ _ _ _ _ _ _ _; first | (refine nxRS ?_) | (refine nxRS1 fun _ => ?_))
    | (show RM _ _ _ _ _ _ _ _ _ _; first | (refine nxRM ?_) | (refine nxRM1 fun _ => ?_))
    | (refine nxG ?_)
    | (refine nxX ?_)
    | (refine G.condN rfl (fun hc => ?_) (fun hc => ?_) <;> (try first | exact False.elim hc | (exfalso; omega))))
    refine X.endN rfl (fun w hw => ?_)
    exact ⟨(), trivial, rfl, hw⟩
  · have q1 := swapRange_c v ds fv (a := m - i) (b := m) (n := j) (A := (m : Int) - I) (B := (m : Int)) (N := J) (by omega) rfl (by omega) (by omega) (by omega)
    have e := rot_gt (l := ds) (m := m) (i := i) (j := j) (by omega) (by omega)
    have hsl := swapR_len ds (m - i) m j
    generalize swapR ds (m - i) m j = es at q1 e hsl
    repeat' (first
    | (refine RS.callU q1 ⟨rfl, rfl, rfl, rfl, rfl, rfl⟩ ?_; rintro z _; dsimp only [List.cons_append, List.nil_append])
    | (refine nxV ?_)
    | (show RS _ _ _ _ _ _ _ _; first | (refine nxRS ?_) | (refine nxRS1 fun _ => ?_))
    | (show RM _ _ _ _ _ _ _ _ _ _; first | (refine nxRM ?_) | (refine nxRM1 fun _ => ?_))
    | (refine nxG ?_)
    | (refine nxX ?_)
    | (refine G.condN rfl (fun hc => ?_) (fun hc => ?_) <;> (try first | exact False.elim hc | (exfalso; omega))))
    exact X.again ((I - J, J), es) ⟨by dsimp only; omega, g2, by dsimp only; omega, by dsimp only; rw [gj, show (I - J).toNat = i - j by omega, show m - (i - j) = m - i + j by omega, e, g4]⟩ (by dsimp only; omega) ⟨rfl, rfl, rfl, rfl, rfl, trivial⟩ (fun w h => h)
def cmpI (a b : Int) : Int := if a < b then -1 else if b < a then 1 else 0
theorem cmpI_neg {a b : Int} : cmpI a b < 0 ↔ a < b := by
  unfold cmpI; split
  · constructor <;> omega
  · split <;> constructor <;> omega
/-- A comparing function of two ints from 0 to before N, by a number of each. -/
structure CmpOk (C : World → Prop) (f : FuncId) (cap : List Value) (mg : Int → Int) (N : Int) : Prop where
  go : isGo Tryd.prog f = true
  cmp : ∀ x y : Int, 0 ≤ x → x < N → 0 ≤ y → y < N → ContIn Tryd.prog C f ([.int .i64 x, .int .i64 y] ++ (cap.toArray).toList) (.int .i64 (cmpI (mg x) (mg y)))
abbrev cmpV (f : FuncId) (cap : List Value) : Value := .func (.func f) #[] cap.toArray
abbrev inN (N : Int) (l : List Int) : Prop := ∀ x ∈ l, 0 ≤ x ∧ x < N
theorem nth_inN {N : Int} {l : List Int} (h : inN N l) {m : Int} (hm : 0 ≤ m ∧ m < l.length) : 0 ≤ nth l m ∧ nth l m < N := h _ (List.mem_of_getElem? (nth_some hm.1 hm.2))
theorem insertion_c {C : World → Prop} {f : FuncId} {cap : List Value} {mg : Int → Int} {N : Int} (K : CmpOk C f cap mg N) (v : Sl) (l : List Int) (hin : inN N l) {a b : Nat} {A B : Int} (hA : A = a) (hB : B = b) (h : a ≤ b ∧ b ≤ l.length ∧ l.length ≤ 1000) (ha : ascL l a b) :
    ContC Tryd.prog C (rwI v l) 96 [v.v, .int .i64 A, .int .i64 B, cmpV f cap] (fun z : List Int => DoneS mg l z a b) (fun _ => .tuple #[]) (fun z => [rwI v z]) := fun w0 HR hC w hw => by
  subst hA hB
  refine enterU Tryd.func96 rfl rfl rfl hw ?_
  repeat' (first
    | (refine nxV ?_)
    | (show RS _ _ _ _ _ _ _ _; first | (refine nxRS ?_) | (refine nxRS1 fun _ => ?_))
    | (show RM _ _ _ _ _ _ _ _ _ _; first | (refine nxRM ?_) | (refine nxRM1 fun _ => ?_))
    | (refine nxG ?_)
    | (refine G.mixedA 4 [.go 0, .go 1, .go 2, .go 3, .go 4, .go 5, .go 6, .go 7, .go 8, .go 9, .go 10, .go 11, .go 12, .go 13, .go 14, .go 15, .go 16] ?_)
    | (refine G.mixedA 6 [.go 0, .go 1, .go 2, .go 3, .go 4, .go 5, .go 6, .go 7, .go 8, .go 9, .go 10, .go 11, .go 12, .go 13, .go 14, .go 15, .go 16, .go 17] ?_)
    | (refine nxX ?_)
    | (refine G.condN rfl (fun hc => ?_) (fun hc => ?_) <;> (try first | exact False.elim hc | (exfalso; omega))))
  refine G.loop (ι := Int × List Int) (fun x => [(0, v.v), (1, .int .i64 (a : Int)), (2, .int .i64 (b : Int)), (3, cmpV f cap), (8, .int .i64 x.1)]) (fun x => rwI v x.2 :: HR) (fun x => ((a : Int) + 1 ≤ x.1 ∧ (x.1 ≤ b ∨ x.1 = a + 1)) ∧ DoneS mg l x.2 a x.1.toNat) (fun x => b - x.1.toNat) ((a : Int) + 1, l) ⟨⟨Int.le_refl _, .inr rfl⟩, done_refl (by dsimp only; omega)⟩ ⟨rfl, rfl, rfl, rfl, rfl, trivial⟩ (fun w h => h) ?_
  rintro ⟨I, li⟩ mx ⟨g1, g2⟩ hmx
  dsimp only at g1 g2 hmx ⊢
  have hlen := g2.len
  obtain ⟨i, hi⟩ : ∃ i : Nat, I = i := ⟨I.toNat, by omega⟩
  have gi : I.toNat = i := by omega
  rw [gi] at g2
  by_cases hib : I < b
  · have hh := ins_half g2 (fun p q h1 h2 h3 => ha p q h1 h2 (by omega)) (by omega)
    repeat' (first
    | (refine nxV ?_)
    | (show RS _ _ _ _ _ _ _ _; first | (refine nxRS ?_) | (refine nxRS1 fun _ => ?_))
    | (show RM _ _ _ _ _ _ _ _ _ _; first | (refine nxRM ?_) | (refine nxRM1 fun _ => ?_))
    | (refine nxG ?_)
    | (refine G.mixedA 4 [.go 0, .go 1, .go 2, .go 3, .go 4, .go 5, .go 6, .go 7, .go 8, .go 9, .go 10, .go 11, .go 12, .go 13, .go 14, .go 15, .go 16] ?_)
    | (refine G.mixedA 6 [.go 0, .go 1, .go 2, .go 3, .go 4, .go 5, .go 6, .go 7, .go 8, .go 9, .go 10, .go 11, .go 12, .go 13, .go 14, .go 15, .go 16, .go 17] ?_)
    | (refine nxX ?_)
    | (refine G.condN rfl (fun hc => ?_) (fun hc => ?_) <;> (try first | exact False.elim hc | (exfalso; omega))))
    refine G.loop (ι := Int) (fun J => [(0, v.v), (1, .int .i64 (a : Int)), (2, .int .i64 (b : Int)), (3, cmpV f cap), (8, .int .i64 I), (9, .int .i64 J)]) (fun J => rwI v (rotL li J.toNat i (i + 1)) :: HR) (fun J => ((a : Int) ≤ J ∧ J ≤ I) ∧ ∀ q : Nat, J.toNat ≤ q → q < i → lexLt mg (gt0 li i) (gt0 li q)) (fun J => J.toNat) I ⟨by omega, fun q h1 h2 => by omega⟩ ⟨rfl, rfl, rfl, rfl, rfl, rfl, trivial⟩ (fun w h => by rw [gi, (rotL_same (l := li) (by omega)).1]; exact h) ?_
    rintro J my ⟨k1, k2⟩ hmy
    obtain ⟨j, hj⟩ : ∃ j : Nat, J = j := ⟨J.toNat, by omega⟩
    have gj : J.toNat = j := by omega
    rw [gj] at k2 ⊢
    have hb3 : j ≤ i ∧ i ≤ i + 1 ∧ i + 1 ≤ li.length := by omega
    have hrl := rotL_len hb3
    have e1 : nth (rotL li j i (i + 1)) J = gt0 li i := by
      rw [nth_gt0, gj, gt0_rot hb3, if_neg (by omega), if_pos (by omega), show j - j + i = i by omega]
    have e2 : a < j → nth (rotL li j i (i + 1)) (J - 1) = gt0 li (j - 1) := fun h => by
      rw [nth_gt0, show (J - 1).toNat = j - 1 by omega, gt0_rot hb3, if_pos (by omega)]
    have hin2 : inN N (rotL li j i (i + 1)) := fun x hx => hin x ((g2.perm).mem_iff.1 ((rotL_perm hb3).mem_iff.1 hx))
    have e3 : a < j → ((rotL li j i (i + 1)).set J.toNat (nth (rotL li j i (i + 1)) (J - 1))).set (J - 1).toNat (nth (rotL li j i (i + 1)) J) = rotL li (J - 1).toNat i (i + 1) := fun h => by
      rw [show (J - 1).toNat = j - 1 by omega, ← rot_down (l := li) (m := i) (k := j) (by omega), nth_gt0, nth_gt0, gj, show (J - 1).toNat = j - 1 by omega]; rfl
    have q1 : (a : Int) < J → ContIn Tryd.prog C f ([.int .i64 (nth (rotL li j i (i + 1)) J), .int .i64 (nth (rotL li j i (i + 1)) (J - 1))] ++ (cap.toArray).toList) (.int .i64 (cmpI (mg (nth (rotL li j i (i + 1)) J)) (mg (nth (rotL li j i (i + 1)) (J - 1))))) := fun h => by
      have x1 := nth_inN hin2 (m := J) (by omega)
      have x2 := nth_inN hin2 (m := J - 1) (by omega)
      exact K.cmp _ _ x1.1 x1.2 x2.1 x2.2
    generalize hcur : rotL li j i (i + 1) = cur at hrl e1 e2 hin2 e3 q1
    repeat' (first
    | (show YG _ _ _ _ _ _ ⟨_, .call _, _, _, _, _⟩ _; refine YG.mk (fun hb => by have hb2 := of_decide_eq_true hb; rw [hb]; exact y_callV (f := f) (by rfl) (q1 hb2) (fun w hw => hC w (hw.sub (List.sublist_cons_self _ _))) ⟨rfl, rfl, rfl⟩ K.go) ?_)
    | (show RF _ _ _ _ _ _ _ _ _; refine RF.storeI (ls := cur) (b := nth cur (J - 1)) (by rfl) (by rfl) (by rfl) (by exact updA) (by omega) (by decide +kernel) (by decide +kernel) ?_)
    | (show RF _ _ _ _ _ _ _ _ _; refine RF.storeI (ls := cur.set J.toNat (nth cur (J - 1))) (b := nth cur J) (by rfl) (by rfl) (by rfl) (by exact updA) (by rw [List.length_set]; omega) (by decide +kernel) (by decide +kernel) ?_)
    | (refine G.mixedFH 6 [.go 0, .go 1, .go 2, .go 3, .go 4, .go 5, .go 6, .go 7, .go 8, .go 9, .go 10, .go 11, .go 12, .go 13, .go 14, .go 15, .go 16, .go 17] ?_)
    | (refine nxRF ?_)
    | (refine nxVF ?_)
    | (refine nxV ?_)
    | (show RS _ _ _ _ _ _ _ _; first | (refine nxRS ?_) | (refine nxRS1 fun _ => ?_))
    | (show RM _ _ _ _ _ _ _ _ _ _; first | (refine nxRM ?_) | (refine nxRM1 fun _ => ?_))
    | (refine nxG ?_)
    | (refine G.mixedA 4 [.go 0, .go 1, .go 2, .go 3, .go 4, .go 5, .go 6, .go 7, .go 8, .go 9, .go 10, .go 11, .go 12, .go 13, .go 14, .go 15, .go 16] ?_)
    | (refine nxX ?_)
    | (refine G.condN rfl (fun hc => ?_) (fun hc => ?_) <;> (try first | exact False.elim hc | (exfalso; omega))))
    · refine X.again (J - 1) ⟨by omega, fun q h1 h2 => ?_⟩ (by omega) ⟨rfl, rfl, rfl, rfl, rfl, rfl, trivial⟩ (fun w h => e3 (by omega) ▸ h)
      by_cases hq : q = j - 1
      · subst hq
        have h3 := cmpI_neg.1 hc.2
        rw [e1, e2 (by omega)] at h3
        exact (lexLt_lt (hh.idx (j - 1) i (by omega) (by omega) (Nat.le_refl _) (by omega))).1 h3
      · exact k2 q (by omega) h2
    · have hd := done_right1 (i := j) hh (by omega) (fun q h1 h2 => ?_) k2
      · refine X.again (I + 1, rotL li j i (i + 1)) ⟨by dsimp only; omega, by dsimp only; rw [show (I + 1).toNat = i + 1 by omega]; exact done_trans g2 hd (by omega)⟩ (by dsimp only; omega) ⟨rfl, rfl, rfl, rfl, rfl, trivial⟩ (fun w h => hcur ▸ h)
      · have h3 : ¬ (mg (gt0 li i) < mg (gt0 li (j - 1))) := fun h4 => by
          rw [← e1, ← e2 (by omega)] at h4
          have := cmpI_neg.2 h4
          omega
        have h4 := (lexLt_not (hh.idx (j - 1) i (by omega) (by omega) (Nat.le_refl _) (by omega))).1 h3
        by_cases hq : q = j - 1
        · rw [hq]; exact h4
        · exact lexLt_trans (hh.left q (j - 1) h1 (by omega) (by omega)) h4
  · repeat' (first
    | (refine nxV ?_)
    | (show RS _ _ _ _ _ _ _ _; first | (refine nxRS ?_) | (refine nxRS1 fun _ => ?_))
    | (show RM _ _ _ _ _ _ _ _ _ _; first | (refine nxRM ?_) | (refine nxRM1 fun _ => ?_))
    | (refine nxG ?_)
    | (refine G.mixedA 4 [.go 0, .go 1, .go 2, .go 3, .go 4, .go 5, .go 6, .go 7, .go 8, .go 9, .go 10, .go 11, .go 12, .go 13, .go 14, .go 15, .go 16] ?_)
    | (refine G.mixedA 6 [.go 0, .go 1, .go 2, .go 3, .go 4, .go 5, .go 6, .go 7, .go 8, .go 9, .go 10, .go 11, .go 12, .go 13, .go 14, .go 15, .go 16, .go 17] ?_)
    | (refine nxX ?_)
    | (refine G.condN rfl (fun hc => ?_) (fun hc => ?_) <;> (try first | exact False.elim hc | (exfalso; omega))))
    refine X.endN rfl (fun w hw => ?_)
    refine ⟨li, ?_, rfl, hw⟩
    by_cases hab : a < b
    · rw [show b = i by omega]; exact g2
    · obtain rfl : b = a := by omega
      have h0 : i = b + 1 := by omega
      have := half_done (l := li) (mg := mg) (a := b) (m := b) (b := b) ⟨by omega, fun p q h1 h2 h3 => by omega, fun p q h1 h2 h3 => by omega, fun p q h1 h2 h3 h4 => by omega⟩ (.inl rfl)
      refine ⟨g2.perm, fun p hp => ?_, fun p h1 h2 => by omega, fun p q h1 h2 h3 => by omega⟩
      by_cases hp2 : p = b
      · obtain ⟨q, q1, q2, q3⟩ := g2.from_ p (by omega) (by omega)
        rw [q3, show q = p by omega]
      · exact g2.out p (by omega)
end Go.Proofs.YtaglecidaedjfaaDoor
