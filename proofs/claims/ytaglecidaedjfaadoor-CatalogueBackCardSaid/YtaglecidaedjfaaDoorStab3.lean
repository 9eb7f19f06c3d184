/- slices.SortStableFunc at ints: symMerge whole, stableCmpFunc, SortStableFunc. -/
import Derived.Test.YtaglecidaedjfaaDoorStab2
set_option linter.unusedVariables false
set_option maxHeartbeats 4000000
namespace Go.Proofs.YtaglecidaedjfaaDoor
open Go.RowKit

abbrev SmC (C : World → Prop) (f : FuncId) (cap : List Value) (mg : Int → Int) (v : Sl) (l : List Int) (A M B : Int) (a b : Nat) : Prop :=
  ContC Tryd.prog C (rwI v l) 97 [v.v, .int .i64 A, .int .i64 M, .int .i64 B, cmpV f cap] (fun z : List Int => DoneS mg l z a b) (fun _ => .tuple #[]) (fun z => [rwI v z])
/-- Behind the search: the inner parts exchanged, and both halves merged. -/
structure Tail (C : World → Prop) (f : FuncId) (cap : List Value) (mg : Int → Int) (v : Sl) (l l1 : List Int) (S MID E B A : Int) (a mid b : Nat) : Prop where
  r1 : A < S → S < MID → SmC C f cap mg v l1 A S MID a mid
  r2 : ∀ z, DoneS mg l1 z a mid → MID < E → E < B → SmC C f cap mg v z MID E B mid b
  n1 : ¬ (A < S ∧ S < MID) → DoneS mg l1 l1 a mid
  n2 : ∀ z, DoneS mg l1 z a mid → ¬ (MID < E ∧ E < B) → DoneS mg z z mid b
  fin : ∀ z1 z2, DoneS mg l1 z1 a mid → DoneS mg z1 z2 mid b → DoneS mg l z2 a b
theorem tail_of {C : World → Prop} {f : FuncId} {cap : List Value} {mg : Int → Int} {N : Int} {v : Sl} {l l1 : List Int} {a m b s mid n : Nat} (hin : inN N l) (hl : l.length ≤ 1000) (h : Half mg l a m b) (ham : a < m ∧ m < b) (hmid : mid = (a + b) / 2) (hn : n = mid + m) (hs : (a ≤ s ∧ s ≤ m ∧ m ≤ n - s ∧ n - s ≤ b) ∧ s + (n - s) = mid + m)
    (c1 : ∀ i j : Nat, a ≤ i → i < s → n - s ≤ j → j < b → lexLt mg (gt0 l i) (gt0 l j)) (c2 : ∀ i j : Nat, s ≤ i → i < m → m ≤ j → j < n - s → lexLt mg (gt0 l j) (gt0 l i)) (e1 : l1 = rotL l s m (n - s))
    (hrec : ∀ (l' : List Int) (a' m' b' : Nat), inN N l' → l'.length ≤ 1000 → Half mg l' a' m' b' → a' < m' → m' < b' → b' - a' < b - a → SmC C f cap mg v l' a' m' b' a' b') :
    Tail C f cap mg v l l1 (s : Int) (mid : Int) ((n - s : Nat) : Int) (b : Int) (a : Int) a mid b := by
  obtain ⟨k1, k2, k3⟩ := half_split h hs.1 hs.2 c1 c2
  have hle := h.le
  have hb3 : s ≤ m ∧ m ≤ n - s ∧ n - s ≤ l.length := by omega
  rw [← e1] at k1 k2 k3
  have hin1 : inN N l1 := fun x hx => hin x ((rotL_perm hb3).mem_iff.1 (e1 ▸ hx))
  have hl1 : l1.length ≤ 1000 := by rw [e1, rotL_len hb3]; exact hl
  refine ⟨fun h1 h2 => hrec l1 a s mid hin1 hl1 k1 (by omega) (by omega) (by omega), fun z hz h1 h2 => ?_, fun h1 => half_done k1 (by have := k1.le; omega), fun z hz h1 => ?_, fun z1 z2 d1 d2 => done_join h hs.1 hs.2 e1 k3 d1 d2⟩
  · exact hrec z mid (n - s) b (fun x hx => hin1 x (hz.perm.mem_iff.1 hx)) (by rw [hz.len]; exact hl1) (half_out k2 hz) (by omega) (by omega) (by omega)
  · exact half_done (half_out k2 hz) (by have := k2.le; omega)
theorem sm_mainA {C : World → Prop} {f : FuncId} {cap : List Value} {mg : Int → Int} {N : Int} (K : CmpOk C f cap mg N) (v : Sl) (l : List Int) (hin : inN N l) {a m b mid : Nat} (hl : l.length ≤ 1000) (ham : a + 1 < m ∧ m + 1 < b) (h : Half mg l a m b) (hmid : mid = (a + b) / 2) (hmm : m > mid)
    (hrec : ∀ (l' : List Int) (a' m' b' : Nat), inN N l' → l'.length ≤ 1000 → Half mg l' a' m' b' → a' < m' → m' < b' → b' - a' < b - a → SmC C f cap mg v l' a' m' b' a' b') : SmC C f cap mg v l a m b a b := fun w0 HR hC w hw => by
  have hle := h.le
  refine enterU Tryd.func97 rfl rfl rfl hw ?_
  repeat' (first
    | (refine nxV ?_)
    | (show RS _ _ _ _ _ _ _ _; first | (refine nxRS ?_) | (refine nxRS1 fun _ => ?_))
    | (show RM _ _ _ _ _ _ _ _ _ _; first | (refine nxRM ?_) | (refine nxRM1 fun _ => ?_))
    | (refine nxG ?_)
    | (refine G.mixedA 5 [.go 0, .go 1, .go 2, .go 3, .go 4, .go 5, .go 6, .go 7, .go 8, .go 9, .go 10] ?_)
    | (refine G.mixedA 11 [.go 0, .go 1, .go 2, .go 3, .go 4, .go 5, .go 6, .go 7, .go 8, .go 9, .go 10, .go 11, .go 12, .go 13, .go 14, .go 15, .go 16, .go 17] ?_)
    | (refine G.mixedA 17 [.go 0, .go 1, .go 2, .go 3, .go 4, .go 5, .go 6, .go 7, .go 8, .go 9, .go 10, .go 11] ?_)
    | (refine G.mixedA 23 [.go 0, .go 1, .go 2, .go 3, .go 4, .go 5, .go 6, .go 7, .go 8, .go 9, .go 10, .go 11, .go 12, .go 13, .go 14, .go 15, .go 16, .go 17] ?_)
    | (refine G.mixedA 35 [.go 0, .go 1, .go 2, .go 3, .go 4, .go 5, .go 6, .go 7, .go 8, .go 9, .go 10, .go 11, .go 12, .go 13] ?_)
    | (refine nxX ?_)
    | (refine G.condN rfl (fun hc => ?_) (fun hc => ?_) <;> (try first | exact False.elim hc | (exfalso; omega))))
  refine G.loop (ι := Int × Int) (fun x => [(0, v.v), (1, .int .i64 (a : Int)), (2, .int .i64 (m : Int)), (3, .int .i64 (b : Int)), (4, cmpV f cap), (18, .int .i64 (((a : Int) + b) / 2)), (19, .int .i64 (((a : Int) + b) / 2 + m)), (20, .int .i64 x.1), (21, .int .i64 x.2), (22, .int .i64 (((a : Int) + b) / 2 + m - 1))]) (fun x => rwI v l :: HR)
    (fun x => (((mid + m - b) : Nat) : Int) ≤ x.1 ∧ x.1 ≤ x.2 ∧ x.2 ≤ (mid : Nat) ∧ (∀ c : Nat, (mid + m - b) ≤ c → (c : Int) < x.1 → lexLt mg (gt0 l c) (gt0 l (mid + m - 1 - c))) ∧ ∀ c : Nat, x.2 ≤ (c : Int) → c < mid → lexLt mg (gt0 l (mid + m - 1 - c)) (gt0 l c)) (fun x => (x.2 - x.1).toNat) (((a : Int) + b) / 2 + m - b, ((a : Int) + b) / 2) ⟨by dsimp only; omega, by dsimp only; omega, by dsimp only; omega, fun c k1 k2 => by dsimp only at k2; omega, fun c k1 k2 => by dsimp only at k1; omega⟩ ⟨rfl, rfl, rfl, rfl, rfl, rfl, rfl, rfl, rfl, rfl, trivial⟩ (fun w h => h) ?_
  rintro ⟨S, R⟩ mx ⟨g1, g2, g3, g4, g5⟩ hmx
  dsimp only at g1 g2 g3 g4 g5 hmx ⊢
  rcases Int.lt_or_le S R with hc0 | hc0
  · have q1 := K_cmp K hin (((a : Int) + b) / 2 + m - 1 - (S + R) / 2) ((S + R) / 2) (by omega) (by omega)
    obtain ⟨c, hcn⟩ : ∃ c : Nat, (S + R) / 2 = c := ⟨((S + R) / 2).toNat, by omega⟩
    have hx : nth l (((a : Int) + b) / 2 + m - 1 - (S + R) / 2) = gt0 l (mid + m - 1 - c) := by rw [nth_gt0]; congr 1; omega
    have hy : nth l ((S + R) / 2) = gt0 l c := by rw [nth_gt0]; congr 1; omega
    have hidx := h.idx c (mid + m - 1 - c) (by omega) (by omega) (by omega) (by omega)
    repeat' (first
    | (show YK _ _ _ _ _ ⟨_, .call _, _, _, _, _⟩ _; refine YK.mk (y_callV (f := f) (by rfl) q1 (fun w hw => hC w (hw.sub (List.sublist_cons_self _ _))) ⟨rfl, rfl, rfl⟩ K.go) ?_)
    | (refine nxV ?_)
    | (show RS _ _ _ _ _ _ _ _; first | (refine nxRS ?_) | (refine nxRS1 fun _ => ?_))
    | (show RM _ _ _ _ _ _ _ _ _ _; first | (refine nxRM ?_) | (refine nxRM1 fun _ => ?_))
    | (refine nxG ?_)
    | (refine G.mixedA 5 [.go 0, .go 1, .go 2, .go 3, .go 4, .go 5, .go 6, .go 7, .go 8, .go 9, .go 10] ?_)
    | (refine G.mixedA 11 [.go 0, .go 1, .go 2, .go 3, .go 4, .go 5, .go 6, .go 7, .go 8, .go 9, .go 10, .go 11, .go 12, .go 13, .go 14, .go 15, .go 16, .go 17] ?_)
    | (refine G.mixedA 17 [.go 0, .go 1, .go 2, .go 3, .go 4, .go 5, .go 6, .go 7, .go 8, .go 9, .go 10, .go 11] ?_)
    | (refine G.mixedA 23 [.go 0, .go 1, .go 2, .go 3, .go 4, .go 5, .go 6, .go 7, .go 8, .go 9, .go 10, .go 11, .go 12, .go 13, .go 14, .go 15, .go 16, .go 17] ?_)
    | (refine G.mixedA 35 [.go 0, .go 1, .go 2, .go 3, .go 4, .go 5, .go 6, .go 7, .go 8, .go 9, .go 10, .go 11, .go 12, .go 13] ?_)
    | (refine nxX ?_)
    | (refine G.condN rfl (fun hc => ?_) (fun hc => ?_) <;> (try first | exact False.elim hc | (exfalso; omega))))
    · have h3 : ¬ (mg (gt0 l (mid + m - 1 - c)) < mg (gt0 l c)) := fun h4 => by
        rw [← hx, ← hy] at h4
        have := cmpI_neg.2 h4
        omega
      have h4 := (lexLt_not hidx).1 h3
      refine X.again ((S + R) / 2 + 1, R) ⟨by dsimp only; omega, by dsimp only; omega, g3, fun q k1 k2 => ?_, g5⟩ (by dsimp only; omega) ⟨rfl, rfl, rfl, rfl, rfl, rfl, rfl, rfl, rfl, rfl, trivial⟩ (fun w h => h)
      dsimp only at k2
      by_cases hq : q = c
      · rw [hq]; exact h4
      · exact lexLt_trans (h.left q c (by omega) (by omega) (by omega)) (lexLt_trans h4 (h.right (mid + m - 1 - c) (mid + m - 1 - q) (by omega) (by omega) (by omega)))
    · have h3 := cmpI_neg.1 hc
      rw [hx, hy] at h3
      have h4 := (lexLt_lt hidx).1 h3
      refine X.again (S, (S + R) / 2) ⟨g1, by dsimp only; omega, by dsimp only; omega, g4, fun q k1 k2 => ?_⟩ (by dsimp only; omega) ⟨rfl, rfl, rfl, rfl, rfl, rfl, rfl, rfl, rfl, rfl, trivial⟩ (fun w h => h)
      dsimp only at k1
      by_cases hq : q = c
      · rw [hq]; exact h4
      · exact lexLt_trans (h.right (mid + m - 1 - q) (mid + m - 1 - c) (by omega) (by omega) (by omega)) (lexLt_trans h4 (h.left c q (by omega) (by omega) (by omega)))
  · obtain rfl : S = R := by omega
    obtain ⟨s, hs⟩ : ∃ s : Nat, S = s := ⟨S.toNat, by omega⟩
    subst hs
    obtain ⟨f1, f2, f3, f4⟩ := search_split h (by omega) hmid (n := mid + m) rfl (.inl ⟨hmm, rfl, rfl⟩) (s := s) (by omega) (fun c k1 k2 => g4 c k1 (by omega)) (fun c k1 k2 => g5 c (by omega) k2)
    have hMid : ((a : Int) + b) / 2 = mid := by omega
    have hE : (mid : Int) + m - s = ((mid + m - s : Nat) : Int) := by omega
    clear g4 g5
    by_cases hrot : (s : Int) < m ∧ (m : Int) < ((mid + m - s : Nat) : Int)
    · have T := tail_of (C := C) (f := f) (cap := cap) (v := v) hin hl h (by omega) hmid rfl ⟨f1, f2⟩ f3 f4 (l1 := rotL l s m (mid + m - s)) rfl hrec
      have qr := rotate_c v l (cmpV f cap) (a := s) (m := m) (b := mid + m - s) (A := (s : Int)) (M := (m : Int)) (B := ((mid + m - s : Nat) : Int)) rfl rfl rfl hl (by omega)
      generalize rotL l s m (mid + m - s) = LL at T qr
      rw [← hE, ← hMid] at T
      rw [← hE, ← hMid] at qr
      clear f3 f4 hrec
      repeat' (first
    | (refine RS.callU qr ⟨rfl, rfl, rfl, rfl, rfl, rfl⟩ ?_; rintro z0 _; dsimp only [List.cons_append, List.nil_append])
    | (refine RS.callC (T.r1 (by omega) (by omega)) ⟨rfl, rfl, rfl, rfl, rfl, rfl⟩ ?_ ?_; exact hC; rintro z1 hz1; dsimp only [List.cons_append, List.nil_append])
    | (refine RS.callC (T.r2 z1 hz1 (by omega) (by omega)) ⟨rfl, rfl, rfl, rfl, rfl, rfl⟩ ?_ ?_; exact hC; rintro z2 hz2; dsimp only [List.cons_append, List.nil_append])
    | (refine RS.callC (T.r2 LL (T.n1 (by omega)) (by omega) (by omega)) ⟨rfl, rfl, rfl, rfl, rfl, rfl⟩ ?_ ?_; exact hC; rintro z2 hz2; dsimp only [List.cons_append, List.nil_append])
    | (refine nxV ?_)
    | (show RS _ _ _ _ _ _ _ _; first | (refine nxRS ?_) | (refine nxRS1 fun _ => ?_))
    | (show RM _ _ _ _ _ _ _ _ _ _; first | (refine nxRM ?_) | (refine nxRM1 fun _ => ?_))
    | (refine nxG ?_)
    | (refine G.mixedA 5 [.go 0, .go 1, .go 2, .go 3, .go 4, .go 5, .go 6, .go 7, .go 8, .go 9, .go 10] ?_)
    | (refine G.mixedA 11 [.go 0, .go 1, .go 2, .go 3, .go 4, .go 5, .go 6, .go 7, .go 8, .go 9, .go 10, .go 11, .go 12, .go 13, .go 14, .go 15, .go 16, .go 17] ?_)
    | (refine G.mixedA 17 [.go 0, .go 1, .go 2, .go 3, .go 4, .go 5, .go 6, .go 7, .go 8, .go 9, .go 10, .go 11] ?_)
    | (refine G.mixedA 23 [.go 0, .go 1, .go 2, .go 3, .go 4, .go 5, .go 6, .go 7, .go 8, .go 9, .go 10, .go 11, .go 12, .go 13, .go 14, .go 15, .go 16, .go 17] ?_)
    | (refine G.mixedA 35 [.go 0, .go 1, .go 2, .go 3, .go 4, .go 5, .go 6, .go 7, .go 8, .go 9, .go 10, .go 11, .go 12, .go 13] ?_)
    | (refine nxX ?_)
    | (refine G.condN rfl (fun hc => ?_) (fun hc => ?_) <;> (try first | exact False.elim hc | (exfalso; omega))))
      all_goals ((first | refine X.endN rfl (fun w hw => ?_) | refine X.retZ rfl (fun w hw => ?_)); first | exact ⟨_, T.fin z1 z2 hz1 hz2, rfl, hw⟩ | exact ⟨_, T.fin z1 z1 hz1 (T.n2 z1 hz1 (by omega)), rfl, hw⟩ | exact ⟨_, T.fin LL z2 (T.n1 (by omega)) hz2, rfl, hw⟩ | exact ⟨_, T.fin LL LL (T.n1 (by omega)) (T.n2 LL (T.n1 (by omega)) (by omega)), rfl, hw⟩)
    · have T := tail_of (C := C) (f := f) (cap := cap) (v := v) hin hl h (by omega) hmid rfl ⟨f1, f2⟩ f3 f4 (l1 := l) (by
        rcases (show s = m ∨ m = mid + m - s by omega) with e | e
        · rw [← e]; exact (rotL_same (by omega)).1.symm
        · conv => rhs; rw [← e]
          exact (rotL_same (by omega)).2.symm) hrec
      rw [← hE, ← hMid] at T
      clear f3 f4 hrec
      repeat' (first
    | (refine RS.callC (T.r1 (by omega) (by omega)) ⟨rfl, rfl, rfl, rfl, rfl, rfl⟩ ?_ ?_; exact hC; rintro z1 hz1; dsimp only [List.cons_append, List.nil_append])
    | (refine RS.callC (T.r2 z1 hz1 (by omega) (by omega)) ⟨rfl, rfl, rfl, rfl, rfl, rfl⟩ ?_ ?_; exact hC; rintro z2 hz2; dsimp only [List.cons_append, List.nil_append])
    | (refine RS.callC (T.r2 l (T.n1 (by omega)) (by omega) (by omega)) ⟨rfl, rfl, rfl, rfl, rfl, rfl⟩ ?_ ?_; exact hC; rintro z2 hz2; dsimp only [List.cons_append, List.nil_append])
    | (refine nxV ?_)
    | (show RS _ _ _ _ _ _ _ _; first | (refine nxRS ?_) | (refine nxRS1 fun _ => ?_))
    | (show RM _ _ _ _ _ _ _ _ _ _; first | (refine nxRM ?_) | (refine nxRM1 fun _ => ?_))
    | (refine nxG ?_)
    | (refine G.mixedA 5 [.go 0, .go 1, .go 2, .go 3, .go 4, .go 5, .go 6, .go 7, .go 8, .go 9, .go 10] ?_)
    | (refine G.mixedA 11 [.go 0, .go 1, .go 2, .go 3, .go 4, .go 5, .go 6, .go 7, .go 8, .go 9, .go 10, .go 11, .go 12, .go 13, .go 14, .go 15, .go 16, .go 17] ?_)
    | (refine G.mixedA 17 [.go 0, .go 1, .go 2, .go 3, .go 4, .go 5, .go 6, .go 7, .go 8, .go 9, .go 10, .go 11] ?_)
    | (refine G.mixedA 23 [.go 0, .go 1, .go 2, .go 3, .go 4, .go 5, .go 6, .go 7, .go 8, .go 9, .go 10, .go 11, .go 12, .go 13, .go 14, .go 15, .go 16, .go 17] ?_)
    | (refine G.mixedA 35 [.go 0, .go 1, .go 2, .go 3, .go 4, .go 5, .go 6, .go 7, .go 8, .go 9, .go 10, .go 11, .go 12, .go 13] ?_)
    | (refine nxX ?_)
    | (refine G.condN rfl (fun hc => ?_) (fun hc => ?_) <;> (try first | exact False.elim hc | (exfalso; omega))))
      all_goals ((first | refine X.endN rfl (fun w hw => ?_) | refine X.retZ rfl (fun w hw => ?_)); first | exact ⟨_, T.fin z1 z2 hz1 hz2, rfl, hw⟩ | exact ⟨_, T.fin z1 z1 hz1 (T.n2 z1 hz1 (by omega)), rfl, hw⟩ | exact ⟨_, T.fin l z2 (T.n1 (by omega)) hz2, rfl, hw⟩ | exact ⟨_, T.fin l l (T.n1 (by omega)) (T.n2 l (T.n1 (by omega)) (by omega)), rfl, hw⟩)
theorem sm_mainB {C : World → Prop} {f : FuncId} {cap : List Value} {mg : Int → Int} {N : Int} (K : CmpOk C f cap mg N) (v : Sl) (l : List Int) (hin : inN N l) {a m b mid : Nat} (hl : l.length ≤ 1000) (ham : a + 1 < m ∧ m + 1 < b) (h : Half mg l a m b) (hmid : mid = (a + b) / 2) (hmm : m ≤ mid)
    (hrec : ∀ (l' : List Int) (a' m' b' : Nat), inN N l' → l'.length ≤ 1000 → Half mg l' a' m' b' → a' < m' → m' < b' → b' - a' < b - a → SmC C f cap mg v l' a' m' b' a' b') : SmC C f cap mg v l a m b a b := fun w0 HR hC w hw => by
  have hle := h.le
  refine enterU Tryd.func97 rfl rfl rfl hw ?_
  repeat' (first
    | (refine nxV ?_)
    | (show RS _ _ _ _ _ _ _ _; first | (refine nxRS ?_) | (refine nxRS1 fun _ => ?_))
    | (show RM _ _ _ _ _ _ _ _ _ _; first | (refine nxRM ?_) | (refine nxRM1 fun _ => ?_))
    | (refine nxG ?_)
    | (refine G.mixedA 5 [.go 0, .go 1, .go 2, .go 3, .go 4, .go 5, .go 6, .go 7, .go 8, .go 9, .go 10] ?_)
    | (refine G.mixedA 11 [.go 0, .go 1, .go 2, .go 3, .go 4, .go 5, .go 6, .go 7, .go 8, .go 9, .go 10, .go 11, .go 12, .go 13, .go 14, .go 15, .go 16, .go 17] ?_)
    | (refine G.mixedA 17 [.go 0, .go 1, .go 2, .go 3, .go 4, .go 5, .go 6, .go 7, .go 8, .go 9, .go 10, .go 11] ?_)
    | (refine G.mixedA 23 [.go 0, .go 1, .go 2, .go 3, .go 4, .go 5, .go 6, .go 7, .go 8, .go 9, .go 10, .go 11, .go 12, .go 13, .go 14, .go 15, .go 16, .go 17] ?_)
    | (refine G.mixedA 35 [.go 0, .go 1, .go 2, .go 3, .go 4, .go 5, .go 6, .go 7, .go 8, .go 9, .go 10, .go 11, .go 12, .go 13] ?_)
    | (refine nxX ?_)
    | (refine G.condN rfl (fun hc => ?_) (fun hc => ?_) <;> (try first | exact False.elim hc | (exfalso; omega))))
  refine G.loop (ι := Int × Int) (fun x => [(0, v.v), (1, .int .i64 (a : Int)), (2, .int .i64 (m : Int)), (3, .int .i64 (b : Int)), (4, cmpV f cap), (18, .int .i64 (((a : Int) + b) / 2)), (19, .int .i64 (((a : Int) + b) / 2 + m)), (20, .int .i64 x.1), (21, .int .i64 x.2), (22, .int .i64 (((a : Int) + b) / 2 + m - 1))]) (fun x => rwI v l :: HR)
    (fun x => ((a : Nat) : Int) ≤ x.1 ∧ x.1 ≤ x.2 ∧ x.2 ≤ (m : Nat) ∧ (∀ c : Nat, a ≤ c → (c : Int) < x.1 → lexLt mg (gt0 l c) (gt0 l (mid + m - 1 - c))) ∧ ∀ c : Nat, x.2 ≤ (c : Int) → c < m → lexLt mg (gt0 l (mid + m - 1 - c)) (gt0 l c)) (fun x => (x.2 - x.1).toNat) ((a : Int), (m : Int)) ⟨by dsimp only; omega, by dsimp only; omega, by dsimp only; omega, fun c k1 k2 => by dsimp only at k2; omega, fun c k1 k2 => by dsimp only at k1; omega⟩ ⟨rfl, rfl, rfl, rfl, rfl, rfl, rfl, rfl, rfl, rfl, trivial⟩ (fun w h => h) ?_
  rintro ⟨S, R⟩ mx ⟨g1, g2, g3, g4, g5⟩ hmx
  dsimp only at g1 g2 g3 g4 g5 hmx ⊢
  rcases Int.lt_or_le S R with hc0 | hc0
  · have q1 := K_cmp K hin (((a : Int) + b) / 2 + m - 1 - (S + R) / 2) ((S + R) / 2) (by omega) (by omega)
    obtain ⟨c, hcn⟩ : ∃ c : Nat, (S + R) / 2 = c := ⟨((S + R) / 2).toNat, by omega⟩
    have hx : nth l (((a : Int) + b) / 2 + m - 1 - (S + R) / 2) = gt0 l (mid + m - 1 - c) := by rw [nth_gt0]; congr 1; omega
    have hy : nth l ((S + R) / 2) = gt0 l c := by rw [nth_gt0]; congr 1; omega
    have hidx := h.idx c (mid + m - 1 - c) (by omega) (by omega) (by omega) (by omega)
    repeat' (first
    | (show YK _ _ _ _ _ ⟨_, .call _, _, _, _, _⟩ _; refine YK.mk (y_callV (f := f) (by rfl) q1 (fun w hw => hC w (hw.sub (List.sublist_cons_self _ _))) ⟨rfl, rfl, rfl⟩ K.go) ?_)
    | (refine nxV ?_)
    | (show RS _ _ _ _ _ _ _ _; first | (refine nxRS ?_) | (refine nxRS1 fun _ => ?_))
    | (show RM _ _ _ _ _ _ _ _ _ _; first | (refine nxRM ?_) | (refine nxRM1 fun _ => ?_))
    | (refine nxG ?_)
    | (refine G.mixedA 5 [.go 0, .go 1, .go 2, .go 3, .go 4, .go 5, .go 6, .go 7, .go 8, .go 9, .go 10] ?_)
    | (refine G.mixedA 11 [.go 0, .go 1, .go 2, .go 3, .go 4, .go 5, .go 6, .go 7, .go 8, .go 9, .go 10, .go 11, .go 12, .go 13, .go 14, .go 15, .go 16, .go 17] ?_)
    | (refine G.mixedA 17 [.go 0, .go 1, .go 2, .go 3, .go 4, .go 5, .go 6, .go 7, .go 8, .go 9, .go 10, .go 11] ?_)
    | (refine G.mixedA 23 [.go 0, .go 1, .go 2, .go 3, .go 4, .go 5, .go 6, .go 7, .go 8, .go 9, .go 10, .go 11, .go 12, .go 13, .go 14, .go 15, .go 16, .go 17] ?_)
    | (refine G.mixedA 35 [.go 0, .go 1, .go 2, .go 3, .go 4, .go 5, .go 6, .go 7, .go 8, .go 9, .go 10, .go 11, .go 12, .go 13] ?_)
    | (refine nxX ?_)
    | (refine G.condN rfl (fun hc => ?_) (fun hc => ?_) <;> (try first | exact False.elim hc | (exfalso; omega))))
    · have h3 : ¬ (mg (gt0 l (mid + m - 1 - c)) < mg (gt0 l c)) := fun h4 => by
        rw [← hx, ← hy] at h4
        have := cmpI_neg.2 h4
        omega
      have h4 := (lexLt_not hidx).1 h3
      refine X.again ((S + R) / 2 + 1, R) ⟨by dsimp only; omega, by dsimp only; omega, g3, fun q k1 k2 => ?_, g5⟩ (by dsimp only; omega) ⟨rfl, rfl, rfl, rfl, rfl, rfl, rfl, rfl, rfl, rfl, trivial⟩ (fun w h => h)
      dsimp only at k2
      by_cases hq : q = c
      · rw [hq]; exact h4
      · exact lexLt_trans (h.left q c (by omega) (by omega) (by omega)) (lexLt_trans h4 (h.right (mid + m - 1 - c) (mid + m - 1 - q) (by omega) (by omega) (by omega)))
    · have h3 := cmpI_neg.1 hc
      rw [hx, hy] at h3
      have h4 := (lexLt_lt hidx).1 h3
      refine X.again (S, (S + R) / 2) ⟨g1, by dsimp only; omega, by dsimp only; omega, g4, fun q k1 k2 => ?_⟩ (by dsimp only; omega) ⟨rfl, rfl, rfl, rfl, rfl, rfl, rfl, rfl, rfl, rfl, trivial⟩ (fun w h => h)
      dsimp only at k1
      by_cases hq : q = c
      · rw [hq]; exact h4
      · exact lexLt_trans (h.right (mid + m - 1 - q) (mid + m - 1 - c) (by omega) (by omega) (by omega)) (lexLt_trans h4 (h.left c q (by omega) (by omega) (by omega)))
  · obtain rfl : S = R := by omega
    obtain ⟨s, hs⟩ : ∃ s : Nat, S = s := ⟨S.toNat, by omega⟩
    subst hs
    obtain ⟨f1, f2, f3, f4⟩ := search_split h (by omega) hmid (n := mid + m) rfl (.inr ⟨hmm, rfl, rfl⟩) (s := s) (by omega) (fun c k1 k2 => g4 c k1 (by omega)) (fun c k1 k2 => g5 c (by omega) k2)
    have hMid : ((a : Int) + b) / 2 = mid := by omega
    have hE : (mid : Int) + m - s = ((mid + m - s : Nat) : Int) := by omega
    clear g4 g5
    by_cases hrot : (s : Int) < m ∧ (m : Int) < ((mid + m - s : Nat) : Int)
    · have T := tail_of (C := C) (f := f) (cap := cap) (v := v) hin hl h (by omega) hmid rfl ⟨f1, f2⟩ f3 f4 (l1 := rotL l s m (mid + m - s)) rfl hrec
      have qr := rotate_c v l (cmpV f cap) (a := s) (m := m) (b := mid + m - s) (A := (s : Int)) (M := (m : Int)) (B := ((mid + m - s : Nat) : Int)) rfl rfl rfl hl (by omega)
      generalize rotL l s m (mid + m - s) = LL at T qr
      rw [← hE, ← hMid] at T
      rw [← hE, ← hMid] at qr
      clear f3 f4 hrec
      repeat' (first
    | (refine RS.callU qr ⟨rfl, rfl, rfl, rfl, rfl, rfl⟩ ?_; rintro z0 _; dsimp only [List.cons_append, List.nil_append])
    | (refine RS.callC (T.r1 (by omega) (by omega)) ⟨rfl, rfl, rfl, rfl, rfl, rfl⟩ ?_ ?_; exact hC; rintro z1 hz1; dsimp only [List.cons_append, List.nil_append])
    | (refine RS.callC (T.r2 z1 hz1 (by omega) (by omega)) ⟨rfl, rfl, rfl, rfl, rfl, rfl⟩ ?_ ?_; exact hC; rintro z2 hz2; dsimp only [List.cons_append, List.nil_append])
    | (refine RS.callC (T.r2 LL (T.n1 (by omega)) (by omega) (by omega)) ⟨rfl, rfl, rfl, rfl, rfl, rfl⟩ ?_ ?_; exact hC; rintro z2 hz2; dsimp only [List.cons_append, List.nil_append])
    | (refine nxV ?_)
    | (show RS _ _ _ _ _ _ _ _; first | (refine nxRS ?_) | (refine nxRS1 fun _ => ?_))
    | (show RM _ _ _ _ _ _ _ _ _ _; first | (refine nxRM ?_) | (refine nxRM1 fun _ => ?_))
    | (refine nxG ?_)
    | (refine G.mixedA 5 [.go 0, .go 1, .go 2, .go 3, .go 4, .go 5, .go 6, .go 7, .go 8, .go 9, .go 10] ?_)
    | (refine G.mixedA 11 [.go 0, .go 1, .go 2, .go 3, .go 4, .go 5, .go 6, .go 7, .go 8, .go 9, .go 10, .go 11, .go 12, .go 13, .go 14, .go 15, .go 16, .go 17] ?_)
    | (refine G.mixedA 17 [.go 0, .go 1, .go 2, .go 3, .go 4, .go 5, .go 6, .go 7, .go 8, .go 9, .go 10, .go 11] ?_)
    | (refine G.mixedA 23 [.go 0, .go 1, .go 2, .go 3, .go 4, .go 5, .go 6, .go 7, .go 8, .go 9, .go 10, .go 11, .go 12, .go 13, .go 14, .go 15, .go 16, .go 17] ?_)
    | (refine G.mixedA 35 [.go 0, .go 1, .go 2, .go 3, .go 4, .go 5, .go 6, .go 7, .go 8, .go 9, .go 10, .go 11, .go 12, .go 13] ?_)
    | (refine nxX ?_)
    | (refine G.condN rfl (fun hc => ?_) (fun hc => ?_) <;> (try first | exact False.elim hc | (exfalso; omega))))
      all_goals ((first | refine X.endN rfl (fun w hw => ?_) | refine X.retZ rfl (fun w hw => ?_)); first | exact ⟨_, T.fin z1 z2 hz1 hz2, rfl, hw⟩ | exact ⟨_, T.fin z1 z1 hz1 (T.n2 z1 hz1 (by omega)), rfl, hw⟩ | exact ⟨_, T.fin LL z2 (T.n1 (by omega)) hz2, rfl, hw⟩ | exact ⟨_, T.fin LL LL (T.n1 (by omega)) (T.n2 LL (T.n1 (by omega)) (by omega)), rfl, hw⟩)
    · have T := tail_of (C := C) (f := f) (cap := cap) (v := v) hin hl h (by omega) hmid rfl ⟨f1, f2⟩ f3 f4 (l1 := l) (by
        rcases (show s = m ∨ m = mid + m - s by omega) with e | e
        · rw [← e]; exact (rotL_same (by omega)).1.symm
        · conv => rhs; rw [← e]
          exact (rotL_same (by omega)).2.symm) hrec
      rw [← hE, ← hMid] at T
      clear f3 f4 hrec
      repeat' (first
    | (refine RS.callC (T.r1 (by omega) (by omega)) ⟨rfl, rfl, rfl, rfl, rfl, rfl⟩ ?_ ?_; exact hC; rintro z1 hz1; dsimp only [List.cons_append, List.nil_append])
    | (refine RS.callC (T.r2 z1 hz1 (by omega) (by omega)) ⟨rfl, rfl, rfl, rfl, rfl, rfl⟩ ?_ ?_; exact hC; rintro z2 hz2; dsimp only [List.cons_append, List.nil_append])
    | (refine RS.callC (T.r2 l (T.n1 (by omega)) (by omega) (by omega)) ⟨rfl, rfl, rfl, rfl, rfl, rfl⟩ ?_ ?_; exact hC; rintro z2 hz2; dsimp only [List.cons_append, List.nil_append])
    | (refine nxV ?_)
    | (show RS _ _ _ _ _ _ _ _; first | (refine nxRS ?_) | (refine nxRS1 fun _ => ?_))
    | (show RM _ _ _ _ _ _ _ _ _ _; first | (refine nxRM ?_) | (refine nxRM1 fun _ => ?_))
    | (refine nxG ?_)
    | (refine G.mixedA 5 [.go 0, .go 1, .go 2, .go 3, .go 4, .go 5, .go 6, .go 7, .go 8, .go 9, .go 10] ?_)
    | (refine G.mixedA 11 [.go 0, .go 1, .go 2, .go 3, .go 4, .go 5, .go 6, .go 7, .go 8, .go 9, .go 10, .go 11, .go 12, .go 13, .go 14, .go 15, .go 16, .go 17] ?_)
    | (refine G.mixedA 17 [.go 0, .go 1, .go 2, .go 3, .go 4, .go 5, .go 6, .go 7, .go 8, .go 9, .go 10, .go 11] ?_)
    | (refine G.mixedA 23 [.go 0, .go 1, .go 2, .go 3, .go 4, .go 5, .go 6, .go 7, .go 8, .go 9, .go 10, .go 11, .go 12, .go 13, .go 14, .go 15, .go 16, .go 17] ?_)
    | (refine G.mixedA 35 [.go 0, .go 1, .go 2, .go 3, .go 4, .go 5, .go 6, .go 7, .go 8, .go 9, .go 10, .go 11, .go 12, .go 13] ?_)
    | (refine nxX ?_)
    | (refine G.condN rfl (fun hc => ?_) (fun hc => ?_) <;> (try first | exact False.elim hc | (exfalso; omega))))
      all_goals ((first | refine X.endN rfl (fun w hw => ?_) | refine X.retZ rfl (fun w hw => ?_)); first | exact ⟨_, T.fin z1 z2 hz1 hz2, rfl, hw⟩ | exact ⟨_, T.fin z1 z1 hz1 (T.n2 z1 hz1 (by omega)), rfl, hw⟩ | exact ⟨_, T.fin l z2 (T.n1 (by omega)) hz2, rfl, hw⟩ | exact ⟨_, T.fin l l (T.n1 (by omega)) (T.n2 l (T.n1 (by omega)) (by omega)), rfl, hw⟩)

theorem symMerge_k {C : World → Prop} {f : FuncId} {cap : List Value} {mg : Int → Int} {N : Int} (K : CmpOk C f cap mg N) (v : Sl) : ∀ (k : Nat) (l : List Int) (a m b : Nat), inN N l → l.length ≤ 1000 → Half mg l a m b → a < m → m < b → b - a ≤ k → SmC C f cap mg v l a m b a b
  | 0, l, a, m, b, _, _, _, h1, h2, hk => by omega
  | k + 1, l, a, m, b, hin, hl, h, h1, h2, hk => by
    by_cases e1 : m = a + 1
    · subst e1
      have := sm_left1 K v l hin hl h
      exact this
    by_cases e2 : b = m + 1
    · subst e2
      have := sm_right1 K v l hin hl (by omega) h
      exact this
    have hrec : ∀ (l' : List Int) (a' m' b' : Nat), inN N l' → l'.length ≤ 1000 → Half mg l' a' m' b' → a' < m' → m' < b' → b' - a' < b - a → SmC C f cap mg v l' a' m' b' a' b' := fun l' a' m' b' hi' hl' h' q1 q2 q3 => symMerge_k K v k l' a' m' b' hi' hl' h' q1 q2 (by omega)
    by_cases hmm : m > (a + b) / 2
    · exact sm_mainA K v l hin hl (by omega) h rfl hmm hrec
    · exact sm_mainB K v l hin hl (by omega) h rfl (by omega) hrec
theorem symMerge_c {C : World → Prop} {f : FuncId} {cap : List Value} {mg : Int → Int} {N : Int} (K : CmpOk C f cap mg N) (v : Sl) (l : List Int) {a m b : Nat} (hin : inN N l) (hl : l.length ≤ 1000) (h : Half mg l a m b) (h1 : a < m) (h2 : m < b) : SmC C f cap mg v l a m b a b := symMerge_k K v (b - a) l a m b hin hl h h1 h2 (Nat.le_refl _)
end Go.Proofs.YtaglecidaedjfaaDoor
