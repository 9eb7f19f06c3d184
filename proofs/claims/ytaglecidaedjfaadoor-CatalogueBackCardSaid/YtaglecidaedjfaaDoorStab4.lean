/- slices.SortStableFunc at ints, at most 39 of them. -/
import Derived.Test.YtaglecidaedjfaaDoorStab3
set_option linter.unusedVariables false
set_option maxHeartbeats 4000000
namespace Go.Proofs.YtaglecidaedjfaaDoor
open Go.RowKit

theorem stable_small {C : World → Prop} {f : FuncId} {cap : List Value} {mg : Int → Int} {N : Int} (K : CmpOk C f cap mg N) (v : Sl) (l : List Int) (hin : inN N l) {n : Nat} (hn : n = l.length) (h : n < 20) (ha : ascL l 0 n) :
    ContC Tryd.prog C (rwI v l) 66 [v.v, .int .i64 (n : Int), cmpV f cap] (fun z : List Int => DoneS mg l z 0 n) (fun _ => .tuple #[]) (fun z => [rwI v z]) := fun w0 HR hC w hw => by
  have q1 := insertion_c K v l hin (a := 0) (b := n) (A := 0) (B := (n : Int)) rfl rfl (by omega) ha
  refine enterU Tryd.func66 rfl rfl rfl hw ?_
  repeat' (first
    | (refine nxV ?_)
    | (show RS _ _ _ _ _ _ _ _; first | (refine nxRS ?_) | (refine nxRS1 fun _ => ?_))
    | (show RM _ _ _ _ _ _ _ _ _ _; first | (refine nxRM ?_) | (refine nxRM1 fun _ => ?_))
    | (refine nxG ?_)
    | (refine nxX ?_)
    | (refine G.condN rfl (fun hc => ?_) (fun hc => ?_) <;> (try first | exact False.elim hc | (exfalso; omega))))
  refine G.loop (ι := Unit) (fun _ => [(0, v.v), (1, .int .i64 (n : Int)), (2, cmpV f cap), (6, .int .i64 20), (7, .int .i64 0), (8, .int .i64 20)]) (fun _ => rwI v l :: HR) (fun _ => True) (fun _ => 0) () trivial ⟨rfl, rfl, rfl, rfl, rfl, rfl, trivial⟩ (fun w h => h) ?_
  rintro ⟨⟩ mx _ _
  repeat' (first
    | (refine RS.callC q1 ⟨rfl, rfl, rfl, rfl, rfl⟩ ?_ ?_; exact hC; rintro z1 hz1; dsimp only [List.cons_append, List.nil_append])
    | (refine nxV ?_)
    | (show RS _ _ _ _ _ _ _ _; first | (refine nxRS ?_) | (refine nxRS1 fun _ => ?_))
    | (show RM _ _ _ _ _ _ _ _ _ _; first | (refine nxRM ?_) | (refine nxRM1 fun _ => ?_))
    | (refine nxG ?_)
    | (refine nxX ?_)
    | (refine G.condN rfl (fun hc => ?_) (fun hc => ?_) <;> (try first | exact False.elim hc | (exfalso; omega))))
  refine G.loop (ι := Unit) (fun _ => [(0, v.v), (1, .int .i64 (n : Int)), (2, cmpV f cap), (6, .int .i64 20)]) (fun _ => rwI v z1 :: HR) (fun _ => True) (fun _ => 0) () trivial ⟨rfl, rfl, rfl, rfl, trivial⟩ (fun w h => h) ?_
  rintro ⟨⟩ mx _ _
  repeat' (first
    | (refine nxV ?_)
    | (show RS _ _ _ _ _ _ _ _; first | (refine nxRS ?_) | (refine nxRS1 fun _ => ?_))
    | (show RM _ _ _ _ _ _ _ _ _ _; first | (refine nxRM ?_) | (refine nxRM1 fun _ => ?_))
    | (refine nxG ?_)
    | (refine nxX ?_)
    | (refine G.condN rfl (fun hc => ?_) (fun hc => ?_) <;> (try first | exact False.elim hc | (exfalso; omega))))
  refine X.endN rfl (fun w hw => ?_)
  exact ⟨z1, hz1, rfl, hw⟩
theorem stable_large {C : World → Prop} {f : FuncId} {cap : List Value} {mg : Int → Int} {N : Int} (K : CmpOk C f cap mg N) (v : Sl) (l : List Int) (hin : inN N l) {n : Nat} (hn : n = l.length) (h : 20 ≤ n ∧ n < 40) (ha : ascL l 0 n) :
    ContC Tryd.prog C (rwI v l) 66 [v.v, .int .i64 (n : Int), cmpV f cap] (fun z : List Int => DoneS mg l z 0 n) (fun _ => .tuple #[]) (fun z => [rwI v z]) := fun w0 HR hC w hw => by
  have q1 := insertion_c K v l hin (a := 0) (b := 20) (A := 0) (B := 20) rfl rfl (by omega) (fun p q h1 h2 h3 => ha p q h1 h2 (by omega))
  have q2 : ∀ z, DoneS mg l z 0 20 → ContC Tryd.prog C (rwI v z) 96 [v.v, .int .i64 20, .int .i64 (n : Int), cmpV f cap] (fun z' : List Int => DoneS mg z z' 20 n) (fun _ => .tuple #[]) (fun z' => [rwI v z']) := fun z hz => insertion_c K v z (fun x hx => hin x (hz.perm.mem_iff.1 hx)) (a := 20) (b := n) (A := 20) (B := (n : Int)) rfl rfl (by rw [hz.len]; omega) (fun p q h1 h2 h3 => by rw [hz.out p (.inr h1), hz.out q (by omega)]; exact ha p q (Nat.zero_le _) h2 h3)
  have q3 : ∀ z z', DoneS mg l z 0 20 → DoneS mg z z' 20 n → 20 < n → SmC C f cap mg v z' 0 20 n 0 n := fun z z' hz hz' h20 => symMerge_c K v z' (fun x hx => hin x (hz.perm.mem_iff.1 (hz'.perm.mem_iff.1 hx))) (by rw [hz'.len, hz.len]; omega) (blocks_half ha (show 20 ≤ n ∧ n ≤ l.length by omega) hz hz') (by decide) h20
  refine enterU Tryd.func66 rfl rfl rfl hw ?_
  repeat' (first
    | (refine nxV ?_)
    | (show RS _ _ _ _ _ _ _ _; first | (refine nxRS ?_) | (refine nxRS1 fun _ => ?_))
    | (show RM _ _ _ _ _ _ _ _ _ _; first | (refine nxRM ?_) | (refine nxRM1 fun _ => ?_))
    | (refine nxG ?_)
    | (refine nxX ?_)
    | (refine G.condN rfl (fun hc => ?_) (fun hc => ?_) <;> (try first | exact False.elim hc | (exfalso; omega))))
  refine G.loop (ι := Int × Int × List Int) (fun x => [(0, v.v), (1, .int .i64 (n : Int)), (2, cmpV f cap), (6, .int .i64 20), (7, .int .i64 x.1), (8, .int .i64 x.2.1)]) (fun x => rwI v x.2.2 :: HR) (fun x => (x.1 = 0 ∧ x.2.1 = 20 ∧ x.2.2 = l) ∨ (x.1 = 20 ∧ x.2.1 = 20 + 20 ∧ DoneS mg l x.2.2 0 20)) (fun x => (40 - x.2.1).toNat) (0, 20, l) (.inl ⟨rfl, rfl, rfl⟩) ⟨rfl, rfl, rfl, rfl, rfl, rfl, trivial⟩ (fun w h => h) ?_
  rintro ⟨A, B, z⟩ mx hpre hmx
  dsimp only at hpre hmx ⊢
  rcases hpre with ⟨rfl, rfl, rfl⟩ | ⟨rfl, rfl, hz⟩
  · repeat' (first
    | (refine RS.callC q1 ⟨rfl, rfl, rfl, rfl, rfl⟩ ?_ ?_; exact hC; rintro z1 hz1; dsimp only [List.cons_append, List.nil_append])
    | (refine nxV ?_)
    | (show RS _ _ _ _ _ _ _ _; first | (refine nxRS ?_) | (refine nxRS1 fun _ => ?_))
    | (show RM _ _ _ _ _ _ _ _ _ _; first | (refine nxRM ?_) | (refine nxRM1 fun _ => ?_))
    | (refine nxG ?_)
    | (refine nxX ?_)
    | (refine G.condN rfl (fun hc => ?_) (fun hc => ?_) <;> (try first | exact False.elim hc | (exfalso; omega))))
    exact X.again (20, 20 + 20, z1) (.inr ⟨rfl, rfl, hz1⟩) (by rw [← hmx]; dsimp only; omega) ⟨rfl, rfl, rfl, rfl, rfl, rfl, trivial⟩ (fun w h => h)
  · have q2' := q2 z hz
    repeat' (first
    | (refine RS.callC q2' ⟨rfl, rfl, rfl, rfl, rfl⟩ ?_ ?_; exact hC; rintro z1 hz1; dsimp only [List.cons_append, List.nil_append])
    | (refine nxV ?_)
    | (show RS _ _ _ _ _ _ _ _; first | (refine nxRS ?_) | (refine nxRS1 fun _ => ?_))
    | (show RM _ _ _ _ _ _ _ _ _ _; first | (refine nxRM ?_) | (refine nxRM1 fun _ => ?_))
    | (refine nxG ?_)
    | (refine nxX ?_)
    | (refine G.condN rfl (fun hc => ?_) (fun hc => ?_) <;> (try first | exact False.elim hc | (exfalso; omega))))
    have q3' := q3 z z1 hz hz1
    have hd : n = 20 → DoneS mg l z1 0 n := fun e => by
      have hh := blocks_half ha (show 20 ≤ n ∧ n ≤ l.length by omega) hz hz1
      exact blocks_done (by omega) hz hz1 (half_done hh (.inr e.symm))
    refine G.loop (ι := Int × List Int) (fun x => [(0, v.v), (1, .int .i64 (n : Int)), (2, cmpV f cap), (6, .int .i64 x.1)]) (fun x => rwI v x.2 :: HR) (fun x => (x.1 = 20 ∧ x.2 = z1) ∨ (x.1 = 20 * 2 ∧ DoneS mg l x.2 0 n)) (fun x => (40 - x.1).toNat) (20, z1) (.inl ⟨rfl, rfl⟩) ⟨rfl, rfl, rfl, rfl, trivial⟩ (fun w h => h) ?_
    rintro ⟨S, y⟩ my hpre2 hmy
    dsimp only at hpre2 hmy ⊢
    rcases hpre2 with ⟨rfl, rfl⟩ | ⟨rfl, hy⟩
    · by_cases h20 : (20 : Int) < n
      · repeat' (first
    | (refine nxV ?_)
    | (show RS _ _ _ _ _ _ _ _; first | (refine nxRS ?_) | (refine nxRS1 fun _ => ?_))
    | (show RM _ _ _ _ _ _ _ _ _ _; first | (refine nxRM ?_) | (refine nxRM1 fun _ => ?_))
    | (refine nxG ?_)
    | (refine nxX ?_)
    | (refine G.condN rfl (fun hc => ?_) (fun hc => ?_) <;> (try first | exact False.elim hc | (exfalso; omega))))
        refine G.loop (ι := Unit) (fun _ => [(0, v.v), (1, .int .i64 (n : Int)), (2, cmpV f cap), (6, .int .i64 20), (7, .int .i64 0), (8, .int .i64 (2 * 20))]) (fun _ => rwI v y :: HR) (fun _ => True) (fun _ => 0) () trivial ⟨rfl, rfl, rfl, rfl, rfl, rfl, trivial⟩ (fun w h => h) ?_
        rintro ⟨⟩ mz _ _
        repeat' (first
    | (refine RS.callC (q3' (by omega)) ⟨rfl, rfl, rfl, rfl, rfl, rfl⟩ ?_ ?_; exact hC; rintro z3 hz3; dsimp only [List.cons_append, List.nil_append])
    | (refine nxV ?_)
    | (show RS _ _ _ _ _ _ _ _; first | (refine nxRS ?_) | (refine nxRS1 fun _ => ?_))
    | (show RM _ _ _ _ _ _ _ _ _ _; first | (refine nxRM ?_) | (refine nxRM1 fun _ => ?_))
    | (refine nxG ?_)
    | (refine nxX ?_)
    | (refine G.condN rfl (fun hc => ?_) (fun hc => ?_) <;> (try first | exact False.elim hc | (exfalso; omega))))
        exact X.again (20 * 2, z3) (.inr ⟨rfl, blocks_done (by omega) hz hz1 hz3⟩) (by rw [← hmy]; dsimp only; omega) ⟨rfl, rfl, rfl, rfl, trivial⟩ (fun w h => h)
      · repeat' (first
    | (refine nxV ?_)
    | (show RS _ _ _ _ _ _ _ _; first | (refine nxRS ?_) | (refine nxRS1 fun _ => ?_))
    | (show RM _ _ _ _ _ _ _ _ _ _; first | (refine nxRM ?_) | (refine nxRM1 fun _ => ?_))
    | (refine nxG ?_)
    | (refine nxX ?_)
    | (refine G.condN rfl (fun hc => ?_) (fun hc => ?_) <;> (try first | exact False.elim hc | (exfalso; omega))))
        refine X.endN rfl (fun w hw => ?_)
        exact ⟨y, hd (by omega), rfl, hw⟩
    · repeat' (first
    | (refine nxV ?_)
    | (show RS _ _ _ _ _ _ _ _; first | (refine nxRS ?_) | (refine nxRS1 fun _ => ?_))
    | (show RM _ _ _ _ _ _ _ _ _ _; first | (refine nxRM ?_) | (refine nxRM1 fun _ => ?_))
    | (refine nxG ?_)
    | (refine nxX ?_)
    | (refine G.condN rfl (fun hc => ?_) (fun hc => ?_) <;> (try first | exact False.elim hc | (exfalso; omega))))
      refine X.endN rfl (fun w hw => ?_)
      exact ⟨y, hy, rfl, hw⟩

/-- slices.SortStableFunc of ascending ints, by a number of each. -/
theorem sortStable_c {C : World → Prop} {f : FuncId} {cap : List Value} {mg : Int → Int} {N : Int} (K : CmpOk C f cap mg N) (v : Sl) (l : List Int) (hin : inN N l) (h : l.length < 40) (ha : ascL l 0 l.length) :
    ContC Tryd.prog C (rwI v l) 35 [v.v, cmpV f cap] (fun z : List Int => DoneS mg l z 0 l.length) (fun _ => .tuple #[]) (fun z => [rwI v z]) := fun w0 HR hC w hw => by
  have q1 : ContC Tryd.prog C (rwI v l) 66 [v.v, .int .i64 (l.length : Int), cmpV f cap] (fun z : List Int => DoneS mg l z 0 l.length) (fun _ => .tuple #[]) (fun z => [rwI v z]) := by
    by_cases h20 : l.length < 20
    · exact stable_small K v l hin rfl h20 ha
    · exact stable_large K v l hin rfl (by omega) ha
  refine enterU Tryd.func35 rfl rfl rfl hw ?_
  repeat' (first
    | (refine RS.callC q1 ⟨rfl, rfl, rfl, rfl⟩ ?_ ?_; exact hC; rintro z1 hz1; dsimp only [List.cons_append, List.nil_append])
    | (refine nxV ?_)
    | (show RS _ _ _ _ _ _ _ _; first | (refine nxRS ?_) | (refine nxRS1 fun _ => ?_))
    | (show RM _ _ _ _ _ _ _ _ _ _; first | (refine nxRM ?_) | (refine nxRM1 fun _ => ?_))
    | (refine nxG ?_)
    | (refine nxX ?_)
    | (refine G.condN rfl (fun hc => ?_) (fun hc => ?_) <;> (try first | exact False.elim hc | (exfalso; omega))))
  refine X.endN rfl (fun w hw => ?_)
  exact ⟨z1, hz1, rfl, hw⟩
end Go.Proofs.YtaglecidaedjfaaDoor
