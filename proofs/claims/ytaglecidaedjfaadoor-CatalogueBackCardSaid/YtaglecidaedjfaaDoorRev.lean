/- slices.Reverse at bytes. -/
import Derived.Test.YtaglecidaedjfaaDoorBld
import Derived.Test.YtaglecidaedjfaaDoorStab2
set_option linter.unusedVariables false
set_option maxHeartbeats 4000000
namespace Go.Proofs.YtaglecidaedjfaaDoor
open Go.RowKit

theorem gt0_set (l : List Int) (i k : Nat) (x : Int) : gt0 (l.set i x) k = if i = k ∧ k < l.length then x else gt0 l k := by
  show (l.set i x).getD k 0 = _
  rw [List.getD_eq_getElem?_getD, List.getElem?_set]
  by_cases h : i = k
  · subst h
    by_cases h2 : i < l.length
    · simp [h2]
    · simp [h2, gt0, List.getD_eq_getElem?_getD]
  · simp [h, gt0, List.getD_eq_getElem?_getD]
def revS (l : List Int) : Nat → List Int
  | 0 => l
  | i + 1 => ((revS l i).set i (gt0 (revS l i) (l.length - 1 - i))).set (l.length - 1 - i) (gt0 (revS l i) i)
theorem revS_len (l : List Int) (i : Nat) : (revS l i).length = l.length := by
  induction i with
  | zero => rfl
  | succ i ih => simp [revS, ih]
theorem revS_get (l : List Int) (i : Nat) (h : 2 * i ≤ l.length) (k : Nat) (hk : k < l.length) : gt0 (revS l i) k = if k < i ∨ l.length ≤ k + i then gt0 l (l.length - 1 - k) else gt0 l k := by
  induction i generalizing k with
  | zero => rw [if_neg (by omega)]; rfl
  | succ i ih =>
    have h1 := ih (by omega) k hk
    have h2 := ih (by omega) i (by omega)
    have h3 := ih (by omega) (l.length - 1 - i) (by omega)
    rw [if_neg (by omega)] at h2 h3
    show gt0 (((revS l i).set i _).set (l.length - 1 - i) _) k = _
    rw [gt0_set, gt0_set, List.length_set, revS_len, h1, h2, h3]
    by_cases e1 : l.length - 1 - i = k
    · rw [if_pos ⟨e1, hk⟩, if_pos (by omega)]
      congr 1; omega
    · rw [if_neg (by omega)]
      by_cases e2 : i = k
      · subst e2
        rw [if_pos ⟨rfl, hk⟩, if_pos (by omega)]
      · rw [if_neg (by omega)]
        by_cases e3 : k < i ∨ l.length ≤ k + i
        · rw [if_pos e3, if_pos (by omega)]
        · rw [if_neg e3, if_neg (by omega)]
theorem revS_all (l : List Int) (i : Nat) (h : 2 * i ≤ l.length) (h2 : l.length ≤ 2 * i + 1) : revS l i = l.reverse := by
  apply List.ext_getElem
  · rw [revS_len, List.length_reverse]
  · intro k hk1 hk2
    rw [revS_len] at hk1
    have e := revS_get l i h k hk1
    have g1 : gt0 (revS l i) k = (revS l i)[k] := by
      show (revS l i).getD k 0 = _
      rw [List.getD_eq_getElem?_getD, List.getElem?_eq_getElem (by rw [revS_len]; exact hk1)]; rfl
    have g2 : ∀ j (hj : j < l.length), gt0 l j = l[j] := fun j hj => by
      show l.getD j 0 = _
      rw [List.getD_eq_getElem?_getD, List.getElem?_eq_getElem hj]; rfl
    rw [← g1, e, List.getElem_reverse, ← g2]
    split
    · rfl
    · congr 1; omega
section
variable {P : Program} {ops : Array Oper} {Q : Exit → Act → World → Prop} {HS : List Hl} {n : Nat} {L : FL} {w0 : World} {H : List Hl} {i : Nat} {ord : List Mv} {t : TypeId} {x y : Operand} {ty : TypeId} {pos : String} {af : Array Edge}
theorem RF.storeB {ls : List Int} {b : Int} {H' : List Hl} {v : Value} {e : TypeId} {m : Int} (ho : ops[i]? = some ⟨none, .store t x y, ty, pos, af, none⟩) (hx : evO L x = some (elA v 1 m 0)) (hy : evO L y = some (.int .u8 b)) (hu : Upd (Hl.rw v e cB 1 ls) (Hl.rw v e cB 1 (ls.set m.toNat b)) H H') (hm : 0 ≤ m ∧ m < ls.length) (hs : scalarB P t = true) (hl : lateF .any ops i = true) (h : RF P ops Q HS n L w0 H' ord) :
    RF P ops Q HS n L w0 H (.go i :: ord) := RF.act h ho rfl rfl (x_storeEl (f := cB) (b := b) hx hy rfl hu hm (fun _ => rfl) rfl rfl hs) hl
end
abbrev rwB (v : Sl) (l : List Int) : Hl := Hl.rw v.v 5 cB 1 l
theorem reverse_c (v : Sl) (l : List Int) (hl : l.length ≤ 1000000) : ContU Tryd.prog (rwB v l) 100 [v.v] (fun _ : Unit => True) (fun _ => .tuple #[]) (fun _ => [rwB v l.reverse]) := fun w0 HR w hw => by
  refine enterU Tryd.func100 rfl rfl rfl hw ?_
  repeat' (first
    | (refine nxV ?_)
    | (show RS _ _ _ _ _ _ _ _; first | (refine nxRS ?_) | (refine nxRS1 fun _ => ?_))
    | (show RM _ _ _ _ _ _ _ _ _ _; first | (refine nxRM ?_) | (refine nxRM1 fun _ => ?_))
    | (refine nxG ?_)
    | (refine G.mixedA 3 [.go 0, .go 1, .go 2, .go 3, .go 4, .go 5, .go 6, .go 7, .go 8, .go 9, .go 10, .go 11, .go 12, .go 13, .go 14, .go 15] ?_)
    | (refine nxX ?_)
    | (refine G.condN rfl (fun hc => ?_) (fun hc => ?_) <;> (try first | exact False.elim hc | (exfalso; omega))))
  refine G.loop (ι := Nat × Int) (fun x => [(0, v.v), (2, .int .i64 (x.1 : Int)), (3, .int .i64 x.2)]) (fun x => rwB v (revS l x.1) :: HR) (fun x => 2 * x.1 ≤ l.length ∧ x.2 = (l.length : Int) - 1 - x.1) (fun x => l.length - x.1) (0, (l.length : Int) - 1) ⟨Nat.zero_le _, by dsimp only; omega⟩ ⟨rfl, rfl, rfl, trivial⟩ (fun w h => h) ?_
  rintro ⟨k, J⟩ mx ⟨g1, g2⟩ hmx
  dsimp only at g1 g2 hmx ⊢
  have hlen := revS_len l k
  rcases Nat.lt_or_ge (2 * k + 1) l.length with hk | hk
  · have e : ((revS l k).set (k : Int).toNat (nth (revS l k) J)).set J.toNat (nth (revS l k) (k : Int)) = revS l (k + 1) := by
      rw [nth_gt0, nth_gt0, show (k : Int).toNat = k by omega, show J.toNat = l.length - 1 - k by omega]; rfl
    generalize hcur : revS l k = cur at hlen e
    repeat' (first
    | (show RF _ _ _ _ _ _ _ _ _; refine RF.storeB (ls := cur) (b := nth cur J) (by rfl) (by rfl) (by rfl) (by exact updA) (by omega) (by decide +kernel) (by decide +kernel) ?_)
    | (show RF _ _ _ _ _ _ _ _ _; refine RF.storeB (ls := cur.set (k : Int).toNat (nth cur J)) (b := nth cur (k : Int)) (by rfl) (by rfl) (by rfl) (by exact updA) (by rw [List.length_set]; omega) (by decide +kernel) (by decide +kernel) ?_)
    | (refine G.mixedFH 3 [.go 0, .go 1, .go 2, .go 3, .go 4, .go 5, .go 6, .go 7, .go 8, .go 9, .go 10, .go 11, .go 12, .go 13, .go 14, .go 15] ?_)
    | (refine nxRF ?_)
    | (refine nxVF ?_)
    | (refine nxV ?_)
    | (show RS _ _ _ _ _ _ _ _; first | (refine nxRS ?_) | (refine nxRS1 fun _ => ?_))
    | (show RM _ _ _ _ _ _ _ _ _ _; first | (refine nxRM ?_) | (refine nxRM1 fun _ => ?_))
    | (refine nxG ?_)
    | (refine nxX ?_)
    | (refine G.condN rfl (fun hc => ?_) (fun hc => ?_) <;> (try first | exact False.elim hc | (exfalso; omega))))
    exact X.again (k + 1, J - 1) ⟨by dsimp only; omega, by dsimp only; omega⟩ (by dsimp only; omega) ⟨rfl, rfl, rfl, trivial⟩ (fun w h => e ▸ h)
  · have e := revS_all l k g1 (by omega)
    rw [e]
    repeat' (first
    | (refine nxV ?_)
    | (show RS _ _ _ _ _ _ _ _; first | (refine nxRS ?_) | (refine nxRS1 fun _ => ?_))
    | (show RM _ _ _ _ _ _ _ _ _ _; first | (refine nxRM ?_) | (refine nxRM1 fun _ => ?_))
    | (refine nxG ?_)
    | (refine G.mixedA 3 [.go 0, .go 1, .go 2, .go 3, .go 4, .go 5, .go 6, .go 7, .go 8, .go 9, .go 10, .go 11, .go 12, .go 13, .go 14, .go 15] ?_)
    | (refine nxX ?_)
    | (refine G.condN rfl (fun hc => ?_) (fun hc => ?_) <;> (try first | exact False.elim hc | (exfalso; omega))))
    refine X.endN rfl (fun w hw => ?_)
    exact ⟨(), trivial, rfl, hw⟩
end Go.Proofs.YtaglecidaedjfaaDoor
