/- decimal.format of small numbers at one digit. -/
import Derived.Test.YtaglecidaedjfaaDoorRev
import Derived.Test.YtaglecidaedjfaaDoorAng
set_option linter.unusedVariables false
set_option maxHeartbeats 4000000
namespace Go.Proofs.YtaglecidaedjfaaDoor
open Go.RowKit

theorem RS.litB {P : Program} {ops : Array Oper} {Q : Exit → Act → World → Prop} {n : Nat} {L : FL} {w0 : World} {H : List Hl} {dd : Tmp} {ty : TypeId} {pos : String} {af : Array Edge} {t e : TypeId} {x : Operand} {c : Int} {rest : List Oper} (h : ∀ v' : Sl, RS P ops Q n ((dd, v'.v) :: L) w0 (Hl.rw v'.v e cB 1 [c] :: H) rest) (hx : evO L x = some (.int .u8 c)) (ht : rowTyB P t e 1 1 = true) (hd : Nat.blt dd n = true) :
    RS P ops Q n L w0 H (⟨some dd, .buildSlice t 1 #[(0, x)], ty, pos, af, none⟩ :: rest) := RS.actX rfl (x_lit (parts := [(0, x)]) (vs := [.int .u8 c]) (f := cB) (l := [c]) ⟨hx, rfl⟩ rfl rfl rfl rfl rfl rfl ht hd) fun v' _ => h v'
/-- One digit behind the point, from the right. -/
def decR (m : Int) : List Int := [48 + m % 10, 46, 48 + m / 10 % 10] ++ if 100 ≤ m then [48 + m / 100 % 10] else []
abbrev decI (m k mk : Int) (ls : List Int) : Prop := (k = 0 ∧ mk = m ∧ ls = []) ∨ (k = 1 ∧ mk = m / 10 ∧ ls = [48 + m % 10]) ∨ (k = 2 ∧ mk = m / 100 ∧ ls = [48 + m % 10, 46, 48 + m / 10 % 10]) ∨ (k = 3 ∧ mk = 0 ∧ 100 ≤ m ∧ ls = [48 + m % 10, 46, 48 + m / 10 % 10, 48 + m / 100 % 10])
def decL (n : Int) : List UInt8 := ((decR (max n (-n)) ++ if n < 0 then [45] else []).reverse).map fun x : Int => UInt8.ofNat x.toNat
theorem format_c {n : Int} (h : -999 ≤ n ∧ n ≤ 999) : Cont Tryd.prog 73 [.int .i64 n, .int .i64 1] (strV (decL n)) := fun w => by
  have hm : 0 ≤ max n (-n) ∧ max n (-n) ≤ 999 := by omega
  refine enter0 Tryd.func73 rfl rfl rfl ?_
  repeat' (first
    | (refine nxV ?_)
    | (show RS _ _ _ _ _ _ _ _; first | (refine nxRS ?_) | (refine nxRS1 fun _ => ?_))
    | (show RM _ _ _ _ _ _ _ _ _ _; first | (refine nxRM ?_) | (refine nxRM1 fun _ => ?_))
    | (refine nxG ?_)
    | (refine nxX ?_)
    | (refine G.condN rfl (fun hc => ?_) (fun hc => ?_) <;> (try first | exact False.elim hc | (exfalso; omega))))
  unfold decL
  generalize max n (-n) = m at hm
  refine G.loop (ι := Int × Int × List Int × Sl) (fun x => [(0, .int .i64 n), (1, .int .i64 1), (5, x.2.2.2.v), (6, .int .i64 x.2.1), (7, .int .i64 x.1)]) (fun x => [rwB x.2.2.2 x.2.2.1]) (fun x => decI m x.1 x.2.1 x.2.2.1) (fun x => (4 - x.1).toNat) (0, m, [], ⟨none, 0, 0⟩) (.inl ⟨rfl, rfl, rfl⟩) ⟨rfl, rfl, rfl, rfl, rfl, trivial⟩ (fun w h => h.nilRow 5 cB 1) ?_
  rintro ⟨k, mk, ls, z⟩ mx g1 hmx
  dsimp only at g1 hmx ⊢
  have g2 : (0 ≤ k ∧ k ≤ 3) ∧ (0 ≤ mk ∧ mk ≤ 999) := by rcases g1 with g | g | g | g <;> omega
  have g3 : ls.length ≤ 10 := by rcases g1 with g | g | g | g <;> simp [g]
  by_cases hcont : 0 < mk ∨ k ≤ 1
  · repeat' (first
    | (show RS _ _ _ _ _ _ _ (⟨_, .buildSlice _ _ _, _, _, _, _⟩ :: _); refine RS.litB (e := 5) ?_ (by rfl) (by decide +kernel) (by rfl); intro z2)
    | (refine nxV ?_)
    | (show RS _ _ _ _ _ _ _ _; first | (refine nxRS ?_) | (refine nxRS1 fun _ => ?_))
    | (show RM _ _ _ _ _ _ _ _ _ _; first | (refine nxRM ?_) | (refine nxRM1 fun _ => ?_))
    | (refine nxG ?_)
    | (refine nxX ?_)
    | (refine G.condN rfl (fun hc => ?_) (fun hc => ?_) <;> (try first | exact False.elim hc | (exfalso; omega))))
    · rename_i y
      refine X.again (k + 1, mk / 10, (ls ++ [46]) ++ [48 + mk % 10], y) ?_ (by dsimp only; omega) ⟨rfl, rfl, rfl, rfl, rfl, trivial⟩ (fun w h => by dsimp only; exact h.sub (by repeat (first | exact List.Sublist.refl _ | apply List.Sublist.cons_cons | apply List.Sublist.cons)))
      dsimp only
      rcases g1 with g | g | g | g
      · omega
      · obtain ⟨rfl, rfl, rfl⟩ := g
        exact .inr (.inr (.inl ⟨by omega, by omega, rfl⟩))
      · omega
      · omega
    · rename_i y
      refine X.again (k + 1, mk / 10, ls ++ [48 + mk % 10], y) ?_ (by dsimp only; omega) ⟨rfl, rfl, rfl, rfl, rfl, trivial⟩ (fun w h => by dsimp only; exact h.sub (by repeat (first | exact List.Sublist.refl _ | apply List.Sublist.cons_cons | apply List.Sublist.cons)))
      dsimp only
      rcases g1 with g | g | g | g
      · obtain ⟨rfl, rfl, rfl⟩ := g
        exact .inr (.inl ⟨by omega, rfl, rfl⟩)
      · omega
      · obtain ⟨rfl, rfl, rfl⟩ := g
        exact .inr (.inr (.inr ⟨by omega, by omega, by omega, rfl⟩))
      · omega
  · have er : ls = decR m := by
      rcases g1 with g | g | g | g
      · omega
      · omega
      · obtain ⟨_, h2, rfl⟩ := g
        unfold decR; rw [if_neg (by omega), List.append_nil]
      · obtain ⟨_, _, h2, rfl⟩ := g
        unfold decR; rw [if_pos h2]; rfl
    have hne : ls ≠ [] := by rw [er]; simp [decR]
    have q1 := fun x => reverse_c x ls (by omega)
    have q2 := fun x => reverse_c x (ls ++ [45]) (by simp; omega)
    have n1 : ls.reverse ≠ [] := by simpa using hne
    have n2 : (ls ++ [45]).reverse ≠ [] := by simp
    rw [← er]
    repeat' (first
    | (show RS _ _ _ _ _ _ _ (⟨_, .buildSlice _ _ _, _, _, _, _⟩ :: _); refine RS.litB (e := 5) ?_ (by rfl) (by decide +kernel) (by rfl); intro z2)
    | (refine RS.callU (q1 _) ⟨rfl, rfl⟩ ?_; rintro z3 _; dsimp only [List.cons_append, List.nil_append])
    | (refine RS.callU (q2 _) ⟨rfl, rfl⟩ ?_; rintro z3 _; dsimp only [List.cons_append, List.nil_append])
    | (show YK _ _ _ _ _ ⟨_, .convert _ 9 _, _, _, _, _⟩ _; refine YK.ofV (y_strOf (by rfl) (by exact rdA) Tryd.underlying74 Tryd.underlying5 Tryd.underlying9 n1) ?_)
    | (show YK _ _ _ _ _ ⟨_, .convert _ 9 _, _, _, _, _⟩ _; refine YK.ofV (y_strOf (by rfl) (by exact rdA) Tryd.underlying74 Tryd.underlying5 Tryd.underlying9 n2) ?_)
    | (refine nxV ?_)
    | (show RS _ _ _ _ _ _ _ _; first | (refine nxRS ?_) | (refine nxRS1 fun _ => ?_))
    | (show RM _ _ _ _ _ _ _ _ _ _; first | (refine nxRM ?_) | (refine nxRM1 fun _ => ?_))
    | (refine nxG ?_)
    | (refine nxX ?_)
    | (refine G.condN rfl (fun hc => ?_) (fun hc => ?_) <;> (try first | exact False.elim hc | (exfalso; omega))))
    · rw [if_pos hc]; exact X.ret (vs := [_]) rfl ⟨rfl, rfl⟩ rfl (fun w hw => ⟨rfl, hw.ext⟩)
    · rw [if_neg (by omega), List.append_nil]; exact X.ret (vs := [_]) rfl ⟨rfl, rfl⟩ rfl (fun w hw => ⟨rfl, hw.ext⟩)
end Go.Proofs.YtaglecidaedjfaaDoor
