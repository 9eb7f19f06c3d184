/- awake gives true. -/
import Derived.Test.YtaglecidaedjfaaDoorLaw2
set_option linter.unusedVariables false
set_option maxHeartbeats 4000000
namespace Go.Proofs.YtaglecidaedjfaaDoor
open Go.RowKit

def l0 : List Chk := [⟨0, 0, 100⟩, ⟨86400000, 86399000, 100⟩]
theorem l0_rate : rateS l0 = (((800, 1), (1200, 1)), 0) := by decide +kernel
theorem l0_ut : utS l0 2000 1 43200000 = ((43198900, 43200100), 0) := by decide +kernel
theorem l0_cons : consS l0 500 1 = (false, 1, 0) := by decide +kernel
theorem l0_miss : utS l0 500 1 43200000 = ((0, 0), 23) := by decide +kernel
theorem RS.litC {P : Program} {ops : Array Oper} {Q : Exit → Act → World → Prop} {n : Nat} {L : FL} {w0 : World} {H : List Hl} {dd : Tmp} {ty : TypeId} {pos : String} {af : Array Edge} {t e : TypeId} {bytes : Nat} {x y : Operand} {a c : Chk} {rest : List Oper} (h : ∀ v' : Sl, RS P ops Q n ((dd, v'.v) :: L) w0 (Hl.rw v'.v e cC 3 [a, c] :: H) rest) (hx : evO L x = some (chkV a) := by rfl) (hy : evO L y = some (chkV c) := by rfl) [ht : RowTy P t e 3 bytes] (hd : Nat.blt dd n = true := by rfl) :
    RS P ops Q n L w0 H (⟨some dd, .buildSlice t 2 #[(0, x), (1, y)], ty, pos, af, none⟩ :: rest) := RS.actX rfl (x_litS (parts := [(0, x), (1, y)]) (vs := [chkV a, chkV c]) (cs := cC a ++ cC c) (f := cC) (l := [a, c]) ⟨hx, hy, rfl⟩ rfl rfl rfl rfl (fun zs hz => by
      match zs, hz with
      | [_, _, _, _, _, _], _ => rfl) rfl rfl rfl (rowTy_B ht.is) hd) fun v' _ => h v'
theorem awake_c : Cont Tryd.prog 22 [] (.bool true) := fun w => by
  refine enter0 Tryd.func22 rfl rfl rfl ?_
  repeat' (first
    | (refine RS.litC (a := ⟨0, 0, 100⟩) (c := ⟨86400000, 86399000, 100⟩) (fun v' => ?_))
    | (refine nxV ?_)
    | (show RS _ _ _ _ _ _ _ _; first | (refine nxRS ?_) | (refine nxRS1 fun _ => ?_))
    | (show RM _ _ _ _ _ _ _ _ _ _; first | (refine nxRM ?_) | (refine nxRM1 fun _ => ?_))
    | (refine nxG ?_)
    | (refine G.mixedA 6 [.go 0, .go 1, .go 2, .go 3, .go 4, .go 5, .go 6, .go 7, .go 8, .go 9, .go 10, .go 11, .go 12, .go 13, .go 14, .go 15, .go 16, .go 17, .go 18, .go 19, .go 20, .go 21, .go 22, .go 23, .go 24, .go 25, .go 26, .go 27, .go 28, .go 29, .go 30, .go 31, .go 32, .go 33, .go 34, .go 35, .go 36, .go 37] ?_)
    | (refine nxX ?_)
    | (refine G.condN rfl (fun hc => ?_) (fun hc => ?_) <;> (try first | exact False.elim hc | (exfalso; omega))))
  have hl : l0.length ≤ 1000000 := by unfold l0; simp
  have h1 := crate_c v'.v l0 hl
  have h2 := cutU_c v'.v l0 hl (n := 2000) (d := 1) (face := 43200000) (by omega)
  have h3 := cons_c v'.v l0 hl (n := 500) (d := 1) (by omega)
  have h4 := cutU_c v'.v l0 hl (n := 500) (d := 1) (face := 43200000) (by omega)
  have q1 := whole_c (n := 2000) (by omega)
  have q2 := whole_c (n := 500) (by omega)
  have q3 := whole_c (n := 800) (by omega)
  have q4 := whole_c (n := 1200) (by omega)
  rw [l0_rate] at h1
  rw [l0_ut] at h2
  rw [l0_cons] at h3
  rw [l0_miss] at h4
  unfold l0 at h1 h2 h3 h4
  repeat' (first
    | (show YK _ _ _ _ _ _ _; first | refine YK.mk (y_callRA (h1) ⟨rfl, rfl⟩) ?_ | refine YK.mk (y_callRA (h2) ⟨rfl, rfl, rfl, rfl⟩) ?_ | refine YK.mk (y_callRA (h3) ⟨rfl, rfl, rfl⟩) ?_ | refine YK.mk (y_callRA (h4) ⟨rfl, rfl, rfl, rfl⟩) ?_ | refine YK.mk (y_callA (q1) ⟨rfl, rfl⟩) ?_ | refine YK.mk (y_callA (q2) ⟨rfl, rfl⟩) ?_ | refine YK.mk (y_callA (q3) ⟨rfl, rfl⟩) ?_ | refine YK.mk (y_callA (q4) ⟨rfl, rfl⟩) ?_)
    | (show YK _ _ _ _ _ _ _; refine YK.ofV vAuto ?_)
    | (show VK _ _ _ _ _ _ _; refine VK.mk vAuto ?_)
    | (show RS _ _ _ _ _ _ _ _; first | (refine nxRS ?_) | (refine nxRS1 fun _ => ?_))
    | (show RM _ _ _ _ _ _ _ _ _ _; first | (refine nxRM ?_) | (refine nxRM1 fun _ => ?_))
    | (show YG _ _ _ _ _ _ _ _; refine YG.mk (fun hb => by (try (have hc := And.left hb; have hb := And.right hb; rw [hc])); (try rw [hb]); first | exact (y_callRA (h1) ⟨rfl, rfl⟩) | exact (y_callRA (h2) ⟨rfl, rfl, rfl, rfl⟩) | exact (y_callRA (h3) ⟨rfl, rfl, rfl⟩) | exact (y_callRA (h4) ⟨rfl, rfl, rfl, rfl⟩) | exact (y_callA (q1) ⟨rfl, rfl⟩) | exact (y_callA (q2) ⟨rfl, rfl⟩) | exact (y_callA (q3) ⟨rfl, rfl⟩) | exact (y_callA (q4) ⟨rfl, rfl⟩) | exact V.y vAuto) ?_)
    | (show VG _ _ _ _ _ _ _ _; refine VG.mk (fun hb => by (try (have hc := And.left hb; have hb := And.right hb; rw [hc])); (try rw [hb]); exact vAuto) ?_)
    | (refine G.mixedA 6 [.go 0, .go 1, .go 2, .go 3, .go 4, .go 5, .go 6, .go 7, .go 8, .go 9, .go 10, .go 11, .go 12, .go 13, .go 14, .go 15, .go 16, .go 17, .go 18, .go 19, .go 20, .go 21, .go 22, .go 23, .go 24, .go 25, .go 26, .go 27, .go 28, .go 29, .go 30, .go 31, .go 32, .go 33, .go 34, .go 35, .go 36, .go 37] ?_)
    | (refine nxX ?_)
    | (refine G.condN rfl (fun hc => ?_) (fun hc => ?_) <;> (try first | exact False.elim hc | (exfalso; omega))))
  refine X.ret (vs := [_]) rfl ⟨rfl, rfl⟩ rfl (fun w hw => ⟨ret_bool ?_, hw.ext⟩)
  rfl
end Go.Proofs.YtaglecidaedjfaaDoor
