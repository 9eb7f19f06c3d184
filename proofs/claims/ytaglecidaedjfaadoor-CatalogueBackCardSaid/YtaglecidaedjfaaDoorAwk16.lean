/- awake of law 16. -/
import Derived.Test.YtaglecidaedjfaaDoorVega
import Derived.Test.YtaglecidaedjfaaDoorLitS
set_option linter.unusedVariables false
set_option maxHeartbeats 4000000
namespace Go.Proofs.YtaglecidaedjfaaDoor
open Go.RowKit
theorem RS.lit1S {P : Program} {ops : Array Oper} {Q : Exit → Act → World → Prop} {n : Nat} {L : FL} {w0 : World} {H : List Hl} {dd : Tmp} {ty : TypeId} {pos : String} {af : Array Edge} {t e : TypeId} {bytes : Nat} {x : Operand} {a : StarT} {rest : List Oper} (h : ∀ v' : Sl, RS P ops Q n ((dd, v'.v) :: L) w0 (Hl.rw v'.v e cSt 4 [a] :: H) rest) (hx : evO L x = some (stV a) := by rfl) [ht : RowTy P t e 4 bytes] (hd : Nat.blt dd n = true := by rfl) :
    RS P ops Q n L w0 H (⟨some dd, .buildSlice t 1 #[(0, x)], ty, pos, af, none⟩ :: rest) := RS.actX rfl (x_litS (parts := [(0, x)]) (vs := [stV a]) (cs := cSt a) (f := cSt) (l := [a]) ⟨hx, rfl⟩ rfl rfl rfl rfl (fun zs hz => by
      match zs, hz with
      | [_, _, _, _], _ => rfl) rfl rfl rfl (rowTy_B ht.is) hd) fun v' _ => h v'
theorem awake16_c : ContIn Tryd.prog LaidC 7 [] (.bool true) := fun w hI => by
  have q1 := fun v => ctext_c v [vega] vega_valid (fun i hi => by
    have : i = 0 := by simpa using hi
    subst this; decide)
  have q2 := fun v => valid_c v [vega] (by decide) (fun _ i hi => by
    have : i = 0 := by simpa using hi
    subst this; decide)
  rw [vega_valid] at q2
  rw [show ([vega] : List StarT).length = 1 from rfl, vega_text] at q1
  refine enter0 Tryd.func7 rfl rfl rfl ?_
  repeat' (first
    | (show RS _ _ _ _ _ _ _ (⟨_, .buildSlice _ _ _, _, _, _, _⟩ :: _); refine RS.lit1S (a := vega) ?_; intro z1)
    | (refine YK.mk (y_callIn (xs := [.tmp 7]) (q1 z1.v) (fun w hw => ⟨hI.keep hw.ext, RO.of_row (hw.all (Hl.rw z1.v 32 cSt 4 [vega]) (List.Mem.head _))⟩) ⟨rfl, rfl⟩ (by decide +kernel)) ?_)
    | (show YK _ _ _ _ _ _ _; first | refine YK.mk (y_callRA (q2 z1.v) ⟨rfl, rfl⟩) ?_)
    | (show YK _ _ _ _ _ _ _; refine YK.ofV vAuto ?_)
    | (show VK _ _ _ _ _ _ _; refine VK.mk vAuto ?_)
    | (show RS _ _ _ _ _ _ _ _; first | (refine nxRS ?_) | (refine nxRS1 fun _ => ?_))
    | (show RM _ _ _ _ _ _ _ _ _ _; first | (refine nxRM ?_) | (refine nxRM1 fun _ => ?_))
    | (show YG _ _ _ _ _ _ _ _; refine YG.mk (fun hb => by (try (have hc := And.left hb; have hb := And.right hb; rw [hc])); (try rw [hb]); first | exact (y_callRA (q2 z1.v) ⟨rfl, rfl⟩) | exact V.y vAuto) ?_)
    | (show VG _ _ _ _ _ _ _ _; refine VG.mk (fun hb => by (try (have hc := And.left hb; have hb := And.right hb; rw [hc])); (try rw [hb]); exact vAuto) ?_)
    | (refine nxVS ?_)
    | (refine nxGS ?_)
    | (refine nxX ?_)
    | (refine G.condN rfl (fun hc => ?_) (fun hc => ?_) <;> (try first | exact False.elim hc | (exfalso; omega))))
  all_goals exact X.ret (vs := [_]) rfl ⟨rfl, rfl⟩ rfl (fun w hw => ⟨rfl, hw.ext⟩)
end Go.Proofs.YtaglecidaedjfaaDoor
