/- The steps of the walk, each a search that stands once: what suffices for the judgement on the next operation. Printed by a program (wip/steps.py). -/
import Derived.Test.YtaglecidaedjfaaDoorGround
set_option linter.unusedVariables false
namespace Go.Proofs.YtaglecidaedjfaaDoor
open Go.RowKit
theorem subA {w0 : World} {H HS : List Hl} (h : List.Sublist HS H := by first | (first | exact List.Sublist.refl _ | exact .cons _ (List.Sublist.refl _) | exact .cons _ (.cons _ (List.Sublist.refl _)) | exact .cons _ (.cons _ (.cons _ (List.Sublist.refl _))) | exact .cons _ (.cons _ (.cons _ (.cons _ (List.Sublist.refl _)))) | exact .cons _ (.cons _ (.cons _ (.cons _ (.cons _ (List.Sublist.refl _))))) | exact .cons _ (.cons _ (.cons _ (.cons _ (.cons _ (.cons _ (List.Sublist.refl _)))))) | exact .cons _ (.cons _ (.cons _ (.cons _ (.cons _ (.cons _ (.cons _ (List.Sublist.refl _))))))) | exact .cons _ (.cons _ (.cons _ (.cons _ (.cons _ (.cons _ (.cons _ (.cons _ (List.Sublist.refl _))))))))) | (with_reducible (repeat (first | exact List.Sublist.refl _ | apply List.Sublist.cons_cons | apply List.Sublist.cons)))) : ∀ w, St w0 H w → St w0 HS w := fun _ x => x.sub h
theorem nxRS {p q : Prop} (h : q) (s : q → p := by intro h; (show RS _ _ _ _ _ _ _ _); first
  | (apply RS.stepK; (case _hr => exact rfl); (case hd => exact rfl); (case h => exact h))
  | (apply RS.storeA; (case hx => rfl); (case hy => rfl); (case hu => rfl); (case hm => exact updA); (case hi => rfl); (case hs => decide +kernel); (case h => exact h))
  | (apply RS.storeRowA; (case hx => rfl); (case hy => rfl); (case hu => rfl); (case hm => exact updA); (case hl => (repeat (first | exact .nil | apply LenIs.cons))); (case hl2 => (repeat (first | exact .nil | apply LenIs.cons))); (case hs => decide +kernel); (case h => exact h))
  | (apply RS.storeI; (case hx => rfl); (case hy => rfl); (case hu => exact updA); (case hm => clear h; exact omlA); (case hs => decide +kernel); (case h => exact h))
  | (apply RS.lTK; (case hj => exact rfl); (case hg => exact rfl); (case hb => with_reducible rfl); (case _hr => exact rfl); (case hd => exact rfl); (case h => exact h))
  | (apply RS.xT; (case hj => exact rfl); (case hg => exact rfl); (case hb => with_reducible first | exact nfT | exact nfF | rfl); (case hd => exact rfl); (case h => exact h))
  | (apply RS.gTK; (case hj => exact rfl); (case hg => exact rfl); (case _hr => exact rfl); (case hd => exact rfl); (case h => exact h))
  | (apply RS.gTcK; (case hj => exact rfl); (case hg => exact rfl); (case _hr => exact rfl); (case hd => exact rfl); (case h => exact h))
  | (apply RS.lFK; (case hj => exact rfl); (case hg => exact rfl); (case hb => with_reducible rfl); (case _hr => exact rfl); (case hd => exact rfl); (case h => exact h))
  | (apply RS.xF; (case hj => exact rfl); (case hg => exact rfl); (case hb => with_reducible first | exact nfT | exact nfF | rfl); (case hd => exact rfl); (case h => exact h))
  | (apply RS.gFK; (case hj => exact rfl); (case hg => exact rfl); (case _hr => exact rfl); (case hd => exact rfl); (case h => exact h))
  | (apply RS.gFcK; (case hj => exact rfl); (case hg => exact rfl); (case _hr => exact rfl); (case hd => exact rfl); (case h => exact h))
  | (apply RS.finish; exact h)) : p := s h
theorem nxRS1 {β : Type} {p : Prop} {q : β → Prop} (h : ∀ b, q b) (s : (∀ b, q b) → p := by intro h; (show RS _ _ _ _ _ _ _ _); first
  | (apply RS.boxA; (case hx => rfl); (case hc => rfl); (case hd => rfl); (case h => exact h))
  | (apply RS.allocA; (case hz => exact ZeroTy.is); (case hc => rfl); (case hd => rfl); (case h => exact h))
  | (apply RS.litI; (case hx => rfl); (case hd => rfl); (case h => exact h))
  | (apply RS.lit0; (case hd => rfl); (case h => exact h))
  | (apply RS.append0A; (case hx => rfl); (case hy => rfl); (case hr => exact rdA); (case hu => intro v'; exact updA); (case h1 => exact fun _ => rfl); (case hb => clear h; exact omlA); (case hd => rfl); (case h => exact h))
  | (apply RS.appendA; (case hx => rfl); (case hy => rfl); (case hu => intro v'; exact updA); (case hr => exact rdA); (case h1 => exact fun _ => rfl); (case hb => clear h; exact omlA); (case hd => rfl); (case h => exact h))
  | (apply RS.appendNA; (case hx => rfl); (case hy => rfl); (case hr => exact rdA); (case h1 => exact fun _ => rfl); (case hb => clear h; exact omlA); (case hd => rfl); (case h => exact h))
  | (apply RS.makeI; (case hx => rfl); (case hz => decide +kernel); (case hm => clear h; exact omlA); (case hd => rfl); (case h => exact h))) : p := s h
theorem nxRM {p q : Prop} (h : q) (s : q → p := by intro h; (show RM _ _ _ _ _ _ _ _ _ _); first
  | (apply RM.stepK; (case ho => exact rfl); (case hp => exact rfl); (case hd => exact rfl); (case hs => exact subA); (case h => exact h))
  | (apply RM.callK; (case ho => exact rfl); (case hp => exact rfl); (case _hr => exact rfl); (case hd => exact rfl); (case hs => exact subA); (case h => exact h))
  | (apply RM.storeA; (case ho => rfl); (case hx => rfl); (case hy => rfl); (case hu => rfl); (case hm => exact updA); (case hi => rfl); (case hs => decide +kernel); (case hl => decide +kernel); (case h => exact h))
  | (apply RM.storeRowA; (case ho => rfl); (case hx => rfl); (case hy => rfl); (case hu => rfl); (case hm => exact updA); (case hl => (repeat (first | exact .nil | apply LenIs.cons))); (case hl2 => (repeat (first | exact .nil | apply LenIs.cons))); (case hs => decide +kernel); (case hla => decide +kernel); (case h => exact h))
  | (apply RM.storeB; (case ho => rfl); (case hx => rfl); (case hy => rfl); (case hu => rfl); (case hm => exact updA); (case hi => rfl); (case hs => decide +kernel); (case hl => exact subA); (case h => exact h))
  | (apply RM.storeRowB; (case ho => rfl); (case hx => rfl); (case hy => rfl); (case hu => rfl); (case hm => exact updA); (case hl => (repeat (first | exact .nil | apply LenIs.cons))); (case hl2 => (repeat (first | exact .nil | apply LenIs.cons))); (case hs => decide +kernel); (case hla => exact subA); (case h => exact h))
  | (apply RM.pendA; (case ho => rfl); (case hl => rfl); (case hz => exact ZeroTy.is); (case hc => rfl); (case hd => rfl); (case h => exact h))
  | (apply RM.lTK; (case ho => exact rfl); (case hp => exact rfl); (case hj => exact rfl); (case hg => exact rfl); (case hb => with_reducible rfl); (case hd => exact rfl); (case hs => exact subA); (case h => exact h))
  | (apply RM.xT; (case ho => exact rfl); (case hp => exact rfl); (case hj => exact rfl); (case hg => exact rfl); (case hb => with_reducible first | exact nfT | exact nfF | rfl); (case hd => exact rfl); (case hs => exact subA); (case h => exact h))
  | (apply RM.gTK; (case ho => exact rfl); (case hp => exact rfl); (case hj => exact rfl); (case hg => exact rfl); (case hd => exact rfl); (case hs => exact subA); (case h => exact h))
  | (apply RM.gTcK; (case ho => exact rfl); (case hp => exact rfl); (case hj => exact rfl); (case hg => exact rfl); (case hd => exact rfl); (case hs => exact subA); (case h => exact h))
  | (apply RM.lTyK; (case ho => exact rfl); (case hp => exact rfl); (case hj => exact rfl); (case hg => exact rfl); (case hb => with_reducible rfl); (case hd => exact rfl); (case hs => exact subA); (case h => exact h))
  | (apply RM.xTy; (case ho => exact rfl); (case hp => exact rfl); (case hj => exact rfl); (case hg => exact rfl); (case hb => with_reducible first | exact nfT | exact nfF | rfl); (case hd => exact rfl); (case hs => exact subA); (case h => exact h))
  | (apply RM.gTyK; (case ho => exact rfl); (case hp => exact rfl); (case hj => exact rfl); (case hg => exact rfl); (case hd => exact rfl); (case hs => exact subA); (case h => exact h))
  | (apply RM.gTycK; (case ho => exact rfl); (case hp => exact rfl); (case hj => exact rfl); (case hg => exact rfl); (case hd => exact rfl); (case hs => exact subA); (case h => exact h))
  | (apply RM.lFK; (case ho => exact rfl); (case hp => exact rfl); (case hj => exact rfl); (case hg => exact rfl); (case hb => with_reducible rfl); (case hd => exact rfl); (case hs => exact subA); (case h => exact h))
  | (apply RM.xF; (case ho => exact rfl); (case hp => exact rfl); (case hj => exact rfl); (case hg => exact rfl); (case hb => with_reducible first | exact nfT | exact nfF | rfl); (case hd => exact rfl); (case hs => exact subA); (case h => exact h))
  | (apply RM.gFK; (case ho => exact rfl); (case hp => exact rfl); (case hj => exact rfl); (case hg => exact rfl); (case hd => exact rfl); (case hs => exact subA); (case h => exact h))
  | (apply RM.gFcK; (case ho => exact rfl); (case hp => exact rfl); (case hj => exact rfl); (case hg => exact rfl); (case hd => exact rfl); (case hs => exact subA); (case h => exact h))
  | (apply RM.lFyK; (case ho => exact rfl); (case hp => exact rfl); (case hj => exact rfl); (case hg => exact rfl); (case hb => with_reducible rfl); (case hd => exact rfl); (case hs => exact subA); (case h => exact h))
  | (apply RM.xFy; (case ho => exact rfl); (case hp => exact rfl); (case hj => exact rfl); (case hg => exact rfl); (case hb => with_reducible first | exact nfT | exact nfF | rfl); (case hd => exact rfl); (case hs => exact subA); (case h => exact h))
  | (apply RM.gFyK; (case ho => exact rfl); (case hp => exact rfl); (case hj => exact rfl); (case hg => exact rfl); (case hd => exact rfl); (case hs => exact subA); (case h => exact h))
  | (apply RM.gFycK; (case ho => exact rfl); (case hp => exact rfl); (case hj => exact rfl); (case hg => exact rfl); (case hd => exact rfl); (case hs => exact subA); (case h => exact h))
  | (apply RM.finish; exact h)) : p := s h
theorem nxRM1 {β : Type} {p : Prop} {q : β → Prop} (h : ∀ b, q b) (s : (∀ b, q b) → p := by intro h; (show RM _ _ _ _ _ _ _ _ _ _); first
  | (apply RM.allocA; (case ho => rfl); (case hz => exact ZeroTy.is); (case hc => rfl); (case hs => exact fun _ => subA); (case hd => rfl); (case h => exact h))
  | (apply RM.cameA; (case hs => exact subA); (case hs' => exact fun _ => subA); (case h => exact h))) : p := s h
theorem nxV {p q : Prop} (h : q) (s : q → p := by intro h; first | (show YK _ _ _ _ _ _ _; exact YK.ofV vAuto h) | (show VK _ _ _ _ _ _ _; exact VK.mk vAuto h)) : p := s h
theorem nxG {p q : Prop} (h : q) (s : q → p := by intro h; first | (show YG _ _ _ _ _ _ _ _; exact YG.mk (fun hb => by (try (have hc := And.left hb; have hb := And.right hb; rw [hc])); (try rw [hb]); exact V.y vAuto) h) | (show VG _ _ _ _ _ _ _ _; exact VG.mk (fun hb => by (try (have hc := And.left hb; have hb := And.right hb; rw [hc])); (try rw [hb]); exact vAuto) h)) : p := s h
theorem nxX {p q : Prop} (h : q) (s : q → p := by intro h; first | (apply G.seq; exact h) | (apply X.then_normal; exact h) | (apply G.region; exact h) | (apply G.block; exact h) | (apply G.skip; exact h) | (apply G.exit; exact h) | (apply G.ret; exact h) | (apply X.then_ret; exact h) | (apply X.then_exit; exact h) | (apply X.block_out; exact h) | (apply X.block_normal; exact h) | (apply X.block_ret; exact h) | exact X.block_exit rfl h) : p := s h
end Go.Proofs.YtaglecidaedjfaaDoor
