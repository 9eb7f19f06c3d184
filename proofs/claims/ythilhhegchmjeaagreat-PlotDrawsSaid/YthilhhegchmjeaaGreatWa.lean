/- Joined texts: Step, Tys, Str, ContU, RowSt, Bytes, FrameS, FrameI, Laid. -/
import Derived.Test.YthilhhegchmjeaaGreatGround
import Derived.Test.YthilhhegchmjeaaGreatRows
import Derived.Laws.Strings
import Derived.Laws.Strings2
import Derived.Laws.Strings3
import Derived.Laws.Concat
import Derived.Laws.IdiomCopy
import Derived.Maps.AppendAt
import Derived.Laws.BytesString
import Derived.Deep.Slices
import Derived.ProofKit
import Derived.OpenShut
import Derived.Lib.SmallJoins
import Derived.LaidMore
import Derived.LaidHandle
import Derived.LaidSub
import Derived.Lib.LaidTab
import Derived.Lib.ItoaNum
import Derived.Shelf.Vars
import Derived.MakeChecks
/- The steps of the walk, each a search that stands once: what suffices for the judgement on the next operation. Printed by a program (wip/steps.py). -/
set_option linter.unusedVariables false
namespace Go.Proofs.YthilhhegchmjeaaGreat
open Go.RowKit
theorem subA {w0 : World} {H HS : List Hl} (h : List.Sublist HS H := by first | (first | exact List.Sublist.refl _ | exact .cons _ (List.Sublist.refl _) | exact .cons _ (.cons _ (List.Sublist.refl _)) | exact .cons _ (.cons _ (.cons _ (List.Sublist.refl _))) | exact .cons _ (.cons _ (.cons _ (.cons _ (List.Sublist.refl _)))) | exact .cons _ (.cons _ (.cons _ (.cons _ (.cons _ (List.Sublist.refl _))))) | exact .cons _ (.cons _ (.cons _ (.cons _ (.cons _ (.cons _ (List.Sublist.refl _)))))) | exact .cons _ (.cons _ (.cons _ (.cons _ (.cons _ (.cons _ (.cons _ (List.Sublist.refl _))))))) | exact .cons _ (.cons _ (.cons _ (.cons _ (.cons _ (.cons _ (.cons _ (.cons _ (List.Sublist.refl _))))))))) | (with_reducible (repeat (first | exact List.Sublist.refl _ | apply List.Sublist.cons_cons | apply List.Sublist.cons)))) : ∀ w, St w0 H w → St w0 HS w := fun _ x => x.sub h
theorem nxRS {p q : Prop} (h : q) (s : q → p := by intro h; (show RS _ _ _ _ _ _ _ _); first
  | (apply RS.stepK; (case _hr => exact rfl); (case hd => exact rfl); (case h => exact h))
  | (apply RS.storeA; (case hx => rfl); (case hy => rfl); (case hu => rfl); (case hm => exact updA); (case hi => rfl); (case hs => decide +kernel); (case h => exact h))
  | (apply RS.storeRowA; (case hx => rfl); (case hy => rfl); (case hu => rfl); (case hm => exact updA); (case hl => (repeat (first | exact .nil | apply LenIs.cons))); (case hl2 => (repeat (first | exact .nil | apply LenIs.cons))); (case hs => decide +kernel); (case h => exact h))
  | (apply RS.storeI; (case hx => rfl); (case hy => rfl); (case hu => exact updA); (case hm => clear h; exact omlA); (case hs => decide +kernel); (case h => exact h))
  | (apply RS.lTK; (case hj => exact rfl); (case hg => exact rfl); (case hb => with_reducible rfl); (case _hr => exact rfl); (case hd => exact rfl); (case h => exact h))
  | (apply RS.xT; (case hj => exact rfl); (case hg => exact rfl); (case hb => with_reducible first | exact nfT | exact nfF | rfl); (case hd => exact rfl); (case h => exact h))
  | (apply RS.gTK; (case hj => exact rfl); (case hg => exact rfl); (case _hr => exact rfl); (case hd => exact rfl); (case h => exact h))
  | (apply RS.gTcK; (case hj => exact rfl); (case hg => exact rfl); (case _hr => exact rfl); (case hd => exact rfl); (case h => exact h))
  | (apply RS.lFK; (case hj => exact rfl); (case hg => exact rfl); (case hb => with_reducible rfl); (case _hr => exact rfl); (case hd => exact rfl); (case h => exact h))
  | (apply RS.xF; (case hj => exact rfl); (case hg => exact rfl); (case hb => with_reducible first | exact nfT | exact nfF | rfl); (case hd => exact rfl); (case h => exact h))
  | (apply RS.gFK; (case hj => exact rfl); (case hg => exact rfl); (case _hr => exact rfl); (case hd => exact rfl); (case h => exact h))
  | (apply RS.gFcK; (case hj => exact rfl); (case hg => exact rfl); (case _hr => exact rfl); (case hd => exact rfl); (case h => exact h))
  | (apply RS.finish; exact h)) : p := s h
theorem nxRS1 {β : Type} {p : Prop} {q : β → Prop} (h : ∀ b, q b) (s : (∀ b, q b) → p := by intro h; (show RS _ _ _ _ _ _ _ _); first
  | (apply RS.boxA; (case hx => rfl); (case hc => rfl); (case hd => rfl); (case h => exact h))
  | (apply RS.allocA; (case hz => exact ZeroTy.is); (case hc => rfl); (case hd => rfl); (case h => exact h))
  | (apply RS.litI; (case hx => rfl); (case hd => rfl); (case h => exact h))
  | (apply RS.lit0; (case hd => rfl); (case h => exact h))
  | (apply RS.append0A; (case hx => rfl); (case hy => rfl); (case hr => exact rdA); (case hu => intro v'; exact updA); (case h1 => exact fun _ => rfl); (case hb => clear h; exact omlA); (case hd => rfl); (case h => exact h))
  | (apply RS.appendA; (case hx => rfl); (case hy => rfl); (case hu => intro v'; exact updA); (case hr => exact rdA); (case h1 => exact fun _ => rfl); (case hb => clear h; exact omlA); (case hd => rfl); (case h => exact h))
  | (apply RS.appendNA; (case hx => rfl); (case hy => rfl); (case hr => exact rdA); (case h1 => exact fun _ => rfl); (case hb => clear h; exact omlA); (case hd => rfl); (case h => exact h))
  | (apply RS.makeI; (case hx => rfl); (case hz => decide +kernel); (case hm => clear h; exact omlA); (case hd => rfl); (case h => exact h))) : p := s h
theorem nxRM {p q : Prop} (h : q) (s : q → p := by intro h; (show RM _ _ _ _ _ _ _ _ _ _); first
  | (apply RM.stepK; (case ho => exact rfl); (case hp => exact rfl); (case hd => exact rfl); (case hs => exact subA); (case h => exact h))
  | (apply RM.callK; (case ho => exact rfl); (case hp => exact rfl); (case _hr => exact rfl); (case hd => exact rfl); (case hs => exact subA); (case h => exact h))
  | (apply RM.storeA; (case ho => rfl); (case hx => rfl); (case hy => rfl); (case hu => rfl); (case hm => exact updA); (case hi => rfl); (case hs => decide +kernel); (case hl => decide +kernel); (case h => exact h))
  | (apply RM.storeRowA; (case ho => rfl); (case hx => rfl); (case hy => rfl); (case hu => rfl); (case hm => exact updA); (case hl => (repeat (first | exact .nil | apply LenIs.cons))); (case hl2 => (repeat (first | exact .nil | apply LenIs.cons))); (case hs => decide +kernel); (case hla => decide +kernel); (case h => exact h))
  | (apply RM.storeB; (case ho => rfl); (case hx => rfl); (case hy => rfl); (case hu => rfl); (case hm => exact updA); (case hi => rfl); (case hs => decide +kernel); (case hl => exact subA); (case h => exact h))
  | (apply RM.storeRowB; (case ho => rfl); (case hx => rfl); (case hy => rfl); (case hu => rfl); (case hm => exact updA); (case hl => (repeat (first | exact .nil | apply LenIs.cons))); (case hl2 => (repeat (first | exact .nil | apply LenIs.cons))); (case hs => decide +kernel); (case hla => exact subA); (case h => exact h))
  | (apply RM.pendA; (case ho => rfl); (case hl => rfl); (case hz => exact ZeroTy.is); (case hc => rfl); (case hd => rfl); (case h => exact h))
  | (apply RM.lTK; (case ho => exact rfl); (case hp => exact rfl); (case hj => exact rfl); (case hg => exact rfl); (case hb => with_reducible rfl); (case hd => exact rfl); (case hs => exact subA); (case h => exact h))
  | (apply RM.xT; (case ho => exact rfl); (case hp => exact rfl); (case hj => exact rfl); (case hg => exact rfl); (case hb => with_reducible first | exact nfT | exact nfF | rfl); (case hd => exact rfl); (case hs => exact subA); (case h => exact h))
  | (apply RM.gTK; (case ho => exact rfl); (case hp => exact rfl); (case hj => exact rfl); (case hg => exact rfl); (case hd => exact rfl); (case hs => exact subA); (case h => exact h))
  | (apply RM.gTcK; (case ho => exact rfl); (case hp => exact rfl); (case hj => exact rfl); (case hg => exact rfl); (case hd => exact rfl); (case hs => exact subA); (case h => exact h))
  | (apply RM.lTyK; (case ho => exact rfl); (case hp => exact rfl); (case hj => exact rfl); (case hg => exact rfl); (case hb => with_reducible rfl); (case hd => exact rfl); (case hs => exact subA); (case h => exact h))
  | (apply RM.xTy; (case ho => exact rfl); (case hp => exact rfl); (case hj => exact rfl); (case hg => exact rfl); (case hb => with_reducible first | exact nfT | exact nfF | rfl); (case hd => exact rfl); (case hs => exact subA); (case h => exact h))
  | (apply RM.gTyK; (case ho => exact rfl); (case hp => exact rfl); (case hj => exact rfl); (case hg => exact rfl); (case hd => exact rfl); (case hs => exact subA); (case h => exact h))
  | (apply RM.gTycK; (case ho => exact rfl); (case hp => exact rfl); (case hj => exact rfl); (case hg => exact rfl); (case hd => exact rfl); (case hs => exact subA); (case h => exact h))
  | (apply RM.lFK; (case ho => exact rfl); (case hp => exact rfl); (case hj => exact rfl); (case hg => exact rfl); (case hb => with_reducible rfl); (case hd => exact rfl); (case hs => exact subA); (case h => exact h))
  | (apply RM.xF; (case ho => exact rfl); (case hp => exact rfl); (case hj => exact rfl); (case hg => exact rfl); (case hb => with_reducible first | exact nfT | exact nfF | rfl); (case hd => exact rfl); (case hs => exact subA); (case h => exact h))
  | (apply RM.gFK; (case ho => exact rfl); (case hp => exact rfl); (case hj => exact rfl); (case hg => exact rfl); (case hd => exact rfl); (case hs => exact subA); (case h => exact h))
  | (apply RM.gFcK; (case ho => exact rfl); (case hp => exact rfl); (case hj => exact rfl); (case hg => exact rfl); (case hd => exact rfl); (case hs => exact subA); (case h => exact h))
  | (apply RM.lFyK; (case ho => exact rfl); (case hp => exact rfl); (case hj => exact rfl); (case hg => exact rfl); (case hb => with_reducible rfl); (case hd => exact rfl); (case hs => exact subA); (case h => exact h))
  | (apply RM.xFy; (case ho => exact rfl); (case hp => exact rfl); (case hj => exact rfl); (case hg => exact rfl); (case hb => with_reducible first | exact nfT | exact nfF | rfl); (case hd => exact rfl); (case hs => exact subA); (case h => exact h))
  | (apply RM.gFyK; (case ho => exact rfl); (case hp => exact rfl); (case hj => exact rfl); (case hg => exact rfl); (case hd => exact rfl); (case hs => exact subA); (case h => exact h))
  | (apply RM.gFycK; (case ho => exact rfl); (case hp => exact rfl); (case hj => exact rfl); (case hg => exact rfl); (case hd => exact rfl); (case hs => exact subA); (case h => exact h))
  | (apply RM.finish; exact h)) : p := s h
theorem nxRM1 {β : Type} {p : Prop} {q : β → Prop} (h : ∀ b, q b) (s : (∀ b, q b) → p := by intro h; (show RM _ _ _ _ _ _ _ _ _ _); first
  | (apply RM.allocA; (case ho => rfl); (case hz => exact ZeroTy.is); (case hc => rfl); (case hs => exact fun _ => subA); (case hd => rfl); (case h => exact h))
  | (apply RM.cameA; (case hs => exact subA); (case hs' => exact fun _ => subA); (case h => exact h))) : p := s h
theorem nxV {p q : Prop} (h : q) (s : q → p := by intro h; first | (show YK _ _ _ _ _ _ _; exact YK.ofV vAuto h) | (show VK _ _ _ _ _ _ _; exact VK.mk vAuto h)) : p := s h
theorem nxG {p q : Prop} (h : q) (s : q → p := by intro h; first | (show YG _ _ _ _ _ _ _ _; exact YG.mk (fun hb => by (try (have hc := And.left hb; have hb := And.right hb; rw [hc])); (try rw [hb]); exact V.y vAuto) h) | (show VG _ _ _ _ _ _ _ _; exact VG.mk (fun hb => by (try (have hc := And.left hb; have hb := And.right hb; rw [hc])); (try rw [hb]); exact vAuto) h)) : p := s h
theorem nxX {p q : Prop} (h : q) (s : q → p := by intro h; first | (apply G.seq; exact h) | (apply X.then_normal; exact h) | (apply G.region; exact h) | (apply G.block; exact h) | (apply G.skip; exact h) | (apply G.exit; exact h) | (apply G.ret; exact h) | (apply X.then_ret; exact h) | (apply X.then_exit; exact h) | (apply X.block_out; exact h) | (apply X.block_normal; exact h) | (apply X.block_ret; exact h) | exact X.block_exit rfl h) : p := s h
end Go.Proofs.YthilhhegchmjeaaGreat
/- The seat's types: one instance for each of which the proofs ask. Printed by a program (wip/tys.py). -/
set_option linter.unusedVariables false
namespace Go.Proofs.YthilhhegchmjeaaGreat
open Go.RowKit
instance tyI2 : IntTy Tryz.prog 2 .i64 := ⟨by kernel_rfl⟩
instance tyZ2 : ZeroTy Tryz.prog 2 (Go.Value.int Go.IntKind.i64 0) := ⟨by kernel_rfl⟩
instance tyI3 : IntTy Tryz.prog 3 .i64 := ⟨by kernel_rfl⟩
instance tyZ3 : ZeroTy Tryz.prog 3 (Go.Value.int Go.IntKind.i64 0) := ⟨by kernel_rfl⟩
instance tyB4 : BoolTy Tryz.prog 4 := ⟨by kernel_rfl⟩
instance tyZ4 : ZeroTy Tryz.prog 4 (Go.Value.bool false) := ⟨by kernel_rfl⟩
instance tyI5 : IntTy Tryz.prog 5 .u8 := ⟨by kernel_rfl⟩
instance tyZ5 : ZeroTy Tryz.prog 5 (Go.Value.int Go.IntKind.u8 0) := ⟨by kernel_rfl⟩
instance tyI6 : IntTy Tryz.prog 6 .u8 := ⟨by kernel_rfl⟩
instance tyZ6 : ZeroTy Tryz.prog 6 (Go.Value.int Go.IntKind.u8 0) := ⟨by kernel_rfl⟩
instance tyZ7 : ZeroTy Tryz.prog 7 (Go.Value.agg #[Go.Value.int Go.IntKind.i64 0, Go.Value.int Go.IntKind.i64 0, Go.Value.bool false, Go.Value.int Go.IntKind.u8 0]) := ⟨by kernel_rfl⟩
instance tyZ8 : ZeroTy Tryz.prog 8 (Go.Value.agg #[Go.Value.int Go.IntKind.i64 0, Go.Value.int Go.IntKind.i64 0, Go.Value.bool false, Go.Value.int Go.IntKind.u8 0]) := ⟨by kernel_rfl⟩
instance tyS9 : StrTy Tryz.prog 9 := ⟨by kernel_rfl⟩
instance tyZ9 : ZeroTy Tryz.prog 9 (Go.Value.string { data := #[] }) := ⟨by kernel_rfl⟩
instance tyS10 : StrTy Tryz.prog 10 := ⟨by kernel_rfl⟩
instance tyZ10 : ZeroTy Tryz.prog 10 (Go.Value.string { data := #[] }) := ⟨by kernel_rfl⟩
instance tyS11 : StrTy Tryz.prog 11 := ⟨by kernel_rfl⟩
instance tyZ11 : ZeroTy Tryz.prog 11 (Go.Value.string { data := #[] }) := ⟨by kernel_rfl⟩
instance tyI12 : IntTy Tryz.prog 12 .u64 := ⟨by kernel_rfl⟩
instance tyZ12 : ZeroTy Tryz.prog 12 (Go.Value.int Go.IntKind.u64 0) := ⟨by kernel_rfl⟩
instance tyZ13 : ZeroTy Tryz.prog 13 (Go.Value.agg #[Go.Value.string { data := #[] }, Go.Value.int Go.IntKind.u64 0]) := ⟨by kernel_rfl⟩
instance tyZ14 : ZeroTy Tryz.prog 14 (Go.Value.agg #[Go.Value.string { data := #[] }, Go.Value.int Go.IntKind.u64 0]) := ⟨by kernel_rfl⟩
instance tyZ18 : ZeroTy Tryz.prog 18 (Go.Value.agg #[Go.Value.pointer none]) := ⟨by kernel_rfl⟩
instance tyZ19 : ZeroTy Tryz.prog 19 (Go.Value.agg #[Go.Value.pointer none]) := ⟨by kernel_rfl⟩
instance tyZ20 : ZeroTy Tryz.prog 20 Go.Value.nilIface := ⟨by kernel_rfl⟩
instance tyI21 : IntTy Tryz.prog 21 .i32 := ⟨by kernel_rfl⟩
instance tyZ21 : ZeroTy Tryz.prog 21 (Go.Value.int Go.IntKind.i32 0) := ⟨by kernel_rfl⟩
instance tyZ22 : ZeroTy Tryz.prog 22 (Go.Value.agg #[Go.Value.int Go.IntKind.i64 0, Go.Value.int Go.IntKind.i64 0]) := ⟨by kernel_rfl⟩
instance tyZ23 : ZeroTy Tryz.prog 23 (Go.Value.agg #[Go.Value.int Go.IntKind.i64 0, Go.Value.int Go.IntKind.i64 0]) := ⟨by kernel_rfl⟩
instance tyR24 : RowTy Tryz.prog 24 33 11 104 := ⟨by kernel_rfl⟩
instance tyZ24 : ZeroTy Tryz.prog 24 (Go.Value.slice none 0 0) := ⟨by kernel_rfl⟩
instance tyZ27 : ZeroTy Tryz.prog 27 (Go.Value.agg #[Go.Value.int Go.IntKind.i64 0, Go.Value.int Go.IntKind.i64 0]) := ⟨by kernel_rfl⟩
instance tyZ28 : ZeroTy Tryz.prog 28 (Go.Value.agg #[Go.Value.int Go.IntKind.i64 0, Go.Value.int Go.IntKind.i64 0]) := ⟨by kernel_rfl⟩
instance tyZ29 : ZeroTy Tryz.prog 29 (Go.Value.agg #[Go.Value.int Go.IntKind.i64 0, Go.Value.int Go.IntKind.i64 0, Go.Value.int Go.IntKind.i64 0, Go.Value.int Go.IntKind.i64 0, Go.Value.int Go.IntKind.i64 0, Go.Value.int Go.IntKind.i64 0]) := ⟨by kernel_rfl⟩
instance tyZ30 : ZeroTy Tryz.prog 30 (Go.Value.agg #[Go.Value.int Go.IntKind.i64 0, Go.Value.int Go.IntKind.i64 0, Go.Value.int Go.IntKind.i64 0, Go.Value.int Go.IntKind.i64 0, Go.Value.int Go.IntKind.i64 0, Go.Value.int Go.IntKind.i64 0]) := ⟨by kernel_rfl⟩
instance tyR31 : RowTy Tryz.prog 31 110 3 24 := ⟨by kernel_rfl⟩
instance tyZ31 : ZeroTy Tryz.prog 31 (Go.Value.slice none 0 0) := ⟨by kernel_rfl⟩
instance tyZ32 : ZeroTy Tryz.prog 32 (Go.Value.agg #[Go.Value.int Go.IntKind.i64 0, Go.Value.int Go.IntKind.i64 0, Go.Value.int Go.IntKind.i64 0, Go.Value.int Go.IntKind.i64 0, Go.Value.int Go.IntKind.i64 0, Go.Value.int Go.IntKind.i64 0, Go.Value.int Go.IntKind.i64 0, Go.Value.slice none 0 0, Go.Value.int Go.IntKind.i64 0, Go.Value.int Go.IntKind.i64 0, Go.Value.int Go.IntKind.u8 0]) := ⟨by kernel_rfl⟩
instance tyZ33 : ZeroTy Tryz.prog 33 (Go.Value.agg #[Go.Value.int Go.IntKind.i64 0, Go.Value.int Go.IntKind.i64 0, Go.Value.int Go.IntKind.i64 0, Go.Value.int Go.IntKind.i64 0, Go.Value.int Go.IntKind.i64 0, Go.Value.int Go.IntKind.i64 0, Go.Value.int Go.IntKind.i64 0, Go.Value.slice none 0 0, Go.Value.int Go.IntKind.i64 0, Go.Value.int Go.IntKind.i64 0, Go.Value.int Go.IntKind.u8 0]) := ⟨by kernel_rfl⟩
instance tyR36 : RowTy Tryz.prog 36 85 1 24 := ⟨by kernel_rfl⟩
instance tyZ36 : ZeroTy Tryz.prog 36 (Go.Value.slice none 0 0) := ⟨by kernel_rfl⟩
instance tyZ37 : ZeroTy Tryz.prog 37 (Go.Value.agg #[Go.Value.int Go.IntKind.i64 0, Go.Value.int Go.IntKind.i64 0, Go.Value.int Go.IntKind.i64 0, Go.Value.int Go.IntKind.i64 0, Go.Value.slice none 0 0]) := ⟨by kernel_rfl⟩
instance tyZ38 : ZeroTy Tryz.prog 38 (Go.Value.agg #[Go.Value.int Go.IntKind.i64 0, Go.Value.int Go.IntKind.i64 0, Go.Value.int Go.IntKind.i64 0, Go.Value.int Go.IntKind.i64 0, Go.Value.slice none 0 0]) := ⟨by kernel_rfl⟩
instance tyI41 : IntTy Tryz.prog 41 .i64 := ⟨by kernel_rfl⟩
instance tyZ41 : ZeroTy Tryz.prog 41 (Go.Value.int Go.IntKind.i64 0) := ⟨by kernel_rfl⟩
instance tyZ61 : ZeroTy Tryz.prog 61 (Go.Value.agg #[Go.Value.int Go.IntKind.i64 0, Go.Value.int Go.IntKind.i64 0, Go.Value.int Go.IntKind.i64 0, Go.Value.int Go.IntKind.i64 0, Go.Value.slice none 0 0]) := ⟨by kernel_rfl⟩
instance tyZ62 : ZeroTy Tryz.prog 62 (Go.Value.agg #[Go.Value.int Go.IntKind.i64 0, Go.Value.int Go.IntKind.i64 0, Go.Value.int Go.IntKind.i64 0, Go.Value.int Go.IntKind.i64 0, Go.Value.slice none 0 0]) := ⟨by kernel_rfl⟩
instance tyZ65 : ZeroTy Tryz.prog 65 (Go.Value.agg #[Go.Value.int Go.IntKind.i64 0, Go.Value.int Go.IntKind.i64 0]) := ⟨by kernel_rfl⟩
instance tyR85 : RowTy Tryz.prog 85 5 1 1 := ⟨by kernel_rfl⟩
instance tyZ85 : ZeroTy Tryz.prog 85 (Go.Value.slice none 0 0) := ⟨by kernel_rfl⟩
instance tyI92 : IntTy Tryz.prog 92 .u64 := ⟨by kernel_rfl⟩
instance tyZ92 : ZeroTy Tryz.prog 92 (Go.Value.int Go.IntKind.u64 0) := ⟨by kernel_rfl⟩
instance tyZ97 : ZeroTy Tryz.prog 97 (Go.Value.agg #[Go.Value.pointer none, Go.Value.slice none 0 0]) := ⟨by kernel_rfl⟩
instance tyZ98 : ZeroTy Tryz.prog 98 (Go.Value.agg #[Go.Value.pointer none, Go.Value.slice none 0 0]) := ⟨by kernel_rfl⟩
instance tyZ100 : ZeroTy Tryz.prog 100 Go.Value.nilIface := ⟨by kernel_rfl⟩
instance tyZ101 : ZeroTy Tryz.prog 101 Go.Value.nilIface := ⟨by kernel_rfl⟩
instance tyZ109 : ZeroTy Tryz.prog 109 (Go.Value.agg #[Go.Value.int Go.IntKind.i64 0, Go.Value.int Go.IntKind.i64 0, Go.Value.int Go.IntKind.i64 0]) := ⟨by kernel_rfl⟩
instance tyZ110 : ZeroTy Tryz.prog 110 (Go.Value.agg #[Go.Value.int Go.IntKind.i64 0, Go.Value.int Go.IntKind.i64 0, Go.Value.int Go.IntKind.i64 0]) := ⟨by kernel_rfl⟩
instance tyR114 : RowTy Tryz.prog 114 136 2 16 := ⟨by kernel_rfl⟩
instance tyZ114 : ZeroTy Tryz.prog 114 (Go.Value.slice none 0 0) := ⟨by kernel_rfl⟩
instance tyZ118 : ZeroTy Tryz.prog 118 (Go.Value.agg #[Go.Value.int Go.IntKind.i64 0, Go.Value.int Go.IntKind.i64 0, Go.Value.int Go.IntKind.i64 0, Go.Value.int Go.IntKind.i64 0]) := ⟨by kernel_rfl⟩
instance tyZ119 : ZeroTy Tryz.prog 119 (Go.Value.agg #[Go.Value.int Go.IntKind.i64 0, Go.Value.int Go.IntKind.i64 0, Go.Value.int Go.IntKind.i64 0, Go.Value.int Go.IntKind.i64 0]) := ⟨by kernel_rfl⟩
instance tyI125 : IntTy Tryz.prog 125 .u32 := ⟨by kernel_rfl⟩
instance tyZ125 : ZeroTy Tryz.prog 125 (Go.Value.int Go.IntKind.u32 0) := ⟨by kernel_rfl⟩
instance tyI128 : IntTy Tryz.prog 128 .u64 := ⟨by kernel_rfl⟩
instance tyZ128 : ZeroTy Tryz.prog 128 (Go.Value.int Go.IntKind.u64 0) := ⟨by kernel_rfl⟩
instance tyZ135 : ZeroTy Tryz.prog 135 (Go.Value.agg #[Go.Value.int Go.IntKind.i64 0, Go.Value.int Go.IntKind.i64 0]) := ⟨by kernel_rfl⟩
instance tyZ136 : ZeroTy Tryz.prog 136 (Go.Value.agg #[Go.Value.int Go.IntKind.i64 0, Go.Value.int Go.IntKind.i64 0]) := ⟨by kernel_rfl⟩
instance tyR151 : RowTy Tryz.prog 151 3 1 8 := ⟨by kernel_rfl⟩
instance tyZ151 : ZeroTy Tryz.prog 151 (Go.Value.slice none 0 0) := ⟨by kernel_rfl⟩
instance tyZ153 : ZeroTy Tryz.prog 153 (Go.Value.agg #[Go.Value.int Go.IntKind.u64 0, Go.Value.int Go.IntKind.u64 0, Go.Value.int Go.IntKind.u64 0, Go.Value.int Go.IntKind.u64 0]) := ⟨by kernel_rfl⟩
instance tyZ154 : ZeroTy Tryz.prog 154 (Go.Value.agg #[Go.Value.int Go.IntKind.u64 0, Go.Value.int Go.IntKind.u64 0, Go.Value.int Go.IntKind.u64 0, Go.Value.int Go.IntKind.u64 0]) := ⟨by kernel_rfl⟩
instance tyZ158 : ZeroTy Tryz.prog 158 (Go.Value.agg #[Go.Value.slice none 0 0, Go.Value.bool false]) := ⟨by kernel_rfl⟩
instance tyZ159 : ZeroTy Tryz.prog 159 (Go.Value.agg #[Go.Value.slice none 0 0, Go.Value.bool false]) := ⟨by kernel_rfl⟩
instance tyI168 : IntTy Tryz.prog 168 .i64 := ⟨by kernel_rfl⟩
instance tyZ168 : ZeroTy Tryz.prog 168 (Go.Value.int Go.IntKind.i64 0) := ⟨by kernel_rfl⟩
instance tyZ179 : ZeroTy Tryz.prog 179 (Go.Value.agg #[Go.Value.int Go.IntKind.u64 0, Go.Value.int Go.IntKind.u64 0, Go.Value.int Go.IntKind.u64 0, Go.Value.int Go.IntKind.u64 0, Go.Value.int Go.IntKind.u64 0, Go.Value.int Go.IntKind.u64 0]) := ⟨by kernel_rfl⟩
instance tyR180 : RowTy Tryz.prog 180 128 1 8 := ⟨by kernel_rfl⟩
instance tyZ180 : ZeroTy Tryz.prog 180 (Go.Value.slice none 0 0) := ⟨by kernel_rfl⟩
instance tyI187 : IntTy Tryz.prog 187 .u64 := ⟨by kernel_rfl⟩
instance tyZ187 : ZeroTy Tryz.prog 187 (Go.Value.int Go.IntKind.u64 0) := ⟨by kernel_rfl⟩
instance tyZ200 : ZeroTy Tryz.prog 200 (Go.Value.agg #[Go.Value.pointer none, Go.Value.pointer none, Go.Value.pointer none, Go.Value.string { data := #[] }]) := ⟨by kernel_rfl⟩
instance tyZ201 : ZeroTy Tryz.prog 201 (Go.Value.agg #[Go.Value.pointer none, Go.Value.pointer none, Go.Value.pointer none, Go.Value.string { data := #[] }]) := ⟨by kernel_rfl⟩
instance tyI205 : IntTy Tryz.prog 205 .u8 := ⟨by kernel_rfl⟩
instance tyZ205 : ZeroTy Tryz.prog 205 (Go.Value.int Go.IntKind.u8 0) := ⟨by kernel_rfl⟩
instance tyI206 : IntTy Tryz.prog 206 .u8 := ⟨by kernel_rfl⟩
instance tyZ206 : ZeroTy Tryz.prog 206 (Go.Value.int Go.IntKind.u8 0) := ⟨by kernel_rfl⟩
instance tyI208 : IntTy Tryz.prog 208 .i32 := ⟨by kernel_rfl⟩
instance tyZ208 : ZeroTy Tryz.prog 208 (Go.Value.int Go.IntKind.i32 0) := ⟨by kernel_rfl⟩
instance tyI209 : IntTy Tryz.prog 209 .i32 := ⟨by kernel_rfl⟩
instance tyZ209 : ZeroTy Tryz.prog 209 (Go.Value.int Go.IntKind.i32 0) := ⟨by kernel_rfl⟩
instance tyZ210 : ZeroTy Tryz.prog 210 (Go.Value.agg #[Go.Value.int Go.IntKind.u64 0, Go.Value.int Go.IntKind.u64 0, Go.Value.int Go.IntKind.u32 0, Go.Value.int Go.IntKind.u8 0, Go.Value.int Go.IntKind.u8 0, Go.Value.int Go.IntKind.u8 0, Go.Value.int Go.IntKind.u8 0, Go.Value.nilFunc, Go.Value.pointer none, Go.Value.int Go.IntKind.i32 0, Go.Value.int Go.IntKind.i32 0]) := ⟨by kernel_rfl⟩
instance tyZ211 : ZeroTy Tryz.prog 211 (Go.Value.agg #[Go.Value.int Go.IntKind.u64 0, Go.Value.int Go.IntKind.u64 0, Go.Value.int Go.IntKind.u32 0, Go.Value.int Go.IntKind.u8 0, Go.Value.int Go.IntKind.u8 0, Go.Value.int Go.IntKind.u8 0, Go.Value.int Go.IntKind.u8 0, Go.Value.nilFunc, Go.Value.pointer none, Go.Value.int Go.IntKind.i32 0, Go.Value.int Go.IntKind.i32 0]) := ⟨by kernel_rfl⟩
instance tyZ212 : ZeroTy Tryz.prog 212 (Go.Value.agg #[Go.Value.string { data := #[] }]) := ⟨by kernel_rfl⟩
end Go.Proofs.YthilhhegchmjeaaGreat
/- Strings, as lists of bytes: the operations that read them. -/
set_option linter.unusedVariables false
set_option maxHeartbeats 4000000
namespace Go.Proofs.YthilhhegchmjeaaGreat
open Go.RowKit

abbrev strV (l : List UInt8) : Value := .string ⟨l.toArray⟩
theorem size_str (l : List UInt8) : (ByteArray.mk l.toArray).size = l.length := List.size_toArray
theorem beq_dec (a b : List UInt8) : (a == b) = decide (a = b) := by
  by_cases h : a = b
  · subst h; simp
  · rw [decide_eq_false h, beq_eq_false_iff_ne]; exact h
section
variable {P : Program} {n : Nat} {L : FL} {w0 : World} {H : List Hl} {d : Option Tmp} {ty : TypeId} {pos : String} {af : Array Edge} {g : Option (Nat × Bool)} {x y z : Operand} {t t' : TypeId} {k k' : IntKind} {m m' : Int} {l l' : List UInt8}
theorem y_lenS (hx : evO L x = some (strV l)) (ht : P.underlying t = some .string) : V P n L w0 H ⟨d, .call { callee := .builtin .len, args := #[x], argTypes := #[t] }, ty, pos, af, g⟩ (.int .i64 l.length) := by
  unfold V
  intro a w ha hw
  simp [execOp, resolve, invoke, builtin, ha.eval hx, run_len_string _ _ _ _ ht, goInt]
  rw [size_str]
theorem y_indexS (hx : evO L x = some (strV l)) (hy : evO L y = some (.int k m)) (ht : P.underlying t = some .string) (hm : 0 ≤ m ∧ m < l.length) : V P n L w0 H ⟨d, .index t x y, ty, pos, af, g⟩ (.int .u8 (nth l m).toNat) := by
  unfold V
  intro a w ha hw
  have h1 : 0 ≤ m ∧ m < ((ByteArray.mk l.toArray).size : Int) := by rw [size_str]; exact hm
  have h2 := run_index_string (P := P) w t ⟨l.toArray⟩ k m ht
  rw [dif_pos h1] at h2
  have h3 : (ByteArray.mk l.toArray)[m.toNat]'(by omega) = nth l m := by
    have e := nth_some hm.1 hm.2
    rw [List.getElem?_eq_getElem (by omega)] at e
    exact Option.some.inj e
  rw [h3] at h2
  simp [execOp, ha.eval hx, ha.eval hy, h2]
theorem y_sliceSLH (hx : evO L x = some (strV l)) (hy : evO L y = some (.int k m)) (hz : evO L z = some (.int k' m')) (ht : P.underlying t = some .string) (hm : 0 ≤ m ∧ m ≤ m' ∧ m' ≤ l.length) : V P n L w0 H ⟨d, .slice t x (some y) (some z) none, ty, pos, af, g⟩ (strV ((l.drop m.toNat).take (m'.toNat - m.toNat))) := by
  unfold V
  intro a w ha hw
  have h2 := run_slice_string (P := P) w t ⟨l.toArray⟩ k k' m m' ht hm.1 hm.2.1 (by rw [size_str]; exact hm.2.2)
  rw [ByteArray.extract_mk] at h2
  simp [execOp, ha.eval hx, ha.eval hy, ha.eval hz, Instr.sliceAt, run_underlying ht, h2]
theorem y_sliceSL (hx : evO L x = some (strV l)) (hy : evO L y = some (.int k m)) (ht : P.underlying t = some .string) (hm : 0 ≤ m ∧ m ≤ l.length) : V P n L w0 H ⟨d, .slice t x (some y) none none, ty, pos, af, g⟩ (strV (l.drop m.toNat)) := by
  unfold V
  intro a w ha hw
  have h2 := run_slice_string_from_if (P := P) w t ⟨l.toArray⟩ k m ht
  rw [if_pos (by rw [size_str]; exact hm), ByteArray.extract_mk, size_str, List.take_of_length_le (by simp)] at h2
  simp [execOp, ha.eval hx, ha.eval hy, Instr.sliceAt, run_underlying ht, h2]
theorem y_sliceSH (hx : evO L x = some (strV l)) (hy : evO L y = some (.int k m)) (ht : P.underlying t = some .string) (hm : 0 ≤ m ∧ m ≤ l.length) : V P n L w0 H ⟨d, .slice t x none (some y) none, ty, pos, af, g⟩ (strV (l.take m.toNat)) := by
  unfold V
  intro a w ha hw
  have h2 := run_slice_string_to_if (P := P) w t ⟨l.toArray⟩ k m ht
  rw [if_pos (by rw [size_str]; exact hm), ByteArray.extract_mk, List.drop_zero, Nat.sub_zero] at h2
  simp [execOp, ha.eval hx, ha.eval hy, Instr.sliceAt, run_underlying ht, h2]
theorem y_catS (hx : evO L x = some (strV l)) (hy : evO L y = some (strV l')) (hb : (l.length : Int) + l'.length ≤ 9223372036854775807) : V P n L w0 H ⟨d, .binOp .add t x y t', ty, pos, af, g⟩ (strV (l ++ l')) := by
  unfold V
  intro a w ha hw
  have h2 := run_string_add_sum (P := P) w ⟨l.toArray⟩ ⟨l'.toArray⟩ (by rw [size_str, size_str]; omega)
  rw [ByteArray.mk_append_mk] at h2
  simp [execOp, ha.eval hx, ha.eval hy, eqGuard, binOp_string_add, h2]
theorem y_eqS (hx : evO L x = some (strV l)) (hy : evO L y = some (strV l')) : V P n L w0 H ⟨d, .binOp .eql t x y t', ty, pos, af, g⟩ (.bool (decide (l = l'))) := by
  unfold V
  intro a w ha hw
  simp [execOp, ha.eval hx, ha.eval hy, eqGuard, binOp_string_eql, beq_dec]
theorem y_neS (hx : evO L x = some (strV l)) (hy : evO L y = some (strV l')) : V P n L w0 H ⟨d, .binOp .neq t x y t', ty, pos, af, g⟩ (.bool (!decide (l = l'))) := by
  unfold V
  intro a w ha hw
  simp [execOp, ha.eval hx, ha.eval hy, eqGuard, binOp_string_neq, beq_dec]
theorem vStr {o : Oper} {v : Value} (h : V P n L w0 H o v := by
  first
    | (apply y_lenS; rfl; exact StrTy.is; done)
    | (apply y_indexS; rfl; rfl; exact StrTy.is; exact omlA; done)
    | (apply y_sliceSLH; rfl; rfl; rfl; exact StrTy.is; exact omlA; done)
    | (apply y_sliceSL; rfl; rfl; exact StrTy.is; exact omlA; done)
    | (apply y_sliceSH; rfl; rfl; exact StrTy.is; exact omlA; done)
    | (apply y_catS; rfl; rfl; exact omlA; done)
    | (apply y_eqS; rfl; rfl; done)
    | (apply y_neS; rfl; rfl; done)) : V P n L w0 H o v := h
theorem nxVS {p q : Prop} (h : q) (s : q → p := by intro h; first | (show YK _ _ _ _ _ _ _; exact YK.ofV vStr h) | (show VK _ _ _ _ _ _ _; exact VK.mk vStr h)) : p := s h
theorem nxGS {p q : Prop} (h : q) (s : q → p := by intro h; first | (show YG _ _ _ _ _ _ _ _; exact YG.mk (fun hb => by (try (have hc := And.left hb; have hb := And.right hb; rw [hc])); (try rw [hb]); exact V.y vStr) h) | (show VG _ _ _ _ _ _ _ _; exact VG.mk (fun hb => by (try (have hc := And.left hb; have hb := And.right hb; rw [hc])); (try rw [hb]); exact vStr) h)) : p := s h
end
end Go.Proofs.YthilhhegchmjeaaGreat
/- Functions that turn a slice of the caller's, or hand on one of their own: contracts. -/
set_option linter.unusedVariables false
set_option maxHeartbeats 4000000
namespace Go.Proofs.YthilhhegchmjeaaGreat
open Go.RowKit

/-- The heaplet x stands in the list, between A and B. -/
inductive At (x : Hl) : List Hl → List Hl → List Hl → Prop
  | here {B : List Hl} : At x [] B (x :: B)
  | there {h : Hl} {A B H : List Hl} : At x A B H → At x (h :: A) B (h :: H)
theorem At.mem {x : Hl} {A B H : List Hl} (h : At x A B H) : x ∈ H := by
  induction h with
  | here => exact List.mem_cons_self
  | there _ ih => exact List.mem_cons_of_mem _ ih
theorem At.subset {x y : Hl} {A B H : List Hl} (h : At x A B H) (hy : y ∈ x :: (A ++ B)) : y ∈ H := by
  induction h with
  | here => simpa using hy
  | there h ih =>
    rcases List.mem_cons.1 hy with rfl | hy
    · exact List.mem_cons_of_mem _ (ih List.mem_cons_self)
    · rcases List.mem_cons.1 hy with rfl | hy
      · exact List.mem_cons_self
      · exact List.mem_cons_of_mem _ (ih (List.mem_cons_of_mem _ hy))
theorem At.apart {x : Hl} {A B H : List Hl} (h : At x A B H) (ha : allApart H) : allApart (x :: (A ++ B)) := by
  induction h with
  | here => exact ha
  | @there z A B H h ih =>
    obtain ⟨h1, h2⟩ := ha
    obtain ⟨h3, h4⟩ := ih h2
    refine ⟨fun y hy b hb ho => ?_, fun y hy b hb ho => ?_, h4⟩
    · rcases List.mem_cons.1 hy with rfl | hy
      · exact (h1 x h.mem b ho hb).symm
      · exact h3 y hy b hb ho
    · exact h1 y (h.subset (List.mem_cons_of_mem _ hy)) b hb ho
theorem St.front {w0 w : World} {x : Hl} {A B H : List Hl} (h : At x A B H) (hw : St w0 H w) : St w0 (x :: (A ++ B)) w :=
  ⟨hw.ext, fun y hy => hw.all y (h.subset hy), h.apart hw.apart⟩
/-- A contract that turns the heaplet X of the caller's, whatever else stands beside it: Y z stands in its place. -/
def ContU (P : Program) (X : Hl) (f : FuncId) (args : List Value) {ι : Type} (post : ι → Prop) (v : ι → Value) (Y : ι → List Hl) : Prop :=
  ∀ w0 HR w, St w0 (X :: HR) w → Calls P f args.toArray w fun e w' => ∃ z, post z ∧ e = .returned (v z) ∧ St w0 (Y z ++ HR) w'
section
variable {P : Program} {n : Nat} {L : FL} {w0 : World} {H HS : List Hl} {Q : Exit → Act → World → Prop} {ops : Array Oper} {rest : List Oper} {ord : List Mv} {ps : List Pd} {d dd i : Nat} {ty : TypeId} {pos : String} {af : Array Edge} {gd : Option (Nat × Bool)} {x y z q : Operand} {t e : TypeId} {ι α : Type} {f : α → List Value} {s bytes : Nat} {l l' : List α} {u v : Value} {k k' k'' : IntKind} {m m' m'' : Int}
theorem enterU {f : FuncId} {fn : Func} {c : Code} {vs : List Value} {w : World} {R : Ending → World → Prop} (hf : P.funcs[f]? = some fn) (hb : fn.body = some c) (hn : fn.ntmps = n) (hl : Nat.ble vs.length n = true) (hw : St w0 H w)
    (h : G P (bodyPost P fn R) n (argsL 0 vs) w0 H c) : Calls P f vs.toArray w R := by
  unfold G at h
  refine calls_of_wp hf hb (h _ _ ⟨?_, rfl, fun i v hi => ?_⟩ hw)
  · have := Nat.le_of_ble_eq_true hl
    simp [hn]; omega
  · have := (lk_argsL vs 0 i v hi).2
    have hlt := (List.getElem?_eq_some_iff.1 this).1
    simp at this
    have hlt' : i < vs.length := by omega
    have h2 := (List.getElem?_eq_some_iff.1 this).2
    simpa [Array.getElem?_append, hlt'] using h2
theorem x_callU {X : Hl} {A B : List Hl} {f : FuncId} {xs : List Operand} {vs : List Value} {tys : Array TypeId} {post : ι → Prop} {v : ι → Value} {Y : ι → List Hl} (hc : ContU P X f vs post v Y) (ha : AE L xs vs) (hA : At X A B H) (hg : isGo P f = true) (hd : Nat.blt dd n = true) :
    EX P n L w0 H ⟨some dd, .call { callee := .value (.func f), args := xs.toArray, argTypes := tys }, ty, pos, af, gd⟩ post (fun z => (dd, v z) :: L) (fun z => Y z ++ (A ++ B)) := fun a w hfr hw K Q hK => by
  unfold Oper.wp
  rw [run_call hfr ha hg]
  refine (hc w0 (A ++ B) w (St.front hA hw)).mono ?_
  rintro e w' ⟨z, hz, rfl, hs⟩
  exact hK _ _ ⟨z, hz, hfr.put (by simpa [Nat.blt_eq] using hd), hs⟩
theorem RS.callU {X : Hl} {A B : List Hl} {f : FuncId} {xs : List Operand} {vs : List Value} {tys : Array TypeId} {post : ι → Prop} {v : ι → Value} {Y : ι → List Hl} (hc : ContU P X f vs post v Y) (ha : AE L xs vs) (h : ∀ z, post z → RS P ops Q n ((dd, v z) :: L) w0 (Y z ++ (A ++ B)) rest)
    (hA : At X A B H := by first | exact .here | exact .there .here | exact .there (.there .here) | exact .there (.there (.there .here)) | exact .there (.there (.there (.there .here))) | exact .there (.there (.there (.there (.there .here)))))
    (hg : isGo P f = true := by decide +kernel) (hd : Nat.blt dd n = true := by rfl) :
    RS P ops Q n L w0 H (⟨some dd, .call { callee := .value (.func f), args := xs.toArray, argTypes := tys }, ty, pos, af, none⟩ :: rest) := RS.actX rfl (x_callU hc ha hA hg hd) h
/-- The same where the callee leans on something that the caller's frame gives. -/
def ContC (P : Program) (C : World → Prop) (X : Hl) (f : FuncId) (args : List Value) {ι : Type} (post : ι → Prop) (v : ι → Value) (Y : ι → List Hl) : Prop :=
  ∀ w0 HR, (∀ w, St w0 HR w → C w) → ∀ w, St w0 (X :: HR) w → Calls P f args.toArray w fun e w' => ∃ z, post z ∧ e = .returned (v z) ∧ St w0 (Y z ++ HR) w'
theorem x_callC {C : World → Prop} {X : Hl} {A B : List Hl} {f : FuncId} {xs : List Operand} {vs : List Value} {tys : Array TypeId} {post : ι → Prop} {v : ι → Value} {Y : ι → List Hl} (hc : ContC P C X f vs post v Y) (ha : AE L xs vs) (hA : At X A B H) (hC : ∀ w, St w0 (A ++ B) w → C w) (hg : isGo P f = true) (hd : Nat.blt dd n = true) :
    EX P n L w0 H ⟨some dd, .call { callee := .value (.func f), args := xs.toArray, argTypes := tys }, ty, pos, af, gd⟩ post (fun z => (dd, v z) :: L) (fun z => Y z ++ (A ++ B)) := fun a w hfr hw K Q hK => by
  unfold Oper.wp
  rw [run_call hfr ha hg]
  refine (hc w0 (A ++ B) hC w (St.front hA hw)).mono ?_
  rintro e w' ⟨z, hz, rfl, hs⟩
  exact hK _ _ ⟨z, hz, hfr.put (by simpa [Nat.blt_eq] using hd), hs⟩
theorem RS.callC {C : World → Prop} {X : Hl} {A B : List Hl} {f : FuncId} {xs : List Operand} {vs : List Value} {tys : Array TypeId} {post : ι → Prop} {v : ι → Value} {Y : ι → List Hl} (hc : ContC P C X f vs post v Y) (ha : AE L xs vs) (hC : ∀ w, St w0 (A ++ B) w → C w) (h : ∀ z, post z → RS P ops Q n ((dd, v z) :: L) w0 (Y z ++ (A ++ B)) rest)
    (hA : At X A B H := by first | exact .here | exact .there .here | exact .there (.there .here) | exact .there (.there (.there .here)) | exact .there (.there (.there (.there .here))))
    (hg : isGo P f = true := by decide +kernel) (hd : Nat.blt dd n = true := by rfl) :
    RS P ops Q n L w0 H (⟨some dd, .call { callee := .value (.func f), args := xs.toArray, argTypes := tys }, ty, pos, af, none⟩ :: rest) := RS.actX rfl (x_callC hc ha hA hC hg hd) h
end
end Go.Proofs.YthilhhegchmjeaaGreat
/- A struct stored into an element of a slice of the call's own; regions that draw their order and store between operations that read no memory (two elements exchanged). -/
set_option linter.unusedVariables false
set_option maxHeartbeats 1000000
namespace Go.Proofs.YthilhhegchmjeaaGreat
open Go.RowKit

def setAt : List Value → Nat → List Value → List Value
  | xs, _, [] => xs
  | xs, o, u :: r => setAt (xs.set o u) (o + 1) r
theorem setAt_app : ∀ (us xs ys : List Value) (o : Nat), setAt (xs ++ ys) (xs.length + o) us = xs ++ setAt ys o us
  | [], xs, ys, o => rfl
  | u :: r, xs, ys, o => by
    show setAt ((xs ++ ys).set (xs.length + o) u) (xs.length + o + 1) r = xs ++ setAt (ys.set o u) (o + 1) r
    rw [List.set_append_right _ _ (by omega), show xs.length + o - xs.length = o by omega, Nat.add_assoc, setAt_app r]
theorem setAt_all : ∀ (us us0 ys : List Value), us0.length = us.length → setAt (us0 ++ ys) 0 us = us ++ ys
  | [], us0, ys, h => by cases us0 with
    | nil => rfl
    | cons a r => simp at h
  | u :: r, [], ys, h => by simp at h
  | u :: r, a :: t, ys, h => by
    show setAt ((a :: (t ++ ys)).set 0 u) (0 + 1) r = u :: (r ++ ys)
    have := setAt_app r [u] (t ++ ys) 0
    rw [setAt_all r t ys (by simpa using h)] at this
    exact this
section
variable {P : Program} {n : Nat} {L : FL} {w0 : World} {H HS : List Hl} {Q : Exit → Act → World → Prop} {ops : Array Oper} {rest : List Oper} {ord : List Mv} {i : Nat} {ty : TypeId} {pos : String} {af : Array Edge} {gd : Option (Nat × Bool)} {x y : Operand} {t e : TypeId} {α : Type} {f : α → List Value} {s : Nat} {l : List α} {v : Value} {m : Int}
theorem flat_setAt (hf : ∀ a, (f a).length = s) : ∀ (l : List α) (m : Nat) (b : α), m < l.length → setAt (l.flatMap f) (m * s) (f b) = (l.set m b).flatMap f
  | [], m, b, h => by simp at h
  | a :: r, 0, b, h => by
    rw [Nat.zero_mul, List.flatMap_cons, List.set_cons_zero, List.flatMap_cons]
    exact setAt_all (f b) (f a) _ (by rw [hf, hf])
  | a :: r, m + 1, b, h => by
    rw [List.flatMap_cons, List.set_cons_succ, List.flatMap_cons, Nat.succ_mul, Nat.add_comm, ← hf a, setAt_app, hf a, flat_setAt hf r m b (by simpa using h)]
theorem own_setAt {base g cap nl : Nat} : ∀ (us xs : List Value) (o : Nat) (w : World), w.ownsRow base e s (.slice (some ⟨g, 0, none⟩) nl cap) nl xs → (w.setCells g o us).ownsRow base e s (.slice (some ⟨g, 0, none⟩) nl cap) nl (setAt xs o us) ∧ w.grownBy (w.setCells g o us) (some g)
  | [], xs, o, w, h => ⟨h, World.grownBy.refl w _⟩
  | u :: r, xs, o, w, h => by
    obtain ⟨h1, h2⟩ := h.stored o u
    obtain ⟨h3, h4⟩ := own_setAt r (xs.set o u) (o + 1) _ h1
    exact ⟨h3, h2.trans h4⟩
theorem x_storeElRow [Inhabited α] {b : α} {H' : List Hl} (hx : evO L x = some (elA v s m 0)) (hy : evO L y = some (.agg (f b).toArray)) (hu1 : (f b).all (·.oneCell') = true) (hu : Upd (Hl.rw v e f s l) (Hl.rw v e f s (l.set m.toNat b)) H H') (hm : 0 ≤ m ∧ m < l.length)
    (hf : ∀ a, (f a).length = s) (hs0 : Nat.blt 0 s = true) (hs : rowB P t s = true) :
    EX P n L w0 H ⟨none, .store t x y, ty, pos, af, gd⟩ (fun _ : Unit => True) (fun _ => L) (fun _ => H') :=
  EX.of_skip fun a w ha hw => by
    have hc' : 0 < s := by simpa [Nat.blt_eq] using hs0
    have hown : w.ownsRow w0.heap.size e s v l.length (l.flatMap f) := hw.all _ hu.mem
    obtain ⟨ad, cap, rfl, hcell⟩ := (RdT.rw hu.mem).at_ hf hm (by omega) hw
    rcases hown.2 with ⟨h', _⟩ | ⟨g, cap', cur, h', hb', hg, hnc, hcm, hcs, htake⟩
    · simp at h'
    · simp only [Value.slice.injEq, Option.some.injEq] at h'
      obtain ⟨rfl, _, rfl⟩ := h'
      have hlb := hf b
      have hj : m.toNat * s + s ≤ l.length * s := by
        have h2 : (m.toNat + 1) * s ≤ l.length * s := Nat.mul_le_mul_right _ (by omega)
        rwa [Nat.succ_mul] at h2
      have hlen := flat_len hf l
      have hadd : (⟨g, 0, none⟩ : Addr).add (m.toNat * s) = ⟨g, m.toNat * s, none⟩ := by unfold Addr.add; split <;> simp_all
      have hst := own_setAt (f b) (l.flatMap f) (m.toNat * s) w hown
      rw [flat_setAt hf l m.toNat b (by omega)] at hst
      have hrun := run_storeCells_cells (P := P) g (m.toNat * s) (f b) 0 w (fun j hj' => by
          have hold : w.cell? ⟨g, m.toNat * s + 0 + j, none⟩ = (l.flatMap f)[m.toNat * s + 0 + j]? := hown.cellAt _ (by omega)
          rw [hold, List.getElem?_eq_getElem (by omega)]; rfl) (fun j _ => hown.frozenAt _) (fun u hu => List.all_eq_true.1 hu1 u hu)
      refine ⟨w.setCells g (m.toNat * s) (f b), (), by simp [execOp, ha.eval hx, ha.eval hy, elA, Instr.storeAt, Instr.sureAddr, storeVar, Value.cells, run_sizeOf_of (info_of_rowB hs), hlb, hadd, hrun], trivial, rfl, ?_⟩
      refine hw.turn hu rfl hst.2 ?_ fun b hb => .inl hb
      show World.ownsRow _ _ _ _ _ _ _
      rw [List.length_set]
      exact hst.1
theorem RS.storeElRow [Inhabited α] {b : α} {H' : List Hl} (h : RS P ops Q n L w0 H' rest) (hx : evO L x = some (elA v s m 0)) (hy : evO L y = some (.agg (f b).toArray)) (hu1 : (f b).all (·.oneCell') = true) (hu : Upd (Hl.rw v e f s l) (Hl.rw v e f s (l.set m.toNat b)) H H') (hm : 0 ≤ m ∧ m < l.length)
    (hf : ∀ a, (f a).length = s) (hs0 : Nat.blt 0 s = true) (hs : rowB P t s = true) :
    RS P ops Q n L w0 H (⟨none, .store t x y, ty, pos, af, none⟩ :: rest) := RS.actX rfl (x_storeElRow hx hy hu1 hu hm hf hs0 hs) fun _ _ => h
theorem RM.storeElRow [Inhabited α] {b : α} {H' : List Hl} (h : RM P ops Q HS n [] L w0 H' ord) (ho : ops[i]? = some ⟨none, .store t x y, ty, pos, af, none⟩) (hx : evO L x = some (elA v s m 0)) (hy : evO L y = some (.agg (f b).toArray)) (hu1 : (f b).all (·.oneCell') = true) (hu : Upd (Hl.rw v e f s l) (Hl.rw v e f s (l.set m.toNat b)) H H') (hm : 0 ≤ m ∧ m < l.length)
    (hf : ∀ a, (f a).length = s) (hs0 : Nat.blt 0 s = true) (hs : rowB P t s = true) (hl : (∀ w, St w0 H' w → St w0 HS w) ∨ lateB .any ops i = true) :
    RM P ops Q HS n [] L w0 H (.go i :: ord) := RM.actX ho rfl rfl (x_storeElRow hx hy hu1 hu hm hf hs0 hs) (hl.imp (fun h _ => h) id) fun _ _ => h
end

/-! ### Regions that draw their order and store: what reads memory comes up before the stores; what reads none may come up behind them -/
def freeB (o : Oper) : Bool := match o.op with
  | .move _ | .assign _ | .indexAddr .. | .fieldAddr .. | .extract .. | .binOp .. => true
  | _ => false
def lateF (md : Region.Mode) (ops : Array Oper) (j : Nat) : Bool := (List.range ops.size).all fun i => i == j || Region.waitsFor md ops j i || !((ops[i]?).map fun o => pureB o && !freeB o).getD false
section
variable {P : Program} {ops : Array Oper} {md : Region.Mode} {S : World → Prop} {Q : Exit → Act → World → Prop}
def wpAnyF (P : Program) (md : Region.Mode) (ops : Array Oper) (Q : Exit → Act → World → Prop) (S : World → Prop) : Nat → Array Bool → Act → World → Prop
  | 0, listed, a, w => Region.ready md ops listed = [] ∧ Q .normal a w
  | f + 1, listed, a, w => (Region.ready md ops listed = [] → Q .normal a w) ∧
    ∀ i ∈ Region.ready md ops listed, wpOp P ops Q i (fun a' w' => (lateF md ops i = false → S w → S w') ∧ wpAnyF P md ops Q S f (listed.setIfInBounds i true) a' w') a w
theorem wpAny_of_F : ∀ (f : Nat) (listed : Array Bool) (a : Act) (w : World), wpAnyF P md ops Q S f listed a w → wpAny P md ops Q f listed a w
  | 0, _, _, _, h => h
  | f + 1, _, _, _, h => ⟨h.1, fun i hi => wpOp_mono (fun a' w' h' => wpAny_of_F f _ a' w' h'.2) (h.2 i hi)⟩
theorem lateF_waits {i j : Nat} {oi : Oper} (hi : ops[i]? = some oi) (hp : pureB oi = true) (hq : freeB oi = false) (hne : i ≠ j) (hl : lateF md ops j = true) : Region.waitsFor md ops j i = true := by
  have hlt : i < ops.size := (Array.getElem?_eq_some_iff.1 hi).1
  have := List.all_eq_true.1 hl i (List.mem_range.2 hlt)
  simpa [hi, hp, hq, hne] using this
theorem wpAnyF_read {i : Nat} {oi : Oper} {v : Value} (hi : ops[i]? = some oi) (hp : pureB oi = true) (hq : freeB oi = false) (hsel : ∀ (j : Nat) (o : Oper) cs b, ops[j]? = some o → o.op ≠ .select cs b) (hQ : ∀ c a w, ¬ Q (.panic c) a w) :
    ∀ (f : Nat) (listed : Array Bool) (a : Act) (w : World),
      (∀ j oj, ops[j]? = some oj → j ≠ i → listed.getD j true = false → (∀ e ∈ oj.after, Region.binds md e = true → e.on ≠ i) → oi.apart ops oj = true) →
      i ∈ Region.ready md ops listed → YS P ops S oi v a → S w →
      wpAnyF P md ops Q S f (listed.setIfInBounds i true) (a.put oi.dst v) w → wpAnyF P md ops Q S (f + 1) listed a w
  | 0, listed, a, w, _, hr, hy, hS, hK => by
    refine ⟨fun h => (by rw [h] at hr; cases hr), fun j hj => ?_⟩
    by_cases e : j = i
    · subst e; exact hy.wpOp hi hS ⟨fun _ h => h, hK⟩
    · have := ready_mono hj e
      rw [hK.1] at this
      cases this
  | f + 1, listed, a, w, hfree, hr, hy, hS, hK => by
    refine ⟨fun h => (by rw [h] at hr; cases hr), fun j hj => ?_⟩
    by_cases e : j = i
    · subst e; exact hy.wpOp hi hS ⟨fun _ h => h, hK⟩
    · obtain ⟨hju, oj, hoj, hall⟩ := mem_ready.1 hj
      have hiu := getD_both (mem_ready.1 hr).1
      have hnot : ∀ e ∈ oj.after, Region.binds md e = true → e.on ≠ i := fun e he hb heq => by
        have h1 := hall e he hb
        rw [heq, hiu] at h1
        cases h1
      have hnl : lateF md ops j = false := by
        cases hl : lateF md ops j with
        | false => rfl
        | true =>
          obtain ⟨o', ho', e', he', hb', hon⟩ := Region.waitsFor_spec (lateF_waits hi hp hq (Ne.symm e) hl)
          have : o' = oj := Option.some.inj (ho'.symm.trans hoj)
          subst this
          exact absurd hon (hnot e' he' hb')
      have h2 := wpOp_putS hoj (hfree j oj hoj e hju hnot) (fun cs b => hsel i oi cs b hi) (fun cs b => hsel j oj cs b hoj) hQ hy (hK.2 j (ready_mono hj e))
      refine wpOp_mono (fun a' w' h3 => ⟨h3.2.1, wpAnyF_read hi hp hq hsel hQ f _ a' w' ?_ (ready_mono hr (Ne.symm e)) h3.1 (h3.2.1 hnl hS) ?_⟩) h2
      · intro k ok hk hki hku hno
        refine hfree k ok hk hki ?_ hno
        by_cases hjk : j = k
        · subst hjk; exact hju
        · rwa [getD_set_ne true hjk] at hku
      · rw [Array.setIfInBounds_comm _ _ e]
        exact h3.2.2
theorem wpAnyF_free {i : Nat} {oi : Oper} {v : Value} (hi : ops[i]? = some oi) (hsel : ∀ (j : Nat) (o : Oper) cs b, ops[j]? = some o → o.op ≠ .select cs b) (hQ : ∀ c a w, ¬ Q (.panic c) a w) :
    ∀ (f : Nat) (listed : Array Bool) (a : Act) (w : World),
      (∀ j oj, ops[j]? = some oj → j ≠ i → listed.getD j true = false → (∀ e ∈ oj.after, Region.binds md e = true → e.on ≠ i) → oi.apart ops oj = true) →
      i ∈ Region.ready md ops listed → YS P ops (fun _ => True) oi v a →
      wpAnyF P md ops Q S f (listed.setIfInBounds i true) (a.put oi.dst v) w → wpAnyF P md ops Q S (f + 1) listed a w
  | 0, listed, a, w, _, hr, hy, hK => by
    refine ⟨fun h => (by rw [h] at hr; cases hr), fun j hj => ?_⟩
    by_cases e : j = i
    · subst e; exact hy.wpOp hi trivial ⟨fun _ h => h, hK⟩
    · have := ready_mono hj e
      rw [hK.1] at this
      cases this
  | f + 1, listed, a, w, hfree, hr, hy, hK => by
    refine ⟨fun h => (by rw [h] at hr; cases hr), fun j hj => ?_⟩
    by_cases e : j = i
    · subst e; exact hy.wpOp hi trivial ⟨fun _ h => h, hK⟩
    · obtain ⟨hju, oj, hoj, hall⟩ := mem_ready.1 hj
      have hiu := getD_both (mem_ready.1 hr).1
      have hnot : ∀ e ∈ oj.after, Region.binds md e = true → e.on ≠ i := fun e he hb heq => by
        have h1 := hall e he hb
        rw [heq, hiu] at h1
        cases h1
      have h2 := wpOp_putS hoj (hfree j oj hoj e hju hnot) (fun cs b => hsel i oi cs b hi) (fun cs b => hsel j oj cs b hoj) hQ hy (hK.2 j (ready_mono hj e))
      refine wpOp_mono (fun a' w' h3 => ⟨h3.2.1, wpAnyF_free hi hsel hQ f _ a' w' ?_ (ready_mono hr (Ne.symm e)) h3.1 ?_⟩) h2
      · intro k ok hk hki hku hno
        refine hfree k ok hk hki ?_ hno
        by_cases hjk : j = k
        · subst hjk; exact hju
        · rwa [getD_set_ne true hjk] at hku
      · rw [Array.setIfInBounds_comm _ _ e]
        exact h3.2.2
theorem wp_region_F {id : Nat} {a : Act} {w : World} {l : List Oper} (hm : P.follows .mixedOrders = true) (h : wpAnyF P .any l.toArray (Calm Q) S l.length (Array.replicate l.length false) a w.drew) : (Code.region id l.toArray true).wp P Q a w := by
  refine Code.wp_mono Calm.out (wp_region_any hm (wpAny_of_F (S := S) _ _ _ _ ?_))
  simpa using h
end
section
variable {P : Program} {n : Nat} {L : FL} {w0 : World} {H HS : List Hl} {Q : Exit → Act → World → Prop} {ops : Array Oper} {ord : List Mv} {i d : Nat} {ty : TypeId} {pos : String} {af : Array Edge} {gd : Option (Nat × Bool)} {x y : Operand} {t e : TypeId} {α : Type} {f : α → List Value} {s : Nat} {l : List α} {v : Value} {m : Int} {o : Oper} {op : Op}
def RF (P : Program) (ops : Array Oper) (Q : Exit → Act → World → Prop) (HS : List Hl) (n : Nat) (L : FL) (w0 : World) (H : List Hl) (ord : List Mv) : Prop :=
  ∀ l0, mixedB .any ops ord [] l0 = true → Region.noSelect ops = true → ∀ f a w, cnt l0 ≤ f → Fr n L a → St w0 H w → wpAnyF P .any ops (Calm Q) (St w0 HS) f l0 a w
/-- In every world at all, the state having been reached once. -/
def VFr (P : Program) (n : Nat) (L : FL) (w0 : World) (H : List Hl) (o : Oper) (v : Value) : Prop := ∀ w, St w0 H w → ∀ a w', Fr n L a → (execOp a.eval o).run P w' = .ok (.value v) w'
theorem RF.step (h : RF P ops Q HS n ((d, v) :: L) w0 H ord) (ho : ops[i]? = some ⟨some d, op, ty, pos, af, none⟩ := by rfl) (hp : (pureB ⟨some d, op, ty, pos, af, none⟩ && !freeB ⟨some d, op, ty, pos, af, none⟩) = true := by rfl) (hs : ∀ w, St w0 H w → St w0 HS w) (hy : V P n L w0 HS ⟨some d, op, ty, pos, af, none⟩ v) (hd : Nat.blt d n = true := by rfl) :
    RF P ops Q HS n L w0 H (.go i :: ord) := by
  intro l0 hB hsel f a w hf ha hw
  simp only [Bool.and_eq_true, Bool.not_eq_true'] at hp
  simp only [mixedB, ho, hp.1, if_true, Bool.and_eq_true, Bool.not_eq_true', List.contains_iff_mem] at hB
  obtain ⟨⟨⟨⟨hr, hni⟩, hds⟩, hfr, _⟩, hB⟩ := hB
  obtain ⟨g, rfl, hg⟩ := cnt_ready hf hr
  refine wpAnyF_read ho hp.1 hp.2 (Region.noSelect_spec hsel) (fun c a w h => h) g l0 a w (Region.free_spec ho hfr) hr (.inl ⟨rfl, fun w hw => by unfold V at hy; exact hy a w ha hw⟩) (hs w hw) ?_
  exact h _ hB hsel g _ _ hg (ha.put (by simpa [Nat.blt_eq] using hd)) hw
theorem RF.free (h : RF P ops Q HS n ((d, v) :: L) w0 H ord) (ho : ops[i]? = some ⟨some d, op, ty, pos, af, none⟩ := by rfl) (hp : pureB ⟨some d, op, ty, pos, af, none⟩ = true := by rfl) (hy : VFr P n L w0 H ⟨some d, op, ty, pos, af, none⟩ v) (hd : Nat.blt d n = true := by rfl) :
    RF P ops Q HS n L w0 H (.go i :: ord) := by
  intro l0 hB hsel f a w hf ha hw
  simp only [mixedB, ho, hp, if_true, Bool.and_eq_true, Bool.not_eq_true', List.contains_iff_mem] at hB
  obtain ⟨⟨⟨⟨hr, hni⟩, hds⟩, hfr, _⟩, hB⟩ := hB
  obtain ⟨g, rfl, hg⟩ := cnt_ready hf hr
  refine wpAnyF_free ho (Region.noSelect_spec hsel) (fun c a w h => h) g l0 a w (Region.free_spec ho hfr) hr (.inl ⟨rfl, fun w' _ => hy w hw a w' ha⟩) ?_
  exact h _ hB hsel g _ _ hg (ha.put (by simpa [Nat.blt_eq] using hd)) hw
theorem RF.act {L' : FL} {H' : List Hl} (h : RF P ops Q HS n L' w0 H' ord) (ho : ops[i]? = some o) (hp : pureB o = false) (hg : o.guard = none) (he : EX P n L w0 H o (fun _ : Unit => True) (fun _ => L') (fun _ => H')) (hl : lateF .any ops i = true) : RF P ops Q HS n L w0 H (.go i :: ord) := by
  intro l0 hB hsel f a w hf ha hw
  simp only [mixedB, ho, hp, Bool.false_eq_true, if_false, Bool.and_eq_true, List.contains_iff_mem, subsB] at hB
  obtain ⟨⟨⟨⟨hr, hni⟩, hds⟩, hso⟩, hB⟩ := hB
  obtain ⟨g, rfl, hgc⟩ := cnt_ready hf hr
  refine ⟨fun e => (by rw [e] at hr; cases hr), fun k hk => ?_⟩
  have h3 := List.all_eq_true.1 hso k hk
  simp only [List.contains_nil, Bool.or_false, beq_iff_eq] at h3
  subst h3
  unfold wpOp
  rw [ho]
  simp only [Region.wanted, hg, if_true]
  refine .inl (he a w ha hw _ _ fun a' w' ⟨_, _, ha', hw'⟩ => ⟨fun hl' => (by rw [hl] at hl'; cases hl'), h _ hB hsel g a' w' hgc ha' hw'⟩)
theorem RF.call (h : RF P ops Q HS n ((d, v) :: L) w0 H ord) (ho : ops[i]? = some ⟨some d, op, ty, pos, af, none⟩ := by rfl) (hp : pureB ⟨some d, op, ty, pos, af, none⟩ = false := by rfl) (hs : ∀ w, St w0 H w → St w0 HS w) (hy : Y P n L w0 H ⟨some d, op, ty, pos, af, none⟩ v) (hd : Nat.blt d n = true := by rfl) :
    RF P ops Q HS n L w0 H (.go i :: ord) := by
  intro l0 hB hsel f a w hf ha hw
  simp only [mixedB, ho, hp, Bool.false_eq_true, if_false, Bool.and_eq_true, List.contains_iff_mem, subsB] at hB
  obtain ⟨⟨⟨⟨hr, hni⟩, hds⟩, hso⟩, hB⟩ := hB
  obtain ⟨g, rfl, hgc⟩ := cnt_ready hf hr
  refine ⟨fun e => (by rw [e] at hr; cases hr), fun k hk => ?_⟩
  have h3 := List.all_eq_true.1 hso k hk
  simp only [List.contains_nil, Bool.or_false, beq_iff_eq] at h3
  subst h3
  unfold wpOp
  rw [ho]
  simp only [Region.wanted, if_true]
  exact .inl (wp_of_Y hy ha hw fun w' hw' => ⟨fun _ _ => hs _ (hw.step hw'), h _ hB hsel g _ w' hgc (ha.put (by simpa [Nat.blt_eq] using hd)) (hw.step hw')⟩)
theorem RF.finish (h : X Q n L w0 H .normal) : RF P ops Q HS n L w0 H [] := by
  unfold X at h
  intro l0 hB hsel f a w hf ha hw
  simp only [mixedB, Bool.and_eq_true, List.isEmpty_iff] at hB
  cases f with
  | zero => exact ⟨hB.2, h a w ha hw⟩
  | succ f => exact ⟨fun _ => h a w ha hw, fun k hk => by rw [hB.2] at hk; cases hk⟩
theorem G.mixedF (id : Nat) (ord : List Mv) (HS : List Hl) {l : List Oper} (h : RF P l.toArray Q HS n L w0 H ord) (hm : P.follows .mixedOrders = true := by decide +kernel) (hB : regionB l ord = true := by decide +kernel) : G P Q n L w0 H (.region id l.toArray true) := by
  unfold G
  intro a w ha hw
  simp only [regionB, Bool.and_eq_true] at hB
  refine wp_region_F (S := St w0 HS) hm (h _ hB.2 hB.1 _ a w.drew ?_ ha hw.drew)
  refine Nat.le_trans (List.length_filter_le _ _) ?_
  simp
theorem vf_move {u : Operand} (hx : evO L u = some v) : VFr P n L w0 H ⟨some d, .move u, ty, pos, af, gd⟩ v := fun w hw a w' ha => by simp [execOp, ha.eval hx]
theorem vf_sub {k k' : Int} (hx : evO L x = some (.int .i64 k)) (hy : evO L y = some (.int .i64 k')) (hm : In64 (k - k')) {t' : TypeId} : VFr P n L w0 H ⟨some d, .binOp .sub t x y t', ty, pos, af, gd⟩ (.int .i64 (k - k')) := fun w hw a w' ha => by
  have := y_sub64 (P := P) (n := n) (w0 := w') (H := []) (d := some d) (ty := ty) (pos := pos) (af := af) (g := gd) (t := t) (t' := t') hx hy hm
  unfold V at this
  exact this a w' ha ⟨Below.refl _ _, fun _ h => (by cases h), trivial⟩
theorem vf_indexAddr {k : IntKind} (hx : evO L x = some v) (hy : evO L y = some (.int k m)) (h : RdT H v f s l) (hf : ∀ a, (f a).length = s) (hm : 0 ≤ m ∧ m < l.length) (hs : Nat.blt 0 s = true) (ht : sliceB P t s = true) :
    VFr P n L w0 H ⟨some d, .indexAddr t x y, ty, pos, af, gd⟩ (elA v s m 0) := fun w hw a w' ha => by
  obtain ⟨hl, A, c, rfl, _, hc, _⟩ := h _ _ hw
  obtain ⟨e, i, hu, hi, rfl⟩ := sliceB_spec ht
  have hs' : 0 < i.size := by simpa [Nat.blt_eq] using hs
  obtain ⟨ad, rfl, _⟩ := hc (flat_ne hf hs' hm)
  simp [execOp, ha.eval hx, ha.eval hy, Instr.indexAt, asIntOf, run_underlying hu, hm.1, hm.2, sizeOf, typeInfo, hi, elA]

theorem vf_of (h : ∀ w0, V P n L w0 [] o v) : VFr P n L w0 H o v := fun w _ a w' ha => by
  have := h w'
  unfold V at this
  exact this a w' ha ⟨Below.refl _ _, fun _ h => (by cases h), trivial⟩
def VFrK (P : Program) (n : Nat) (L : FL) (w0 : World) (H : List Hl) (o : Oper) (K : Value → Prop) : Prop := ∃ v, VFr P n L w0 H o v ∧ K v
theorem VFrK.mk {K : Value → Prop} (hy : VFr P n L w0 H o v) (h : K v) : VFrK P n L w0 H o K := ⟨v, hy, h⟩
theorem RF.stepK (ho : ops[i]? = some ⟨some d, op, ty, pos, af, none⟩) (hp : (pureB ⟨some d, op, ty, pos, af, none⟩ && !freeB ⟨some d, op, ty, pos, af, none⟩) = true) (hd : Nat.blt d n = true) (hs : ∀ w, St w0 H w → St w0 HS w) (h : VK P n L w0 HS ⟨some d, op, ty, pos, af, none⟩ fun v => RF P ops Q HS n ((d, v) :: L) w0 H ord) :
    RF P ops Q HS n L w0 H (.go i :: ord) := by
  unfold VK at h
  obtain ⟨v, h1, h2⟩ := h
  exact RF.step h2 ho hp hs h1 hd
theorem RF.freeK (ho : ops[i]? = some ⟨some d, op, ty, pos, af, none⟩) (hp : (pureB ⟨some d, op, ty, pos, af, none⟩ && freeB ⟨some d, op, ty, pos, af, none⟩) = true) (hd : Nat.blt d n = true) (h : VFrK P n L w0 H ⟨some d, op, ty, pos, af, none⟩ fun v => RF P ops Q HS n ((d, v) :: L) w0 H ord) :
    RF P ops Q HS n L w0 H (.go i :: ord) := by
  obtain ⟨v, h1, h2⟩ := h
  exact RF.free h2 ho (by simp only [Bool.and_eq_true] at hp; exact hp.1) h1 hd
theorem RF.callK (ho : ops[i]? = some ⟨some d, op, ty, pos, af, none⟩) (hp : pureB ⟨some d, op, ty, pos, af, none⟩ = false) (_hr : steadyB ⟨some d, op, ty, pos, af, none⟩ = true) (hd : Nat.blt d n = true) (hs : ∀ w, St w0 H w → St w0 HS w) (h : YK P n L w0 H ⟨some d, op, ty, pos, af, none⟩ fun v => RF P ops Q HS n ((d, v) :: L) w0 H ord) :
    RF P ops Q HS n L w0 H (.go i :: ord) := by
  unfold YK at h
  obtain ⟨v, h1, h2⟩ := h
  exact RF.call h2 ho hp hs h1 hd
theorem RF.storeA {b k : Nat} {cs : List Value} {H' : List Hl} {u : Value} {t' : TypeId} (ho : ops[i]? = some ⟨none, .store t x y, ty, pos, af, none⟩) (hx : evO L x = some (.pointer (some ⟨b, k, none⟩))) (hy : evO L y = some u) (hu : u.oneCell' = true)
    (hm : Upd (.blk b t' cs) (.blk b t' (cs.set k u)) H H') (hi : Nat.blt k cs.length = true) (hs : scalarB P t = true) (hl : lateF .any ops i = true) (h : RF P ops Q HS n L w0 H' ord) :
    RF P ops Q HS n L w0 H (.go i :: ord) := RF.act h ho rfl rfl (x_store hx hy hu hm hi hs) hl
theorem RF.storeRowA {b k : Nat} {cs us : List Value} {H' : List Hl} {t' : TypeId} (ho : ops[i]? = some ⟨none, .store t x y, ty, pos, af, none⟩) (hx : evO L x = some (.pointer (some ⟨b, 0, none⟩))) (hy : evO L y = some (.agg us.toArray)) (hu : us.all (·.oneCell') = true)
    (hm : Upd (.blk b t' cs) (.blk b t' us) H H') (hlc : LenIs cs k) (hl2 : LenIs us k) (hs : rowB P t k = true) (hl : lateF .any ops i = true) (h : RF P ops Q HS n L w0 H' ord) :
    RF P ops Q HS n L w0 H (.go i :: ord) := RF.act h ho rfl rfl (x_storeRow hx hy hu hm hlc hl2 hs) hl
theorem RF.storeEl [Inhabited α] {b : α} {H' : List Hl} (ho : ops[i]? = some ⟨none, .store t x y, ty, pos, af, none⟩) (hx : evO L x = some (elA v s m 0)) (hy : evO L y = some (.agg (f b).toArray)) (hu1 : (f b).all (·.oneCell') = true) (hu : Upd (Hl.rw v e f s l) (Hl.rw v e f s (l.set m.toNat b)) H H') (hm : 0 ≤ m ∧ m < l.length)
    (hf : ∀ a, (f a).length = s) (hs0 : Nat.blt 0 s = true) (hs : rowB P t s = true) (hl : lateF .any ops i = true) (h : RF P ops Q HS n L w0 H' ord) :
    RF P ops Q HS n L w0 H (.go i :: ord) := RF.act h ho rfl rfl (x_storeElRow hx hy hu1 hu hm hf hs0 hs) hl
theorem RF.storeI {ls : List Int} {b : Int} {H' : List Hl} {v : Value} {e : TypeId} {m : Int} (ho : ops[i]? = some ⟨none, .store t x y, ty, pos, af, none⟩) (hx : evO L x = some (elA v 1 m 0)) (hy : evO L y = some (.int .i64 b)) (hu : Upd (Hl.rw v e cI 1 ls) (Hl.rw v e cI 1 (ls.set m.toNat b)) H H') (hm : 0 ≤ m ∧ m < ls.length) (hs : scalarB P t = true) (hl : lateF .any ops i = true) (h : RF P ops Q HS n L w0 H' ord) :
    RF P ops Q HS n L w0 H (.go i :: ord) := RF.act h ho rfl rfl (x_storeEl (f := cI) (b := b) hx hy rfl hu hm (fun _ => rfl) rfl rfl hs) hl
theorem G.mixedFH (id : Nat) (ord : List Mv) {l : List Oper} (h : RF P l.toArray Q H n L w0 H ord) (hm : P.follows .mixedOrders = true := by decide +kernel) (hB : regionB l ord = true := by decide +kernel) : G P Q n L w0 H (.region id l.toArray true) := G.mixedF id ord H h hm hB
end
attribute [irreducible] RF VFrK
theorem nxVF {p q : Prop} (h : q) (s : q → p := by intro h; (show VFrK _ _ _ _ _ _ _); first
  | exact VFrK.mk (vf_of fun _ => vAuto) h
  | (apply VFrK.mk; (case hy => apply vf_indexAddr; (case hx => rfl); (case hy => rfl); (case h => exact rdA); (case hf => exact fun _ => rfl); (case hm => clear h; exact omlA); (case hs => rfl); (case ht => decide +kernel)); (case h => exact h))) : p := s h
theorem nxRF {p q : Prop} (h : q) (s : q → p := by intro h; (show RF _ _ _ _ _ _ _ _ _); first
  | (apply RF.freeK; (case ho => exact rfl); (case hp => exact rfl); (case hd => exact rfl); (case h => exact h))
  | (apply RF.stepK; (case ho => exact rfl); (case hp => exact rfl); (case hd => exact rfl); (case hs => exact subA); (case h => exact h))
  | (apply RF.callK; (case ho => exact rfl); (case hp => exact rfl); (case _hr => exact rfl); (case hd => exact rfl); (case hs => exact subA); (case h => exact h))
  | (apply RF.storeA; (case ho => rfl); (case hx => rfl); (case hy => rfl); (case hu => rfl); (case hm => exact updA); (case hi => rfl); (case hs => decide +kernel); (case hl => decide +kernel); (case h => exact h))
  | (apply RF.storeRowA; (case ho => rfl); (case hx => rfl); (case hy => rfl); (case hu => rfl); (case hm => exact updA); (case hlc => (repeat (first | exact .nil | apply LenIs.cons))); (case hl2 => (repeat (first | exact .nil | apply LenIs.cons))); (case hs => decide +kernel); (case hl => decide +kernel); (case h => exact h))
  | (apply RF.finish; exact h)) : p := s h
end Go.Proofs.YthilhhegchmjeaaGreat
/- Slices of bytes that the call makes, stored into, and made a string. -/
set_option linter.unusedVariables false
set_option maxHeartbeats 4000000
namespace Go.Proofs.YthilhhegchmjeaaGreat
open Go.RowKit

abbrev cB (x : Int) : List Value := [.int .u8 x]
section
variable {P : Program} {n : Nat} {L : FL} {w0 : World} {H : List Hl} {Q : Exit → Act → World → Prop} {ops : Array Oper} {rest : List Oper} {d : Option Tmp} {dd : Nat} {ty : TypeId} {pos : String} {af : Array Edge} {g : Option (Nat × Bool)} {x y : Operand} {t t' e : TypeId} {v : Value} {k : IntKind} {m : Int} {bytes : Nat}
def zeroByteB (P : Program) (e : TypeId) : Bool := match zeroOf P e with
  | some (.int .u8 0) => true
  | _ => false
theorem zeroByteB_spec {P : Program} {e : TypeId} (h : zeroByteB P e = true) : zeroOf P e = some (.int .u8 0) := by
  unfold zeroByteB at h
  split at h
  · assumption
  · cases h
theorem RS.makeB (h : ∀ v' : Sl, RS P ops Q n ((dd, v'.v) :: L) w0 (Hl.rw v'.v e cB 1 (List.replicate m.toNat 0) :: H) rest) (hx : evO L x = some (.int k m) := by rfl) [ht : RowTy P t e 1 bytes] (hz : zeroByteB P e = true := by decide +kernel) (hm : 0 ≤ m ∧ m * bytes ≤ 140737488355328 ∧ m ≤ 140737488355328 := by exact omlA) (hd : Nat.blt dd n = true := by rfl) :
    RS P ops Q n L w0 H (⟨some dd, .makeSlice t x x, ty, pos, af, none⟩ :: rest) := RS.actX rfl (x_make (f := cB) (z0 := 0) hx hm (zeroByteB_spec hz) rfl (fun _ => rfl) (rowTy_B ht.is) hd) fun v' _ => h v'
theorem RS.storeY {ls : List Int} {b : Int} {H' : List Hl} (h : RS P ops Q n L w0 H' rest) (hx : evO L x = some (elA v 1 m 0) := by rfl) (hy : evO L y = some (.int .u8 b) := by rfl) (hu : Upd (Hl.rw v e cB 1 ls) (Hl.rw v e cB 1 (ls.set m.toNat b)) H H' := by exact updA) (hm : 0 ≤ m ∧ m < ls.length := by exact omlA) (hs : scalarB P t = true := by decide +kernel) :
    RS P ops Q n L w0 H (⟨none, .store t x y, ty, pos, af, none⟩ :: rest) := RS.actX rfl (x_storeEl (f := cB) (b := b) hx hy rfl hu hm (fun _ => rfl) rfl rfl hs) fun _ _ => h
theorem fold_push : ∀ (ns : List Int) (s : ByteArray), ns.foldl (fun r n => r.push (UInt8.ofNat n.toNat)) s = ⟨(s.data.toList ++ ns.map fun n => UInt8.ofNat n.toNat).toArray⟩
  | [], s => by cases s; simp
  | n :: ns, s => by
    rw [List.foldl_cons, fold_push ns]
    congr 1
    simp [ByteArray.push]
theorem y_strOf {ls : List Int} (hx : evO L x = some v) (h : RdT H v cB 1 ls) (h1 : P.underlying t = some (.slice e)) (h2 : P.underlying e = some (.int .u8)) (h3 : P.underlying t' = some .string) (hne : ls ≠ []) : V P n L w0 H ⟨d, .convert t t' x, ty, pos, af, g⟩ (strV (ls.map fun n => UInt8.ofNat n.toNat)) := by
  unfold V
  intro a w ha hw
  obtain ⟨hl, A, c, rfl, hnc, hcells, _⟩ := h _ _ hw
  obtain ⟨ad, rfl, hc⟩ := hcells (by cases ls with | nil => exact absurd rfl hne | cons b r => simp)
  have e1 : ls.flatMap cB = ls.map (Value.int .u8) := by
    clear hl hnc hcells hc hne hx h
    induction ls with
    | nil => rfl
    | cons b r ih => simp [ih]
  have hld : (loadCells ad ls.length).run P w = .ok (ls.map (Value.int .u8)).toArray w := by
    have := run_loadCells_list (P := P) w ad (ls.map (Value.int .u8)) (by rw [← e1]; exact hc)
    simpa using this
  have h4 := run_convert_bytes_string (P := P) w t t' e (some ad) ls.length c h1 h2 h3
  rw [run_bytesToString w ad ls.length c ls hld, fold_push] at h4
  simp only [execOp, ha.eval hx]
  simp [h4]
end
end Go.Proofs.YthilhhegchmjeaaGreat
/- From a contract 'the law returns true and nothing that was there has turned' to the given statement. -/
set_option linter.unusedVariables false
namespace Go.Proofs.YthilhhegchmjeaaGreat
open Go.ChangeShapes Go.WideShapes Go.ChangeAt Go.RowKit Go.Deep Go.Joins

theorem own : ownKnob Tryz.prog.godebug = none := by kernel_rfl
theorem laidOut : laidOutB Tryz.prog = true := by kernel_rfl

section
variable {H : Type} {enc : TypeId × Value → H} {P : Program}
/-- What the arguments read as, they read as behind the call. -/
theorem trodAll_stays (hl : laidOutB P = true) {W W' : World} {sp : Nat → Bool} (hb : Below W.heap.size W W') : ∀ {ts : List TypeId} {vs : List Value} {ds : List (DataW H)} {ps : List MemPlace},
    (ts.all fun t => P.readableRec t && decide (t < P.types.size)) = true → DataW.TrodAll enc P W 0 (fun _ => true) true ts vs ds ps → (∀ x ∈ ps, x.block < W.heap.size) → (∀ x ∈ ps, sp x.block = true) →
    DataW.TrodAll enc P W' 0 sp true ts vs ds ps
  | [], vs, ds, ps, _, h, _, _ => by
    obtain ⟨rfl, rfl, rfl⟩ := trodAll_nil h
    exact trodAll_mk0
  | t :: ts, vs, ds, ps, hr, h, hlt, hs => by
    obtain ⟨v, vs', d, ds', p, q, rfl, rfl, rfl, h1, h2⟩ := trodAll_cons h
    simp only [List.all_cons, Bool.and_eq_true, decide_eq_true_eq] at hr
    refine trodAll_cons_mk (WideElems.Trod_stays hl hr.1.1 hr.1.2 h1 (fun x hx => hb.same (hlt x (List.mem_append_left _ hx))) fun x hx => hs x (List.mem_append_left _ hx)) ?_
    exact trodAll_stays hl hb (by simpa using hr.2) h2 (fun x hx => hlt x (List.mem_append_right _ hx)) fun x hx => hs x (List.mem_append_right _ hx)

theorem post_of_law {f : Func} {s : ChangeSpec} {apart fresh handsOn again : Bool} {W W' : World} {args : Array Value} {v : Value} {ds : List (DataW H)} {before : List MemPlace}
    (hl : laidOutB P = true) (hr : (f.params.toList.all fun t => P.readableRec t && decide (t < P.types.size)) = true)
    (hW : DataW.Whole enc P f.params.toList s.vars apart W args.toList ds [] before) (hv : s.vars = []) (hspec : (s.fn H (ds ++ [])).args = ds) (hsv : (s.fn H (ds ++ [])).vars = [])
    (hres : ∀ (b : Nat) (sp : Nat → Bool) (hd : Bool), DataW.TrodAll enc P W' b sp hd f.resultTypes.toList (v.resultList f.resultTypes.size) (s.fn H (ds ++ [])).results [])
    (hb : Below W.heap.size W W') (hok : ∀ (j : Nat) (t : TypeId) (r : Value), f.resultTypes[j]? = some t → (v.resultList f.resultTypes.size)[j]? = some r → Value.okWide P W' .any 0 t r) :
    s.post enc P f apart fresh handsOn again W args v W' := by
  have hlt : ∀ p ∈ before, p.block < W.heap.size := fun p hp => hW.lt p hp
  have hW2 := hW
  obtain ⟨p, q, hA, hV, hpq, hz, hn⟩ := hW
  rw [hv] at hV
  obtain ⟨_, hq⟩ := trodVars_none hV
  subst hq
  have hp : before = p := by simpa using hpq
  subst hp
  have hargs : ∀ sp : Nat → Bool, (∀ x ∈ before, sp x.block = true) → DataW.TrodAll enc P W' 0 sp true f.params.toList args.toList (s.fn H (ds ++ [])).args before := fun sp hsp => by
    rw [hspec]
    exact trodAll_stays hl hb hr hA hlt hsp
  have hvars : ∀ sp : Nat → Bool, DataW.TrodVars enc P W' sp s.vars (s.fn H (ds ++ [])).vars [] := fun sp => by
    rw [hv, hsv]; rfl
  have hold : ∀ x ∈ before, (fun b => decide (b < W.heap.size)) x.block = true := fun x hx => by simpa using hlt x hx
  refine ⟨ds, [], before, [], before, [], hW2, hres _ _ _, hargs _ hold, hvars _, World.keptBut_mono (fun x hx => ⟨hx, ?_⟩) (hb.frame (· ∈ before)), fun _ => ?_⟩
  · simpa using hx
  · refine ⟨hok, _, _, ([] ++ before) ++ [], ⟨[] ++ before, [], trodAll_append (hargs _ (fun _ _ => rfl)) (hres _ _ _), hvars _, rfl, ?_, ?_⟩, ?_⟩
    · intro b off hin
      have hin : MemPlace.cell b off ∈ before := by simpa using hin
      rw [hb.frozen (hlt _ hin)]
      exact hz b off hin
    · intro ha
      have := hn ha
      simpa using this
    · intro x hx _
      simpa using hx

/-- An int argument. -/
theorem arg_int {t : TypeId} {k : IntKind} {w : World} {base : Nat} {v : Value} {d : DataW H} {p : List MemPlace} (ht : P.underlying t = some (.int k)) (hv : Value.okWide P w .any base t v) (h : DataW.Trod enc P w 0 (fun _ => true) true t v d p) :
    ∃ x : Int, v = .int k x ∧ (Lit.int k x).wf = true := by
  obtain ⟨x, rfl, _, _, wx⟩ := open_int ht hv h
  exact ⟨x, rfl, wx⟩
theorem arg_bool {t : TypeId} {w : World} {base : Nat} {v : Value} {d : DataW H} {p : List MemPlace} (ht : P.underlying t = some .bool) (hv : Value.okWide P w .any base t v) (h : DataW.Trod enc P w 0 (fun _ => true) true t v d p) :
    ∃ x : Bool, v = .bool x := by
  obtain ⟨x, rfl, _, _⟩ := open_bool ht hv h
  exact ⟨x, rfl⟩
theorem arg_agg3 {t : TypeId} {k0 k1 k2 : IntKind} {f0 f1 f2 : Field} {w : World} {base : Nat} {v : Value} {d : DataW H} {p : List MemPlace} (ht : P.underlying t = some (.struct #[f0, f1, f2])) (hone : oneCellFields P #[f0, f1, f2] = true) (hC : P.cellsOf t = 3)
    (h0 : P.underlying f0.type = some (.int k0)) (h1 : P.underlying f1.type = some (.int k1)) (h2 : P.underlying f2.type = some (.int k2))
    (hv : Value.okWide P w .any base t v) (h : DataW.Trod enc P w 0 (fun _ => true) true t v d p) : ∃ x y z : Int, v = .agg [.int k0 x, .int k1 y, .int k2 z].toArray ∧ (Lit.int k0 x).wf = true ∧ (Lit.int k1 y).wf = true ∧ (Lit.int k2 z).wf = true := by
  obtain ⟨c0, c1, c2, y0, y1, y2, m, rfl, _, _, e0, e1, e2⟩ := Joins.open_agg3 ht hone hC hv h
  obtain ⟨a, g0, _, wa⟩ := DataW.trod_int h0 e0
  obtain ⟨b, g1, _, wb⟩ := DataW.trod_int h1 e1
  obtain ⟨c, g2, _, wc⟩ := DataW.trod_int h2 e2
  simp at g0 g1 g2
  subst g0 g1 g2
  exact ⟨a, b, c, rfl, wa, wb, wc⟩
theorem arg_agg2 {t : TypeId} {k0 k1 : IntKind} {f0 f1 : Field} {w : World} {base : Nat} {v : Value} {d : DataW H} {p : List MemPlace} (ht : P.underlying t = some (.struct #[f0, f1])) (hone : oneCellFields P #[f0, f1] = true) (hC : P.cellsOf t = 2)
    (h0 : P.underlying f0.type = some (.int k0)) (h1 : P.underlying f1.type = some (.int k1))
    (hv : Value.okWide P w .any base t v) (h : DataW.Trod enc P w 0 (fun _ => true) true t v d p) : ∃ x y : Int, v = .agg [.int k0 x, .int k1 y].toArray ∧ (Lit.int k0 x).wf = true ∧ (Lit.int k1 y).wf = true := by
  obtain ⟨c0, c1, y0, y1, m, rfl, _, _, e0, e1⟩ := Joins.open_agg2 ht hone hC hv h
  obtain ⟨a, g0, _, wa⟩ := DataW.trod_int h0 e0
  obtain ⟨b, g1, _, wb⟩ := DataW.trod_int h1 e1
  simp at g0 g1
  subst g0 g1
  exact ⟨a, b, rfl, wa, wb⟩
theorem i64_of {x : Int} (h : (Lit.int .i64 x).wf = true) : -9223372036854775808 ≤ x ∧ x ≤ 9223372036854775807 := by
  simpa [Lit.wf, IntKind.min, IntKind.max, IntKind.signed, IntKind.bits] using h
/-- A slice of structs of three ints, as it lies in memory. -/
theorem arg_slice3 {t e : TypeId} {f0 f1 f2 : Field} {w : World} {base : Nat} {v : Value} {d : DataW H} {p : List MemPlace} (ht : P.underlying t = some (.slice e)) (he : P.underlying e = some (.struct #[f0, f1, f2])) (ce : P.cellsOf e = 3)
    (ho : (f0.offset, f1.offset, f2.offset) = (0, 1, 2)) (hc : (P.cellsOf f0.type, P.cellsOf f1.type, P.cellsOf f2.type) = (1, 1, 1)) (h0 : P.underlying f0.type = some (.int .i64)) (h1 : P.underlying f1.type = some (.int .i64)) (h2 : P.underlying f2.type = some (.int .i64))
    (hv : Value.okWide P w .any base t v) (h : DataW.Trod enc P w 0 (fun _ => true) true t v d p) :
    ∃ l : List (Int × Int × Int), RO w v 3 l.length (l.flatMap fun c => [.int .i64 c.1, .int .i64 c.2.1, .int .i64 c.2.2]) ∧ l.length ≤ maxLen ∧ ∀ c ∈ l, (-9223372036854775808 ≤ c.1 ∧ c.1 ≤ 9223372036854775807) ∧ (-9223372036854775808 ≤ c.2.1 ∧ c.2.1 ≤ 9223372036854775807) ∧ -9223372036854775808 ≤ c.2.2 ∧ c.2.2 ≤ 9223372036854775807 := by
  obtain ⟨A, len, cap, rfl⟩ := WideShapes.okWide_slice ht hv
  obtain ⟨fuel, hf⟩ := h
  simp only [Prod.mk.injEq] at ho hc
  rcases open_slice ht hf with ⟨hcs, _⟩ | ⟨a, len', cap', m, n, V, Pl, hcs, hb, hl, hm, hmm, hx, hel⟩
  · have : Value.slice A len cap = .slice none 0 0 := by simpa [Value.cells] using hcs
    rw [this]
    exact ⟨[], RO.nil _ _, Nat.zero_le _, fun c hc => by cases hc⟩
  · have e1 : Value.slice A len cap = .slice (some a) len' cap' := by simpa [Value.cells] using hcs
    rw [e1]
    have hlm : len' ≤ m := by rw [hmm]; split <;> omega
    have each : ∀ i, i < len' → ∃ c : Int × Int × Int, (∀ j u, ([Value.int .i64 c.1, .int .i64 c.2.1, .int .i64 c.2.2])[j]? = some u → w.cell? (a.add (i * 3 + j)) = some u) ∧ (-9223372036854775808 ≤ c.1 ∧ c.1 ≤ 9223372036854775807) ∧ (-9223372036854775808 ≤ c.2.1 ∧ c.2.1 ≤ 9223372036854775807) ∧ -9223372036854775808 ≤ c.2.2 ∧ c.2.2 ≤ 9223372036854775807 := by
      intro i hi
      obtain ⟨cs', g1, g2⟩ := hel i (by omega)
      rw [ce] at g1
      obtain ⟨_, hlen, hcell⟩ := World.cells?_some g1
      obtain ⟨xs, k, hk, hxy, _, hxl, hff⟩ := DataW.trod_struct he g2
      match xs, hxl, cs', hlen with
      | [y0, y1, y2], _, [v0, v1, v2], _ =>
        have q0 := hff 0 f0 rfl
        have q1 := hff 1 f1 rfl
        have q2 := hff 2 f2 rfl
        simp [ho.1, ho.2.1, ho.2.2, hc.1, hc.2.1, hc.2.2] at q0 q1 q2
        obtain ⟨x0, r0, _, w0⟩ := DataW.trod_int h0 q0
        obtain ⟨x1, r1, _, w1⟩ := DataW.trod_int h1 q1
        obtain ⟨x2, r2, _, w2⟩ := DataW.trod_int h2 q2
        simp at r0 r1 r2
        subst r0 r1 r2
        refine ⟨(x0, x1, x2), fun j u hj => ?_, i64_of w0, i64_of w1, i64_of w2⟩
        have c0 := hcell 0 (by omega)
        have c1 := hcell 1 (by omega)
        have c2 := hcell 2 (by omega)
        rw [Go.Deep.add_add] at c0 c1 c2
        match j, hj with
        | 0, hj => simp at hj; subst hj; simpa using c0
        | 1, hj => simp at hj; subst hj; simpa using c1
        | 2, hj => simp at hj; subst hj; simpa using c2
        | j + 3, hj => simp at hj
    obtain ⟨q, hq⟩ := choose_lt each
    refine ⟨(List.range len').map q, ?_, by simp; omega, fun c hc => ?_⟩
    · have hfl : ∀ c : Int × Int × Int, ((fun c : Int × Int × Int => [Value.int .i64 c.1, .int .i64 c.2.1, .int .i64 c.2.2]) c).length = 3 := fun _ => rfl
      have hlr : ((List.range len').map q).length = len' := by simp
      rw [hlr]
      refine ⟨by rw [flat_len hfl, hlr], some a, cap', rfl, hl, fun _ => ⟨a, rfl, fun j u hu => ?_⟩, fun h => by cases h⟩
      have hj : j < len' * 3 := by
        have := (List.getElem?_eq_some_iff.1 hu).1
        rwa [flat_len hfl, hlr] at this
      have h3 : j / 3 < len' := by omega
      have h4 := flat_get hfl ((List.range len').map q) (j / 3) (j % 3) (q (j / 3)) (by simp [h3]) (by omega)
      rw [show j / 3 * 3 + j % 3 = j by omega, hu] at h4
      have h5 := (hq (j / 3) h3).1 (j % 3) u h4.symm
      rwa [show j / 3 * 3 + j % 3 = j by omega] at h5
    · obtain ⟨i, hi, rfl⟩ := List.mem_map.1 hc
      exact (hq i (List.mem_range.1 hi)).2
end
end Go.Proofs.YthilhhegchmjeaaGreat
/- Arguments that are slices of machine integers, and the bounds of machine integers. -/
set_option linter.unusedVariables false
namespace Go.Proofs.YthilhhegchmjeaaGreat
open Go.ChangeShapes Go.WideShapes Go.ChangeAt Go.RowKit Go.Deep Go.Joins

section
variable {H : Type} {enc : TypeId × Value → H} {P : Program}
theorem i32_of {x : Int} (h : (Lit.int .i32 x).wf = true) : -2147483648 ≤ x ∧ x ≤ 2147483647 := by
  simpa [Lit.wf, IntKind.min, IntKind.max, IntKind.signed, IntKind.bits] using h
theorem i16_of {x : Int} (h : (Lit.int .i16 x).wf = true) : -32768 ≤ x ∧ x ≤ 32767 := by
  simpa [Lit.wf, IntKind.min, IntKind.max, IntKind.signed, IntKind.bits] using h
theorem i8_of {x : Int} (h : (Lit.int .i8 x).wf = true) : -128 ≤ x ∧ x ≤ 127 := by
  simpa [Lit.wf, IntKind.min, IntKind.max, IntKind.signed, IntKind.bits] using h
theorem u8_of {x : Int} (h : (Lit.int .u8 x).wf = true) : 0 ≤ x ∧ x ≤ 255 := by
  simpa [Lit.wf, IntKind.min, IntKind.max, IntKind.signed, IntKind.bits] using h
theorem u32_of {x : Int} (h : (Lit.int .u32 x).wf = true) : 0 ≤ x ∧ x ≤ 4294967295 := by
  simpa [Lit.wf, IntKind.min, IntKind.max, IntKind.signed, IntKind.bits] using h
/-- A slice of machine integers, as it lies in memory. -/
theorem arg_slice1 {t e : TypeId} {k : IntKind} {w : World} {base : Nat} {v : Value} {d : DataW H} {p : List MemPlace} (ht : P.underlying t = some (.slice e)) (he : P.underlying e = some (.int k)) (ce : P.cellsOf e = 1)
    (hv : Value.okWide P w .any base t v) (h : DataW.Trod enc P w 0 (fun _ => true) true t v d p) :
    ∃ l : List Int, RO w v 1 l.length (l.flatMap fun c => [.int k c]) ∧ l.length ≤ maxLen ∧ ∀ c ∈ l, (Lit.int k c).wf = true := by
  obtain ⟨A, len, cap, rfl⟩ := WideShapes.okWide_slice ht hv
  obtain ⟨fuel, hf⟩ := h
  rcases open_slice ht hf with ⟨hcs, _⟩ | ⟨a, len', cap', m, n, V, Pl, hcs, hb, hl, hm, hmm, hx, hel⟩
  · have : Value.slice A len cap = .slice none 0 0 := by simpa [Value.cells] using hcs
    rw [this]
    exact ⟨[], RO.nil _ _, Nat.zero_le _, fun c hc => by cases hc⟩
  · have e1 : Value.slice A len cap = .slice (some a) len' cap' := by simpa [Value.cells] using hcs
    rw [e1]
    have hlm : len' ≤ m := by rw [hmm]; split <;> omega
    have each : ∀ i, i < len' → ∃ c : Int, w.cell? (a.add i) = some (.int k c) ∧ (Lit.int k c).wf = true := by
      intro i hi
      obtain ⟨cs', g1, g2⟩ := hel i (by omega)
      rw [ce] at g1
      obtain ⟨_, hlen, hcell⟩ := World.cells?_some g1
      match cs', hlen with
      | [v0], _ =>
        obtain ⟨x, r0, _, w0⟩ := DataW.trod_int he g2
        simp at r0
        subst r0
        have c0 := hcell 0 (by omega)
        rw [Go.Deep.add_add] at c0
        exact ⟨x, by simpa using c0, w0⟩
    obtain ⟨q, hq⟩ := choose_lt each
    refine ⟨(List.range len').map q, ?_, by simp; omega, fun c hc => ?_⟩
    · have hfl : ∀ c : Int, ((fun c : Int => [Value.int k c]) c).length = 1 := fun _ => rfl
      have hlr : ((List.range len').map q).length = len' := by simp
      rw [hlr]
      refine ⟨by rw [flat_len hfl, hlr], some a, cap', rfl, hl, fun _ => ⟨a, rfl, fun j u hu => ?_⟩, fun h => by cases h⟩
      have hj : j < len' * 1 := by
        have := (List.getElem?_eq_some_iff.1 hu).1
        rwa [flat_len hfl, hlr] at this
      have h3 : j < len' := by omega
      have h4 := flat_get hfl ((List.range len').map q) j 0 (q j) (by simp [h3]) (by omega)
      rw [show j * 1 + 0 = j by omega, hu] at h4
      simp at h4
      subst h4
      exact (hq j h3).1
    · obtain ⟨i, hi, rfl⟩ := List.mem_map.1 hc
      exact (hq i (List.mem_range.1 hi)).2
end
end Go.Proofs.YthilhhegchmjeaaGreat
/- What the library's variables hold, as the rows list it; that it stays. -/
set_option linter.unusedVariables false
set_option maxHeartbeats 4000000
namespace Go.Proofs.YthilhhegchmjeaaGreat
open Go.RowKit

theorem var_keep {P : Program} {w w' : World} {nm : String} {cs : Array Value} (h : w.var? P nm = some cs) (hb : Below w.heap.size w w') : w'.var? P nm = some cs := by
  unfold World.var? at h ⊢
  cases hg : P.globalNamed nm with
  | none => simp [hg] at h
  | some g =>
    simp only [hg, Option.bind_some] at h ⊢
    have hlt : g < w.heap.size := by
      rcases Nat.lt_or_ge g w.heap.size with h' | h'
      · exact h'
      · simp [Array.getElem?_eq_none h'] at h
    rw [hb.block g hlt]
    exact h
theorem laid_get {P : Program} {w : World} {nm : String} {d : DataW Unit} : ∀ {l : List (String × DataW Unit)} {ps : List MemPlace}, DataW.LaidVars P w l ps → (nm, d) ∈ l →
    ∃ g t cs fuel p, P.globalNamed nm = some g ∧ (P.globals[g]?).map (·.type) = some t ∧ w.var? P nm = some cs ∧ DataW.trod (fun _ => ()) P w 0 (fun _ => true) false fuel t cs.toList = some (d, p)
  | [], _, _, hm => by cases hm
  | (n', d') :: r, ps, h, hm => by
    obtain ⟨g, t, cs, fuel, p, q, h1, h2, h3, h4, h5, _⟩ := h
    rcases List.mem_cons.1 hm with e | hm
    · cases e
      exact ⟨g, t, cs, fuel, p, h1, h2, h3, h4⟩
    · exact laid_get h5 hm
end Go.Proofs.YthilhhegchmjeaaGreat
