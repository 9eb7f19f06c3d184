/- Joined texts: FrameS, FrameI, Step, Tys, Str, Laid, FrameD, Ita, Apa. -/
import Derived.Test.YtjmdeplmenbmmaaGreatDoorW01
import Derived.Deep.Slices
import Derived.Test.YtjmdeplmenbmmaaGreatDoorRows
import Derived.ProofKit
import Derived.OpenShut
import Derived.Lib.SmallJoins
import Derived.Laws.Strings
import Derived.Laws.Strings2
import Derived.Laws.Strings3
import Derived.Laws.Concat
import Derived.LaidMore
import Derived.LaidHandle
import Derived.LaidSub
import Derived.Lib.LaidTab
import Derived.Lib.ItoaNum
import Derived.Shelf.Vars
import Derived.MakeChecks
import Derived.Test.YtjmdeplmenbmmaaGreatDoorCards
import Derived.Test.YtjmdeplmenbmmaaGreatDoorTie
import Derived.Stop.Joined
import Derived.SevenTiedAt
import Derived.Lay
import Derived.LaidOnce
import Derived.RangeFuncNested
import Derived.RangeFuncBound
import Derived.RangeFuncCalls
import Derived.RangeFuncLeaves
import Derived.RangeFuncBox
import Derived.Shelf.Abstract
import Derived.Shelf.RegionOpen
import Derived.WalkKit
import Derived.OwnWalkIn
import Derived.TacticsInMore
import Derived.LoopNIn
import Derived.LoopIn
import Derived.Maps.AppendAt
import Derived.Test.YtjmdeplmenbmmaaGreatDoorChecked
set_option linter.unusedVariables false
namespace Go.Proofs.YtjmdeplmenbmmaaGreatDoor
open Go.ChangeShapes Go.WideShapes Go.ChangeAt Go.RowKit Go.Deep Go.Joins
theorem own : ownKnob Tryz.prog.godebug = none := by kernel_rfl
theorem laidOut : laidOutB Tryz.prog = true := by kernel_rfl
section
variable {H : Type} {enc : TypeId × Value → H} {P : Program}
theorem trodAll_stays (hl : laidOutB P = true) {W W' : World} {sp : Nat → Bool} (hb : Below W.heap.size W W') : ∀ {ts : List TypeId} {vs : List Value} {ds : List (DataW H)} {ps : List MemPlace},
    (ts.all fun t => P.readableRec t && decide (t < P.types.size)) = true → DataW.TrodAll enc P W 0 (fun _ => true) true ts vs ds ps → (∀ x ∈ ps, x.block < W.heap.size) → (∀ x ∈ ps, sp x.block = true) →
    DataW.TrodAll enc P W' 0 sp true ts vs ds ps
  | [], vs, ds, ps, _, h, _, _ => by
    obtain ⟨rfl, rfl, rfl⟩ := trodAll_nil h
    exact trodAll_mk0
  | t :: ts, vs, ds, ps, hr, h, hlt, hs => by
    obtain ⟨v, vs', d, ds', p, q, rfl, rfl, rfl, h1, h2⟩ := trodAll_cons h
    simp only [List.all_cons, Bool.and_eq_true, decide_eq_true_eq] at hr
    refine trodAll_cons_mk (WideElems.Trod_stays hl hr.1.1 hr.1.2 h1 (fun x hx => hb.same (hlt x (List.mem_append_left _ hx))) fun x hx => hs x (List.mem_append_left _ hx)) ?_
    exact trodAll_stays hl hb (by simpa using hr.2) h2 (fun x hx => hlt x (List.mem_append_right _ hx)) fun x hx => hs x (List.mem_append_right _ hx)
theorem post_of_law {f : Func} {s : ChangeSpec} {apart fresh handsOn again : Bool} {W W' : World} {args : Array Value} {v : Value} {ds : List (DataW H)} {before : List MemPlace}
    (hl : laidOutB P = true) (hr : (f.params.toList.all fun t => P.readableRec t && decide (t < P.types.size)) = true)
    (hW : DataW.Whole enc P f.params.toList s.vars apart W args.toList ds [] before) (hv : s.vars = []) (hspec : (s.fn H (ds ++ [])).args = ds) (hsv : (s.fn H (ds ++ [])).vars = [])
    (hres : ∀ (b : Nat) (sp : Nat → Bool) (hd : Bool), DataW.TrodAll enc P W' b sp hd f.resultTypes.toList (v.resultList f.resultTypes.size) (s.fn H (ds ++ [])).results [])
    (hb : Below W.heap.size W W') (hok : ∀ (j : Nat) (t : TypeId) (r : Value), f.resultTypes[j]? = some t → (v.resultList f.resultTypes.size)[j]? = some r → Value.okWide P W' .any 0 t r) :
    s.post enc P f apart fresh handsOn again W args v W' := by
  have hlt : ∀ p ∈ before, p.block < W.heap.size := fun p hp => hW.lt p hp
  have hW2 := hW
  obtain ⟨p, q, hA, hV, hpq, hz, hn⟩ := hW
  rw [hv] at hV
  obtain ⟨_, hq⟩ := trodVars_none hV
  subst hq
  have hp : before = p := by simpa using hpq
  subst hp
  have hargs : ∀ sp : Nat → Bool, (∀ x ∈ before, sp x.block = true) → DataW.TrodAll enc P W' 0 sp true f.params.toList args.toList (s.fn H (ds ++ [])).args before := fun sp hsp => by
    rw [hspec]
    exact trodAll_stays hl hb hr hA hlt hsp
  have hvars : ∀ sp : Nat → Bool, DataW.TrodVars enc P W' sp s.vars (s.fn H (ds ++ [])).vars [] := fun sp => by
    rw [hv, hsv]; rfl
  have hold : ∀ x ∈ before, (fun b => decide (b < W.heap.size)) x.block = true := fun x hx => by simpa using hlt x hx
  refine ⟨ds, [], before, [], before, [], hW2, hres _ _ _, hargs _ hold, hvars _, World.keptBut_mono (fun x hx => ⟨hx, ?_⟩) (hb.frame (· ∈ before)), fun _ => ?_⟩
  · simpa using hx
  · refine ⟨hok, _, _, ([] ++ before) ++ [], ⟨[] ++ before, [], trodAll_append (hargs _ (fun _ _ => rfl)) (hres _ _ _), hvars _, rfl, ?_, ?_⟩, ?_⟩
    · intro b off hin
      have hin : MemPlace.cell b off ∈ before := by simpa using hin
      rw [hb.frozen (hlt _ hin)]
      exact hz b off hin
    · intro ha
      have := hn ha
      simpa using this
    · intro x hx _
      simpa using hx
theorem arg_int {t : TypeId} {k : IntKind} {w : World} {base : Nat} {v : Value} {d : DataW H} {p : List MemPlace} (ht : P.underlying t = some (.int k)) (hv : Value.okWide P w .any base t v) (h : DataW.Trod enc P w 0 (fun _ => true) true t v d p) :
    ∃ x : Int, v = .int k x ∧ (Lit.int k x).wf = true := by
  obtain ⟨x, rfl, _, _, wx⟩ := open_int ht hv h
  exact ⟨x, rfl, wx⟩
theorem arg_agg2 {t : TypeId} {k0 k1 : IntKind} {f0 f1 : Field} {w : World} {base : Nat} {v : Value} {d : DataW H} {p : List MemPlace} (ht : P.underlying t = some (.struct #[f0, f1])) (hone : oneCellFields P #[f0, f1] = true) (hC : P.cellsOf t = 2)
    (h0 : P.underlying f0.type = some (.int k0)) (h1 : P.underlying f1.type = some (.int k1))
    (hv : Value.okWide P w .any base t v) (h : DataW.Trod enc P w 0 (fun _ => true) true t v d p) : ∃ x y : Int, v = .agg [.int k0 x, .int k1 y].toArray ∧ (Lit.int k0 x).wf = true ∧ (Lit.int k1 y).wf = true := by
  obtain ⟨c0, c1, y0, y1, m, rfl, _, _, e0, e1⟩ := Joins.open_agg2 ht hone hC hv h
  obtain ⟨a, g0, _, wa⟩ := DataW.trod_int h0 e0
  obtain ⟨b, g1, _, wb⟩ := DataW.trod_int h1 e1
  simp at g0 g1
  subst g0 g1
  exact ⟨a, b, rfl, wa, wb⟩
end
end Go.Proofs.YtjmdeplmenbmmaaGreatDoor
namespace Go.Proofs.YtjmdeplmenbmmaaGreatDoor
open Go.ChangeShapes Go.WideShapes Go.ChangeAt Go.RowKit Go.Deep Go.Joins
end Go.Proofs.YtjmdeplmenbmmaaGreatDoor
namespace Go.Proofs.YtjmdeplmenbmmaaGreatDoor
open Go.RowKit
theorem subA {w0 : World} {H HS : List Hl} (h : List.Sublist HS H := by first | (first | exact List.Sublist.refl _ | exact .cons _ (List.Sublist.refl _) | exact .cons _ (.cons _ (List.Sublist.refl _)) | exact .cons _ (.cons _ (.cons _ (List.Sublist.refl _))) | exact .cons _ (.cons _ (.cons _ (.cons _ (List.Sublist.refl _)))) | exact .cons _ (.cons _ (.cons _ (.cons _ (.cons _ (List.Sublist.refl _))))) | exact .cons _ (.cons _ (.cons _ (.cons _ (.cons _ (.cons _ (List.Sublist.refl _)))))) | exact .cons _ (.cons _ (.cons _ (.cons _ (.cons _ (.cons _ (.cons _ (List.Sublist.refl _))))))) | exact .cons _ (.cons _ (.cons _ (.cons _ (.cons _ (.cons _ (.cons _ (.cons _ (List.Sublist.refl _))))))))) | (with_reducible (repeat (first | exact List.Sublist.refl _ | apply List.Sublist.cons_cons | apply List.Sublist.cons)))) : ∀ w, St w0 H w → St w0 HS w := fun _ x => x.sub h
theorem nxRS {p q : Prop} (h : q) (s : q → p := by intro h; (show RS _ _ _ _ _ _ _ _); first
  | (apply RS.stepK; (case _hr => exact rfl); (case hd => exact rfl); (case h => exact h))
  | (apply RS.storeA; (case hx => rfl); (case hy => rfl); (case hu => rfl); (case hm => exact updA); (case hi => rfl); (case hs => decide +kernel); (case h => exact h))
  | (apply RS.storeRowA; (case hx => rfl); (case hy => rfl); (case hu => rfl); (case hm => exact updA); (case hl => (repeat (first | exact .nil | apply LenIs.cons))); (case hl2 => (repeat (first | exact .nil | apply LenIs.cons))); (case hs => decide +kernel); (case h => exact h))
  | (apply RS.storeI; (case hx => rfl); (case hy => rfl); (case hu => exact updA); (case hm => clear h; exact omlA); (case hs => decide +kernel); (case h => exact h))
  | (apply RS.lTK; (case hj => exact rfl); (case hg => exact rfl); (case hb => with_reducible rfl); (case _hr => exact rfl); (case hd => exact rfl); (case h => exact h))
  | (apply RS.xT; (case hj => exact rfl); (case hg => exact rfl); (case hb => with_reducible first | exact nfT | exact nfF | rfl); (case hd => exact rfl); (case h => exact h))
  | (apply RS.gTK; (case hj => exact rfl); (case hg => exact rfl); (case _hr => exact rfl); (case hd => exact rfl); (case h => exact h))
  | (apply RS.gTcK; (case hj => exact rfl); (case hg => exact rfl); (case _hr => exact rfl); (case hd => exact rfl); (case h => exact h))
  | (apply RS.lFK; (case hj => exact rfl); (case hg => exact rfl); (case hb => with_reducible rfl); (case _hr => exact rfl); (case hd => exact rfl); (case h => exact h))
  | (apply RS.xF; (case hj => exact rfl); (case hg => exact rfl); (case hb => with_reducible first | exact nfT | exact nfF | rfl); (case hd => exact rfl); (case h => exact h))
  | (apply RS.gFK; (case hj => exact rfl); (case hg => exact rfl); (case _hr => exact rfl); (case hd => exact rfl); (case h => exact h))
  | (apply RS.gFcK; (case hj => exact rfl); (case hg => exact rfl); (case _hr => exact rfl); (case hd => exact rfl); (case h => exact h))
  | (apply RS.finish; exact h)) : p := s h
theorem nxRS1 {β : Type} {p : Prop} {q : β → Prop} (h : ∀ b, q b) (s : (∀ b, q b) → p := by intro h; (show RS _ _ _ _ _ _ _ _); first
  | (apply RS.boxA; (case hx => rfl); (case hc => rfl); (case hd => rfl); (case h => exact h))
  | (apply RS.allocA; (case hz => exact ZeroTy.is); (case hc => rfl); (case hd => rfl); (case h => exact h))
  | (apply RS.litI; (case hx => rfl); (case hd => rfl); (case h => exact h))
  | (apply RS.lit0; (case hd => rfl); (case h => exact h))
  | (apply RS.append0A; (case hx => rfl); (case hy => rfl); (case hr => exact rdA); (case hu => intro v'; exact updA); (case h1 => exact fun _ => rfl); (case hb => clear h; exact omlA); (case hd => rfl); (case h => exact h))
  | (apply RS.appendA; (case hx => rfl); (case hy => rfl); (case hu => intro v'; exact updA); (case hr => exact rdA); (case h1 => exact fun _ => rfl); (case hb => clear h; exact omlA); (case hd => rfl); (case h => exact h))
  | (apply RS.appendNA; (case hx => rfl); (case hy => rfl); (case hr => exact rdA); (case h1 => exact fun _ => rfl); (case hb => clear h; exact omlA); (case hd => rfl); (case h => exact h))
  | (apply RS.makeI; (case hx => rfl); (case hz => decide +kernel); (case hm => clear h; exact omlA); (case hd => rfl); (case h => exact h))) : p := s h
theorem nxRM {p q : Prop} (h : q) (s : q → p := by intro h; (show RM _ _ _ _ _ _ _ _ _ _); first
  | (apply RM.stepK; (case ho => exact rfl); (case hp => exact rfl); (case hd => exact rfl); (case hs => exact subA); (case h => exact h))
  | (apply RM.callK; (case ho => exact rfl); (case hp => exact rfl); (case _hr => exact rfl); (case hd => exact rfl); (case hs => exact subA); (case h => exact h))
  | (apply RM.storeA; (case ho => rfl); (case hx => rfl); (case hy => rfl); (case hu => rfl); (case hm => exact updA); (case hi => rfl); (case hs => decide +kernel); (case hl => decide +kernel); (case h => exact h))
  | (apply RM.storeRowA; (case ho => rfl); (case hx => rfl); (case hy => rfl); (case hu => rfl); (case hm => exact updA); (case hl => (repeat (first | exact .nil | apply LenIs.cons))); (case hl2 => (repeat (first | exact .nil | apply LenIs.cons))); (case hs => decide +kernel); (case hla => decide +kernel); (case h => exact h))
  | (apply RM.storeB; (case ho => rfl); (case hx => rfl); (case hy => rfl); (case hu => rfl); (case hm => exact updA); (case hi => rfl); (case hs => decide +kernel); (case hl => exact subA); (case h => exact h))
  | (apply RM.storeRowB; (case ho => rfl); (case hx => rfl); (case hy => rfl); (case hu => rfl); (case hm => exact updA); (case hl => (repeat (first | exact .nil | apply LenIs.cons))); (case hl2 => (repeat (first | exact .nil | apply LenIs.cons))); (case hs => decide +kernel); (case hla => exact subA); (case h => exact h))
  | (apply RM.pendA; (case ho => rfl); (case hl => rfl); (case hz => exact ZeroTy.is); (case hc => rfl); (case hd => rfl); (case h => exact h))
  | (apply RM.lTK; (case ho => exact rfl); (case hp => exact rfl); (case hj => exact rfl); (case hg => exact rfl); (case hb => with_reducible rfl); (case hd => exact rfl); (case hs => exact subA); (case h => exact h))
  | (apply RM.xT; (case ho => exact rfl); (case hp => exact rfl); (case hj => exact rfl); (case hg => exact rfl); (case hb => with_reducible first | exact nfT | exact nfF | rfl); (case hd => exact rfl); (case hs => exact subA); (case h => exact h))
  | (apply RM.gTK; (case ho => exact rfl); (case hp => exact rfl); (case hj => exact rfl); (case hg => exact rfl); (case hd => exact rfl); (case hs => exact subA); (case h => exact h))
  | (apply RM.gTcK; (case ho => exact rfl); (case hp => exact rfl); (case hj => exact rfl); (case hg => exact rfl); (case hd => exact rfl); (case hs => exact subA); (case h => exact h))
  | (apply RM.lTyK; (case ho => exact rfl); (case hp => exact rfl); (case hj => exact rfl); (case hg => exact rfl); (case hb => with_reducible rfl); (case hd => exact rfl); (case hs => exact subA); (case h => exact h))
  | (apply RM.xTy; (case ho => exact rfl); (case hp => exact rfl); (case hj => exact rfl); (case hg => exact rfl); (case hb => with_reducible first | exact nfT | exact nfF | rfl); (case hd => exact rfl); (case hs => exact subA); (case h => exact h))
  | (apply RM.gTyK; (case ho => exact rfl); (case hp => exact rfl); (case hj => exact rfl); (case hg => exact rfl); (case hd => exact rfl); (case hs => exact subA); (case h => exact h))
  | (apply RM.gTycK; (case ho => exact rfl); (case hp => exact rfl); (case hj => exact rfl); (case hg => exact rfl); (case hd => exact rfl); (case hs => exact subA); (case h => exact h))
  | (apply RM.lFK; (case ho => exact rfl); (case hp => exact rfl); (case hj => exact rfl); (case hg => exact rfl); (case hb => with_reducible rfl); (case hd => exact rfl); (case hs => exact subA); (case h => exact h))
  | (apply RM.xF; (case ho => exact rfl); (case hp => exact rfl); (case hj => exact rfl); (case hg => exact rfl); (case hb => with_reducible first | exact nfT | exact nfF | rfl); (case hd => exact rfl); (case hs => exact subA); (case h => exact h))
  | (apply RM.gFK; (case ho => exact rfl); (case hp => exact rfl); (case hj => exact rfl); (case hg => exact rfl); (case hd => exact rfl); (case hs => exact subA); (case h => exact h))
  | (apply RM.gFcK; (case ho => exact rfl); (case hp => exact rfl); (case hj => exact rfl); (case hg => exact rfl); (case hd => exact rfl); (case hs => exact subA); (case h => exact h))
  | (apply RM.lFyK; (case ho => exact rfl); (case hp => exact rfl); (case hj => exact rfl); (case hg => exact rfl); (case hb => with_reducible rfl); (case hd => exact rfl); (case hs => exact subA); (case h => exact h))
  | (apply RM.xFy; (case ho => exact rfl); (case hp => exact rfl); (case hj => exact rfl); (case hg => exact rfl); (case hb => with_reducible first | exact nfT | exact nfF | rfl); (case hd => exact rfl); (case hs => exact subA); (case h => exact h))
  | (apply RM.gFyK; (case ho => exact rfl); (case hp => exact rfl); (case hj => exact rfl); (case hg => exact rfl); (case hd => exact rfl); (case hs => exact subA); (case h => exact h))
  | (apply RM.gFycK; (case ho => exact rfl); (case hp => exact rfl); (case hj => exact rfl); (case hg => exact rfl); (case hd => exact rfl); (case hs => exact subA); (case h => exact h))
  | (apply RM.finish; exact h)) : p := s h
theorem nxRM1 {β : Type} {p : Prop} {q : β → Prop} (h : ∀ b, q b) (s : (∀ b, q b) → p := by intro h; (show RM _ _ _ _ _ _ _ _ _ _); first
  | (apply RM.allocA; (case ho => rfl); (case hz => exact ZeroTy.is); (case hc => rfl); (case hs => exact fun _ => subA); (case hd => rfl); (case h => exact h))
  | (apply RM.cameA; (case hs => exact subA); (case hs' => exact fun _ => subA); (case h => exact h))) : p := s h
theorem nxV {p q : Prop} (h : q) (s : q → p := by intro h; first | (show YK _ _ _ _ _ _ _; exact YK.ofV vAuto h) | (show VK _ _ _ _ _ _ _; exact VK.mk vAuto h)) : p := s h
theorem nxG {p q : Prop} (h : q) (s : q → p := by intro h; first | (show YG _ _ _ _ _ _ _ _; exact YG.mk (fun hb => by (try (have hc := And.left hb; have hb := And.right hb; rw [hc])); (try rw [hb]); exact V.y vAuto) h) | (show VG _ _ _ _ _ _ _ _; exact VG.mk (fun hb => by (try (have hc := And.left hb; have hb := And.right hb; rw [hc])); (try rw [hb]); exact vAuto) h)) : p := s h
theorem nxX {p q : Prop} (h : q) (s : q → p := by intro h; first | (apply G.seq; exact h) | (apply X.then_normal; exact h) | (apply G.region; exact h) | (apply G.block; exact h) | (apply G.skip; exact h) | (apply G.exit; exact h) | (apply G.ret; exact h) | (apply X.then_ret; exact h) | (apply X.then_exit; exact h) | (apply X.block_out; exact h) | (apply X.block_normal; exact h) | (apply X.block_ret; exact h) | exact X.block_exit rfl h) : p := s h
end Go.Proofs.YtjmdeplmenbmmaaGreatDoor
namespace Go.Proofs.YtjmdeplmenbmmaaGreatDoor
open Go.RowKit
instance tyI3 : IntTy Tryz.prog 3 .i64 := ⟨by kernel_rfl⟩
instance tyB4 : BoolTy Tryz.prog 4 := ⟨by kernel_rfl⟩
instance tyS9 : StrTy Tryz.prog 9 := ⟨by kernel_rfl⟩
instance tyZ23 : ZeroTy Tryz.prog 23 (Go.Value.agg #[Go.Value.int Go.IntKind.i64 0, Go.Value.int Go.IntKind.i64 0]) := ⟨by kernel_rfl⟩
instance tyR26 : RowTy Tryz.prog 26 23 2 16 := ⟨by kernel_rfl⟩
instance tyR30 : RowTy Tryz.prog 30 40 4 32 := ⟨by kernel_rfl⟩
instance tyZ34 : ZeroTy Tryz.prog 34 (Go.Value.agg #[Go.Value.int Go.IntKind.i64 0, Go.Value.int Go.IntKind.i64 0]) := ⟨by kernel_rfl⟩
instance tyZ36 : ZeroTy Tryz.prog 36 (Go.Value.agg #[Go.Value.int Go.IntKind.i64 0, Go.Value.int Go.IntKind.i64 0, Go.Value.int Go.IntKind.i64 0, Go.Value.int Go.IntKind.i64 0]) := ⟨by kernel_rfl⟩
instance tyZ40 : ZeroTy Tryz.prog 40 (Go.Value.agg #[Go.Value.int Go.IntKind.i64 0, Go.Value.int Go.IntKind.i64 0, Go.Value.int Go.IntKind.i64 0, Go.Value.int Go.IntKind.i64 0]) := ⟨by kernel_rfl⟩
instance tyZ58 : ZeroTy Tryz.prog 58 (Go.Value.agg #[Go.Value.int Go.IntKind.i64 0, Go.Value.int Go.IntKind.i64 0, Go.Value.int Go.IntKind.i64 0, Go.Value.int Go.IntKind.i64 0, Go.Value.int Go.IntKind.i64 0, Go.Value.int Go.IntKind.i64 0]) := ⟨by kernel_rfl⟩
instance tyR62 : RowTy Tryz.prog 62 73 3 24 := ⟨by kernel_rfl⟩
instance tyR65 : RowTy Tryz.prog 65 3 1 8 := ⟨by kernel_rfl⟩
instance tyZ65 : ZeroTy Tryz.prog 65 (Go.Value.slice none 0 0) := ⟨by kernel_rfl⟩
instance tyZ73 : ZeroTy Tryz.prog 73 (Go.Value.agg #[Go.Value.int Go.IntKind.i64 0, Go.Value.int Go.IntKind.i64 0, Go.Value.int Go.IntKind.i64 0]) := ⟨by kernel_rfl⟩
instance tyR81 : RowTy Tryz.prog 81 9 1 16 := ⟨by kernel_rfl⟩
instance tyZ92 : ZeroTy Tryz.prog 92 (Go.Value.agg #[Go.Value.int Go.IntKind.i64 0, Go.Value.int Go.IntKind.i64 0]) := ⟨by kernel_rfl⟩
instance tyZ102 : ZeroTy Tryz.prog 102 (Go.Value.agg #[Go.Value.int Go.IntKind.i64 0]) := ⟨by kernel_rfl⟩
instance tyZ124 : ZeroTy Tryz.prog 124 (Go.Value.agg #[Go.Value.int Go.IntKind.i64 0, Go.Value.int Go.IntKind.i64 0, Go.Value.int Go.IntKind.i64 0, Go.Value.int Go.IntKind.i64 0, Go.Value.int Go.IntKind.i64 0, Go.Value.int Go.IntKind.i64 0]) := ⟨by kernel_rfl⟩
instance tyZ128 : ZeroTy Tryz.prog 128 (Go.Value.agg #[Go.Value.int Go.IntKind.i64 0]) := ⟨by kernel_rfl⟩
instance tyR132 : RowTy Tryz.prog 132 62 1 24 := ⟨by kernel_rfl⟩
instance tyZ140 : ZeroTy Tryz.prog 140 (Go.Value.agg #[Go.Value.slice none 0 0, Go.Value.int Go.IntKind.i64 0]) := ⟨by kernel_rfl⟩
instance tyI152 : IntTy Tryz.prog 152 .u64 := ⟨by kernel_rfl⟩
instance tyZ156 : ZeroTy Tryz.prog 156 (Go.Value.agg #[Go.Value.int Go.IntKind.i64 0, Go.Value.int Go.IntKind.i64 0]) := ⟨by kernel_rfl⟩
instance tyR159 : RowTy Tryz.prog 159 156 2 16 := ⟨by kernel_rfl⟩
instance tyR188 : RowTy Tryz.prog 188 235 2 16 := ⟨by kernel_rfl⟩
instance tyR192 : RowTy Tryz.prog 192 36 4 32 := ⟨by kernel_rfl⟩
instance tyZ205 : ZeroTy Tryz.prog 205 (Go.Value.agg #[Go.Value.int Go.IntKind.i64 0, Go.Value.int Go.IntKind.i64 0]) := ⟨by kernel_rfl⟩
instance tyZ212 : ZeroTy Tryz.prog 212 (Go.Value.agg #[Go.Value.int Go.IntKind.i64 0, Go.Value.int Go.IntKind.i64 0]) := ⟨by kernel_rfl⟩
instance tyZ213 : ZeroTy Tryz.prog 213 (Go.Value.agg #[Go.Value.int Go.IntKind.i64 0, Go.Value.int Go.IntKind.i64 0, Go.Value.int Go.IntKind.i64 0, Go.Value.int Go.IntKind.i64 0, Go.Value.int Go.IntKind.i64 0, Go.Value.int Go.IntKind.i64 0, Go.Value.int Go.IntKind.i64 0, Go.Value.int Go.IntKind.i64 0]) := ⟨by kernel_rfl⟩
instance tyZ235 : ZeroTy Tryz.prog 235 (Go.Value.agg #[Go.Value.int Go.IntKind.i64 0, Go.Value.int Go.IntKind.i64 0]) := ⟨by kernel_rfl⟩
instance tyR241 : RowTy Tryz.prog 241 34 2 16 := ⟨by kernel_rfl⟩
instance tyR245 : RowTy Tryz.prog 245 5 1 1 := ⟨by kernel_rfl⟩
instance tyZ247 : ZeroTy Tryz.prog 247 (Go.Value.agg #[Go.Value.pointer none, Go.Value.slice none 0 0]) := ⟨by kernel_rfl⟩
instance tyI257 : IntTy Tryz.prog 257 .u64 := ⟨by kernel_rfl⟩
instance tyZ262 : ZeroTy Tryz.prog 262 (Go.Value.agg #[Go.Value.int Go.IntKind.u64 0, Go.Value.int Go.IntKind.u64 0, Go.Value.bool false]) := ⟨by kernel_rfl⟩
instance tyZ283 : ZeroTy Tryz.prog 283 (Go.Value.agg #[Go.Value.int Go.IntKind.i64 0]) := ⟨by kernel_rfl⟩
instance tyZ285 : ZeroTy Tryz.prog 285 (Go.Value.agg #[Go.Value.int Go.IntKind.i64 0, Go.Value.int Go.IntKind.i64 0, Go.Value.int Go.IntKind.i64 0, Go.Value.int Go.IntKind.i64 0, Go.Value.int Go.IntKind.i64 0, Go.Value.int Go.IntKind.i64 0, Go.Value.int Go.IntKind.i64 0, Go.Value.int Go.IntKind.i64 0, Go.Value.int Go.IntKind.i64 0, Go.Value.int Go.IntKind.i64 0, Go.Value.int Go.IntKind.i64 0, Go.Value.int Go.IntKind.i64 0]) := ⟨by kernel_rfl⟩
instance tyZ296 : ZeroTy Tryz.prog 296 (Go.Value.agg #[Go.Value.int Go.IntKind.u64 0, Go.Value.int Go.IntKind.u64 0, Go.Value.int Go.IntKind.u64 0, Go.Value.int Go.IntKind.u64 0]) := ⟨by kernel_rfl⟩
instance tyZ303 : ZeroTy Tryz.prog 303 (Go.Value.agg #[Go.Value.int Go.IntKind.u64 0, Go.Value.int Go.IntKind.u64 0, Go.Value.int Go.IntKind.u64 0, Go.Value.int Go.IntKind.u64 0]) := ⟨by kernel_rfl⟩
instance tyZ330 : ZeroTy Tryz.prog 330 (Go.Value.agg #[Go.Value.int Go.IntKind.u64 0, Go.Value.int Go.IntKind.u64 0, Go.Value.int Go.IntKind.u64 0, Go.Value.int Go.IntKind.u64 0, Go.Value.int Go.IntKind.u64 0, Go.Value.int Go.IntKind.u64 0]) := ⟨by kernel_rfl⟩
instance tyZ347 : ZeroTy Tryz.prog 347 (Go.Value.agg #[Go.Value.int Go.IntKind.u64 0, Go.Value.int Go.IntKind.u64 0, Go.Value.int Go.IntKind.u64 0, Go.Value.int Go.IntKind.u64 0, Go.Value.int Go.IntKind.u64 0, Go.Value.int Go.IntKind.u64 0, Go.Value.int Go.IntKind.u64 0, Go.Value.int Go.IntKind.u64 0]) := ⟨by kernel_rfl⟩
end Go.Proofs.YtjmdeplmenbmmaaGreatDoor
set_option maxHeartbeats 4000000
namespace Go.Proofs.YtjmdeplmenbmmaaGreatDoor
open Go.RowKit
abbrev strV (l : List UInt8) : Value := .string ⟨l.toArray⟩
theorem size_str (l : List UInt8) : (ByteArray.mk l.toArray).size = l.length := List.size_toArray
section
variable {P : Program} {n : Nat} {L : FL} {w0 : World} {H : List Hl} {d : Option Tmp} {ty : TypeId} {pos : String} {af : Array Edge} {g : Option (Nat × Bool)} {x y z : Operand} {t t' : TypeId} {k k' : IntKind} {m m' : Int} {l l' : List UInt8}
theorem y_lenS (hx : evO L x = some (strV l)) (ht : P.underlying t = some .string) : V P n L w0 H ⟨d, .call { callee := .builtin .len, args := #[x], argTypes := #[t] }, ty, pos, af, g⟩ (.int .i64 l.length) := by
  unfold V
  intro a w ha hw
  simp [execOp, resolve, invoke, builtin, ha.eval hx, run_len_string _ _ _ _ ht, goInt]
  rw [size_str]
theorem y_catS (hx : evO L x = some (strV l)) (hy : evO L y = some (strV l')) (hb : (l.length : Int) + l'.length ≤ 9223372036854775807) : V P n L w0 H ⟨d, .binOp .add t x y t', ty, pos, af, g⟩ (strV (l ++ l')) := by
  unfold V
  intro a w ha hw
  have h2 := run_string_add_sum (P := P) w ⟨l.toArray⟩ ⟨l'.toArray⟩ (by rw [size_str, size_str]; omega)
  rw [ByteArray.mk_append_mk] at h2
  simp [execOp, ha.eval hx, ha.eval hy, eqGuard, binOp_string_add, h2]
theorem vStr {o : Oper} {v : Value} (h : V P n L w0 H o v := by
  first
    | (apply y_lenS; rfl; exact StrTy.is; done)
    | (apply y_indexS; rfl; rfl; exact StrTy.is; exact omlA; done)
    | (apply y_sliceSLH; rfl; rfl; rfl; exact StrTy.is; exact omlA; done)
    | (apply y_sliceSL; rfl; rfl; exact StrTy.is; exact omlA; done)
    | (apply y_sliceSH; rfl; rfl; exact StrTy.is; exact omlA; done)
    | (apply y_catS; rfl; rfl; exact omlA; done)
    | (apply y_eqS; rfl; rfl; done)
    | (apply y_neS; rfl; rfl; done)) : V P n L w0 H o v := h
theorem nxVS {p q : Prop} (h : q) (s : q → p := by intro h; first | (show YK _ _ _ _ _ _ _; exact YK.ofV vStr h) | (show VK _ _ _ _ _ _ _; exact VK.mk vStr h)) : p := s h
end
end Go.Proofs.YtjmdeplmenbmmaaGreatDoor
set_option maxHeartbeats 4000000
namespace Go.Proofs.YtjmdeplmenbmmaaGreatDoor
open Go.RowKit
theorem var_keep {P : Program} {w w' : World} {nm : String} {cs : Array Value} (h : w.var? P nm = some cs) (hb : Below w.heap.size w w') : w'.var? P nm = some cs := by
  unfold World.var? at h ⊢
  cases hg : P.globalNamed nm with
  | none => simp [hg] at h
  | some g =>
    simp only [hg, Option.bind_some] at h ⊢
    have hlt : g < w.heap.size := by
      rcases Nat.lt_or_ge g w.heap.size with h' | h'
      · exact h'
      · simp [Array.getElem?_eq_none h'] at h
    rw [hb.block g hlt]
    exact h
theorem laid_get {P : Program} {w : World} {nm : String} {d : DataW Unit} : ∀ {l : List (String × DataW Unit)} {ps : List MemPlace}, DataW.LaidVars P w l ps → (nm, d) ∈ l →
    ∃ g t cs fuel p, P.globalNamed nm = some g ∧ (P.globals[g]?).map (·.type) = some t ∧ w.var? P nm = some cs ∧ DataW.trod (fun _ => ()) P w 0 (fun _ => true) false fuel t cs.toList = some (d, p)
  | [], _, _, hm => by cases hm
  | (n', d') :: r, ps, h, hm => by
    obtain ⟨g, t, cs, fuel, p, q, h1, h2, h3, h4, h5, _⟩ := h
    rcases List.mem_cons.1 hm with e | hm
    · cases e
      exact ⟨g, t, cs, fuel, p, h1, h2, h3, h4⟩
    · exact laid_get h5 hm
theorem gPow : Tryz.prog.globalNamed "internal/strconv.uint64pow10" = some 0 := by kernel_rfl
end Go.Proofs.YtjmdeplmenbmmaaGreatDoor
namespace Go.Proofs.YtjmdeplmenbmmaaGreatDoor
open Go.ChangeShapes Go.WideShapes Go.ChangeAt Go.RowKit Go.Deep Go.Joins
theorem returns_laid {H : Type} {enc : TypeId × Value → H} {a : Assume} {C : Checked} {os : Os} {f : FuncId} {fn : Func} {s : ChangeSpec} {conds : List PathCond} {apart fresh handsOn again : Bool} {X : World → Array Value → Prop}
    (hX : ∀ (w w' : World) (args : Array Value), w.heap = w'.heap → X w args → X w' args)
    (own : ownKnob C.prog.godebug = none) (started : os.Started) (noInit : C.prog.inits.idxOf? f = none) (hfn : C.prog.funcs[f]? = some fn)
    (witness : ∃ (w : World) (tape : Tape) (i : Input), w.os = os ∧ (w.forCall tape i).Shaped C.prog ∧ i.vars = [] ∧ Input.okWide C.prog (w.forCall tape i) .any w.heap.size f i ∧
      ((s.pre enc C.prog fn conds apart (w.forCall tape i).memory i.args ∧ X (w.forCall tape i).memory i.args) ∧ sizedMet enc C.prog fn (OpenSpec.ofChange s) apart (w.forCall tape i).memory i.args) ∧ a.holds C.prog (lone (Frame.enter C.prog f i.args .normal) [] (w.forCall tape i)))
    (contract : ∀ (W : World) (base : Nat) (args : Array Value) (ds gs : List (DataW H)) (before : List MemPlace),
      (∀ (j : Nat) t v, fn.params[j]? = some t → args[j]? = some v → Value.okWide C.prog W .any base t v) →
      DataW.Whole enc C.prog fn.params.toList s.vars apart W args.toList ds gs before → W.ShapedOpen C.prog → X W args →
      Calls C.prog f args W fun e W' => ∃ v, e = .returned v ∧ s.post enc C.prog fn apart fresh handsOn again W args v W') :
    ReturnsInHanded a C os f .any (fun w args => (s.pre enc C.prog fn conds apart w args ∧ X w args) ∧ sizedMet enc C.prog fn (OpenSpec.ofChange s) apart w args) (s.post enc C.prog fn apart fresh handsOn again) := by
  refine returnsInHanded_of_calls own started noInit witness ?_
  intro w tape i _ hsh _ hok hpre _
  obtain ⟨_, _, _, fn', hfn', _, _, _, _, hval⟩ := hok
  obtain rfl : fn' = fn := Option.some.inj (hfn'.symm.trans hfn)
  obtain ⟨⟨⟨ds, gs, before, hw, _⟩, hx⟩, _⟩ := hpre
  refine (contract (w.forCall tape i) w.heap.size i.args ds gs before hval (DataW.Whole.of_heap (w' := w.forCall tape i) (by rfl) hw) hsh (hX _ _ _ (by rfl) hx)).mono fun e W' ⟨v, he, hp⟩ => ?_
  subst he
  exact ChangeSpec.post_blind hp
end Go.Proofs.YtjmdeplmenbmmaaGreatDoor
namespace Go.Proofs.YtjmdeplmenbmmaaGreatDoor
open Go.RowKit Go.Shelf
attribute [local go_sem] Oper.semAt_some
abbrev FrQ := Int × Int
def upto (f : Nat → FrQ) (k : Nat) : List FrQ := (List.range k).map f
theorem upto_succ (f : Nat → FrQ) (k : Nat) : upto f (k + 1) = upto f k ++ [f k] := by simp [upto, List.range_succ]
theorem upto_length (f : Nat → FrQ) (k : Nat) : (upto f k).length = k := by simp [upto]
theorem upto_all (zs : List FrQ) : upto (fun j => zs[j]?.getD (0, 0)) zs.length = zs := by
  apply List.ext_getElem
  · simp [upto]
  · intro i h1 h2
    simp [upto, h2]
set_option maxRecDepth 100000 in
set_option maxHeartbeats 2000000 in
theorem values1_in (F : Fence) (n : Nat) (h7 : F.fn 297) (hro : F.round = none) (hn : 1 ≤ n) (l Bs n₀ b off len cap : Nat) (zs : List FrQ) (hreach : len * 16 ≤ 140737488351232) (hb : b < n₀) (J Jx : List FrQ → World → Prop)
    (hY : ∀ pre x W, J pre W → pre.length < len → YieldAt F (n - 1) Tryz.prog l #[.agg #[.int .i64 x.1, .int .i64 x.2]] W fun e W' =>
      (e = .returned (.bool true) ∧ J (pre ++ [x]) W' ∧ Below n₀ W W') ∨ (e = .returned (.bool false) ∧ Jx (pre ++ [x]) W'))
    (W : World) (hJ : AbidesFrom W.heap.size J) (hn₀ : n₀ ≤ W.heap.size) (hBs : W.cell? ⟨Bs, 0, none⟩ = some (.slice (some ⟨b, off, none⟩) len cap)) (hBn : Bs < n₀)
    (hc : ∀ j, j < len → W.cell? ⟨b, off + j * 2, none⟩ = some (.int .i64 (zs[j]?.getD (0, 0)).1) ∧ W.cell? ⟨b, off + j * 2 + 1, none⟩ = some (.int .i64 (zs[j]?.getD (0, 0)).2)) (h0 : J [] W) :
    CallsIn F n Tryz.prog 297 #[.func (.yield l) #[] #[], .pointer (some ⟨Bs, 0, none⟩)] W fun e W' => (∃ v, e = .returned v) ∧
      ((∃ ys, ys = upto (fun j => zs[j]?.getD (0, 0)) len ∧ J ys W') ∨ (∃ pre, (∃ k, k ≤ len ∧ pre = upto (fun j => zs[j]?.getD (0, 0)) k) ∧ Jx pre W')) := by
  refine callsIn_of_wp Tryz.func297 rfl h7 ?_ hro
  simp only [Tryz.ntmps297, List.size_toArray, List.length_cons, List.length_nil, Nat.reduceAdd, Nat.reduceSub, Array.replicate_succ, Array.replicate_zero, List.push_toArray, List.append_toArray, List.nil_append, List.cons_append]
  gi_wp2
  gi_loopw [7] (fun i wr => ∃ k : Nat, k ≤ len ∧ i = .int .i64 k ∧ J (upto (fun j => zs[j]?.getD (0, 0)) k) wr ∧ Below n₀ W wr)
    (fun i _ => len - (intOf i).toNat)
  case atStart => exact ⟨0, Nat.zero_le _, rfl, h0, Below.refl _ _⟩
  case round =>
    obtain ⟨k, hk, rfl, hJs, hnx⟩ := hrel
    have hcx : k < len → wr.cell? ⟨b, off + k * 2, none⟩ = some (.int .i64 (zs[k]?.getD (0, 0)).1) ∧ wr.cell? ⟨b, off + k * 2 + 1, none⟩ = some (.int .i64 (zs[k]?.getD (0, 0)).2) := fun h => ⟨(hnx.cell (p := ⟨b, off + k * 2, none⟩) hb).trans (hc k h).1, (hnx.cell (p := ⟨b, off + k * 2 + 1, none⟩) hb).trans (hc k h).2⟩
    by_cases hlt : k < len
    · obtain ⟨hc1, hc2⟩ := hcx hlt
      have hJ2 : J (upto (fun j => zs[j]?.getD (0, 0)) k) (wr.alloc (.cells #[.int .i64 (zs[k]?.getD (0, 0)).1, .int .i64 (zs[k]?.getD (0, 0)).2] 34)) := hJ _ _ _ none hJs (World.grownBy_alloc _ _ none) (fun r e => by cases e)
      obtain ⟨fn, tmps, assign, body, hy, hR⟩ := hY _ (zs[k]?.getD (0, 0)) _ hJ2 (by rw [upto_length]; exact hlt)
      gi_wp2
      refine hR.mono ?_
      rintro e W3 (⟨rfl, hJ3, hk3⟩ | ⟨rfl, hJx3⟩)
      · gi_wp2
        go_roundw
        case rel => exact ⟨k + 1, by omega, by simp, by rw [upto_succ]; exact hJ3, (hnx.trans ((Below.refl n₀ wr).alloc (Nat.le_trans hn₀ hnx.size) _)).trans hk3⟩
        case measure => simp [intOf]; omega
      · gi_wp2
        refine bodyPost_ret (results_none rfl _ _ _) rfl ?_
        exact ⟨⟨_, rfl⟩, .inr ⟨_, ⟨k + 1, by omega, (upto_succ _ _).symm⟩, hJx3⟩⟩
    · obtain rfl : k = len := by omega
      gi_wp2
      go_end0
      exact ⟨⟨_, rfl⟩, .inl ⟨_, rfl, hJs⟩⟩
end Go.Proofs.YtjmdeplmenbmmaaGreatDoor
namespace Go.Proofs.YtjmdeplmenbmmaaGreatDoor
open Go.RowKit Go.Shelf
attribute [local go_sem] Oper.semAt_some
abbrev cQ (x : FrQ) : List Value := [.int .i64 x.1, .int .i64 x.2]
def FracsAt (n₀ : Nat) (W : World) (b off : Nat) (zs : List FrQ) : Prop :=
  b < n₀ ∧ ∀ j, j < zs.length → W.cell? ⟨b, off + j * 2, none⟩ = some (.int .i64 (zs[j]?.getD (0, 0)).1) ∧ W.cell? ⟨b, off + j * 2 + 1, none⟩ = some (.int .i64 (zs[j]?.getD (0, 0)).2)
theorem FracsAt.below {n₀ : Nat} {A B : World} {b off : Nat} {zs : List FrQ} (h : Below n₀ A B) (hf : FracsAt n₀ A b off zs) : FracsAt n₀ B b off zs :=
  ⟨hf.1, fun j hj => ⟨(h.cell (p := ⟨b, off + j * 2, none⟩) hf.1).trans (hf.2 j hj).1, (h.cell (p := ⟨b, off + j * 2 + 1, none⟩) hf.1).trans (hf.2 j hj).2⟩⟩
theorem values_stops (F : Fence) (n : Nat) (h7 : F.fn 297) (hro : F.round = none) (hn : 1 ≤ n) (Bs n₀ b off cap : Nat) (zs : List FrQ) (hreach : zs.length ≤ 1000000) (w : World) (hBn : Bs < n₀) (hn₀ : n₀ ≤ w.heap.size)
    (hc : w.cell? ⟨Bs, 0, none⟩ = some (.slice (some ⟨b, off, none⟩) zs.length cap)) (hI : FracsAt n₀ w b off zs) :
    SeqStopsK F n Tryz.prog 297 #[.pointer (some ⟨Bs, 0, none⟩)] (fun x : FrQ => #[.agg #[.int .i64 x.1, .int .i64 x.2]]) (Below n₀) (fun ys => ys = zs) (fun _ => True) zs.length w := fun l J Jx W hW hJ _ hY h0 => by
  have hc' := (hW.cell (p := ⟨Bs, 0, none⟩) (Nat.lt_of_lt_of_le hBn hn₀)).trans hc
  have hI' := hI.below (hW.mono hn₀)
  refine (values1_in F n h7 hro hn l Bs n₀ b off zs.length cap zs (by omega) hI'.1 J Jx hY W hJ (Nat.le_trans hn₀ hW.size) hc' hBn hI'.2 h0).mono fun e W' ⟨he, h⟩ => ⟨he, ?_⟩
  rcases h with ⟨ys, hy, hj⟩ | ⟨pre, _, hj⟩
  · exact .inl ⟨ys, by rw [hy, upto_all], hj⟩
  · exact .inr ⟨pre, trivial, hj⟩
theorem infoFr : (Tryz.prog.info? 34).map (fun i => (i.zero, i.size, i.bytes)) = some (some (.agg #[.int .i64 0, .int .i64 0]), 2, 16) := by kernel_rfl
theorem two_new (W : World) (a b : Value) (t : TypeId) : ∀ j u, [a, b][j]? = some u → (W.alloc (.cells #[a, b] t)).cell? ((⟨W.heap.size, 0, none⟩ : Addr).add j) = some u := by
  intro j u h
  have hb := World.alloc_heap_new W (.cells #[a, b] t)
  match j, h with
  | 0, h =>
    have e : ((⟨W.heap.size, 0, none⟩ : Addr).add 0) = ⟨W.heap.size, 0, none⟩ := rfl
    rw [e]; unfold World.cell?; dsimp only; rw [hb]; exact h
  | 1, h =>
    have e : ((⟨W.heap.size, 0, none⟩ : Addr).add 1) = ⟨W.heap.size, 1, none⟩ := rfl
    rw [e]; unfold World.cell?; dsimp only; rw [hb]; exact h
theorem cells_two {W : World} {B : Nat} {a b : Value} {t : TypeId} (h : W.heap[B]? = some (.cells #[a, b] t (0, 0))) : W.cell? ⟨B, 0, none⟩ = some a ∧ W.cell? ⟨B, 1, none⟩ = some b := by
  constructor <;> (unfold World.cell?; dsimp only; rw [h]; rfl)
set_option maxRecDepth 100000 in
set_option maxHeartbeats 2000000 in
theorem append_in (F : Fence) (n : Nat) (h72 : F.fn 328) (h65 : F.fn 297) (hro : F.round = none) (hn : 3 ≤ n) (Bs b off cap : Nat) (zs : List FrQ) (hreach : zs.length ≤ 1000000) (w : World) (hBn : Bs < w.heap.size)
    (hc : w.cell? ⟨Bs, 0, none⟩ = some (.slice (some ⟨b, off, none⟩) zs.length cap)) (hI : FracsAt w.heap.size w b off zs) :
    CallsIn F n Tryz.prog 328 #[.slice none 0 0, .func (.func 297) #[] #[.pointer (some ⟨Bs, 0, none⟩)]] w fun e W' =>
      (∃ v, e = .returned v ∧ W'.ownsRow w.heap.size 34 2 v zs.length (zs.flatMap cQ)) ∧ Below w.heap.size w W' := by
  have h1 : 1 ≤ n := by omega
  obtain ⟨i0, hi, hz0, hz1, hz2⟩ := info_parts infoFr
  refine callsIn_of_wp_marks Tryz.func328 rfl h72 ?_ hro
  simp only [Tryz.ntmps328, List.size_toArray, List.length_cons, List.length_nil, Nat.reduceAdd, Nat.reduceSub, Array.replicate_succ, Array.replicate_zero, List.push_toArray, List.append_toArray, List.nil_append, List.cons_append]
  gi_wp2
  have bS := Boxed.new w 241 (.slice none 0 0)
  have hB0 : Below w.heap.size w (w.alloc (.cells #[.slice none 0 0] 241)) := (Below.refl _ w).alloc (Nat.le_refl _) _
  have hc0 : (w.alloc (.cells #[.slice none 0 0] 241)).cell? ⟨Bs, 0, none⟩ = some (.slice (some ⟨b, off, none⟩) zs.length cap) := (hB0.cell (p := ⟨Bs, 0, none⟩) hBn).trans hc
  refine wpIn_rangeFunc_ownH hro h1 (gf := 297) (lb := #[.pointer (some ⟨Bs, 0, none⟩)]) rfl h65 (enters_of Tryz.func297 (by kernel_rfl) rfl)
    (values_stops F (n - 1) h65 hro (by omega) Bs w.heap.size b off cap zs hreach _ hBn hB0.size hc0 (hI.below hB0)) belowK_t (belowK_b (by simp)) (Below.refl _ _) (fun _ => rfl)
    (fun pre W => (∃ v, Boxed W w.heap.size 241 v ∧ W.ownsRow w.heap.size 34 2 v pre.length (pre.flatMap cQ) ∧ True) ∧ Below w.heap.size w W)
    (fun _ _ _ => False)
    (OwnFrom.and (Own.from (holdsRow_own w.heap.size w.heap.size 241 34 2 (fun pre : List FrQ => pre.length) (fun pre => pre.flatMap cQ) (fun _ _ => True)) _) (ownFrom_below (Nat.le_refl _) (by simp)))
    (fun _ _ _ _ _ hs _ _ => hs)
    ⟨⟨_, bS, World.ownsRow_nil _ _ _ _, trivial⟩, hB0⟩
    (fun x a' W => ∃ Bx, w.heap.size < Bx ∧ W.heap[Bx]? = some (.cells #[.int .i64 x.1, .int .i64 x.2] 34 (0, 0)) ∧ a' = { tmps := #[.slice none 0 0, .func (.func 297) #[] #[.pointer (some ⟨Bs, 0, none⟩)], .pointer (some ⟨w.heap.size, 0, none⟩), undef, .slice none 0 0, .pointer (some ⟨Bx, 0, none⟩), .func (.func 297) #[] #[.pointer (some ⟨Bs, 0, none⟩)], .agg #[.int .i64 x.1, .int .i64 x.2], undef, undef, undef, undef, undef], defers := [] })
    (fun x a' _ X Y row hs hg hr => by
      obtain ⟨Bx, h1, h2, h3⟩ := hs
      exact ⟨Bx, h1, (hg.block Bx (Array.getElem?_eq_some_iff.1 h2).1 (fun e => by obtain ⟨_, o, ho, hcc⟩ := hr Bx e.symm; rw [h2] at ho; cases ho; cases hcc)).trans h2, h3⟩)
    ?assign ?body ?done ?stop
  case assign =>
    rintro l pre x W K ⟨⟨v, hv, hrow, _⟩, hB⟩ hK
    gi_wp2
    exact hK _ _ ((KeepsOthers.alloc _ _).from _) ((Below.refl _ W).alloc hB.size _) ⟨⟨v, hv.alloc _, hrow.alloc _, trivial⟩, hB.alloc hB.size _⟩ ⟨W.heap.size, hv.lt, World.alloc_heap_new _ _, rfl⟩
  case body =>
    rintro l pre x a' W hl ⟨r, hrr⟩ ⟨⟨v, hv, hrow, _⟩, hB⟩ ⟨Bx, hBx, hX, rfl⟩ hlt
    have cv := hv.cell
    obtain ⟨cx0, cx1⟩ := cells_two hX
    have hle := hB.size
    gi_wp2_with (gi_at_builtin; refine wpListIn_append_own _ rfl _ _ 241 rfl w.heap.size 34 i0 (.agg #[.int .i64 0, .int .i64 0]) 2 16 Tryz.underlying241 hi hz0 hz1 hz2 rfl (by decide) _ _ _ rfl (hrow.alloc _) ⟨W.heap.size, 0, none⟩ 1 1 [.int .i64 x.1, .int .i64 x.2] rfl rfl (two_new _ _ _ _) (by simp [Value.oneCell']) (by have : maxLen = 9223372036854775807 := rfl; omega) (by omega) (by simp; omega) ?_; intro v' w1 hown' hgrow _; obtain ⟨g', cap', rfl⟩ := ownsRow_succ hown'; obtain ⟨hv1, hv2, hr2, hk2, hb2⟩ := hv.appended (by decide) hrow hB.size (Nat.le_refl _) hown' hgrow; have hc1 := hv1.cell; have hf1 := hv1.frozen)
    refine ⟨hk2.from _, hb2, ⟨⟨_, hv2, ?_, trivial⟩, hB.trans hb2⟩⟩
    rw [List.length_append, List.flatMap_append]
    exact hr2
  case done =>
    rintro D ys W hD rfl ⟨⟨v, hv, hrow, _⟩, hB⟩ hK
    have cv := hv.cell
    gi_wp2
    refine ⟨by simp, .inl ⟨_, _, rfl, run_takeDeferred hK, ?_⟩⟩
    exact ⟨_, results_tmp rfl _ _ _, ⟨v, rfl, ownsRow_putObj hrow _ hK rfl⟩, hB.trans (belowK_b (w := w) (Nat.le_refl _) W D _ _ (by simp at hD; omega) hK rfl rfl)⟩
  case stop =>
    rintro D c pre W _ _ h _
    exact h.elim
end Go.Proofs.YtjmdeplmenbmmaaGreatDoor
