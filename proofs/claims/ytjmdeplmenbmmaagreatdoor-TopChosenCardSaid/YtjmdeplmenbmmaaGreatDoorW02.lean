/- Joined texts: FrameS, FrameI, Step, Tys, Str, Laid, FrameD, Rgo. -/
import Derived.Test.YtjmdeplmenbmmaaGreatDoorW01
import Derived.Deep.Slices
import Derived.Test.YtjmdeplmenbmmaaGreatDoorRows
import Derived.ProofKit
import Derived.OpenShut
import Derived.Lib.SmallJoins
import Derived.Laws.Strings
import Derived.Laws.Strings2
import Derived.Laws.Strings3
import Derived.Laws.Concat
import Derived.LaidMore
import Derived.LaidHandle
import Derived.LaidSub
import Derived.Lib.LaidTab
import Derived.Lib.ItoaNum
import Derived.Shelf.Vars
import Derived.MakeChecks
import Derived.Test.YtjmdeplmenbmmaaGreatDoorCards
import Derived.Test.YtjmdeplmenbmmaaGreatDoorTie
import Derived.Stop.Joined
import Derived.SevenTiedAt
import Derived.Lay
import Derived.LaidOnce
import Derived.RangeFuncNested
import Derived.RangeFuncBound
import Derived.RangeFuncCalls
import Derived.RangeFuncLeaves
import Derived.RangeFuncBox
import Derived.Shelf.Abstract
import Derived.Shelf.RegionOpen
import Derived.WalkKit
import Derived.OwnWalkIn
import Derived.TacticsInMore
import Derived.LoopNIn
import Derived.LoopIn
import Derived.Maps.AppendAt
set_option linter.unusedVariables false
namespace Go.Proofs.YtjmdeplmenbmmaaGreatDoor
open Go.ChangeShapes Go.WideShapes Go.ChangeAt Go.RowKit Go.Deep Go.Joins
theorem own:ownKnob Tryz.prog.godebug=none:=by kernel_rfl
theorem laidOut:laidOutB Tryz.prog=true:=by kernel_rfl
section
variable {H:Type} {enc:TypeId×Value→H} {P:Program}
theorem trodAll_stays (hl:laidOutB P=true) {W W':World} {sp:Nat→Bool} (hb:Below W.heap.size W W'):∀{ts:List TypeId} {vs:List Value} {ds:List (DataW H)} {ps:List MemPlace},
  (ts.all fun t=>P.readableRec t&&decide (t<P.types.size))=true→DataW.TrodAll enc P W 0 (fun _=>true) true ts vs ds ps→(∀x∈ps,x.block<W.heap.size)→(∀x∈ps,sp x.block=true) →
  DataW.TrodAll enc P W' 0 sp true ts vs ds ps
 |[],vs,ds,ps,_,h,_,_=>by
  obtain⟨rfl,rfl,rfl⟩:=trodAll_nil h
  exact trodAll_mk0
 |t::ts,vs,ds,ps,hr,h,hlt,hs=>by
  obtain⟨v,vs',d,ds',p,q,rfl,rfl,rfl,h1,h2⟩:=trodAll_cons h
  simp only[List.all_cons,Bool.and_eq_true,decide_eq_true_eq] at hr
  refine trodAll_cons_mk (WideElems.Trod_stays hl hr.1.1 hr.1.2 h1 (fun x hx=>hb.same (hlt x (List.mem_append_left _ hx))) fun x hx=>hs x (List.mem_append_left _ hx)) ?_
  exact trodAll_stays hl hb (by simpa using hr.2) h2 (fun x hx=>hlt x (List.mem_append_right _ hx)) fun x hx=>hs x (List.mem_append_right _ hx)
theorem post_of_law {f:Func} {s:ChangeSpec} {apart fresh handsOn again:Bool} {W W':World} {args:Array Value} {v:Value} {ds:List (DataW H)} {before:List MemPlace}
  (hl:laidOutB P=true) (hr:(f.params.toList.all fun t=>P.readableRec t&&decide (t<P.types.size))=true)
  (hW:DataW.Whole enc P f.params.toList s.vars apart W args.toList ds [] before) (hv:s.vars=[]) (hspec:(s.fn H (ds++[])).args=ds) (hsv:(s.fn H (ds++[])).vars=[])
  (hres:∀(b:Nat) (sp:Nat→Bool) (hd:Bool),DataW.TrodAll enc P W' b sp hd f.resultTypes.toList (v.resultList f.resultTypes.size) (s.fn H (ds++[])).results [])
  (hb:Below W.heap.size W W') (hok:∀(j:Nat) (t:TypeId) (r:Value),f.resultTypes[j]?=some t→(v.resultList f.resultTypes.size)[j]?=some r→Value.okWide P W' .any 0 t r) :
  s.post enc P f apart fresh handsOn again W args v W':=by
 have hlt:∀p∈before,p.block<W.heap.size:=fun p hp=>hW.lt p hp
 have hW2:=hW
 obtain⟨p,q,hA,hV,hpq,hz,hn⟩:=hW
 rw[hv] at hV
 obtain⟨_,hq⟩:=trodVars_none hV
 subst hq
 have hp:before=p:=by simpa using hpq
 subst hp
 have hargs:∀sp:Nat→Bool,(∀x∈before,sp x.block=true)→DataW.TrodAll enc P W' 0 sp true f.params.toList args.toList (s.fn H (ds++[])).args before:=fun sp hsp=>by
  rw[hspec]
  exact trodAll_stays hl hb hr hA hlt hsp
 have hvars:∀sp:Nat→Bool,DataW.TrodVars enc P W' sp s.vars (s.fn H (ds++[])).vars []:=fun sp=>by
  rw[hv,hsv];rfl
 have hold:∀x∈before,(fun b=>decide (b<W.heap.size)) x.block=true:=fun x hx=>by simpa using hlt x hx
 refine⟨ds,[],before,[],before,[],hW2,hres _ _ _,hargs _ hold,hvars _,World.keptBut_mono (fun x hx=>⟨hx,?_⟩) (hb.frame (·∈before)),fun _=>?_⟩
 ·simpa using hx
 ·refine⟨hok,_,_,([]++before)++[],⟨[]++before,[],trodAll_append (hargs _ (fun _ _=>rfl)) (hres _ _ _),hvars _,rfl,?_,?_⟩,?_⟩
  ·intro b off hin
   have hin:MemPlace.cell b off∈before:=by simpa using hin
   rw[hb.frozen (hlt _ hin)]
   exact hz b off hin
  ·intro ha
   have:=hn ha
   simpa using this
  ·intro x hx _
   simpa using hx
theorem arg_int {t:TypeId} {k:IntKind} {w:World} {base:Nat} {v:Value} {d:DataW H} {p:List MemPlace} (ht:P.underlying t=some (.int k)) (hv:Value.okWide P w .any base t v) (h:DataW.Trod enc P w 0 (fun _=>true) true t v d p) :
  ∃x:Int,v=.int k x∧(Lit.int k x).wf=true:=by
 obtain⟨x,rfl,_,_,wx⟩:=open_int ht hv h
 exact⟨x,rfl,wx⟩
theorem arg_agg2 {t:TypeId} {k0 k1:IntKind} {f0 f1:Field} {w:World} {base:Nat} {v:Value} {d:DataW H} {p:List MemPlace} (ht:P.underlying t=some (.struct #[f0,f1])) (hone:oneCellFields P #[f0,f1]=true) (hC:P.cellsOf t=2)
  (h0:P.underlying f0.type=some (.int k0)) (h1:P.underlying f1.type=some (.int k1))
  (hv:Value.okWide P w .any base t v) (h:DataW.Trod enc P w 0 (fun _=>true) true t v d p):∃x y:Int,v=.agg [.int k0 x,.int k1 y].toArray∧(Lit.int k0 x).wf=true∧(Lit.int k1 y).wf=true:=by
 obtain⟨c0,c1,y0,y1,m,rfl,_,_,e0,e1⟩:=Joins.open_agg2 ht hone hC hv h
 obtain⟨a,g0,_,wa⟩:=DataW.trod_int h0 e0
 obtain⟨b,g1,_,wb⟩:=DataW.trod_int h1 e1
 simp at g0 g1
 subst g0 g1
 exact⟨a,b,rfl,wa,wb⟩
theorem i64_of {x:Int} (h:(Lit.int .i64 x).wf=true) : -9223372036854775808≤x∧x≤9223372036854775807:=by
 simpa [Lit.wf,IntKind.min,IntKind.max,IntKind.signed,IntKind.bits] using h
end
end Go.Proofs.YtjmdeplmenbmmaaGreatDoor
set_option maxHeartbeats 4000000
namespace Go.Proofs.YtjmdeplmenbmmaaGreatDoor
open Go.RowKit
theorem subA {w0:World} {H HS:List Hl} (h:List.Sublist HS H:=by first|(first|exact List.Sublist.refl _|exact .cons _ (List.Sublist.refl _)|exact .cons _ (.cons _ (List.Sublist.refl _))|exact .cons _ (.cons _ (.cons _ (List.Sublist.refl _)))|exact .cons _ (.cons _ (.cons _ (.cons _ (List.Sublist.refl _))))|exact .cons _ (.cons _ (.cons _ (.cons _ (.cons _ (List.Sublist.refl _)))))|exact .cons _ (.cons _ (.cons _ (.cons _ (.cons _ (.cons _ (List.Sublist.refl _))))))|exact .cons _ (.cons _ (.cons _ (.cons _ (.cons _ (.cons _ (.cons _ (List.Sublist.refl _)))))))|exact .cons _ (.cons _ (.cons _ (.cons _ (.cons _ (.cons _ (.cons _ (.cons _ (List.Sublist.refl _)))))))))|(with_reducible (repeat(first|exact List.Sublist.refl _|apply List.Sublist.cons_cons|apply List.Sublist.cons)))):∀w,St w0 H w→St w0 HS w:=fun _ x=>x.sub h
theorem nSS {p q:Prop} (h:q) (s:q→p:=by intro h;(show RS _ _ _ _ _ _ _ _);first
 |(apply RS.stepK;(case _hr=>exact rfl);(case hd=>exact rfl);(case h=>exact h))
 |(apply RS.storeA;(case hx=>rfl);(case hy=>rfl);(case hu=>rfl);(case hm=>exact updA);(case hi=>rfl);(case hs=>decide +kernel);(case h=>exact h))
 |(apply RS.storeRowA;(case hx=>rfl);(case hy=>rfl);(case hu=>rfl);(case hm=>exact updA);(case hl=>(repeat(first|exact .nil|apply LenIs.cons)));(case hl2=>(repeat(first|exact .nil|apply LenIs.cons)));(case hs=>decide +kernel);(case h=>exact h))
 |(apply RS.storeI;(case hx=>rfl);(case hy=>rfl);(case hu=>exact updA);(case hm=>clear h;exact omlA);(case hs=>decide +kernel);(case h=>exact h))
 |(apply RS.lTK;(case hj=>exact rfl);(case hg=>exact rfl);(case hb=>with_reducible rfl);(case _hr=>exact rfl);(case hd=>exact rfl);(case h=>exact h))
 |(apply RS.xT;(case hj=>exact rfl);(case hg=>exact rfl);(case hb=>with_reducible first|exact nfT|exact nfF|rfl);(case hd=>exact rfl);(case h=>exact h))
 |(apply RS.gTK;(case hj=>exact rfl);(case hg=>exact rfl);(case _hr=>exact rfl);(case hd=>exact rfl);(case h=>exact h))
 |(apply RS.gTcK;(case hj=>exact rfl);(case hg=>exact rfl);(case _hr=>exact rfl);(case hd=>exact rfl);(case h=>exact h))
 |(apply RS.lFK;(case hj=>exact rfl);(case hg=>exact rfl);(case hb=>with_reducible rfl);(case _hr=>exact rfl);(case hd=>exact rfl);(case h=>exact h))
 |(apply RS.xF;(case hj=>exact rfl);(case hg=>exact rfl);(case hb=>with_reducible first|exact nfT|exact nfF|rfl);(case hd=>exact rfl);(case h=>exact h))
 |(apply RS.gFK;(case hj=>exact rfl);(case hg=>exact rfl);(case _hr=>exact rfl);(case hd=>exact rfl);(case h=>exact h))
 |(apply RS.gFcK;(case hj=>exact rfl);(case hg=>exact rfl);(case _hr=>exact rfl);(case hd=>exact rfl);(case h=>exact h))
 |(apply RS.finish;exact h)):p:=s h
theorem nS1 {β:Type} {p:Prop} {q:β→Prop} (h:∀b,q b) (s:(∀b,q b)→p:=by intro h;(show RS _ _ _ _ _ _ _ _);first
 |(apply RS.boxA;(case hx=>rfl);(case hc=>rfl);(case hd=>rfl);(case h=>exact h))
 |(apply RS.allocA;(case hz=>exact ZeroTy.is);(case hc=>rfl);(case hd=>rfl);(case h=>exact h))
 |(apply RS.litI;(case hx=>rfl);(case hd=>rfl);(case h=>exact h))
 |(apply RS.lit0;(case hd=>rfl);(case h=>exact h))
 |(apply RS.append0A;(case hx=>rfl);(case hy=>rfl);(case hr=>exact rdA);(case hu=>intro v';exact updA);(case h1=>exact fun _=>rfl);(case hb=>clear h;exact omlA);(case hd=>rfl);(case h=>exact h))
 |(apply RS.appendA;(case hx=>rfl);(case hy=>rfl);(case hu=>intro v';exact updA);(case hr=>exact rdA);(case h1=>exact fun _=>rfl);(case hb=>clear h;exact omlA);(case hd=>rfl);(case h=>exact h))
 |(apply RS.appendNA;(case hx=>rfl);(case hy=>rfl);(case hr=>exact rdA);(case h1=>exact fun _=>rfl);(case hb=>clear h;exact omlA);(case hd=>rfl);(case h=>exact h))
 |(apply RS.makeI;(case hx=>rfl);(case hz=>decide +kernel);(case hm=>clear h;exact omlA);(case hd=>rfl);(case h=>exact h))):p:=s h
theorem nMM {p q:Prop} (h:q) (s:q→p:=by intro h;(show RM _ _ _ _ _ _ _ _ _ _);first
 |(apply RM.stepK;(case ho=>exact rfl);(case hp=>exact rfl);(case hd=>exact rfl);(case hs=>exact subA);(case h=>exact h))
 |(apply RM.callK;(case ho=>exact rfl);(case hp=>exact rfl);(case _hr=>exact rfl);(case hd=>exact rfl);(case hs=>exact subA);(case h=>exact h))
 |(apply RM.storeA;(case ho=>rfl);(case hx=>rfl);(case hy=>rfl);(case hu=>rfl);(case hm=>exact updA);(case hi=>rfl);(case hs=>decide +kernel);(case hl=>decide +kernel);(case h=>exact h))
 |(apply RM.storeRowA;(case ho=>rfl);(case hx=>rfl);(case hy=>rfl);(case hu=>rfl);(case hm=>exact updA);(case hl=>(repeat(first|exact .nil|apply LenIs.cons)));(case hl2=>(repeat(first|exact .nil|apply LenIs.cons)));(case hs=>decide +kernel);(case hla=>decide +kernel);(case h=>exact h))
 |(apply RM.storeB;(case ho=>rfl);(case hx=>rfl);(case hy=>rfl);(case hu=>rfl);(case hm=>exact updA);(case hi=>rfl);(case hs=>decide +kernel);(case hl=>exact subA);(case h=>exact h))
 |(apply RM.storeRowB;(case ho=>rfl);(case hx=>rfl);(case hy=>rfl);(case hu=>rfl);(case hm=>exact updA);(case hl=>(repeat(first|exact .nil|apply LenIs.cons)));(case hl2=>(repeat(first|exact .nil|apply LenIs.cons)));(case hs=>decide +kernel);(case hla=>exact subA);(case h=>exact h))
 |(apply RM.pendA;(case ho=>rfl);(case hl=>rfl);(case hz=>exact ZeroTy.is);(case hc=>rfl);(case hd=>rfl);(case h=>exact h))
 |(apply RM.lTK;(case ho=>exact rfl);(case hp=>exact rfl);(case hj=>exact rfl);(case hg=>exact rfl);(case hb=>with_reducible rfl);(case hd=>exact rfl);(case hs=>exact subA);(case h=>exact h))
 |(apply RM.xT;(case ho=>exact rfl);(case hp=>exact rfl);(case hj=>exact rfl);(case hg=>exact rfl);(case hb=>with_reducible first|exact nfT|exact nfF|rfl);(case hd=>exact rfl);(case hs=>exact subA);(case h=>exact h))
 |(apply RM.gTK;(case ho=>exact rfl);(case hp=>exact rfl);(case hj=>exact rfl);(case hg=>exact rfl);(case hd=>exact rfl);(case hs=>exact subA);(case h=>exact h))
 |(apply RM.gTcK;(case ho=>exact rfl);(case hp=>exact rfl);(case hj=>exact rfl);(case hg=>exact rfl);(case hd=>exact rfl);(case hs=>exact subA);(case h=>exact h))
 |(apply RM.lTyK;(case ho=>exact rfl);(case hp=>exact rfl);(case hj=>exact rfl);(case hg=>exact rfl);(case hb=>with_reducible rfl);(case hd=>exact rfl);(case hs=>exact subA);(case h=>exact h))
 |(apply RM.xTy;(case ho=>exact rfl);(case hp=>exact rfl);(case hj=>exact rfl);(case hg=>exact rfl);(case hb=>with_reducible first|exact nfT|exact nfF|rfl);(case hd=>exact rfl);(case hs=>exact subA);(case h=>exact h))
 |(apply RM.gTyK;(case ho=>exact rfl);(case hp=>exact rfl);(case hj=>exact rfl);(case hg=>exact rfl);(case hd=>exact rfl);(case hs=>exact subA);(case h=>exact h))
 |(apply RM.gTycK;(case ho=>exact rfl);(case hp=>exact rfl);(case hj=>exact rfl);(case hg=>exact rfl);(case hd=>exact rfl);(case hs=>exact subA);(case h=>exact h))
 |(apply RM.lFK;(case ho=>exact rfl);(case hp=>exact rfl);(case hj=>exact rfl);(case hg=>exact rfl);(case hb=>with_reducible rfl);(case hd=>exact rfl);(case hs=>exact subA);(case h=>exact h))
 |(apply RM.xF;(case ho=>exact rfl);(case hp=>exact rfl);(case hj=>exact rfl);(case hg=>exact rfl);(case hb=>with_reducible first|exact nfT|exact nfF|rfl);(case hd=>exact rfl);(case hs=>exact subA);(case h=>exact h))
 |(apply RM.gFK;(case ho=>exact rfl);(case hp=>exact rfl);(case hj=>exact rfl);(case hg=>exact rfl);(case hd=>exact rfl);(case hs=>exact subA);(case h=>exact h))
 |(apply RM.gFcK;(case ho=>exact rfl);(case hp=>exact rfl);(case hj=>exact rfl);(case hg=>exact rfl);(case hd=>exact rfl);(case hs=>exact subA);(case h=>exact h))
 |(apply RM.lFyK;(case ho=>exact rfl);(case hp=>exact rfl);(case hj=>exact rfl);(case hg=>exact rfl);(case hb=>with_reducible rfl);(case hd=>exact rfl);(case hs=>exact subA);(case h=>exact h))
 |(apply RM.xFy;(case ho=>exact rfl);(case hp=>exact rfl);(case hj=>exact rfl);(case hg=>exact rfl);(case hb=>with_reducible first|exact nfT|exact nfF|rfl);(case hd=>exact rfl);(case hs=>exact subA);(case h=>exact h))
 |(apply RM.gFyK;(case ho=>exact rfl);(case hp=>exact rfl);(case hj=>exact rfl);(case hg=>exact rfl);(case hd=>exact rfl);(case hs=>exact subA);(case h=>exact h))
 |(apply RM.gFycK;(case ho=>exact rfl);(case hp=>exact rfl);(case hj=>exact rfl);(case hg=>exact rfl);(case hd=>exact rfl);(case hs=>exact subA);(case h=>exact h))
 |(apply RM.finish;exact h)):p:=s h
theorem nM1 {β:Type} {p:Prop} {q:β→Prop} (h:∀b,q b) (s:(∀b,q b)→p:=by intro h;(show RM _ _ _ _ _ _ _ _ _ _);first
 |(apply RM.allocA;(case ho=>rfl);(case hz=>exact ZeroTy.is);(case hc=>rfl);(case hs=>exact fun _=>subA);(case hd=>rfl);(case h=>exact h))
 |(apply RM.cameA;(case hs=>exact subA);(case hs'=>exact fun _=>subA);(case h=>exact h))):p:=s h
theorem nxV {p q:Prop} (h:q) (s:q→p:=by intro h;first|(show YK _ _ _ _ _ _ _;exact YK.ofV vAuto h)|(show VK _ _ _ _ _ _ _;exact VK.mk vAuto h)):p:=s h
theorem nxG {p q:Prop} (h:q) (s:q→p:=by intro h;first|(show YG _ _ _ _ _ _ _ _;exact YG.mk (fun hb=>by(try(have hc:=And.left hb;have hb:=And.right hb;rw[hc]));(try rw[hb]);exact V.y vAuto) h)|(show VG _ _ _ _ _ _ _ _;exact VG.mk (fun hb=>by(try(have hc:=And.left hb;have hb:=And.right hb;rw[hc]));(try rw[hb]);exact vAuto) h)):p:=s h
theorem nxX {p q:Prop} (h:q) (s:q→p:=by intro h;first|(apply G.seq;exact h)|(apply X.then_normal;exact h)|(apply G.region;exact h)|(apply G.block;exact h)|(apply G.skip;exact h)|(apply G.exit;exact h)|(apply G.ret;exact h)|(apply X.then_ret;exact h)|(apply X.then_exit;exact h)|(apply X.block_out;exact h)|(apply X.block_normal;exact h)|(apply X.block_ret;exact h)|exact X.block_exit rfl h):p:=s h
instance tyI3:IntTy Tryz.prog 3 .i64:=⟨by kernel_rfl⟩
instance tyZ3:ZeroTy Tryz.prog 3 (Go.Value.int Go.IntKind.i64 0):=⟨by kernel_rfl⟩
instance tyB4:BoolTy Tryz.prog 4:=⟨by kernel_rfl⟩
instance tyS9:StrTy Tryz.prog 9:=⟨by kernel_rfl⟩
instance tyZ23:ZeroTy Tryz.prog 23 (Go.Value.agg #[Go.Value.int Go.IntKind.i64 0,Go.Value.int Go.IntKind.i64 0]):=⟨by kernel_rfl⟩
instance tyR26:RowTy Tryz.prog 26 23 2 16:=⟨by kernel_rfl⟩
instance tyZ27:ZeroTy Tryz.prog 27 (Go.Value.int Go.IntKind.i64 0):=⟨by kernel_rfl⟩
instance tyZ34:ZeroTy Tryz.prog 34 (Go.Value.agg #[Go.Value.int Go.IntKind.i64 0,Go.Value.int Go.IntKind.i64 0]):=⟨by kernel_rfl⟩
instance tyZ36:ZeroTy Tryz.prog 36 (Go.Value.agg #[Go.Value.int Go.IntKind.i64 0,Go.Value.int Go.IntKind.i64 0,Go.Value.int Go.IntKind.i64 0,Go.Value.int Go.IntKind.i64 0]):=⟨by kernel_rfl⟩
instance tyR49:RowTy Tryz.prog 49 53 5 48:=⟨by kernel_rfl⟩
instance tyZ53:ZeroTy Tryz.prog 53 (Go.Value.agg #[Go.Value.string { data:=#[] },Go.Value.int Go.IntKind.i64 0,Go.Value.int Go.IntKind.i64 0,Go.Value.int Go.IntKind.i64 0,Go.Value.int Go.IntKind.i64 0]):=⟨by kernel_rfl⟩
instance tyR56:RowTy Tryz.prog 56 58 6 48:=⟨by kernel_rfl⟩
instance tyZ58:ZeroTy Tryz.prog 58 (Go.Value.agg #[Go.Value.int Go.IntKind.i64 0,Go.Value.int Go.IntKind.i64 0,Go.Value.int Go.IntKind.i64 0,Go.Value.int Go.IntKind.i64 0,Go.Value.int Go.IntKind.i64 0,Go.Value.int Go.IntKind.i64 0]):=⟨by kernel_rfl⟩
instance tyR62:RowTy Tryz.prog 62 73 3 24:=⟨by kernel_rfl⟩
instance tyZ62:ZeroTy Tryz.prog 62 (Go.Value.slice none 0 0):=⟨by kernel_rfl⟩
instance tyR65:RowTy Tryz.prog 65 3 1 8:=⟨by kernel_rfl⟩
instance tyZ65:ZeroTy Tryz.prog 65 (Go.Value.slice none 0 0):=⟨by kernel_rfl⟩
instance tyZ73:ZeroTy Tryz.prog 73 (Go.Value.agg #[Go.Value.int Go.IntKind.i64 0,Go.Value.int Go.IntKind.i64 0,Go.Value.int Go.IntKind.i64 0]):=⟨by kernel_rfl⟩
instance tyR81:RowTy Tryz.prog 81 9 1 16:=⟨by kernel_rfl⟩
instance tyZ92:ZeroTy Tryz.prog 92 (Go.Value.agg #[Go.Value.int Go.IntKind.i64 0,Go.Value.int Go.IntKind.i64 0]):=⟨by kernel_rfl⟩
instance tyR111:RowTy Tryz.prog 111 115 2 32:=⟨by kernel_rfl⟩
instance tyZ111:ZeroTy Tryz.prog 111 (Go.Value.slice none 0 0):=⟨by kernel_rfl⟩
instance tyZ115:ZeroTy Tryz.prog 115 (Go.Value.agg #[Go.Value.int Go.IntKind.i64 0,Go.Value.slice none 0 0]):=⟨by kernel_rfl⟩
instance tyZ124:ZeroTy Tryz.prog 124 (Go.Value.agg #[Go.Value.int Go.IntKind.i64 0,Go.Value.int Go.IntKind.i64 0,Go.Value.int Go.IntKind.i64 0,Go.Value.int Go.IntKind.i64 0,Go.Value.int Go.IntKind.i64 0,Go.Value.int Go.IntKind.i64 0]):=⟨by kernel_rfl⟩
instance tyZ128:ZeroTy Tryz.prog 128 (Go.Value.agg #[Go.Value.int Go.IntKind.i64 0]):=⟨by kernel_rfl⟩
instance tyR132:RowTy Tryz.prog 132 62 1 24:=⟨by kernel_rfl⟩
instance tyZ140:ZeroTy Tryz.prog 140 (Go.Value.agg #[Go.Value.slice none 0 0,Go.Value.int Go.IntKind.i64 0]):=⟨by kernel_rfl⟩
instance tyI152:IntTy Tryz.prog 152 .u64:=⟨by kernel_rfl⟩
instance tyR188:RowTy Tryz.prog 188 235 2 16:=⟨by kernel_rfl⟩
instance tyR192:RowTy Tryz.prog 192 36 4 32:=⟨by kernel_rfl⟩
instance tyZ212:ZeroTy Tryz.prog 212 (Go.Value.agg #[Go.Value.int Go.IntKind.i64 0,Go.Value.int Go.IntKind.i64 0]):=⟨by kernel_rfl⟩
instance tyZ213:ZeroTy Tryz.prog 213 (Go.Value.agg #[Go.Value.int Go.IntKind.i64 0,Go.Value.int Go.IntKind.i64 0,Go.Value.int Go.IntKind.i64 0,Go.Value.int Go.IntKind.i64 0,Go.Value.int Go.IntKind.i64 0,Go.Value.int Go.IntKind.i64 0,Go.Value.int Go.IntKind.i64 0,Go.Value.int Go.IntKind.i64 0]):=⟨by kernel_rfl⟩
instance tyZ235:ZeroTy Tryz.prog 235 (Go.Value.agg #[Go.Value.int Go.IntKind.i64 0,Go.Value.int Go.IntKind.i64 0]):=⟨by kernel_rfl⟩
instance tyR241:RowTy Tryz.prog 241 34 2 16:=⟨by kernel_rfl⟩
instance tyR245:RowTy Tryz.prog 245 5 1 1:=⟨by kernel_rfl⟩
instance tyZ247:ZeroTy Tryz.prog 247 (Go.Value.agg #[Go.Value.pointer none,Go.Value.slice none 0 0]):=⟨by kernel_rfl⟩
instance tyI257:IntTy Tryz.prog 257 .u64:=⟨by kernel_rfl⟩
instance tyZ283:ZeroTy Tryz.prog 283 (Go.Value.agg #[Go.Value.int Go.IntKind.i64 0]):=⟨by kernel_rfl⟩
instance tyZ285:ZeroTy Tryz.prog 285 (Go.Value.agg #[Go.Value.int Go.IntKind.i64 0,Go.Value.int Go.IntKind.i64 0,Go.Value.int Go.IntKind.i64 0,Go.Value.int Go.IntKind.i64 0,Go.Value.int Go.IntKind.i64 0,Go.Value.int Go.IntKind.i64 0,Go.Value.int Go.IntKind.i64 0,Go.Value.int Go.IntKind.i64 0,Go.Value.int Go.IntKind.i64 0,Go.Value.int Go.IntKind.i64 0,Go.Value.int Go.IntKind.i64 0,Go.Value.int Go.IntKind.i64 0]):=⟨by kernel_rfl⟩
instance tyZ296:ZeroTy Tryz.prog 296 (Go.Value.agg #[Go.Value.int Go.IntKind.u64 0,Go.Value.int Go.IntKind.u64 0,Go.Value.int Go.IntKind.u64 0,Go.Value.int Go.IntKind.u64 0]):=⟨by kernel_rfl⟩
instance tyZ303:ZeroTy Tryz.prog 303 (Go.Value.agg #[Go.Value.int Go.IntKind.u64 0,Go.Value.int Go.IntKind.u64 0,Go.Value.int Go.IntKind.u64 0,Go.Value.int Go.IntKind.u64 0]):=⟨by kernel_rfl⟩
instance tyZ330:ZeroTy Tryz.prog 330 (Go.Value.agg #[Go.Value.int Go.IntKind.u64 0,Go.Value.int Go.IntKind.u64 0,Go.Value.int Go.IntKind.u64 0,Go.Value.int Go.IntKind.u64 0,Go.Value.int Go.IntKind.u64 0,Go.Value.int Go.IntKind.u64 0]):=⟨by kernel_rfl⟩
instance tyZ347:ZeroTy Tryz.prog 347 (Go.Value.agg #[Go.Value.int Go.IntKind.u64 0,Go.Value.int Go.IntKind.u64 0,Go.Value.int Go.IntKind.u64 0,Go.Value.int Go.IntKind.u64 0,Go.Value.int Go.IntKind.u64 0,Go.Value.int Go.IntKind.u64 0,Go.Value.int Go.IntKind.u64 0,Go.Value.int Go.IntKind.u64 0]):=⟨by kernel_rfl⟩
abbrev strV (l:List UInt8):Value:=.string ⟨l.toArray⟩
theorem size_str (l:List UInt8):(ByteArray.mk l.toArray).size=l.length:=List.size_toArray
section
variable {P:Program} {n:Nat} {L:FL} {w0:World} {H:List Hl} {d:Option Tmp} {ty:TypeId} {pos:String} {af:Array Edge} {g:Option (Nat×Bool)} {x y z:Operand} {t t':TypeId} {k k':IntKind} {m m':Int} {l l':List UInt8}
theorem y_lenS (hx:evO L x=some (strV l)) (ht:P.underlying t=some .string):V P n L w0 H ⟨d,.call { callee:=.builtin .len,args:=#[x],argTypes:=#[t] },ty,pos,af,g⟩ (.int .i64 l.length):=by
 unfold V
 intro a w ha hw
 simp[execOp,resolve,invoke,builtin,ha.eval hx,run_len_string _ _ _ _ ht,goInt]
 rw[size_str]
theorem y_catS (hx:evO L x=some (strV l)) (hy:evO L y=some (strV l')) (hb:(l.length:Int)+l'.length≤9223372036854775807):V P n L w0 H ⟨d,.binOp .add t x y t',ty,pos,af,g⟩ (strV (l++l')):=by
 unfold V
 intro a w ha hw
 have h2:=run_string_add_sum (P:=P) w ⟨l.toArray⟩ ⟨l'.toArray⟩ (by rw[size_str,size_str];omega)
 rw[ByteArray.mk_append_mk] at h2
 simp[execOp,ha.eval hx,ha.eval hy,eqGuard,binOp_string_add,h2]
theorem vStr {o:Oper} {v:Value} (h:V P n L w0 H o v:=by
 first
  |(apply y_lenS;rfl;exact StrTy.is;done)
  |(apply y_indexS;rfl;rfl;exact StrTy.is;exact omlA;done)
  |(apply y_sliceSLH;rfl;rfl;rfl;exact StrTy.is;exact omlA;done)
  |(apply y_sliceSL;rfl;rfl;exact StrTy.is;exact omlA;done)
  |(apply y_sliceSH;rfl;rfl;exact StrTy.is;exact omlA;done)
  |(apply y_catS;rfl;rfl;exact omlA;done)
  |(apply y_eqS;rfl;rfl;done)
  |(apply y_neS;rfl;rfl;done)):V P n L w0 H o v:=h
theorem nxVS {p q:Prop} (h:q) (s:q→p:=by intro h;first|(show YK _ _ _ _ _ _ _;exact YK.ofV vStr h)|(show VK _ _ _ _ _ _ _;exact VK.mk vStr h)):p:=s h
end
theorem var_keep {P:Program} {w w':World} {nm:String} {cs:Array Value} (h:w.var? P nm=some cs) (hb:Below w.heap.size w w'):w'.var? P nm=some cs:=by
 unfold World.var? at h ⊢
 cases hg:P.globalNamed nm with
 |none=>simp[hg] at h
 |some g =>
  simp only[hg,Option.bind_some] at h ⊢
  have hlt:g<w.heap.size:=by
   rcases Nat.lt_or_ge g w.heap.size with h'|h'
   ·exact h'
   ·simp[Array.getElem?_eq_none h'] at h
  rw[hb.block g hlt]
  exact h
theorem laid_get {P:Program} {w:World} {nm:String} {d:DataW Unit} : ∀{l:List (String×DataW Unit)} {ps:List MemPlace},DataW.LaidVars P w l ps→(nm,d)∈l →
  ∃g t cs fuel p,P.globalNamed nm=some g∧(P.globals[g]?).map (·.type)=some t∧w.var? P nm=some cs∧DataW.trod (fun _=>()) P w 0 (fun _=>true) false fuel t cs.toList=some (d,p)
 |[],_,_,hm=>by cases hm
 |(n',d')::r,ps,h,hm=>by
  obtain⟨g,t,cs,fuel,p,q,h1,h2,h3,h4,h5,_⟩:=h
  rcases List.mem_cons.1 hm with e|hm
  ·cases e
   exact⟨g,t,cs,fuel,p,h1,h2,h3,h4⟩
  ·exact laid_get h5 hm
theorem gPow:Tryz.prog.globalNamed "internal/strconv.uint64pow10" = some 0:=by kernel_rfl
end Go.Proofs.YtjmdeplmenbmmaaGreatDoor
namespace Go.Proofs.YtjmdeplmenbmmaaGreatDoor
open Go.ChangeShapes Go.WideShapes Go.ChangeAt Go.RowKit Go.Deep Go.Joins
theorem returns_laid {H:Type} {enc:TypeId×Value→H} {a:Assume} {C:Checked} {os:Os} {f:FuncId} {fn:Func} {s:ChangeSpec} {conds:List PathCond} {apart fresh handsOn again:Bool} {X:World→Array Value→Prop}
  (hX:∀(w w':World) (args:Array Value),w.heap=w'.heap→X w args→X w' args)
  (own:ownKnob C.prog.godebug=none) (started:os.Started) (noInit:C.prog.inits.idxOf? f=none) (hfn:C.prog.funcs[f]?=some fn)
  (witness:∃(w:World) (tape:Tape) (i:Input),w.os=os∧(w.forCall tape i).Shaped C.prog∧i.vars=[]∧Input.okWide C.prog (w.forCall tape i) .any w.heap.size f i ∧
   ((s.pre enc C.prog fn conds apart (w.forCall tape i).memory i.args∧X (w.forCall tape i).memory i.args)∧sizedMet enc C.prog fn (OpenSpec.ofChange s) apart (w.forCall tape i).memory i.args)∧a.holds C.prog (lone (Frame.enter C.prog f i.args .normal) [] (w.forCall tape i)))
  (contract:∀(W:World) (base:Nat) (args:Array Value) (ds gs:List (DataW H)) (before:List MemPlace),
   (∀(j:Nat) t v,fn.params[j]?=some t→args[j]?=some v→Value.okWide C.prog W .any base t v) →
   DataW.Whole enc C.prog fn.params.toList s.vars apart W args.toList ds gs before→W.ShapedOpen C.prog→X W args →
   Calls C.prog f args W fun e W'=>∃v,e=.returned v∧s.post enc C.prog fn apart fresh handsOn again W args v W') :
  ReturnsInHanded a C os f .any (fun w args=>(s.pre enc C.prog fn conds apart w args∧X w args)∧sizedMet enc C.prog fn (OpenSpec.ofChange s) apart w args) (s.post enc C.prog fn apart fresh handsOn again):=by
 refine returnsInHanded_of_calls own started noInit witness ?_
 intro w tape i _ hsh _ hok hpre _
 obtain⟨_,_,_,fn',hfn',_,_,_,_,hval⟩:=hok
 obtain rfl:fn'=fn:=Option.some.inj (hfn'.symm.trans hfn)
 obtain⟨⟨⟨ds,gs,before,hw,_⟩,hx⟩,_⟩:=hpre
 refine(contract (w.forCall tape i) w.heap.size i.args ds gs before hval (DataW.Whole.of_heap (w':=w.forCall tape i) (by rfl) hw) hsh (hX _ _ _ (by rfl) hx)).mono fun e W' ⟨v,he,hp⟩=>?_
 subst he
 exact ChangeSpec.post_blind hp
end Go.Proofs.YtjmdeplmenbmmaaGreatDoor
set_option maxHeartbeats 4000000
namespace Go.Proofs.YtjmdeplmenbmmaaGreatDoor
open Go.RowKit Go.Shelf
def KeepL (ks:List Nat) (A B:World):Prop:=∀k∈ks,B.heap[k]?=A.heap[k]?
theorem KeepL.trans {ks:List Nat} {A B C:World} (h:KeepL ks A B) (g:KeepL ks B C):KeepL ks A C:=fun k hk=>(g k hk).trans (h k hk)
def SeqOwn {α:Type} (F:Fence) (n:Nat) (P:Program) (gf:Nat) (lb:Array Value) (encs:α→Array Value) (Good:Nat→Nat→α→World→Prop) (ks:List Nat) (Pr:List α→α→Prop) (S Sp:List α→Prop) (w0:World):Prop :=
 ∀(l:Nat) (J0:World→Prop) (J:Nat→List α→World→Prop) (Jx:List α→World→Prop) (W:World),Below w0.heap.size w0 W →
  (∀g,AbidesFrom W.heap.size (J g))→(∀A o,o.isCells=true→W.heap.size≤A.heap.size→J0 A→J A.heap.size [] (A.alloc o))→(∀g s A i v,W.heap.size≤g→J g s A→J g s (A.setCell ⟨g,i,none⟩ v)) →
  (∀g pre x A₀ A,W.heap.size≤g→Pr pre x→J g pre A₀→Below A₀.heap.size A₀ A→Good A₀.heap.size g x A→YieldAt F (n-1) P l (encs x) A fun e B=>(e=.returned (.bool true)∧J g (pre++[x]) B∧KeepL (g::ks) A B)∨(e=.returned (.bool false)∧Jx (pre++[x]) B)) →
  J0 W→CallsIn F n P gf (#[.func (.yield l) #[] #[]]++lb) W fun e B=>(∃v,e=.returned v)∧((∃xs g,S xs∧J g xs B)∨(∃pre,Sp pre∧Jx pre B))
structure Book (D:Nat) (r:Loop) (W:World):Prop where
 lp:W.heap[D+1]?=some (.loop r)
 df:W.heap[D]?=some (.deferred (some []))
theorem Book.cell {D:Nat} {r:Loop} {W:World} (h:Book D r W) (p:Addr) (v:Value):Book D r (W.setCell p v):=⟨(KeepsOthers.setCell W _ v).same _ _ h.lp rfl,(KeepsOthers.setCell W _ v).same _ _ h.df rfl⟩
theorem Book.keep {D:Nat} {r:Loop} {W W':World} (h:Book D r W) (hk:KeepsOthers W W'):Book D r W':=⟨hk.same _ _ h.lp rfl,hk.same _ _ h.df rfl⟩
theorem Book.grown {D:Nat} {r:Loop} {A B:World} {row:Option Nat} (h:Book D r A) (hg:A.grownBy B row) (hr:∀k,row=some k→∃o:Obj,A.heap[k]?=some o∧o.isWalk=true):Book D r B :=
 ⟨(grownBy_keeps hg hr h.lp rfl).trans h.lp,(grownBy_keeps hg hr h.df rfl).trans h.df⟩
theorem Book.turn {D:Nat} {r r':Loop} {W:World} (h:Book D r W):Book D r' (W.putObj (D+1) (.loop r')) :=
 ⟨World.putObj_heap_same (Array.getElem?_eq_some_iff.1 h.lp).1,(World.putObj_heap_other (by omega)).trans h.df⟩
section
variable {P:Program} {F:Fence} {n:Nat} {α:Type}
def outO (D:Nat) (ks:List Nat) (I Ix:List α→World→Prop) (xs:List α) (W:World):Exit→Act→World→Prop
 |.normal,_,W'=>KeepL (D::(D+1)::ks) W W'∧I xs W'
 |.ret,_,W'=>KeepL [D,D+1] W W'∧Ix xs W'
 |_,_,_=>False
theorem range_own {g:Operand} {ps:Array Tmp} {assign body:Code} {Q:Exit→Act→World→Prop} {a:Act} {w:World} (hro:F.round=none) (h1:1≤n) {gf:Nat} {lb:Array Value} (hg:a.eval g=.func (.func gf) #[] lb) (hF:F.fn gf) (eg:∀args w,(callFunc gf args).run P w=.ok (.enter gf args) w)
  {encs:α→Array Value} {Good:Nat→Nat→α→World→Prop} {ks:List Nat} {Pr:List α→α→Prop} (hn:∀k∈ks,k<w.heap.size) {S Sp:List α→Prop} (hs:SeqOwn F (n-1) P gf lb encs Good ks Pr S Sp w) (hps:∀x,(encs x).size=ps.size)
  (oG:∀m g x A l o r,Good m g x A→A.heap[l]?=some (.loop r)→Good m g x (A.putObj l (.loop o)))
  (I0:World→Prop) (I:Nat→List α→World→Prop) (Ix:List α→World→Prop) (oI:∀g,OwnFrom w.heap.size (I g)) (o0:OwnFrom w.heap.size (fun _:Unit=>I0)) (oA:∀A o,o.isCells=true→w.heap.size≤A.heap.size→I0 A→I A.heap.size [] (A.alloc o)) (oC:∀g s A i v,w.heap.size≤g→I g s A→I g s (A.setCell ⟨g,i,none⟩ v)) (oX:OwnFrom w.heap.size Ix) (h0:I0 w) (A₁:α→Act→Prop)
  (hassign:∀(l:Nat) (x:α) (W:World) (K:Act→World→Prop),(∀a',A₁ x a'→K a' W)→assign.wpIn (F.inRound l) (n-1-1) P (Exit.then K (fun _ _ _=>False)) { tmps:=(ps.zip (encs x)).foldl (fun t (p,v)=>t.setIfInBounds p v) a.tmps,defers:=[] } W)
  (hbody:∀(l D g:Nat) (pre:List α) (x:α) (W₀ W:World) (a':Act),A₁ x a'→w.heap.size≤D→w.heap.size≤g→Pr pre x→I g pre W₀→Below W₀.heap.size W₀ W→Good W₀.heap.size g x W→W.heap[D]?=some (.deferred (some []))→(∃r,W.heap[D+1]?=some (.loop r))→body.wpIn (F.inRound l) (n-1-1) P (outO D (g::ks) (I g) Ix (pre++[x]) W) a' W)
  (hdone:∀(D g:Nat) (xs:List α) (W:World),w.heap.size≤D→S xs→I g xs W→W.heap[D]?=some (.deferred (some []))→Q .normal { a with defers:={ target:=.collected D,args:=#[] }::a.defers } W)
  (hstop:∀(D:Nat) (pre:List α) (W:World),w.heap.size≤D→Sp pre→Ix pre W→W.heap[D]?=some (.deferred (some []))→Code.ret.wpIn F n P Q { a with defers:={ target:=.collected D,args:=#[] }::a.defers } W) :
  (Code.rangeFunc g ps assign body).wpIn F n P Q a w:=by
 refine wpIn_rangeFunc fun fn hfn=>?_
 rw[hro]
 obtain⟨D,hD⟩:∃D,w.heap.size=D:=⟨_,rfl⟩
 obtain⟨rec,hrec⟩:∃rec:LoopState→Option Code→Loop,rec=fun st pe=>{ state:=st,pending:=pe,fn,tmps:=a.tmps,params:=ps,assign,body,defers:=D }:=⟨_,rfl⟩
 have hstart:=run_enterLoop_outer (P:=P) (w:=w) fn a.tmps ps assign body
 rw[hD] at hstart hn oI o0 oA oC oX hdone hstop
 obtain⟨W1,hW1⟩:∃W1,(w.alloc (.deferred (some []))).alloc (.loop (rec .ready none))=W1:=⟨_,rfl⟩
 have hb1:Below w.heap.size w W1:=by
  rw[←hW1];exact((Below.refl _ w).alloc (Nat.le_refl _) _).alloc (by simp) _
 have bk1:Book D (rec .ready none) W1:=by
  rw[←hW1,←hD]
  refine⟨?_,(Below.heap_alloc _ _ _ (by simp)).trans (World.alloc_heap_new w _)⟩
  have:=World.alloc_heap_new (w.alloc (.deferred (some []))) (.loop (rec .ready none))
  rwa [World.size_alloc] at this
 have i1:I0 W1:=by rw[←hW1];exact o0.alloc (s:=()) _ (o0.alloc (s:=()) _ h0)
 have hsz:W1.heap.size=D+2:=by rw[←hW1];simp[hD]
 have turn:∀{g:Nat} {s:List α} {A:World} {r r':Loop},I g s A→Book D r A→I g s (A.putObj (D+1) (.loop r')):=fun hi hb=>(oI _).putObj _ hi (by omega) hb.lp rfl
 have turnX:∀{s:List α} {A:World} {r r':Loop},Ix s A→Book D r A→Ix s (A.putObj (D+1) (.loop r')):=fun hi hb=>oX.putObj _ hi (by omega) hb.lp rfl
 have low:∀(g:Nat) (A:World) (o:Obj),W1.heap.size≤g→KeepL (g::ks) A (A.putObj (D+1) o):=fun g A o hg k hk=>World.putObj_heap_other (by
  rcases List.mem_cons.1 hk with e|e
  ·omega
  ·have:=hn k e;omega)
 refine⟨D+1,[{ target:=.collected D,args:=#[] }],W1,{ target:=.fn (.func gf) lb,args:=#[.func (.yield (D+1)) #[] #[]] },W1,gf,#[.func (.yield (D+1)) #[] #[]]++lb,W1,?_,?_,?_,?_,fun _=>h1,?_⟩
 ·rw[hstart,←hW1,hrec]
 ·simp only[resolve,hg]
  simp[go_sem]
 ·intro f' hf';simp[Target.leads] at hf';subst hf';exact hF
 ·simp[invoke,go_sem,eg]
 refine(hs (D+1) (fun A=>I0 A∧Book D (rec .ready none) A) (fun g s A=>I g s A∧Book D (rec .ready none) A) (fun s A=>Ix s A∧Book D (rec .done (some .ret)) A) W1 hb1 ?_ ?_ ?_ ?_ ⟨i1,bk1⟩).mono ?_
 ·rintro g s A B row ⟨hi,hb⟩ hgr hr
  exact⟨oI g s A B row hi hgr (fun k e=>by obtain⟨h2,o,ho,hw⟩:=hr k e;exact⟨by omega,o,ho,Obj.not_cells_of_walk hw⟩),hb.grown hgr (fun k e=>(hr k e).2)⟩
 ·rintro A o hc hA ⟨hi,hb⟩
  exact⟨oA A o hc (by omega) hi,hb.keep (KeepsOthers.alloc A o)⟩
 ·rintro g s A i v hgg ⟨hi,hb⟩
  exact⟨oC g s A i v (by omega) hi,hb.cell _ v⟩
 ·rintro g pre x A₀ A hgg hM ⟨hi₀,hb₀⟩ hbel hgood
  have hb:Book D (rec .ready none) A:=by
   have l1:=(Array.getElem?_eq_some_iff.1 hb₀.lp).1
   have l2:=(Array.getElem?_eq_some_iff.1 hb₀.df).1
   exact⟨(hbel.block _ l1).trans hb₀.lp,(hbel.block _ l2).trans hb₀.df⟩
  have hlt:D+1<A.heap.size:=(Array.getElem?_eq_some_iff.1 hb.lp).1
  have hy:=run_yield (P:=P) (args:=encs x) hb.lp (by rw[hrec];exact hps x)
  rw[hrec] at hy
  have bk2:Book D (rec .busy none) (A.putObj (D+1) (.loop (rec .busy none))):=hb.turn
  have hbeg:(Instr.beginRound (D+1)).run P A=.ok () (A.putObj (D+1) (.loop (rec .busy none))):=by
   have:=run_beginRound (P:=P) hb.lp (by rw[hrec])
   rw[this,hrec]
  refine⟨fn,_,assign,body,hy,roundIn_of_wpIn hfn (hassign _ x A _ fun a' ha'=>⟨_,hbeg,?_⟩)⟩
  have low1:=low g A (.loop (rec .busy none)) hgg
  have good2:Good A₀.heap.size g x (A.putObj (D+1) (.loop (rec .busy none))):=oG _ g x A (D+1) _ _ hgood hb.lp
  have i2:I g pre (A₀.putObj (D+1) (.loop (rec .busy none))):=turn hi₀ hb₀
  have bel2:Below A₀.heap.size (A₀.putObj (D+1) (.loop (rec .busy none))) (A.putObj (D+1) (.loop (rec .busy none))):=by
   refine⟨hbel.os,hbel.tape,hbel.output,by simpa using hbel.size,fun k hk=>?_⟩
   by_cases e:k=D+1
   ·subst e
    rw[World.putObj_heap_same hlt,World.putObj_heap_same hk]
   ·rw[World.putObj_heap_other e,World.putObj_heap_other e]
    exact hbel.block k hk
  have sz2:(A₀.putObj (D+1) (.loop (rec .busy none))).heap.size=A₀.heap.size:=by simp
  rw[←sz2] at bel2 good2
  clear sz2
  generalize A₀.putObj (D+1) (.loop (rec .busy none))=A1 at i2 bel2 good2
  generalize A.putObj (D+1) (.loop (rec .busy none))=A2 at bk2 low1 bel2 good2 ⊢
  refine wpIn_mono (hbody _ D g pre x _ _ a' ha' (by omega) (by omega) hM i2 bel2 good2 bk2.df ⟨_,bk2.lp⟩) ?_
  rintro e a3 W3 hp
  cases e with
  |normal =>
   obtain⟨k3,i3⟩:=hp
   have bk3:Book D (rec .busy none) W3:=⟨(k3 _ (by simp)).trans bk2.lp,(k3 _ (by simp)).trans bk2.df⟩
   have b3:KeepL (g::ks) A2 W3:=fun k hk=>k3 k (List.mem_cons_of_mem _ (List.mem_cons_of_mem _ hk))
   have hend:=run_endRound (P:=P) none bk3.lp
   have hlt3:D+1<W3.heap.size:=(Array.getElem?_eq_some_iff.1 bk3.lp).1
   have low3:=low g W3 (.loop (rec .ready none)) hgg
   refine⟨_,_,hend,.inl ⟨rfl,⟨?_,?_⟩,?_⟩⟩
   ·exact turn i3 bk3
   ·have:=bk3.turn (r':=rec .ready none)
    rw[hrec] at this ⊢;exact this
   ·rw[hrec] at low3
    exact(low1.trans b3).trans (by rw[hrec];exact low3)
  |ret =>
   obtain⟨k3,i3⟩:=hp
   have bk3:Book D (rec .busy none) W3:=⟨(k3 _ (by simp)).trans bk2.lp,(k3 _ (by simp)).trans bk2.df⟩
   have hend:=run_endRound (P:=P) (some .ret) bk3.lp
   refine⟨_,_,hend,.inr ⟨rfl,turnX i3 bk3,?_⟩⟩
   have:=bk3.turn (r':=rec .done (some .ret))
   rw[hrec] at this ⊢;exact this
  |exit id=>exact hp.elim
  |goto t=>exact hp.elim
  |panic ch=>exact hp.elim
  |outgrown=>exact hp.elim
 ·rintro e W2 ⟨⟨v,rfl⟩,(⟨xs,g,hS,hi,hb⟩|⟨pre,hSp,hi,hb⟩)⟩
  ·have:=run_endLoop (P:=P) hb.lp (by rw[hrec];simp)
   have bk:=hb.turn (r':=rec .exhausted none)
   refine⟨none,_,?_,hdone D g xs _ (Nat.le_refl _) hS (turn hi hb) bk.df⟩
   rw[this,hrec]
  ·have:=run_endLoop (P:=P) hb.lp (by rw[hrec];simp)
   have bk:=hb.turn (r':=rec .exhausted (some .ret))
   refine⟨some .ret,_,?_,hstop D pre _ (Nat.le_refl _) hSp (turnX hi hb) bk.df⟩
   rw[this,hrec]
end
end Go.Proofs.YtjmdeplmenbmmaaGreatDoor
