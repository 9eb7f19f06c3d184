/- Joined texts: FrameS, FrameI, Step, Tys, Str. -/
import Derived.Test.YtjmdeplmenbmmaaGreatW01
import Derived.Deep.Slices
import Derived.Test.YtjmdeplmenbmmaaGreatRows
import Derived.ProofKit
import Derived.OpenShut
import Derived.Lib.SmallJoins
import Derived.Laws.Strings
import Derived.Laws.Strings2
import Derived.Laws.Strings3
import Derived.Laws.Concat
set_option linter.unusedVariables false
namespace Go.Proofs.YtjmdeplmenbmmaaGreat
open Go.ChangeShapes Go.WideShapes Go.ChangeAt Go.RowKit Go.Deep Go.Joins
theorem own:ownKnob Tryz.prog.godebug=none:=by kernel_rfl
theorem laidOut:laidOutB Tryz.prog=true:=by kernel_rfl
section
variable {H:Type} {enc:TypeId×Value→H} {P:Program}
theorem trodAll_stays (hl:laidOutB P=true) {W W':World} {sp:Nat→Bool} (hb:Below W.heap.size W W'):∀{ts:List TypeId} {vs:List Value} {ds:List (DataW H)} {ps:List MemPlace},
  (ts.all fun t=>P.readableRec t&&decide (t<P.types.size))=true→DataW.TrodAll enc P W 0 (fun _=>true) true ts vs ds ps→(∀x∈ps,x.block<W.heap.size)→(∀x∈ps,sp x.block=true) →
  DataW.TrodAll enc P W' 0 sp true ts vs ds ps
 |[],vs,ds,ps,_,h,_,_=>by
  obtain⟨rfl,rfl,rfl⟩:=trodAll_nil h
  exact trodAll_mk0
 |t::ts,vs,ds,ps,hr,h,hlt,hs=>by
  obtain⟨v,vs',d,ds',p,q,rfl,rfl,rfl,h1,h2⟩:=trodAll_cons h
  simp only[List.all_cons,Bool.and_eq_true,decide_eq_true_eq] at hr
  refine trodAll_cons_mk (WideElems.Trod_stays hl hr.1.1 hr.1.2 h1 (fun x hx=>hb.same (hlt x (List.mem_append_left _ hx))) fun x hx=>hs x (List.mem_append_left _ hx)) ?_
  exact trodAll_stays hl hb (by simpa using hr.2) h2 (fun x hx=>hlt x (List.mem_append_right _ hx)) fun x hx=>hs x (List.mem_append_right _ hx)
theorem post_of_law {f:Func} {s:ChangeSpec} {apart fresh handsOn again:Bool} {W W':World} {args:Array Value} {v:Value} {ds:List (DataW H)} {before:List MemPlace}
  (hl:laidOutB P=true) (hr:(f.params.toList.all fun t=>P.readableRec t&&decide (t<P.types.size))=true)
  (hW:DataW.Whole enc P f.params.toList s.vars apart W args.toList ds [] before) (hv:s.vars=[]) (hspec:(s.fn H (ds++[])).args=ds) (hsv:(s.fn H (ds++[])).vars=[])
  (hres:∀(b:Nat) (sp:Nat→Bool) (hd:Bool),DataW.TrodAll enc P W' b sp hd f.resultTypes.toList (v.resultList f.resultTypes.size) (s.fn H (ds++[])).results [])
  (hb:Below W.heap.size W W') (hok:∀(j:Nat) (t:TypeId) (r:Value),f.resultTypes[j]?=some t→(v.resultList f.resultTypes.size)[j]?=some r→Value.okWide P W' .any 0 t r) :
  s.post enc P f apart fresh handsOn again W args v W':=by
 have hlt:∀p∈before,p.block<W.heap.size:=fun p hp=>hW.lt p hp
 have hW2:=hW
 obtain⟨p,q,hA,hV,hpq,hz,hn⟩:=hW
 rw[hv] at hV
 obtain⟨_,hq⟩:=trodVars_none hV
 subst hq
 have hp:before=p:=by simpa using hpq
 subst hp
 have hargs:∀sp:Nat→Bool,(∀x∈before,sp x.block=true)→DataW.TrodAll enc P W' 0 sp true f.params.toList args.toList (s.fn H (ds++[])).args before:=fun sp hsp=>by
  rw[hspec]
  exact trodAll_stays hl hb hr hA hlt hsp
 have hvars:∀sp:Nat→Bool,DataW.TrodVars enc P W' sp s.vars (s.fn H (ds++[])).vars []:=fun sp=>by
  rw[hv,hsv];rfl
 have hold:∀x∈before,(fun b=>decide (b<W.heap.size)) x.block=true:=fun x hx=>by simpa using hlt x hx
 refine⟨ds,[],before,[],before,[],hW2,hres _ _ _,hargs _ hold,hvars _,World.keptBut_mono (fun x hx=>⟨hx,?_⟩) (hb.frame (·∈before)),fun _=>?_⟩
 ·simpa using hx
 ·refine⟨hok,_,_,([]++before)++[],⟨[]++before,[],trodAll_append (hargs _ (fun _ _=>rfl)) (hres _ _ _),hvars _,rfl,?_,?_⟩,?_⟩
  ·intro b off hin
   have hin:MemPlace.cell b off∈before:=by simpa using hin
   rw[hb.frozen (hlt _ hin)]
   exact hz b off hin
  ·intro ha
   have:=hn ha
   simpa using this
  ·intro x hx _
   simpa using hx
theorem arg_int {t:TypeId} {k:IntKind} {w:World} {base:Nat} {v:Value} {d:DataW H} {p:List MemPlace} (ht:P.underlying t=some (.int k)) (hv:Value.okWide P w .any base t v) (h:DataW.Trod enc P w 0 (fun _=>true) true t v d p) :
  ∃x:Int,v=.int k x∧(Lit.int k x).wf=true:=by
 obtain⟨x,rfl,_,_,wx⟩:=open_int ht hv h
 exact⟨x,rfl,wx⟩
theorem arg_agg2 {t:TypeId} {k0 k1:IntKind} {f0 f1:Field} {w:World} {base:Nat} {v:Value} {d:DataW H} {p:List MemPlace} (ht:P.underlying t=some (.struct #[f0,f1])) (hone:oneCellFields P #[f0,f1]=true) (hC:P.cellsOf t=2)
  (h0:P.underlying f0.type=some (.int k0)) (h1:P.underlying f1.type=some (.int k1))
  (hv:Value.okWide P w .any base t v) (h:DataW.Trod enc P w 0 (fun _=>true) true t v d p):∃x y:Int,v=.agg [.int k0 x,.int k1 y].toArray∧(Lit.int k0 x).wf=true∧(Lit.int k1 y).wf=true:=by
 obtain⟨c0,c1,y0,y1,m,rfl,_,_,e0,e1⟩:=Joins.open_agg2 ht hone hC hv h
 obtain⟨a,g0,_,wa⟩:=DataW.trod_int h0 e0
 obtain⟨b,g1,_,wb⟩:=DataW.trod_int h1 e1
 simp at g0 g1
 subst g0 g1
 exact⟨a,b,rfl,wa,wb⟩
theorem i64_of {x:Int} (h:(Lit.int .i64 x).wf=true) : -9223372036854775808≤x∧x≤9223372036854775807:=by
 simpa [Lit.wf,IntKind.min,IntKind.max,IntKind.signed,IntKind.bits] using h
end
section
variable {H:Type} {enc:TypeId×Value→H} {P:Program}
theorem u32_of {x:Int} (h:(Lit.int .u32 x).wf=true):0≤x∧x≤4294967295:=by
 simpa [Lit.wf,IntKind.min,IntKind.max,IntKind.signed,IntKind.bits] using h
end
end Go.Proofs.YtjmdeplmenbmmaaGreat
set_option maxHeartbeats 4000000
namespace Go.Proofs.YtjmdeplmenbmmaaGreat
open Go.RowKit
theorem subA {w0:World} {H HS:List Hl} (h:List.Sublist HS H:=by first|(first|exact List.Sublist.refl _|exact .cons _ (List.Sublist.refl _)|exact .cons _ (.cons _ (List.Sublist.refl _))|exact .cons _ (.cons _ (.cons _ (List.Sublist.refl _)))|exact .cons _ (.cons _ (.cons _ (.cons _ (List.Sublist.refl _))))|exact .cons _ (.cons _ (.cons _ (.cons _ (.cons _ (List.Sublist.refl _)))))|exact .cons _ (.cons _ (.cons _ (.cons _ (.cons _ (.cons _ (List.Sublist.refl _))))))|exact .cons _ (.cons _ (.cons _ (.cons _ (.cons _ (.cons _ (.cons _ (List.Sublist.refl _)))))))|exact .cons _ (.cons _ (.cons _ (.cons _ (.cons _ (.cons _ (.cons _ (.cons _ (List.Sublist.refl _)))))))))|(with_reducible (repeat(first|exact List.Sublist.refl _|apply List.Sublist.cons_cons|apply List.Sublist.cons)))):∀w,St w0 H w→St w0 HS w:=fun _ x=>x.sub h
theorem nSS {p q:Prop} (h:q) (s:q→p:=by intro h;(show RS _ _ _ _ _ _ _ _);first
 |(apply RS.stepK;(case _hr=>exact rfl);(case hd=>exact rfl);(case h=>exact h))
 |(apply RS.storeA;(case hx=>rfl);(case hy=>rfl);(case hu=>rfl);(case hm=>exact updA);(case hi=>rfl);(case hs=>decide +kernel);(case h=>exact h))
 |(apply RS.storeRowA;(case hx=>rfl);(case hy=>rfl);(case hu=>rfl);(case hm=>exact updA);(case hl=>(repeat(first|exact .nil|apply LenIs.cons)));(case hl2=>(repeat(first|exact .nil|apply LenIs.cons)));(case hs=>decide +kernel);(case h=>exact h))
 |(apply RS.storeI;(case hx=>rfl);(case hy=>rfl);(case hu=>exact updA);(case hm=>clear h;exact omlA);(case hs=>decide +kernel);(case h=>exact h))
 |(apply RS.lTK;(case hj=>exact rfl);(case hg=>exact rfl);(case hb=>with_reducible rfl);(case _hr=>exact rfl);(case hd=>exact rfl);(case h=>exact h))
 |(apply RS.xT;(case hj=>exact rfl);(case hg=>exact rfl);(case hb=>with_reducible first|exact nfT|exact nfF|rfl);(case hd=>exact rfl);(case h=>exact h))
 |(apply RS.gTK;(case hj=>exact rfl);(case hg=>exact rfl);(case _hr=>exact rfl);(case hd=>exact rfl);(case h=>exact h))
 |(apply RS.gTcK;(case hj=>exact rfl);(case hg=>exact rfl);(case _hr=>exact rfl);(case hd=>exact rfl);(case h=>exact h))
 |(apply RS.lFK;(case hj=>exact rfl);(case hg=>exact rfl);(case hb=>with_reducible rfl);(case _hr=>exact rfl);(case hd=>exact rfl);(case h=>exact h))
 |(apply RS.xF;(case hj=>exact rfl);(case hg=>exact rfl);(case hb=>with_reducible first|exact nfT|exact nfF|rfl);(case hd=>exact rfl);(case h=>exact h))
 |(apply RS.gFK;(case hj=>exact rfl);(case hg=>exact rfl);(case _hr=>exact rfl);(case hd=>exact rfl);(case h=>exact h))
 |(apply RS.gFcK;(case hj=>exact rfl);(case hg=>exact rfl);(case _hr=>exact rfl);(case hd=>exact rfl);(case h=>exact h))
 |(apply RS.finish;exact h)):p:=s h
theorem nS1 {β:Type} {p:Prop} {q:β→Prop} (h:∀b,q b) (s:(∀b,q b)→p:=by intro h;(show RS _ _ _ _ _ _ _ _);first
 |(apply RS.boxA;(case hx=>rfl);(case hc=>rfl);(case hd=>rfl);(case h=>exact h))
 |(apply RS.allocA;(case hz=>exact ZeroTy.is);(case hc=>rfl);(case hd=>rfl);(case h=>exact h))
 |(apply RS.litI;(case hx=>rfl);(case hd=>rfl);(case h=>exact h))
 |(apply RS.lit0;(case hd=>rfl);(case h=>exact h))
 |(apply RS.append0A;(case hx=>rfl);(case hy=>rfl);(case hr=>exact rdA);(case hu=>intro v';exact updA);(case h1=>exact fun _=>rfl);(case hb=>clear h;exact omlA);(case hd=>rfl);(case h=>exact h))
 |(apply RS.appendA;(case hx=>rfl);(case hy=>rfl);(case hu=>intro v';exact updA);(case hr=>exact rdA);(case h1=>exact fun _=>rfl);(case hb=>clear h;exact omlA);(case hd=>rfl);(case h=>exact h))
 |(apply RS.appendNA;(case hx=>rfl);(case hy=>rfl);(case hr=>exact rdA);(case h1=>exact fun _=>rfl);(case hb=>clear h;exact omlA);(case hd=>rfl);(case h=>exact h))
 |(apply RS.makeI;(case hx=>rfl);(case hz=>decide +kernel);(case hm=>clear h;exact omlA);(case hd=>rfl);(case h=>exact h))):p:=s h
theorem nMM {p q:Prop} (h:q) (s:q→p:=by intro h;(show RM _ _ _ _ _ _ _ _ _ _);first
 |(apply RM.stepK;(case ho=>exact rfl);(case hp=>exact rfl);(case hd=>exact rfl);(case hs=>exact subA);(case h=>exact h))
 |(apply RM.callK;(case ho=>exact rfl);(case hp=>exact rfl);(case _hr=>exact rfl);(case hd=>exact rfl);(case hs=>exact subA);(case h=>exact h))
 |(apply RM.storeA;(case ho=>rfl);(case hx=>rfl);(case hy=>rfl);(case hu=>rfl);(case hm=>exact updA);(case hi=>rfl);(case hs=>decide +kernel);(case hl=>decide +kernel);(case h=>exact h))
 |(apply RM.storeRowA;(case ho=>rfl);(case hx=>rfl);(case hy=>rfl);(case hu=>rfl);(case hm=>exact updA);(case hl=>(repeat(first|exact .nil|apply LenIs.cons)));(case hl2=>(repeat(first|exact .nil|apply LenIs.cons)));(case hs=>decide +kernel);(case hla=>decide +kernel);(case h=>exact h))
 |(apply RM.storeB;(case ho=>rfl);(case hx=>rfl);(case hy=>rfl);(case hu=>rfl);(case hm=>exact updA);(case hi=>rfl);(case hs=>decide +kernel);(case hl=>exact subA);(case h=>exact h))
 |(apply RM.storeRowB;(case ho=>rfl);(case hx=>rfl);(case hy=>rfl);(case hu=>rfl);(case hm=>exact updA);(case hl=>(repeat(first|exact .nil|apply LenIs.cons)));(case hl2=>(repeat(first|exact .nil|apply LenIs.cons)));(case hs=>decide +kernel);(case hla=>exact subA);(case h=>exact h))
 |(apply RM.pendA;(case ho=>rfl);(case hl=>rfl);(case hz=>exact ZeroTy.is);(case hc=>rfl);(case hd=>rfl);(case h=>exact h))
 |(apply RM.lTK;(case ho=>exact rfl);(case hp=>exact rfl);(case hj=>exact rfl);(case hg=>exact rfl);(case hb=>with_reducible rfl);(case hd=>exact rfl);(case hs=>exact subA);(case h=>exact h))
 |(apply RM.xT;(case ho=>exact rfl);(case hp=>exact rfl);(case hj=>exact rfl);(case hg=>exact rfl);(case hb=>with_reducible first|exact nfT|exact nfF|rfl);(case hd=>exact rfl);(case hs=>exact subA);(case h=>exact h))
 |(apply RM.gTK;(case ho=>exact rfl);(case hp=>exact rfl);(case hj=>exact rfl);(case hg=>exact rfl);(case hd=>exact rfl);(case hs=>exact subA);(case h=>exact h))
 |(apply RM.gTcK;(case ho=>exact rfl);(case hp=>exact rfl);(case hj=>exact rfl);(case hg=>exact rfl);(case hd=>exact rfl);(case hs=>exact subA);(case h=>exact h))
 |(apply RM.lTyK;(case ho=>exact rfl);(case hp=>exact rfl);(case hj=>exact rfl);(case hg=>exact rfl);(case hb=>with_reducible rfl);(case hd=>exact rfl);(case hs=>exact subA);(case h=>exact h))
 |(apply RM.xTy;(case ho=>exact rfl);(case hp=>exact rfl);(case hj=>exact rfl);(case hg=>exact rfl);(case hb=>with_reducible first|exact nfT|exact nfF|rfl);(case hd=>exact rfl);(case hs=>exact subA);(case h=>exact h))
 |(apply RM.gTyK;(case ho=>exact rfl);(case hp=>exact rfl);(case hj=>exact rfl);(case hg=>exact rfl);(case hd=>exact rfl);(case hs=>exact subA);(case h=>exact h))
 |(apply RM.gTycK;(case ho=>exact rfl);(case hp=>exact rfl);(case hj=>exact rfl);(case hg=>exact rfl);(case hd=>exact rfl);(case hs=>exact subA);(case h=>exact h))
 |(apply RM.lFK;(case ho=>exact rfl);(case hp=>exact rfl);(case hj=>exact rfl);(case hg=>exact rfl);(case hb=>with_reducible rfl);(case hd=>exact rfl);(case hs=>exact subA);(case h=>exact h))
 |(apply RM.xF;(case ho=>exact rfl);(case hp=>exact rfl);(case hj=>exact rfl);(case hg=>exact rfl);(case hb=>with_reducible first|exact nfT|exact nfF|rfl);(case hd=>exact rfl);(case hs=>exact subA);(case h=>exact h))
 |(apply RM.gFK;(case ho=>exact rfl);(case hp=>exact rfl);(case hj=>exact rfl);(case hg=>exact rfl);(case hd=>exact rfl);(case hs=>exact subA);(case h=>exact h))
 |(apply RM.gFcK;(case ho=>exact rfl);(case hp=>exact rfl);(case hj=>exact rfl);(case hg=>exact rfl);(case hd=>exact rfl);(case hs=>exact subA);(case h=>exact h))
 |(apply RM.lFyK;(case ho=>exact rfl);(case hp=>exact rfl);(case hj=>exact rfl);(case hg=>exact rfl);(case hb=>with_reducible rfl);(case hd=>exact rfl);(case hs=>exact subA);(case h=>exact h))
 |(apply RM.xFy;(case ho=>exact rfl);(case hp=>exact rfl);(case hj=>exact rfl);(case hg=>exact rfl);(case hb=>with_reducible first|exact nfT|exact nfF|rfl);(case hd=>exact rfl);(case hs=>exact subA);(case h=>exact h))
 |(apply RM.gFyK;(case ho=>exact rfl);(case hp=>exact rfl);(case hj=>exact rfl);(case hg=>exact rfl);(case hd=>exact rfl);(case hs=>exact subA);(case h=>exact h))
 |(apply RM.gFycK;(case ho=>exact rfl);(case hp=>exact rfl);(case hj=>exact rfl);(case hg=>exact rfl);(case hd=>exact rfl);(case hs=>exact subA);(case h=>exact h))
 |(apply RM.finish;exact h)):p:=s h
theorem nM1 {β:Type} {p:Prop} {q:β→Prop} (h:∀b,q b) (s:(∀b,q b)→p:=by intro h;(show RM _ _ _ _ _ _ _ _ _ _);first
 |(apply RM.allocA;(case ho=>rfl);(case hz=>exact ZeroTy.is);(case hc=>rfl);(case hs=>exact fun _=>subA);(case hd=>rfl);(case h=>exact h))
 |(apply RM.cameA;(case hs=>exact subA);(case hs'=>exact fun _=>subA);(case h=>exact h))):p:=s h
theorem nxV {p q:Prop} (h:q) (s:q→p:=by intro h;first|(show YK _ _ _ _ _ _ _;exact YK.ofV vAuto h)|(show VK _ _ _ _ _ _ _;exact VK.mk vAuto h)):p:=s h
theorem nxG {p q:Prop} (h:q) (s:q→p:=by intro h;first|(show YG _ _ _ _ _ _ _ _;exact YG.mk (fun hb=>by(try(have hc:=And.left hb;have hb:=And.right hb;rw[hc]));(try rw[hb]);exact V.y vAuto) h)|(show VG _ _ _ _ _ _ _ _;exact VG.mk (fun hb=>by(try(have hc:=And.left hb;have hb:=And.right hb;rw[hc]));(try rw[hb]);exact vAuto) h)):p:=s h
theorem nxX {p q:Prop} (h:q) (s:q→p:=by intro h;first|(apply G.seq;exact h)|(apply X.then_normal;exact h)|(apply G.region;exact h)|(apply G.block;exact h)|(apply G.skip;exact h)|(apply G.exit;exact h)|(apply G.ret;exact h)|(apply X.then_ret;exact h)|(apply X.then_exit;exact h)|(apply X.block_out;exact h)|(apply X.block_normal;exact h)|(apply X.block_ret;exact h)|exact X.block_exit rfl h):p:=s h
instance tyI3:IntTy Tryz.prog 3 .i64:=⟨by kernel_rfl⟩
instance tyB4:BoolTy Tryz.prog 4:=⟨by kernel_rfl⟩
instance tyZ4:ZeroTy Tryz.prog 4 (Go.Value.bool false):=⟨by kernel_rfl⟩
instance tyS9:StrTy Tryz.prog 9:=⟨by kernel_rfl⟩
instance tyR22:RowTy Tryz.prog 22 32 4 48:=⟨by kernel_rfl⟩
instance tyZ24:ZeroTy Tryz.prog 24 (Go.Value.agg #[Go.Value.int Go.IntKind.i64 0,Go.Value.int Go.IntKind.i64 0]):=⟨by kernel_rfl⟩
instance tyZ29:ZeroTy Tryz.prog 29 (Go.Value.agg #[Go.Value.int Go.IntKind.i64 0,Go.Value.int Go.IntKind.i64 0,Go.Value.int Go.IntKind.i64 0]):=⟨by kernel_rfl⟩
instance tyR30:RowTy Tryz.prog 30 76 6 88:=⟨by kernel_rfl⟩
instance tyZ32:ZeroTy Tryz.prog 32 (Go.Value.agg #[Go.Value.int Go.IntKind.i64 0,Go.Value.int Go.IntKind.i64 0,Go.Value.int Go.IntKind.i64 0,Go.Value.slice none 0 0]):=⟨by kernel_rfl⟩
instance tyZ39:ZeroTy Tryz.prog 39 (Go.Value.agg #[Go.Value.int Go.IntKind.i64 0,Go.Value.int Go.IntKind.i64 0]):=⟨by kernel_rfl⟩
instance tyZ42:ZeroTy Tryz.prog 42 (Go.Value.agg #[Go.Value.int Go.IntKind.i64 0,Go.Value.int Go.IntKind.i64 0]):=⟨by kernel_rfl⟩
instance tyZ45:ZeroTy Tryz.prog 45 (Go.Value.agg #[Go.Value.int Go.IntKind.i64 0,Go.Value.int Go.IntKind.i64 0,Go.Value.int Go.IntKind.i64 0,Go.Value.int Go.IntKind.i64 0,Go.Value.int Go.IntKind.i64 0,Go.Value.int Go.IntKind.i64 0,Go.Value.int Go.IntKind.i64 0,Go.Value.int Go.IntKind.i64 0]):=⟨by kernel_rfl⟩
instance tyZ59:ZeroTy Tryz.prog 59 (Go.Value.agg #[Go.Value.int Go.IntKind.i64 0,Go.Value.int Go.IntKind.i64 0,Go.Value.int Go.IntKind.i64 0,Go.Value.int Go.IntKind.i64 0]):=⟨by kernel_rfl⟩
instance tyZ63:ZeroTy Tryz.prog 63 (Go.Value.agg #[Go.Value.int Go.IntKind.i64 0,Go.Value.int Go.IntKind.i64 0,Go.Value.int Go.IntKind.i64 0,Go.Value.int Go.IntKind.i64 0]):=⟨by kernel_rfl⟩
instance tyR66:RowTy Tryz.prog 66 59 4 32:=⟨by kernel_rfl⟩
instance tyR67:RowTy Tryz.prog 67 126 3 24:=⟨by kernel_rfl⟩
instance tyZ67:ZeroTy Tryz.prog 67 (Go.Value.slice none 0 0):=⟨by kernel_rfl⟩
instance tyR73:RowTy Tryz.prog 73 3 1 8:=⟨by kernel_rfl⟩
instance tyZ73:ZeroTy Tryz.prog 73 (Go.Value.slice none 0 0):=⟨by kernel_rfl⟩
instance tyZ76:ZeroTy Tryz.prog 76 (Go.Value.agg #[Go.Value.string { data:=#[] },Go.Value.slice none 0 0,Go.Value.slice none 0 0,Go.Value.int Go.IntKind.i64 0,Go.Value.int Go.IntKind.i64 0,Go.Value.int Go.IntKind.i64 0]):=⟨by kernel_rfl⟩
instance tyR78:RowTy Tryz.prog 78 84 4 40:=⟨by kernel_rfl⟩
instance tyZ86:ZeroTy Tryz.prog 86 (Go.Value.agg #[Go.Value.slice none 0 0,Go.Value.slice none 0 0,Go.Value.slice none 0 0]):=⟨by kernel_rfl⟩
instance tyR89:RowTy Tryz.prog 89 9 1 16:=⟨by kernel_rfl⟩
instance tyZ89:ZeroTy Tryz.prog 89 (Go.Value.slice none 0 0):=⟨by kernel_rfl⟩
instance tyZ107:ZeroTy Tryz.prog 107 (Go.Value.agg #[Go.Value.int Go.IntKind.i64 0]):=⟨by kernel_rfl⟩
instance tyZ108:ZeroTy Tryz.prog 108 (Go.Value.agg #[Go.Value.int Go.IntKind.i64 0,Go.Value.int Go.IntKind.i64 0]):=⟨by kernel_rfl⟩
instance tyZ116:ZeroTy Tryz.prog 116 (Go.Value.agg #[Go.Value.int Go.IntKind.i64 0]):=⟨by kernel_rfl⟩
instance tyZ121:ZeroTy Tryz.prog 121 (Go.Value.agg #[Go.Value.int Go.IntKind.i64 0,Go.Value.int Go.IntKind.i64 0,Go.Value.int Go.IntKind.i64 0,Go.Value.int Go.IntKind.i64 0,Go.Value.int Go.IntKind.i64 0,Go.Value.int Go.IntKind.i64 0,Go.Value.int Go.IntKind.i64 0,Go.Value.int Go.IntKind.i64 0]):=⟨by kernel_rfl⟩
instance tyR123:RowTy Tryz.prog 123 42 2 16:=⟨by kernel_rfl⟩
instance tyZ126:ZeroTy Tryz.prog 126 (Go.Value.agg #[Go.Value.int Go.IntKind.i64 0,Go.Value.int Go.IntKind.i64 0,Go.Value.int Go.IntKind.i64 0]):=⟨by kernel_rfl⟩
instance tyZ147:ZeroTy Tryz.prog 147 (Go.Value.agg #[Go.Value.int Go.IntKind.i64 0]):=⟨by kernel_rfl⟩
instance tyZ149:ZeroTy Tryz.prog 149 (Go.Value.agg #[Go.Value.int Go.IntKind.i64 0,Go.Value.int Go.IntKind.i64 0,Go.Value.int Go.IntKind.i64 0,Go.Value.int Go.IntKind.i64 0,Go.Value.int Go.IntKind.i64 0,Go.Value.int Go.IntKind.i64 0,Go.Value.int Go.IntKind.i64 0,Go.Value.int Go.IntKind.i64 0,Go.Value.int Go.IntKind.i64 0,Go.Value.int Go.IntKind.i64 0,Go.Value.int Go.IntKind.i64 0,Go.Value.int Go.IntKind.i64 0]):=⟨by kernel_rfl⟩
instance tyI180:IntTy Tryz.prog 180 .u64:=⟨by kernel_rfl⟩
instance tyZ188:ZeroTy Tryz.prog 188 (Go.Value.agg #[Go.Value.int Go.IntKind.i64 0,Go.Value.int Go.IntKind.i64 0]):=⟨by kernel_rfl⟩
instance tyZ189:ZeroTy Tryz.prog 189 (Go.Value.agg #[Go.Value.int Go.IntKind.i64 0,Go.Value.int Go.IntKind.i64 0,Go.Value.int Go.IntKind.i64 0,Go.Value.int Go.IntKind.i64 0,Go.Value.int Go.IntKind.i64 0,Go.Value.int Go.IntKind.i64 0,Go.Value.int Go.IntKind.i64 0,Go.Value.int Go.IntKind.i64 0]):=⟨by kernel_rfl⟩
instance tyZ194:ZeroTy Tryz.prog 194 (Go.Value.agg #[Go.Value.int Go.IntKind.i64 0,Go.Value.int Go.IntKind.i64 0,Go.Value.int Go.IntKind.i64 0,Go.Value.int Go.IntKind.i64 0]):=⟨by kernel_rfl⟩
instance tyZ197:ZeroTy Tryz.prog 197 (Go.Value.agg #[Go.Value.int Go.IntKind.i64 0,Go.Value.int Go.IntKind.i64 0]):=⟨by kernel_rfl⟩
instance tyR198:RowTy Tryz.prog 198 197 2 16:=⟨by kernel_rfl⟩
instance tyZ207:ZeroTy Tryz.prog 207 (Go.Value.agg #[Go.Value.int Go.IntKind.i64 0,Go.Value.int Go.IntKind.i64 0,Go.Value.int Go.IntKind.i64 0,Go.Value.int Go.IntKind.i64 0,Go.Value.int Go.IntKind.i64 0,Go.Value.int Go.IntKind.i64 0,Go.Value.int Go.IntKind.i64 0,Go.Value.int Go.IntKind.i64 0,Go.Value.int Go.IntKind.i64 0,Go.Value.int Go.IntKind.i64 0,Go.Value.int Go.IntKind.i64 0,Go.Value.int Go.IntKind.i64 0]):=⟨by kernel_rfl⟩
instance tyI219:IntTy Tryz.prog 219 .u64:=⟨by kernel_rfl⟩
instance tyZ230:ZeroTy Tryz.prog 230 (Go.Value.agg #[Go.Value.int Go.IntKind.i64 0,Go.Value.int Go.IntKind.i64 0]):=⟨by kernel_rfl⟩
instance tyZ250:ZeroTy Tryz.prog 250 (Go.Value.agg #[Go.Value.int Go.IntKind.u64 0,Go.Value.int Go.IntKind.u64 0,Go.Value.int Go.IntKind.u64 0,Go.Value.int Go.IntKind.u64 0]):=⟨by kernel_rfl⟩
instance tyZ257:ZeroTy Tryz.prog 257 (Go.Value.agg #[Go.Value.int Go.IntKind.u64 0,Go.Value.int Go.IntKind.u64 0,Go.Value.bool false]):=⟨by kernel_rfl⟩
instance tyZ265:ZeroTy Tryz.prog 265 (Go.Value.agg #[Go.Value.int Go.IntKind.u64 0,Go.Value.int Go.IntKind.u64 0,Go.Value.int Go.IntKind.u64 0,Go.Value.int Go.IntKind.u64 0]):=⟨by kernel_rfl⟩
instance tyZ276:ZeroTy Tryz.prog 276 (Go.Value.agg #[Go.Value.int Go.IntKind.u64 0,Go.Value.int Go.IntKind.u64 0,Go.Value.int Go.IntKind.u64 0,Go.Value.int Go.IntKind.u64 0,Go.Value.int Go.IntKind.u64 0,Go.Value.int Go.IntKind.u64 0]):=⟨by kernel_rfl⟩
instance tyZ278:ZeroTy Tryz.prog 278 (Go.Value.agg #[Go.Value.int Go.IntKind.u64 0,Go.Value.int Go.IntKind.u64 0,Go.Value.int Go.IntKind.u64 0,Go.Value.int Go.IntKind.u64 0,Go.Value.int Go.IntKind.u64 0,Go.Value.int Go.IntKind.u64 0,Go.Value.int Go.IntKind.u64 0,Go.Value.int Go.IntKind.u64 0]):=⟨by kernel_rfl⟩
abbrev strV (l:List UInt8):Value:=.string ⟨l.toArray⟩
theorem size_str (l:List UInt8):(ByteArray.mk l.toArray).size=l.length:=List.size_toArray
theorem beq_dec (a b:List UInt8):(a==b)=decide (a=b):=by
 by_cases h:a=b
 ·subst h;simp
 ·rw[decide_eq_false h,beq_eq_false_iff_ne];exact h
section
variable {P:Program} {n:Nat} {L:FL} {w0:World} {H:List Hl} {d:Option Tmp} {ty:TypeId} {pos:String} {af:Array Edge} {g:Option (Nat×Bool)} {x y z:Operand} {t t':TypeId} {k k':IntKind} {m m':Int} {l l':List UInt8}
theorem y_lenS (hx:evO L x=some (strV l)) (ht:P.underlying t=some .string):V P n L w0 H ⟨d,.call { callee:=.builtin .len,args:=#[x],argTypes:=#[t] },ty,pos,af,g⟩ (.int .i64 l.length):=by
 unfold V
 intro a w ha hw
 simp[execOp,resolve,invoke,builtin,ha.eval hx,run_len_string _ _ _ _ ht,goInt]
 rw[size_str]
theorem y_indexS (hx:evO L x=some (strV l)) (hy:evO L y=some (.int k m)) (ht:P.underlying t=some .string) (hm:0≤m∧m<l.length):V P n L w0 H ⟨d,.index t x y,ty,pos,af,g⟩ (.int .u8 (nth l m).toNat):=by
 unfold V
 intro a w ha hw
 have h1:0≤m∧m<((ByteArray.mk l.toArray).size:Int):=by rw[size_str];exact hm
 have h2:=run_index_string (P:=P) w t ⟨l.toArray⟩ k m ht
 rw[dif_pos h1] at h2
 have h3:(ByteArray.mk l.toArray)[m.toNat]'(by omega)=nth l m:=by
  have e:=nth_some hm.1 hm.2
  rw[List.getElem?_eq_getElem (by omega)] at e
  exact Option.some.inj e
 rw[h3] at h2
 simp[execOp,ha.eval hx,ha.eval hy,h2]
theorem y_eqS (hx:evO L x=some (strV l)) (hy:evO L y=some (strV l')):V P n L w0 H ⟨d,.binOp .eql t x y t',ty,pos,af,g⟩ (.bool (decide (l=l'))):=by
 unfold V
 intro a w ha hw
 simp[execOp,ha.eval hx,ha.eval hy,eqGuard,binOp_string_eql,beq_dec]
theorem y_neS (hx:evO L x=some (strV l)) (hy:evO L y=some (strV l')):V P n L w0 H ⟨d,.binOp .neq t x y t',ty,pos,af,g⟩ (.bool (!decide (l=l'))):=by
 unfold V
 intro a w ha hw
 simp[execOp,ha.eval hx,ha.eval hy,eqGuard,binOp_string_neq,beq_dec]
theorem vStr {o:Oper} {v:Value} (h:V P n L w0 H o v:=by
 first
  |(apply y_lenS;rfl;exact StrTy.is;done)
  |(apply y_indexS;rfl;rfl;exact StrTy.is;exact omlA;done)
  |(apply y_sliceSLH;rfl;rfl;rfl;exact StrTy.is;exact omlA;done)
  |(apply y_sliceSL;rfl;rfl;exact StrTy.is;exact omlA;done)
  |(apply y_sliceSH;rfl;rfl;exact StrTy.is;exact omlA;done)
  |(apply y_catS;rfl;rfl;exact omlA;done)
  |(apply y_eqS;rfl;rfl;done)
  |(apply y_neS;rfl;rfl;done)):V P n L w0 H o v:=h
theorem nxVS {p q:Prop} (h:q) (s:q→p:=by intro h;first|(show YK _ _ _ _ _ _ _;exact YK.ofV vStr h)|(show VK _ _ _ _ _ _ _;exact VK.mk vStr h)):p:=s h
theorem nxGS {p q:Prop} (h:q) (s:q→p:=by intro h;first|(show YG _ _ _ _ _ _ _ _;exact YG.mk (fun hb=>by(try(have hc:=And.left hb;have hb:=And.right hb;rw[hc]));(try rw[hb]);exact V.y vStr) h)|(show VG _ _ _ _ _ _ _ _;exact VG.mk (fun hb=>by(try(have hc:=And.left hb;have hb:=And.right hb;rw[hc]));(try rw[hb]);exact vStr) h)):p:=s h
end
end Go.Proofs.YtjmdeplmenbmmaaGreat
