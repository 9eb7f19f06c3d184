/- Joined texts: Gwk, SpCm, SpNil, SpSo, Cov, Yq, Tid, Vrg, Vr2, Plc, Gdr, Dir, Pck, Prw, Pln, Leg, Lgs. -/
import Derived.Test.YtjmdeplmenbmmaaGreatW24
import Derived.Test.YtjmdeplmenbmmaaGreatV05
import Derived.Test.YtjmdeplmenbmmaaGreatW21
import Derived.Handy
import Derived.WalkKit
import Derived.LoopN
import Derived.StillTailTactics
import Derived.Sort.Grow
import Derived.Test.YtjmdeplmenbmmaaGreatW04
import Derived.Test.YtjmdeplmenbmmaaGreatW05
import Derived.Test.YtjmdeplmenbmmaaGreatW10
import Derived.Test.YtjmdeplmenbmmaaGreatV06
import Derived.Test.YtjmdeplmenbmmaaGreatW07
set_option linter.unusedVariables false
set_option maxHeartbeats 8000000
namespace Go.Proofs.YtjmdeplmenbmmaaGreat
open Go.RowKit
theorem valI {lo hi:Int} (h : -1099511627776≤lo∧lo≤hi∧hi≤1099511627776):validI lo hi=true:=by
 unfold validI
 simp[h.1,h.2.1,h.2.2]
theorem two_of {p:Int×Int} (h:one31 p):two31 p:=by omega
abbrev lat8I (a:Int):Prop:=-5400000≤a∧a≤5400000
abbrev lon8I (a:Int):Prop:=-10800000≤a∧a<10800000
theorem course_c {b:Nat} {pa po qa qo:Int} (h1:lat8I pa∧lon8I po) (h2:lat8I qa∧lon8I qo) :
  ContIn Tryz.prog (WkW b) 62 [ptK b,ptV pa po,ptV qa qo] (arcV (TT.gcK pa qa (signI (qo-po))).1 (TT.gcK pa qa (signI (qo-po))).2):=fun w hs=>by
 have q0:=signed_c (n:=qo-po) (by omega)
 have hw:=signI_bd (qo-po)
 generalize signI (qo-po)=om at *
 have o1:=TT.encl_ord (Int.le_refl om)
 have o2:=TT.encl_ord (Int.le_refl pa)
 have o3:=TT.encl_ord (Int.le_refl qa)
 have o4:=TT.cosE_ord (Int.le_refl om)
 have o5:=TT.cosE_ord (Int.le_refl pa)
 have o6:=TT.cosE_ord (Int.le_refl qa)
 have o7:=TT.mulE_bd o2 o6
 have t1:=two_of (TT.mulE_bd o5 o3)
 have t2:=two_of (TT.mulE_bd o7 o4)
 have t3:=TT.gcX_ord pa qa om
 have t4:=TT.gcY_ord pa qa om
 have v1:=valI (lo:=om) (hi:=om) (by omega)
 have v2:=valI (lo:=pa) (hi:=pa) (by omega)
 have v3:=valI (lo:=qa) (hi:=qa) (by omega)
 have q9:=Bearing_c (y:=TT.gcY pa qa om) (x:=TT.gcX pa qa om) (by omega) (by omega)
 change Cont _ _ _ (.tuple [arcV (TT.gcK pa qa om).1 (TT.gcK pa qa om).2,.int .i64 0].toArray) at q9
 generalize TT.gcK pa qa om=r at *
 unfold TT.gcX TT.gcY at *
 refine enter0 Tryz.func62 rfl rfl rfl ?_
 repeat' (first|(refine nxN ?_)|(show YK _ _ _ _ _ ⟨_,.call { callee:=.value (.func 113),args:=_,argTypes:=_ },_,_,_,_⟩ _;refine YK.mk (zcI (ksin_c (by assumption)) (fun w' hw'=>hs.keep hw'.ext) ⟨rfl,rfl,rfl⟩ (by decide +kernel)) ?_)|(show YG _ _ _ _ _ _ ⟨_,.call { callee:=.value (.func 113),args:=_,argTypes:=_ },_,_,_,_⟩ _;refine YG.mk (fun hb=>by(try(have hc:=And.left hb;have hb:=And.right hb;rw[hc]));(try rw[hb]);exact zcI (ksin_c (by assumption)) (fun w' hw'=>hs.keep hw'.ext) ⟨rfl,rfl,rfl⟩ (by decide +kernel)) ?_)|(show YK _ _ _ _ _ ⟨_,.call { callee:=.value (.func 114),args:=_,argTypes:=_ },_,_,_,_⟩ _;refine YK.mk (zcI (kcos_c (by assumption)) (fun w' hw'=>hs.keep hw'.ext) ⟨rfl,rfl,rfl⟩ (by decide +kernel)) ?_)|(show YG _ _ _ _ _ _ ⟨_,.call { callee:=.value (.func 114),args:=_,argTypes:=_ },_,_,_,_⟩ _;refine YG.mk (fun hb=>by(try(have hc:=And.left hb;have hb:=And.right hb;rw[hc]));(try rw[hb]);exact zcI (kcos_c (by assumption)) (fun w' hw'=>hs.keep hw'.ext) ⟨rfl,rfl,rfl⟩ (by decide +kernel)) ?_)|(show YK _ _ _ _ _ ⟨_,.call { callee:=.value (.func 112),args:=_,argTypes:=_ },_,_,_,_⟩ _;refine YK.mk (zcI (kmul_c (by assumption) (by assumption)) (fun w' hw'=>hs.keep hw'.ext) ⟨rfl,rfl,rfl,rfl⟩ (by decide +kernel)) ?_)|(show YG _ _ _ _ _ _ ⟨_,.call { callee:=.value (.func 112),args:=_,argTypes:=_ },_,_,_,_⟩ _;refine YG.mk (fun hb=>by(try(have hc:=And.left hb;have hb:=And.right hb;rw[hc]));(try rw[hb]);exact zcI (kmul_c (by assumption) (by assumption)) (fun w' hw'=>hs.keep hw'.ext) ⟨rfl,rfl,rfl,rfl⟩ (by decide +kernel)) ?_)|(show YK _ _ _ _ _ ⟨_,.call { callee:=.value (.func 115),args:=_,argTypes:=_ },_,_,_,_⟩ _;refine YK.mk (zcI (ksub_c (by assumption) (by assumption) (by omega)) (fun w' hw'=>hs.keep hw'.ext) ⟨rfl,rfl,rfl,rfl⟩ (by decide +kernel)) ?_)|(show YG _ _ _ _ _ _ ⟨_,.call { callee:=.value (.func 115),args:=_,argTypes:=_ },_,_,_,_⟩ _;refine YG.mk (fun hb=>by(try(have hc:=And.left hb;have hb:=And.right hb;rw[hc]));(try rw[hb]);exact zcI (ksub_c (by assumption) (by assumption) (by omega)) (fun w' hw'=>hs.keep hw'.ext) ⟨rfl,rfl,rfl,rfl⟩ (by decide +kernel)) ?_)|(show YK _ _ _ _ _ ⟨_,.call { callee:=.value (.func 116),args:=_,argTypes:=_ },_,_,_,_⟩ _;refine YK.mk (zcI (karc_c) (fun w' hw'=>hs.keep hw'.ext) ⟨rfl,rfl,rfl,rfl⟩ (by decide +kernel)) ?_)|(show YG _ _ _ _ _ _ ⟨_,.call { callee:=.value (.func 116),args:=_,argTypes:=_ },_,_,_,_⟩ _;refine YG.mk (fun hb=>by(try(have hc:=And.left hb;have hb:=And.right hb;rw[hc]));(try rw[hb]);exact zcI (karc_c) (fun w' hw'=>hs.keep hw'.ext) ⟨rfl,rfl,rfl,rfl⟩ (by decide +kernel)) ?_)|(show YK _ _ _ _ _ _ _;first|refine YK.mk (zcA (q0) ⟨rfl,rfl⟩) ?_|refine YK.mk (zcA (q9) ⟨rfl,rfl,rfl⟩) ?_|refine YK.mk (zcA (kone_c) ⟨rfl,rfl⟩) ?_)|(refine nxV ?_)|(refine nSS ?_)|(refine nS1 fun _=>?_)|(refine nMM ?_)|(refine nM1 fun _=>?_)|(show YG _ _ _ _ _ _ _ _;refine YG.mk (fun hb=>by(try(have hc:=And.left hb;have hb:=And.right hb;rw[hc]));(try rw[hb]);first|exact(zcA (q0) ⟨rfl,rfl⟩)|exact(zcA (q9) ⟨rfl,rfl,rfl⟩)|exact(zcA (kone_c) ⟨rfl,rfl⟩)|exact V.y vAuto) ?_)|(refine nxG ?_)|(refine G.mA 2 [.go 0,.go 1,.go 2,.go 4,.go 5,.go 6,.pend 10,.go 3,.go 7,.go 8,.go 9,.done,.go 11] ?_)|(refine G.mA 3 [.go 0,.go 1,.go 2,.go 3,.go 4,.go 7,.go 8,.go 9,.go 13,.go 14,.go 15,.go 16,.go 17,.go 20,.go 21,.go 22,.go 26,.go 27,.pend 31,.go 5,.go 6,.go 10,.go 11,.go 12,.go 18,.go 19,.go 23,.go 24,.go 25,.go 28,.go 29,.go 30,.done,.go 32] ?_)|(refine nxX ?_)|(refine G.cN rfl (fun hc=>?_) (fun hc=>?_)<;>(try first|exact hc.elim|(exfalso;omega))))
 all_goals exact X.ret (vs:=[_]) rfl ⟨⟨_,_,_,_,rfl,(by exact memA),lenA,by decide +kernel,rfl⟩,rfl⟩ rfl rE
theorem dist_c {b:Nat} {pa po qa qo:Int} {D:Int×Int} (h1:lat8I pa∧lon8I po) (h2:lat8I qa∧lon8I qo) (hD:TT.IsGc pa qa (signI (qo-po)) D) :
  ContIn Tryz.prog (WkW b) 63 [ptK b,ptV pa po,ptV qa qo] (arcV D.1 D.2):=fun w hs=>by
 have q0:=signed_c (n:=qo-po) (by omega)
 have hw:=signI_bd (qo-po)
 generalize signI (qo-po)=om at *
 have hc:=TT.gc_clamp (a:=pa) (b:=qa) (w:=om) (by omega) (by omega) (by omega)
 have hH:=TT.gcH_ord pa qa om
 obtain⟨n0,n1,i1,i0,rfl⟩:=hD
 have q9:=Ahav_c (p:=TT.gcH pa qa om) (by omega) hc.2 i1 i0
 clear i1 i0 hc
 have o2:=TT.cosE_ord (Int.le_refl pa)
 have o3:=TT.cosE_ord (Int.le_refl qa)
 have o4:=TT.mulE_bd o2 o3
 have o5:=TT.havE_ord (Int.le_refl om)
 have o6:=TT.havE_ord (Int.le_refl (qa-pa))
 have o7:one31 (TT.havE om om):=by omega
 have o8:=TT.mulE_bd o4 o7
 have t1:=two_of o8
 have t2:two31 (TT.havE (qa-pa) (qa-pa)):=by omega
 have v2:=valI (lo:=pa) (hi:=pa) (by omega)
 have v3:=valI (lo:=qa) (hi:=qa) (by omega)
 have q1:=Hav_c (lo:=om) (hi:=om) (valI (by omega))
 have q2:=Hav_c (lo:=qa-pa) (hi:=qa-pa) (valI (by omega))
 have t3 : -2147483648≤(TT.addE (TT.havE (qa-pa) (qa-pa)) (TT.mulE (TT.mulE (TT.cosE pa pa) (TT.cosE qa qa)) (TT.havE om om))).1∧(TT.addE (TT.havE (qa-pa) (qa-pa)) (TT.mulE (TT.mulE (TT.cosE pa pa) (TT.cosE qa qa)) (TT.havE om om))).2≤2147483648:=by
  unfold TT.gcH at hH
  omega
 unfold TT.gcH at *
 refine enter0 Tryz.func63 rfl rfl rfl ?_
 repeat' (first|(refine nxN ?_)|(show YK _ _ _ _ _ ⟨_,.call { callee:=.value (.func 113),args:=_,argTypes:=_ },_,_,_,_⟩ _;refine YK.mk (zcI (ksin_c (by assumption)) (fun w' hw'=>hs.keep hw'.ext) ⟨rfl,rfl,rfl⟩ (by decide +kernel)) ?_)|(show YG _ _ _ _ _ _ ⟨_,.call { callee:=.value (.func 113),args:=_,argTypes:=_ },_,_,_,_⟩ _;refine YG.mk (fun hb=>by(try(have hc:=And.left hb;have hb:=And.right hb;rw[hc]));(try rw[hb]);exact zcI (ksin_c (by assumption)) (fun w' hw'=>hs.keep hw'.ext) ⟨rfl,rfl,rfl⟩ (by decide +kernel)) ?_)|(show YK _ _ _ _ _ ⟨_,.call { callee:=.value (.func 114),args:=_,argTypes:=_ },_,_,_,_⟩ _;refine YK.mk (zcI (kcos_c (by assumption)) (fun w' hw'=>hs.keep hw'.ext) ⟨rfl,rfl,rfl⟩ (by decide +kernel)) ?_)|(show YG _ _ _ _ _ _ ⟨_,.call { callee:=.value (.func 114),args:=_,argTypes:=_ },_,_,_,_⟩ _;refine YG.mk (fun hb=>by(try(have hc:=And.left hb;have hb:=And.right hb;rw[hc]));(try rw[hb]);exact zcI (kcos_c (by assumption)) (fun w' hw'=>hs.keep hw'.ext) ⟨rfl,rfl,rfl⟩ (by decide +kernel)) ?_)|(show YK _ _ _ _ _ ⟨_,.call { callee:=.value (.func 112),args:=_,argTypes:=_ },_,_,_,_⟩ _;refine YK.mk (zcI (kmul_c (by assumption) (by assumption)) (fun w' hw'=>hs.keep hw'.ext) ⟨rfl,rfl,rfl,rfl⟩ (by decide +kernel)) ?_)|(show YG _ _ _ _ _ _ ⟨_,.call { callee:=.value (.func 112),args:=_,argTypes:=_ },_,_,_,_⟩ _;refine YG.mk (fun hb=>by(try(have hc:=And.left hb;have hb:=And.right hb;rw[hc]));(try rw[hb]);exact zcI (kmul_c (by assumption) (by assumption)) (fun w' hw'=>hs.keep hw'.ext) ⟨rfl,rfl,rfl,rfl⟩ (by decide +kernel)) ?_)|(show YK _ _ _ _ _ ⟨_,.call { callee:=.value (.func 115),args:=_,argTypes:=_ },_,_,_,_⟩ _;refine YK.mk (zcI (ksub_c (by assumption) (by assumption) (by omega)) (fun w' hw'=>hs.keep hw'.ext) ⟨rfl,rfl,rfl,rfl⟩ (by decide +kernel)) ?_)|(show YG _ _ _ _ _ _ ⟨_,.call { callee:=.value (.func 115),args:=_,argTypes:=_ },_,_,_,_⟩ _;refine YG.mk (fun hb=>by(try(have hc:=And.left hb;have hb:=And.right hb;rw[hc]));(try rw[hb]);exact zcI (ksub_c (by assumption) (by assumption) (by omega)) (fun w' hw'=>hs.keep hw'.ext) ⟨rfl,rfl,rfl,rfl⟩ (by decide +kernel)) ?_)|(show YK _ _ _ _ _ ⟨_,.call { callee:=.value (.func 119),args:=_,argTypes:=_ },_,_,_,_⟩ _;refine YK.mk (zcI (kadd_c (by assumption) (by assumption) (by assumption)) (fun w' hw'=>hs.keep hw'.ext) ⟨rfl,rfl,rfl,rfl⟩ (by decide +kernel)) ?_)|(show YG _ _ _ _ _ _ ⟨_,.call { callee:=.value (.func 119),args:=_,argTypes:=_ },_,_,_,_⟩ _;refine YG.mk (fun hb=>by(try(have hc:=And.left hb;have hb:=And.right hb;rw[hc]));(try rw[hb]);exact zcI (kadd_c (by assumption) (by assumption) (by assumption)) (fun w' hw'=>hs.keep hw'.ext) ⟨rfl,rfl,rfl,rfl⟩ (by decide +kernel)) ?_)|(show YK _ _ _ _ _ ⟨_,.call { callee:=.value (.func 118),args:=_,argTypes:=_ },_,_,_,_⟩ _;refine YK.mk (zcI (knum_c) (fun w' hw'=>hs.keep hw'.ext) ⟨rfl,rfl,rfl,rfl⟩ (by decide +kernel)) ?_)|(show YG _ _ _ _ _ _ ⟨_,.call { callee:=.value (.func 118),args:=_,argTypes:=_ },_,_,_,_⟩ _;refine YG.mk (fun hb=>by(try(have hc:=And.left hb;have hb:=And.right hb;rw[hc]));(try rw[hb]);exact zcI (knum_c) (fun w' hw'=>hs.keep hw'.ext) ⟨rfl,rfl,rfl,rfl⟩ (by decide +kernel)) ?_)|(show YK _ _ _ _ _ ⟨_,.call { callee:=.value (.func 116),args:=_,argTypes:=_ },_,_,_,_⟩ _;refine YK.mk (zcI (karc_c) (fun w' hw'=>hs.keep hw'.ext) ⟨rfl,rfl,rfl,rfl⟩ (by decide +kernel)) ?_)|(show YG _ _ _ _ _ _ ⟨_,.call { callee:=.value (.func 116),args:=_,argTypes:=_ },_,_,_,_⟩ _;refine YG.mk (fun hb=>by(try(have hc:=And.left hb;have hb:=And.right hb;rw[hc]));(try rw[hb]);exact zcI (karc_c) (fun w' hw'=>hs.keep hw'.ext) ⟨rfl,rfl,rfl,rfl⟩ (by decide +kernel)) ?_)|(show YK _ _ _ _ _ _ _;first|refine YK.mk (zcA (q0) ⟨rfl,rfl⟩) ?_|refine YK.mk (zcA (q9) ⟨rfl,rfl⟩) ?_|refine YK.mk (zcA (q1) ⟨rfl,rfl⟩) ?_|refine YK.mk (zcA (q2) ⟨rfl,rfl⟩) ?_|refine YK.mk (zcA (kone_c) ⟨rfl,rfl⟩) ?_)|(refine nxV ?_)|(refine nSS ?_)|(refine nS1 fun _=>?_)|(refine nMM ?_)|(refine nM1 fun _=>?_)|(show YG _ _ _ _ _ _ _ _;refine YG.mk (fun hb=>by(try(have hc:=And.left hb;have hb:=And.right hb;rw[hc]));(try rw[hb]);first|exact(zcA (q0) ⟨rfl,rfl⟩)|exact(zcA (q9) ⟨rfl,rfl⟩)|exact(zcA (q1) ⟨rfl,rfl⟩)|exact(zcA (q2) ⟨rfl,rfl⟩)|exact(zcA (kone_c) ⟨rfl,rfl⟩)|exact V.y vAuto) ?_)|(refine nxG ?_)|(refine G.mA 2 [.go 0,.go 1,.go 2,.go 3,.go 4,.go 7,.go 8,.go 9,.go 13,.go 14,.pend 21,.go 5,.go 6,.go 10,.go 11,.go 12,.go 15,.go 16,.go 17,.go 18,.go 19,.go 20,.done,.go 22] ?_)|(refine G.mA 3 [.go 0,.go 1,.go 2,.go 3,.go 4,.go 5,.go 6,.go 7,.go 13,.go 8,.go 9,.go 10,.go 11,.go 12,.go 14,.go 15,.go 16,.go 17,.go 18,.go 19] ?_)|(refine nxX ?_)|(refine G.cN rfl (fun hc=>?_) (fun hc=>?_)<;>(try first|exact hc.elim|(exfalso;omega))))
 all_goals exact X.ret (vs:=[_]) rfl ⟨⟨_,_,_,_,rfl,(by exact memA),lenA,by decide +kernel,rfl⟩,rfl⟩ rfl rE
theorem leg_built (a b c d:Int):Tryz.prog.built 59 [(0,.agg [.int .i64 a,.int .i64 b].toArray),(1,.agg [.int .i64 c,.int .i64 d].toArray)]=some [.int .i64 a,.int .i64 b,.int .i64 c,.int .i64 d].toArray:=by kernel_rfl
theorem place_built (a b c d:Int):Tryz.prog.built 63 [(0,.agg [.int .i64 a,.int .i64 b].toArray),(1,.agg [.int .i64 c,.int .i64 d].toArray)]=some [.int .i64 a,.int .i64 b,.int .i64 c,.int .i64 d].toArray:=by kernel_rfl
abbrev v4 (a b c d:Int):Value:=.agg [.int .i64 a,.int .i64 b,.int .i64 c,.int .i64 d].toArray
theorem pointT {la lo:Int} (h:lat8I la∧lon8I lo):Cont Tryz.prog 61 [ptV la lo] (.bool true):=by
 have:=vpoint_c la lo
 rw[show pointB la lo=true by unfold pointB;simp;omega] at this
 exact this
theorem inverse_c {pa po qa qo:Int} {D:Int×Int} (h1:lat8I pa∧lon8I po) (h2:lat8I qa∧lon8I qo) (hD:TT.IsGc pa qa (signI (qo-po)) D) :
  Cont Tryz.prog 17 [ptV pa po,ptV qa qo] (.tuple [v4 (TT.gcK pa qa (signI (qo-po))).1 (TT.gcK pa qa (signI (qo-po))).2 D.1 D.2,.int .i64 0].toArray):=fun w=>by
 have q1:=pointT h1
 have q2:=pointT h2
 have q3:=fun b=>course_c (b:=b) h1 h2
 have q4:=fun b=>dist_c (b:=b) h1 h2 hD
 clear hD
 generalize signI (qo-po)=om at *
 generalize TT.gcK pa qa om=r at *
 refine enter0 Tryz.func17 rfl rfl rfl ?_
 repeat' (first|(refine nxN ?_)|(show YK _ _ _ _ _ ⟨_,.call { callee:=.value (.func 62),args:=_,argTypes:=_ },_,_,_,_⟩ _;refine YK.mk (zcI (q3 _) (fun w' hw'=>WkW.ofSt hw' (by exact memA)) ⟨rfl,rfl,rfl,rfl⟩ (by decide +kernel)) ?_)|(show YG _ _ _ _ _ _ ⟨_,.call { callee:=.value (.func 62),args:=_,argTypes:=_ },_,_,_,_⟩ _;refine YG.mk (fun hb=>by(try(have hc:=And.left hb;have hb:=And.right hb;rw[hc]));(try rw[hb]);exact zcI (q3 _) (fun w' hw'=>WkW.ofSt hw' (by exact memA)) ⟨rfl,rfl,rfl,rfl⟩ (by decide +kernel)) ?_)|(show YK _ _ _ _ _ ⟨_,.call { callee:=.value (.func 63),args:=_,argTypes:=_ },_,_,_,_⟩ _;refine YK.mk (zcI (q4 _) (fun w' hw'=>WkW.ofSt hw' (by exact memA)) ⟨rfl,rfl,rfl,rfl⟩ (by decide +kernel)) ?_)|(show YG _ _ _ _ _ _ ⟨_,.call { callee:=.value (.func 63),args:=_,argTypes:=_ },_,_,_,_⟩ _;refine YG.mk (fun hb=>by(try(have hc:=And.left hb;have hb:=And.right hb;rw[hc]));(try rw[hb]);exact zcI (q4 _) (fun w' hw'=>WkW.ofSt hw' (by exact memA)) ⟨rfl,rfl,rfl,rfl⟩ (by decide +kernel)) ?_)|(show VK _ _ _ _ _ ⟨_,.build 59 #[(0,_),(1,_)],_,_,_,_⟩ _;refine VK.mk (y_build (parts:=[(0,_),(1,_)]) (vs:=[_,_]) ⟨rfl,rfl,rfl⟩ (leg_built _ _ _ _)) ?_)|(show YK _ _ _ _ _ ⟨_,.build 59 #[(0,_),(1,_)],_,_,_,_⟩ _;refine YK.ofV (y_build (parts:=[(0,_),(1,_)]) (vs:=[_,_]) ⟨rfl,rfl,rfl⟩ (leg_built _ _ _ _)) ?_)|(show YK _ _ _ _ _ _ _;first|refine YK.mk (zcA (q1) ⟨rfl,rfl⟩) ?_|refine YK.mk (zcA (q2) ⟨rfl,rfl⟩) ?_)|(refine nxV ?_)|(refine nSS ?_)|(refine nS1 fun _=>?_)|(refine nMM ?_)|(refine nM1 fun _=>?_)|(show YG _ _ _ _ _ _ _ _;refine YG.mk (fun hb=>by(try(have hc:=And.left hb;have hb:=And.right hb;rw[hc]));(try rw[hb]);first|exact(zcA (q1) ⟨rfl,rfl⟩)|exact(zcA (q2) ⟨rfl,rfl⟩)|exact V.y vAuto) ?_)|(refine nxG ?_)|(refine G.mA 4 [.go 0,.go 1,.go 3,.go 4,.pend 7,.go 2,.go 5,.go 6,.done,.go 8] ?_)|(refine G.mA 6 [.go 0,.go 1,.go 2,.go 3,.go 4] ?_)|(refine nxX ?_)|(refine G.cN rfl (fun hc=>?_) (fun hc=>?_)<;>(try first|exact hc.elim|(exfalso;omega))))
 all_goals exact X.ret (vs:=[_,_]) rfl ⟨⟨_,_,_,_,rfl,(by exact memA),lenA,by decide +kernel,rfl⟩,rfl,rfl⟩ rfl rE
end Go.Proofs.YtjmdeplmenbmmaaGreat
namespace Go.Proofs.YtjmdeplmenbmmaaGreat
open Go.RowKit Go.Sort
end Go.Proofs.YtjmdeplmenbmmaaGreat
namespace Go.Proofs.YtjmdeplmenbmmaaGreat
open Go.RowKit Go.Shelf Go.Lib Go.Sort
end Go.Proofs.YtjmdeplmenbmmaaGreat
set_option maxHeartbeats 8000000
namespace Go.Proofs.YtjmdeplmenbmmaaGreat
open Go.RowKit
instance:Inhabited RR.CellT:=⟨⟨0,0,0⟩⟩
def cT (x:RR.CellT):List Value:=[.int .i64 (x.lv:Int),.int .i64 (x.r:Int),.int .i64 (x.c:Int)]
section
variable {P:Program} {ops:Array Oper} {Q:Exit→Act→World→Prop} {n:Nat} {L:FL} {w0:World} {H:List Hl} {dd:Tmp} {ty:TypeId} {pos:String} {af:Array Edge} {t e:TypeId} {bytes:Nat} {x:Operand} {rest:List Oper}
theorem RS.lit1T {a:RR.CellT} (h:∀v':Sl,RS P ops Q n ((dd,v'.v)::L) w0 (Hl.rw v'.v e cT 3 [a]::H) rest) (hx:evO L x=some (celV a.lv a.r a.c)) [ht:RowTy P t e 3 bytes] (hd:Nat.blt dd n=true:=by rfl):RS P ops Q n L w0 H (⟨some dd,.buildSlice t 1 #[(0,x)],ty,pos,af,none⟩::rest) :=
 RS.actX rfl (x_litS (parts:=[(0,x)]) (vs:=[celV a.lv a.r a.c]) (cs:=cT a) (f:=cT) (l:=[a]) ⟨hx,rfl⟩ rfl rfl rfl rfl (fun zs hz=>by
  match zs,hz with
  |[_,_,_],_=>rfl) rfl rfl rfl (rowTy_B ht.is) hd) fun v' _=>h v'
end
theorem nth_get {α:Type} [Inhabited α] {l:List α} {i:Nat} (h:i<l.length):nth l (i:Int)=l[i]:=nth_mem h
theorem eqT {x y:RR.CellT} : eqCells (cT x) (cT y)=decide (x=y):=by
 obtain⟨a,b,c⟩:=x
 obtain⟨d,e,f⟩:=y
 by_cases h:a=d∧b=e∧c=f
 ·obtain⟨rfl,rfl,rfl⟩:=h
  simp[eqCells,vEq,cT]
 ·have hn:¬(RR.CellT.mk a b c=RR.CellT.mk d e f):=fun g=>h (by simpa using g)
  rw[decide_eq_false hn]
  simp only[eqCells,vEq,cT]
  simp
  omega
theorem celEq_c (v u:Value) (a b:List RR.CellT) (ha:a.length≤1000000) (hb':b.length≤1000000):ContR Tryz.prog [Hl.rd v cT 3 a,Hl.rd u cT 3 b] 181 [v,u] (.bool (decide (a=b))):=fun w hw0=>by
 by_cases hl:a.length=b.length
 ·refine enter Tryz.func181 rfl rfl rfl hw0 ?_
  repeat' (first|(refine nxN ?_)|(refine nxV ?_)|(refine nSS ?_)|(refine nS1 fun _=>?_)|(refine nMM ?_)|(refine nM1 fun _=>?_)|(refine nxG ?_)|(refine G.mA 6 [.go 0,.go 1,.go 2,.go 3,.go 4,.go 5,.go 6,.go 7,.go 8] ?_)|(refine nxX ?_)|(refine G.cN rfl (fun hc=>?_) (fun hc=>?_)<;>(try first|exact hc.elim|(exfalso;omega))))
  all_goals first|(exfalso;omega)|skip
  refine G.loop (ι:=Nat) (fun i=>[(0,v),(1,u),(12,.int .i64 a.length),(13,.int .i64 (i:Int))]) (fun _=>[Hl.rd v cT 3 a,Hl.rd u cT 3 b]) (fun i=>i≤a.length∧a.take i=b.take i) (fun i=>a.length-i) 0 ⟨Nat.zero_le _,rfl⟩ ⟨rfl,rfl,rfl,rfl,trivial⟩ (by exact fun w h=>h.sub subS) ?_
  rintro i mx ⟨g1,g2⟩ hmx
  (try dsimp only at g1 g2 hmx ⊢)
  rcases Nat.lt_or_ge i a.length with hi|hi
  ·have e1:=nth_get hi
   have e2:=nth_get (l:=b) (i:=i) (by omega)
   have et:=eqT (x:=nth a (i:Int)) (y:=nth b (i:Int))
   repeat' (first|(refine nxN ?_)|(refine nxV ?_)|(refine nSS ?_)|(refine nS1 fun _=>?_)|(refine nMM ?_)|(refine nM1 fun _=>?_)|(refine nxG ?_)|(refine G.mA 6 [.go 0,.go 1,.go 2,.go 3,.go 4,.go 5,.go 6,.go 7,.go 8] ?_)|(refine nxX ?_)|(refine G.cN rfl (fun hc=>?_) (fun hc=>?_)<;>(try first|exact hc.elim|(exfalso;omega))))
   ·refine X.ret (vs:=[_]) rfl ⟨rfl,rfl⟩ rfl (fun w hw=>⟨ret_bool ?_,hw.ext⟩)
    rw[et,decide_eq_false_iff_not,e1,e2] at hc
    symm
    apply decide_eq_false
    intro h
    subst h
    exact hc rfl
   ·refine X.again (i+1) ⟨by omega,?_⟩ (by omega) ⟨rfl,rfl,rfl,rfl,trivial⟩ (by exact fun w h=>h.sub subS)
    rw[et,decide_eq_true_eq] at hc
    rw[List.take_add_one,List.take_add_one,g2,List.getElem?_eq_getElem hi,List.getElem?_eq_getElem (by omega),←e1,←e2,hc]
  ·obtain rfl:i=a.length:=by omega
   have hab:a=b:=by rw[List.take_length,hl,List.take_length] at g2;exact g2
   repeat' (first|(refine nxN ?_)|(refine nxV ?_)|(refine nSS ?_)|(refine nS1 fun _=>?_)|(refine nMM ?_)|(refine nM1 fun _=>?_)|(refine nxG ?_)|(refine G.mA 6 [.go 0,.go 1,.go 2,.go 3,.go 4,.go 5,.go 6,.go 7,.go 8] ?_)|(refine nxX ?_)|(refine G.cN rfl (fun hc=>?_) (fun hc=>?_)<;>(try first|exact hc.elim|(exfalso;omega))))
   refine X.ret (vs:=[_]) rfl ⟨rfl,rfl⟩ rfl (fun w hw=>⟨ret_bool (decide_eq_true hab).symm,hw.ext⟩)
 ·have hab:¬a=b:=fun h=>hl (by rw[h])
  rw[decide_eq_false hab]
  refine enter Tryz.func181 rfl rfl rfl hw0 ?_
  repeat' (first|(refine nxN ?_)|(refine nxV ?_)|(refine nSS ?_)|(refine nS1 fun _=>?_)|(refine nMM ?_)|(refine nM1 fun _=>?_)|(refine nxG ?_)|(refine G.mA 6 [.go 0,.go 1,.go 2,.go 3,.go 4,.go 5,.go 6,.go 7,.go 8] ?_)|(refine nxX ?_)|(refine G.cN rfl (fun hc=>?_) (fun hc=>?_)<;>(try first|exact hc.elim|(exfalso;omega))))
  all_goals first|(exfalso;omega)|exact X.ret1
abbrev plV (a b c d:Int):Value:=.agg [.int .i64 a,.int .i64 b,.int .i64 c,.int .i64 d].toArray
theorem edge_c {i lv e:Nat} (hi:i≤200000) (hl:lv≤16) (he:i*10800000/2^lv=e):Cont Tryz.prog 244 [.int .i64 (i:Int),.int .i64 (lv:Int)] (.int .i64 (e:Int)):=fun w=>by
 refine enter0 Tryz.func244 rfl rfl rfl ?_
 repeat' (first|(show VK _ _ _ _ _ ⟨_,.binOp .shr _ _ _ _,_,_,_,_⟩ _;refine VK.mk (y_shrA (m:=i*10800000) (j:=lv) (by rfl) (by rfl) (by omega) (by omega) he) ?_)|(show YK _ _ _ _ _ ⟨_,.binOp .shr _ _ _ _,_,_,_,_⟩ _;refine YK.ofV (y_shrA (m:=i*10800000) (j:=lv) (by rfl) (by rfl) (by omega) (by omega) he) ?_)|(show VG _ _ _ _ _ _ ⟨_,.binOp .shr _ _ _ _,_,_,_,_⟩ _;refine VG.mk (fun hb=>by(try(have hc:=And.left hb;have hb:=And.right hb;rw[hc]));(try rw[hb]);exact y_shrA (m:=i*10800000) (j:=lv) (by rfl) (by rfl) (by omega) (by omega) he) ?_)|(show YG _ _ _ _ _ _ ⟨_,.binOp .shr _ _ _ _,_,_,_,_⟩ _;refine YG.mk (fun hb=>by(try(have hc:=And.left hb;have hb:=And.right hb;rw[hc]));(try rw[hb]);exact V.y (y_shrA (m:=i*10800000) (j:=lv) (by rfl) (by rfl) (by omega) (by omega) he)) ?_)|(refine nxV ?_)|(refine nSS ?_)|(refine nS1 fun _=>?_)|(refine nMM ?_)|(refine nM1 fun _=>?_)|(refine nxG ?_)|(refine nxX ?_)|(refine G.cN rfl (fun hc=>?_) (fun hc=>?_)<;>(try first|exact hc.elim|(exfalso;omega))))
 exact X.ret1
def egN (i lv:Nat):Nat:=i*10800000/2^lv
def bxA (x:RR.CellT):Int:=(egN x.r x.lv:Int)-5400000
def bxB (x:RR.CellT):Int:=(egN (x.r+1) x.lv:Int)-5400000
def bxC (x:RR.CellT):Int:=(egN x.c x.lv:Int)-10800000
def bxD (x:RR.CellT):Int:=(egN (x.c+1) x.lv:Int)-10800000
theorem egN_mono {i j lv:Nat} (h:i≤j):egN i lv≤egN j lv:=Nat.div_le_div_right (Nat.mul_le_mul_right _ h)
theorem egN_top (k lv:Nat):egN (k*2^lv) lv=k*10800000:=by
 unfold egN
 rw[Nat.mul_right_comm,Nat.mul_div_cancel _ (Nat.pow_pos (by decide))]
theorem egN_step (i lv:Nat):egN (i+1) lv≤egN i lv+10800001:=by
 unfold egN
 have hp:0<2^lv:=Nat.pow_pos (by decide)
 have h1:=Nat.div_add_mod (i*10800000) (2^lv)
 have h2:=Nat.mod_lt (i*10800000) hp
 have h3:(i+1)*10800000<(i*10800000/2^lv+10800002)*2^lv:=by
  rw[Nat.add_mul (i*10800000/2^lv),Nat.mul_comm (i*10800000/2^lv)]
  have h4:10800002*1≤10800002*2^lv:=Nat.mul_le_mul_left _ hp
  omega
 have:=(Nat.div_lt_iff_lt_mul hp).2 h3
 omega
structure BxOk (a b c d:Int):Prop where
 lat : -5400000≤a∧a≤b∧b≤5400000
 lon : -10800000≤c∧c<10800000∧c≤d∧d-c<21600000
theorem box_ok {x:RR.CellT} (ok:RR.okC x):BxOk (bxA x) (bxB x) (bxC x) (bxD x):=by
 obtain⟨h1,h2,h3⟩:=ok
 have r1:=egN_mono (i:=x.r) (j:=x.r+1) (lv:=x.lv) (by omega)
 have r2:=egN_mono (i:=x.r+1) (j:=1*2^x.lv) (lv:=x.lv) (by omega)
 have c1:=egN_mono (i:=x.c) (j:=x.c+1) (lv:=x.lv) (by omega)
 have c2:=egN_mono (i:=x.c+1) (j:=2*2^x.lv) (lv:=x.lv) (by omega)
 have c3:=egN_step x.c x.lv
 have c4:egN x.c x.lv<21600000:=by
  unfold egN
  refine(Nat.div_lt_iff_lt_mul (Nat.pow_pos (by decide))).2 ?_
  have:x.c*10800000<2*2^x.lv*10800000:=Nat.mul_lt_mul_of_pos_right h3 (by decide)
  omega
 rw[egN_top] at r2 c2
 unfold bxA bxB bxC bxD
 exact⟨by omega,by omega⟩
theorem built_pl (a b c d:Int):Tryz.prog.built 63 [(0,.agg [.int .i64 a,.int .i64 b].toArray),(1,.agg [.int .i64 c,.int .i64 d].toArray)]=some [.int .i64 a,.int .i64 b,.int .i64 c,.int .i64 d].toArray:=by kernel_rfl
theorem box_c {x:RR.CellT} (ok:RR.okC x):Cont Tryz.prog 216 [celV x.lv x.r x.c] (plV (bxA x) (bxB x) (bxC x) (bxD x)):=fun w=>by
 have hbd:=okC_bd ok
 have hk:=box_ok ok
 have q1:=edge_c (i:=x.r) (lv:=x.lv) (e:=egN x.r x.lv) (by omega) (by omega) rfl
 have q2:=edge_c (i:=x.r+1) (lv:=x.lv) (e:=egN (x.r+1) x.lv) (by omega) (by omega) rfl
 have q3:=edge_c (i:=x.c) (lv:=x.lv) (e:=egN x.c x.lv) (by omega) (by omega) rfl
 have q4:=edge_c (i:=x.c+1) (lv:=x.lv) (e:=egN (x.c+1) x.lv) (by omega) (by omega) rfl
 obtain⟨hk1,hk2⟩:=hk
 unfold bxA bxB bxC bxD at *
 generalize egN x.r x.lv=A at *
 generalize egN (x.r+1) x.lv=B at *
 generalize egN x.c x.lv=C at *
 generalize egN (x.c+1) x.lv=D at *
 refine enter0 Tryz.func216 rfl rfl rfl ?_
 repeat' (first|(refine nxN ?_)|(show VK _ _ _ _ _ ⟨some 31,.build _ _,_,_,_,_⟩ _;refine VK.mk (y_build (parts:=[(0,.tmp 16),(1,.tmp 30)]) (vs:=[_,_]) ⟨rfl,rfl,rfl⟩ (built_pl _ _ _ _)) ?_)|(show YK _ _ _ _ _ _ _;first|refine YK.mk (zcA (q1) ⟨rfl,rfl,rfl⟩) ?_|refine YK.mk (zcA (q2) ⟨rfl,rfl,rfl⟩) ?_|refine YK.mk (zcA (q3) ⟨rfl,rfl,rfl⟩) ?_|refine YK.mk (zcA (q4) ⟨rfl,rfl,rfl⟩) ?_)|(refine nxV ?_)|(refine nSS ?_)|(refine nS1 fun _=>?_)|(refine nMM ?_)|(refine nM1 fun _=>?_)|(show YG _ _ _ _ _ _ _ _;refine YG.mk (fun hb=>by(try(have hc:=And.left hb;have hb:=And.right hb;rw[hc]));(try rw[hb]);first|exact(zcA (q1) ⟨rfl,rfl,rfl⟩)|exact(zcA (q2) ⟨rfl,rfl,rfl⟩)|exact(zcA (q3) ⟨rfl,rfl,rfl⟩)|exact(zcA (q4) ⟨rfl,rfl,rfl⟩)|exact V.y vAuto) ?_)|(refine nxG ?_)|(refine G.mA 1 [.go 0,.go 1,.go 2,.go 3,.go 6,.go 7,.go 8,.go 9,.go 10,.go 14,.go 15,.go 16,.go 17,.go 20,.go 21,.go 22,.go 23,.go 24,.go 4,.go 5,.go 11,.go 12,.go 13,.go 18,.go 19,.go 25,.go 26,.go 27,.go 28,.go 29] ?_)|(refine nxX ?_)|(refine G.cN rfl (fun hc=>?_) (fun hc=>?_)<;>(try first|exact hc.elim|(exfalso;omega))))
 exact X.ret (vs:=[_]) rfl ⟨⟨_,_,_,_,rfl,(by exact memA),lenA,by decide +kernel,rfl⟩,rfl⟩ rfl rE
theorem plat_c {a b:Int} (h : -5400000≤a∧a≤b∧b≤5400000):Cont Tryz.prog 120 [arcV a b] (.bool true):=fun w=>by
 refine enter0 Tryz.func120 rfl rfl rfl ?_
 repeat' (first|(refine nxN ?_)|(refine nxV ?_)|(refine nSS ?_)|(refine nS1 fun _=>?_)|(refine nMM ?_)|(refine nM1 fun _=>?_)|(refine nxG ?_)|(refine nxX ?_)|(refine G.cN rfl (fun hc=>?_) (fun hc=>?_)<;>(try first|exact hc.elim|(exfalso;omega))))
 exact X.ret (vs:=[_]) rfl ⟨rfl,rfl⟩ rfl (fun w hw=>⟨ret_bool (by simp;omega),hw.ext⟩)
theorem pev_c:Cont Tryz.prog 210 [] (arcV (-10800000) 10800000):=fun w=>by
 refine enter0 Tryz.func210 rfl rfl rfl ?_
 repeat' (first|(refine nxN ?_)|(refine nxV ?_)|(refine nSS ?_)|(refine nS1 fun _=>?_)|(refine nMM ?_)|(refine nM1 fun _=>?_)|(refine nxG ?_)|(refine nxX ?_)|(refine G.cN rfl (fun hc=>?_) (fun hc=>?_)<;>(try first|exact hc.elim|(exfalso;omega))))
 exact X.ret (vs:=[_]) rfl ⟨⟨_,_,_,_,rfl,(by exact memA),lenA,by decide +kernel,rfl⟩,rfl⟩ rfl rE
theorem pall_c {c d:Int} (h:d-c<21600000):Cont Tryz.prog 170 [arcV c d] (.bool false):=fun w=>by
 have q1:=pev_c
 refine enter0 Tryz.func170 rfl rfl rfl ?_
 repeat' (first|(refine nxN ?_)|(show YK _ _ _ _ _ _ _;first|refine YK.mk (zcA (q1) rfl) ?_)|(refine nxV ?_)|(refine nSS ?_)|(refine nS1 fun _=>?_)|(refine nMM ?_)|(refine nM1 fun _=>?_)|(show YG _ _ _ _ _ _ _ _;refine YG.mk (fun hb=>by(try(have hc:=And.left hb;have hb:=And.right hb;rw[hc]));(try rw[hb]);first|exact(zcA (q1) rfl)|exact V.y vAuto) ?_)|(refine nxG ?_)|(refine G.mA 1 [.go 0,.go 1,.go 2,.go 3] ?_)|(refine nxX ?_)|(refine G.cN rfl (fun hc=>?_) (fun hc=>?_)<;>(try first|exact hc.elim|(exfalso;omega))))
 refine X.ret (vs:=[_]) rfl ⟨rfl,rfl⟩ rfl (fun w hw=>⟨ret_bool ?_,hw.ext⟩)
 simp[eqCells,vEq]
 omega
theorem plon_c {c d:Int} (h : -10800000≤c∧c<10800000∧c≤d∧d-c<21600000):Cont Tryz.prog 121 [arcV c d] (.bool true):=fun w=>by
 have q1:=pall_c h.2.2.2
 refine enter0 Tryz.func121 rfl rfl rfl ?_
 repeat' (first|(refine nxN ?_)|(show YK _ _ _ _ _ _ _;first|refine YK.mk (zcA (q1) ⟨rfl,rfl⟩) ?_)|(refine nxV ?_)|(refine nSS ?_)|(refine nS1 fun _=>?_)|(refine nMM ?_)|(refine nM1 fun _=>?_)|(show YG _ _ _ _ _ _ _ _;refine YG.mk (fun hb=>by(try(have hc:=And.left hb;have hb:=And.right hb;rw[hc]));(try rw[hb]);first|exact(zcA (q1) ⟨rfl,rfl⟩)|exact V.y vAuto) ?_)|(refine nxG ?_)|(refine nxX ?_)|(refine G.cN rfl (fun hc=>?_) (fun hc=>?_)<;>(try first|exact hc.elim|(exfalso;omega))))
 exact X.ret (vs:=[_]) rfl ⟨rfl,rfl⟩ rfl (fun w hw=>⟨ret_bool (by simp;omega),hw.ext⟩)
theorem pbey_c {c d n:Int} (h1 : -21600000≤c∧c≤21600000) (h2 : -21600000≤n∧n≤21600000):Cont Tryz.prog 219 [arcV c d,.int .i64 n] (.int .i64 (TT.turnI (n-c))):=fun w=>by
 have q1:=wrap_c (n:=n-c) (by omega)
 refine enter0 Tryz.func219 rfl rfl rfl ?_
 repeat' (first|(refine nxN ?_)|(show YK _ _ _ _ _ _ _;first|refine YK.mk (zcA (q1) ⟨rfl,rfl⟩) ?_)|(refine nxV ?_)|(refine nSS ?_)|(refine nS1 fun _=>?_)|(refine nMM ?_)|(refine nM1 fun _=>?_)|(show YG _ _ _ _ _ _ _ _;refine YG.mk (fun hb=>by(try(have hc:=And.left hb;have hb:=And.right hb;rw[hc]));(try rw[hb]);first|exact(zcA (q1) ⟨rfl,rfl⟩)|exact V.y vAuto) ?_)|(refine nxG ?_)|(refine nxX ?_)|(refine G.cN rfl (fun hc=>?_) (fun hc=>?_)<;>(try first|exact hc.elim|(exfalso;omega))))
 exact X.ret1
theorem gfits_c {n:Int} (h : -1099511627776≤n∧n≤1099511627776):Cont Tryz.prog 87 [.int .i64 n] (.bool true):=fun w=>by
 refine enter0 Tryz.func87 rfl rfl rfl ?_
 repeat' (first|(refine nxV ?_)|(refine nSS ?_)|(refine nS1 fun _=>?_)|(refine nMM ?_)|(refine nM1 fun _=>?_)|(refine nxG ?_)|(refine nxX ?_)|(refine G.cN rfl (fun hc=>?_) (fun hc=>?_)<;>(try first|exact hc.elim|(exfalso;omega))))
 refine X.ret (vs:=[_]) rfl ⟨rfl,rfl⟩ rfl (fun w hw=>⟨ret_bool ?_,hw.ext⟩)
 simp[h.1,h.2]
theorem gval_c {a b:Int} (h : -1099511627776≤a∧a≤b∧b≤1099511627776):Cont Tryz.prog 37 [arcV a b] (.bool true):=fun w=>by
 have q1:=gfits_c (n:=a) (by omega)
 have q2:=gfits_c (n:=b) (by omega)
 refine enter0 Tryz.func37 rfl rfl rfl ?_
 repeat' (first|(show YK _ _ _ _ _ _ _;first|refine YK.mk (zcA (q1) ⟨rfl,rfl⟩) ?_|refine YK.mk (zcA (q2) ⟨rfl,rfl⟩) ?_)|(refine nxV ?_)|(refine nSS ?_)|(refine nS1 fun _=>?_)|(refine nMM ?_)|(refine nM1 fun _=>?_)|(show YG _ _ _ _ _ _ _ _;refine YG.mk (fun hb=>by(try(have hc:=And.left hb;have hb:=And.right hb;rw[hc]));(try rw[hb]);first|exact(zcA (q1) ⟨rfl,rfl⟩)|exact(zcA (q2) ⟨rfl,rfl⟩)|exact V.y vAuto) ?_)|(refine nxG ?_)|(refine nxX ?_)|(refine G.cN rfl (fun hc=>?_) (fun hc=>?_)<;>(try first|exact hc.elim|(exfalso;omega))))
 refine X.ret (vs:=[_]) rfl ⟨rfl,rfl⟩ rfl (fun w hw=>⟨ret_bool ?_,hw.ext⟩)
 simp[h.2.1]
def lonOk (c d:Int):Prop:=(c = -10800000∧d=10800000)∨(-10800000≤c∧c<10800000∧c≤d∧d-c<21600000)
theorem pallT_c {c d:Int} (h:c = -10800000∧d=10800000):Cont Tryz.prog 170 [arcV c d] (.bool true):=fun w=>by
 have q1:=pev_c
 refine enter0 Tryz.func170 rfl rfl rfl ?_
 repeat' (first|(refine nxN ?_)|(show YK _ _ _ _ _ _ _;first|refine YK.mk (zcA (q1) rfl) ?_)|(refine nxV ?_)|(refine nSS ?_)|(refine nS1 fun _=>?_)|(refine nMM ?_)|(refine nM1 fun _=>?_)|(show YG _ _ _ _ _ _ _ _;refine YG.mk (fun hb=>by(try(have hc:=And.left hb;have hb:=And.right hb;rw[hc]));(try rw[hb]);first|exact(zcA (q1) rfl)|exact V.y vAuto) ?_)|(refine nxG ?_)|(refine G.mA 1 [.go 0,.go 1,.go 2,.go 3] ?_)|(refine nxX ?_)|(refine G.cN rfl (fun hc=>?_) (fun hc=>?_)<;>(try first|exact hc.elim|(exfalso;omega))))
 refine X.ret (vs:=[_]) rfl ⟨rfl,rfl⟩ rfl (fun w hw=>⟨ret_bool ?_,hw.ext⟩)
 simp[eqCells,vEq]
 omega
theorem plonT_c {c d:Int} (h:c = -10800000∧d=10800000):Cont Tryz.prog 121 [arcV c d] (.bool true):=fun w=>by
 have q1:=pallT_c h
 obtain⟨bb,hbb⟩:∃bb:Bool,bb=true:=⟨_,rfl⟩
 rw[←hbb] at q1 ⊢
 refine enter0 Tryz.func121 rfl rfl rfl ?_
 repeat' (first|(refine nxN ?_)|(show YK _ _ _ _ _ _ _;first|refine YK.mk (zcA (q1) ⟨rfl,rfl⟩) ?_)|(refine nxV ?_)|(refine nSS ?_)|(refine nS1 fun _=>?_)|(refine nMM ?_)|(refine nM1 fun _=>?_)|(show YG _ _ _ _ _ _ _ _;refine YG.mk (fun hb=>by(try(have hc:=And.left hb;have hb:=And.right hb;rw[hc]));(try rw[hb]);first|exact(zcA (q1) ⟨rfl,rfl⟩)|exact V.y vAuto) ?_)|(refine nxG ?_)|(refine nxX ?_)|(refine G.cN rfl (fun hc=>?_) (fun hc=>?_)<;>(try first|exact hc.elim|(exfalso;omega))))
 all_goals exact X.ret (vs:=[_]) rfl ⟨rfl,rfl⟩ rfl (fun w hw=>⟨ret_bool (by simp[hbb]),hw.ext⟩)
theorem plon2_c {c d:Int} (h:lonOk c d):Cont Tryz.prog 121 [arcV c d] (.bool true):=by
 rcases h with h|h
 ·exact plonT_c h
 ·exact plon_c h
theorem pval2_c {a b c d:Int} (h : -5400000≤a∧a≤b∧b≤5400000) (hl:lonOk c d):Cont Tryz.prog 64 [v4 a b c d] (.bool true):=fun w=>by
 have q1:=plat_c h
 have q2:=plon2_c hl
 refine enter0 Tryz.func64 rfl rfl rfl ?_
 repeat' (first|(refine nxN ?_)|(show VK _ _ _ _ _ ⟨_,.load 42 _,_,_,_,_⟩ _;refine VK.mk (zlP (k:=2) (by rfl) (by exact memA) (by decide +kernel) (by rfl)) ?_)|(show YK _ _ _ _ _ ⟨_,.load 42 _,_,_,_,_⟩ _;refine YK.ofV (zlP (k:=2) (by rfl) (by exact memA) (by decide +kernel) (by rfl)) ?_)|(show VG _ _ _ _ _ _ ⟨_,.load 42 _,_,_,_,_⟩ _;refine VG.mk (fun hb=>by(try rw[hb]);exact zlP (k:=2) (by rfl) (by exact memA) (by decide +kernel) (by rfl)) ?_)|(show YG _ _ _ _ _ _ ⟨_,.load 42 _,_,_,_,_⟩ _;refine YG.mk (fun hb=>by(try rw[hb]);exact V.y (zlP (k:=2) (by rfl) (by exact memA) (by decide +kernel) (by rfl))) ?_)|(show YK _ _ _ _ _ _ _;first|refine YK.mk (zcA (q1) ⟨rfl,rfl⟩) ?_|refine YK.mk (zcA (q2) ⟨rfl,rfl⟩) ?_)|(refine nxV ?_)|(refine nSS ?_)|(refine nS1 fun _=>?_)|(refine nMM ?_)|(refine nM1 fun _=>?_)|(show YG _ _ _ _ _ _ _ _;refine YG.mk (fun hb=>by(try(have hc:=And.left hb;have hb:=And.right hb;rw[hc]));(try rw[hb]);first|exact(zcA (q1) ⟨rfl,rfl⟩)|exact(zcA (q2) ⟨rfl,rfl⟩)|exact V.y vAuto) ?_)|(refine nxG ?_)|(refine nxX ?_)|(refine G.cN rfl (fun hc=>?_) (fun hc=>?_)<;>(try first|exact hc.elim|(exfalso;omega))))
 exact X.ret1
abbrev bxP (b:Nat):Value:=.pointer (some ⟨b,0,none⟩)
end Go.Proofs.YtjmdeplmenbmmaaGreat
