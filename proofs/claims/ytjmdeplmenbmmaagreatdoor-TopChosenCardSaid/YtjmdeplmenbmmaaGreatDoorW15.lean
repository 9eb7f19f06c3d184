/- Joined texts: Cos, CAt, Crl, Ita. -/
import Derived.Test.YtjmdeplmenbmmaaGreatDoorW14
import Derived.Test.YtjmdeplmenbmmaaGreatDoorV08
import Derived.RangeFuncNested
import Derived.RangeFuncBound
import Derived.RangeFuncCalls
import Derived.RangeFuncLeaves
import Derived.RangeFuncBox
import Derived.Shelf.Abstract
import Derived.Shelf.RegionOpen
import Derived.WalkKit
import Derived.OwnWalkIn
import Derived.TacticsInMore
import Derived.LoopNIn
import Derived.LoopIn
import Derived.Maps.AppendAt
import Derived.Test.YtjmdeplmenbmmaaGreatDoorChecked
set_option linter.unusedVariables false
set_option maxHeartbeats 8000000
namespace Go.Proofs.YtjmdeplmenbmmaaGreatDoor
open Go.RowKit
structure CosW (b:Nat) (w:World):Prop where
 blk:w.heap[b]?=some (.cells #[.int .i64 0] 283 (0,0))
theorem CosW.keep {b:Nat} {w w':World} (h:CosW b w) (hw:Below w.heap.size w w'):CosW b w' :=
 ⟨(hw.block b (Array.getElem?_eq_some_iff.1 h.blk).1).trans h.blk⟩
theorem CosW.cell {b:Nat} {w:World} (h:CosW b w):∀k v,[Value.int .i64 0][k]?=some v→w.cell? ⟨b,k,none⟩=some v:=fun k v hk=>by
 have:=cell_of_row w b k #[.int .i64 0] _ (0,0) h.blk
 rw[this]
 simpa using hk
theorem CosW.ofSt {w0 w:World} {H:List Hl} {b:Nat} (hw:St w0 H w) (hm:Hl.blk b 283 [.int .i64 0]∈H):CosW b w:=⟨hw.blk hm⟩
theorem okeep_c {b:Nat} {lo hi:Int} : ContIn Tryz.prog (CosW b) 300 [ptK b,arcV lo hi,.int .i64 0] (arcV lo hi):=fun w hs=>by
 have hcl:=hs.cell
 refine enter0 Tryz.func300 rfl rfl rfl ?_
 repeat' (first|(refine nxN ?_)|(show YK _ _ _ _ _ ⟨_,.load 27 _,_,_,_,_⟩ _;refine YK.ofV (y_loadX (by rfl) (hcl _ _ (by rfl)) (by decide +kernel)) ?_)|(show RS _ _ _ _ _ _ _ (⟨none,.store 27 _ _,_,_,_,_⟩::_);refine RS.storeSame (b:=b) ?_ (by rfl) (by rfl) (fun w' hw'=>(hs.keep hw'.ext).blk) (by rfl) (by decide +kernel))|(refine nxV ?_)|(refine nSS ?_)|(refine nS1 fun _=>?_)|(refine nxX ?_)|(refine G.cN rfl (fun hc=>?_) (fun hc=>?_)<;>(try first|exact hc.elim|(exfalso;omega))))
 all_goals exact X.ret (vs:=[_]) rfl ⟨⟨_,_,_,_,rfl,(by exact memA),lenA,by decide +kernel,rfl⟩,rfl⟩ rfl rE
theorem osin_c {b:Nat} {lo hi:Int} (h:validI lo hi=true):ContIn Tryz.prog (CosW b) 298 [ptK b,arcV lo hi] (arcV (TT.encl lo hi).1 (TT.encl lo hi).2):=fun w hs=>by
 have q1:=Sin_c h
 generalize TT.encl lo hi=r at *
 refine enter0 Tryz.func298 rfl rfl rfl ?_
 repeat' (first|(show YK _ _ _ _ _ ⟨_,.call { callee:=.value (.func 300),args:=_,argTypes:=_ },_,_,_,_⟩ _;refine YK.mk (zcI (okeep_c) (fun w' hw'=>hs.keep hw'.ext) ⟨rfl,rfl,rfl,rfl⟩ (by decide +kernel)) ?_)|(show YK _ _ _ _ _ _ _;refine YK.mk (zcA (q1) ⟨rfl,rfl⟩) ?_)|(refine nxV ?_)|(refine nSS ?_)|(refine nS1 fun _=>?_)|(refine nxX ?_)|done)
 all_goals exact X.ret (vs:=[_]) rfl ⟨⟨_,_,_,_,rfl,(by exact memA),lenA,by decide +kernel,rfl⟩,rfl⟩ rfl rE
theorem ocos_c {b:Nat} {lo hi:Int} (h:validI lo hi=true):ContIn Tryz.prog (CosW b) 299 [ptK b,arcV lo hi] (arcV (TT.cosE lo hi).1 (TT.cosE lo hi).2):=fun w hs=>by
 have q1:=Cos_c h
 generalize TT.cosE lo hi=r at *
 refine enter0 Tryz.func299 rfl rfl rfl ?_
 repeat' (first|(show YK _ _ _ _ _ ⟨_,.call { callee:=.value (.func 300),args:=_,argTypes:=_ },_,_,_,_⟩ _;refine YK.mk (zcI (okeep_c) (fun w' hw'=>hs.keep hw'.ext) ⟨rfl,rfl,rfl,rfl⟩ (by decide +kernel)) ?_)|(show YK _ _ _ _ _ _ _;refine YK.mk (zcA (q1) ⟨rfl,rfl⟩) ?_)|(refine nxV ?_)|(refine nSS ?_)|(refine nS1 fun _=>?_)|(refine nxX ?_)|done)
 all_goals exact X.ret (vs:=[_]) rfl ⟨⟨_,_,_,_,rfl,(by exact memA),lenA,by decide +kernel,rfl⟩,rfl⟩ rfl rE
theorem omul_c {b:Nat} {p q:Int×Int} (hp:one31 p) (hq:one31 q):ContIn Tryz.prog (CosW b) 257 [ptK b,arcV p.1 p.2,arcV q.1 q.2] (arcV (TT.mulE p q).1 (TT.mulE p q).2):=fun w hs=>by
 have q1:=fmul_c (p:=p) (q:=q) hp hq
 generalize TT.mulE p q=r at *
 refine enter0 Tryz.func257 rfl rfl rfl ?_
 repeat' (first|(show YK _ _ _ _ _ ⟨_,.call { callee:=.value (.func 300),args:=_,argTypes:=_ },_,_,_,_⟩ _;refine YK.mk (zcI (okeep_c) (fun w' hw'=>hs.keep hw'.ext) ⟨rfl,rfl,rfl,rfl⟩ (by decide +kernel)) ?_)|(show YK _ _ _ _ _ _ _;refine YK.mk (zcA (q1) ⟨rfl,rfl,rfl⟩) ?_)|(refine nxV ?_)|(refine nSS ?_)|(refine nS1 fun _=>?_)|(refine nxX ?_)|done)
 all_goals exact X.ret (vs:=[_]) rfl ⟨⟨_,_,_,_,rfl,(by exact memA),lenA,by decide +kernel,rfl⟩,rfl⟩ rfl rE
theorem oadd_c {b:Nat} {p q:Int×Int} (hp:two31 p) (hq:two31 q) (h : -2147483648≤(TT.addE p q).1∧(TT.addE p q).2≤2147483648):ContIn Tryz.prog (CosW b) 256 [ptK b,arcV p.1 p.2,arcV q.1 q.2] (arcV (TT.addE p q).1 (TT.addE p q).2):=fun w hs=>by
 have q1:=fadd_c (a:=p.1) (b:=p.2) (c:=q.1) (d:=q.2) hp hq h
 change Cont _ _ _ (.tuple [arcV (TT.addE p q).1 (TT.addE p q).2,.int .i64 0].toArray) at q1
 generalize TT.addE p q=r at *
 refine enter0 Tryz.func256 rfl rfl rfl ?_
 repeat' (first|(show YK _ _ _ _ _ ⟨_,.call { callee:=.value (.func 300),args:=_,argTypes:=_ },_,_,_,_⟩ _;refine YK.mk (zcI (okeep_c) (fun w' hw'=>hs.keep hw'.ext) ⟨rfl,rfl,rfl,rfl⟩ (by decide +kernel)) ?_)|(show YK _ _ _ _ _ _ _;refine YK.mk (zcA (q1) ⟨rfl,rfl,rfl⟩) ?_)|(refine nxV ?_)|(refine nSS ?_)|(refine nS1 fun _=>?_)|(refine nxX ?_)|done)
 all_goals exact X.ret (vs:=[_]) rfl ⟨⟨_,_,_,_,rfl,(by exact memA),lenA,by decide +kernel,rfl⟩,rfl⟩ rfl rE
theorem par_built (s1 s2 c1 c2 t1 t2 d1 d2 k1 k2 e1 e2:Int):Tryz.prog.built 285 [(0,.agg [.int .i64 s1,.int .i64 s2].toArray),(1,.agg [.int .i64 c1,.int .i64 c2].toArray),(2,.agg [.int .i64 t1,.int .i64 t2].toArray),(3,.agg [.int .i64 d1,.int .i64 d2].toArray),(4,.agg [.int .i64 k1,.int .i64 k2].toArray),(5,.agg [.int .i64 e1,.int .i64 e2].toArray)]=some [.int .i64 s1,.int .i64 s2,.int .i64 c1,.int .i64 c2,.int .i64 t1,.int .i64 t2,.int .i64 d1,.int .i64 d2,.int .i64 k1,.int .i64 k2,.int .i64 e1,.int .i64 e2].toArray:=by kernel_rfl
abbrev v12 (s1 s2 c1 c2 t1 t2 d1 d2 k1 k2 e1 e2:Int):Value:=.agg [.int .i64 s1,.int .i64 s2,.int .i64 c1,.int .i64 c2,.int .i64 t1,.int .i64 t2,.int .i64 d1,.int .i64 d2,.int .i64 k1,.int .i64 k2,.int .i64 e1,.int .i64 e2].toArray
theorem oof_c {b:Nat} {l1 l2 t1 t2 k1 k2:Int} (v1:validI l1 l2=true) (v2:validI t1 t2=true) (v3:validI k1 k2=true):ContIn Tryz.prog (CosW b) 255 [ptK b,v6 l1 l2 t1 t2 k1 k2]
  (v12 (TT.encl l1 l2).1 (TT.encl l1 l2).2 (TT.cosE l1 l2).1 (TT.cosE l1 l2).2 (TT.encl t1 t2).1 (TT.encl t1 t2).2 (TT.cosE t1 t2).1 (TT.cosE t1 t2).2 (TT.encl k1 k2).1 (TT.encl k1 k2).2 (TT.cosE k1 k2).1 (TT.cosE k1 k2).2):=fun w hs=>by
 refine enter0 Tryz.func255 rfl rfl rfl ?_
 repeat' (first|(show YK _ _ _ _ _ ⟨_,.call { callee:=.value (.func 298),args:=_,argTypes:=_ },_,_,_,_⟩ _;refine YK.mk (zcI (osin_c (by assumption)) (fun w' hw'=>hs.keep hw'.ext) ⟨rfl,rfl,rfl⟩ (by decide +kernel)) ?_)|(show YK _ _ _ _ _ ⟨_,.call { callee:=.value (.func 299),args:=_,argTypes:=_ },_,_,_,_⟩ _;refine YK.mk (zcI (ocos_c (by assumption)) (fun w' hw'=>hs.keep hw'.ext) ⟨rfl,rfl,rfl⟩ (by decide +kernel)) ?_)|(show VK _ _ _ _ _ ⟨_,.load 34 _,_,_,_,_⟩ _;refine VK.mk (zlP (k:=2) (by rfl) (by exact memA) (by decide +kernel) (by rfl)) ?_)|(show VK _ _ _ _ _ ⟨_,.build 285 _,_,_,_,_⟩ _;refine VK.mk (y_build (parts:=[(0,_),(1,_),(2,_),(3,_),(4,_),(5,_)]) (vs:=[_,_,_,_,_,_]) ⟨rfl,rfl,rfl,rfl,rfl,rfl,rfl⟩ (par_built _ _ _ _ _ _ _ _ _ _ _ _)) ?_)|(refine nxV ?_)|(refine nSS ?_)|(refine nS1 fun _=>?_)|(refine nMM ?_)|(refine G.mA 1 [.go 0,.go 1,.go 2,.go 4,.go 5,.go 6,.go 8,.go 9,.go 10,.go 12,.go 13,.go 14,.go 16,.go 17,.go 18,.go 20,.go 21,.go 22,.go 3,.go 7,.go 11,.go 15,.go 19,.go 23,.go 24,.go 25] ?_)|(refine nxX ?_)|done)
 all_goals exact X.ret (vs:=[_]) rfl ⟨⟨_,_,_,_,rfl,(by exact memA),lenA,by decide +kernel,rfl⟩,rfl⟩ rfl rE
theorem Asin2_c {a b n m:Int} (h:two31 (a,b)) (hm0:(TT.meetO (a,b)).1≤(TT.meetO (a,b)).2) (h1:TT.IsAsin (TT.meetO (a,b)).1 n) (h2:TT.IsAsin (-(TT.meetO (a,b)).2) m):Cont Tryz.prog 109 [arcV a b] (.tuple [arcV n (-m),.int .i64 0].toArray):=fun w=>by
 unfold TT.meetO at *
 dsimp only at *
 have q1:=fvalid_t (lo:=a) (hi:=b) (by omega)
 have q2:=part_c (a:=a) (b:=b) (lo:=-1073741824) (hi:=1073741824)
 rw[decide_eq_true hm0] at q2
 have q3:=asin_c h1
 have q4:=asin_c h2
 have hm:=h2.1
 have hm2:=h2.2.1
 refine enter0 Tryz.func109 rfl rfl rfl ?_
 repeat' (first|(refine G.mixedM 6 [.go 0,.go 1,.go 3,.go 4,.go 5,.go 2,.go 6,.go 7,.go 8,.go 9,.go 10] [false,true] ?_;dsimp only[maskH])|(show YK _ _ _ _ _ _ _;first|refine YK.mk (zcA (q1) ⟨rfl,rfl⟩) ?_|refine YK.mk (zcA (q2) ⟨rfl,rfl,rfl,rfl⟩) ?_|refine YK.mk (zcA (q3) ⟨rfl,rfl⟩) ?_|refine YK.mk (zcA (q4) ⟨rfl,rfl⟩) ?_)|(refine nxV ?_)|(refine nSS ?_)|(refine nS1 fun _=>?_)|(refine nMM ?_)|(refine nxX ?_)|(refine G.cN rfl (fun hc=>?_) (fun hc=>?_)<;>(try first|exact hc.elim|(exfalso;omega))))
 exact X.ret (vs:=[_,_]) rfl ⟨⟨_,_,_,_,rfl,(by exact memA),lenA,by decide +kernel,rfl⟩,rfl,rfl⟩ rfl rE
theorem oalt_c {l1 l2 t1 t2 k1 k2 n m:Int} (hl : -5400000≤l1∧l1≤l2∧l2≤5400000) (ht : -5400000≤t1∧t1≤t2∧t2≤5400000) (hk : -100000000≤k1∧k1≤k2∧k2≤100000000)
  (hm0:(TT.meetO (sideS (l1,l2) (t1,t2) (k1,k2))).1≤(TT.meetO (sideS (l1,l2) (t1,t2) (k1,k2))).2) (i1:TT.IsAsin (TT.meetO (sideS (l1,l2) (t1,t2) (k1,k2))).1 n) (i2:TT.IsAsin (-(TT.meetO (sideS (l1,l2) (t1,t2) (k1,k2))).2) m) :
  Cont Tryz.prog 211 [v6 l1 l2 t1 t2 k1 k2] (.tuple [arcV n (-m),.int .i64 0].toArray):=fun w=>by
 have o1:=TT.encl_ord hl.2.1
 have o2:=TT.encl_ord ht.2.1
 have o3:=TT.cosE_ord hl.2.1
 have o4:=TT.cosE_ord ht.2.1
 have o5:=TT.cosE_ord hk.2.1
 have o6:=TT.mulE_bd o1 o2
 have o7:=TT.mulE_bd o3 o4
 have o8:=TT.mulE_bd o7 o5
 have q1:=fun b=>oof_c (b:=b) (valI (lo:=l1) (hi:=l2) (by omega)) (valI (lo:=t1) (hi:=t2) (by omega)) (valI (lo:=k1) (hi:=k2) (by omega))
 have w1:=two_of o6
 have w2:=two_of o8
 have w3 : -2147483648≤(TT.addE (TT.mulE (TT.encl l1 l2) (TT.encl t1 t2)) (TT.mulE (TT.mulE (TT.cosE l1 l2) (TT.cosE t1 t2)) (TT.cosE k1 k2))).1∧(TT.addE (TT.mulE (TT.encl l1 l2) (TT.encl t1 t2)) (TT.mulE (TT.mulE (TT.cosE l1 l2) (TT.cosE t1 t2)) (TT.cosE k1 k2))).2≤2147483648:=by
  unfold TT.addE;dsimp only;omega
 have w4:two31 (sideS (l1,l2) (t1,t2) (k1,k2)):=by unfold sideS TT.addE;dsimp only;omega
 have q2:=Asin2_c (a:=(sideS (l1,l2) (t1,t2) (k1,k2)).1) (b:=(sideS (l1,l2) (t1,t2) (k1,k2)).2) w4 hm0 i1 i2
 clear i1 i2 hm0 w4
 unfold sideS at *
 dsimp only at q2
 refine enter0 Tryz.func211 rfl rfl rfl ?_
 repeat' (first|(refine nxN ?_)|(show YK _ _ _ _ _ ⟨_,.call { callee:=.value (.func 255),args:=_,argTypes:=_ },_,_,_,_⟩ _;refine YK.mk (zcI (q1 _) (fun w' hw'=>CosW.ofSt hw' (by exact memA)) ⟨rfl,rfl,rfl⟩ (by decide +kernel)) ?_)|(show YK _ _ _ _ _ ⟨_,.call { callee:=.value (.func 257),args:=_,argTypes:=_ },_,_,_,_⟩ _;refine YK.mk (zcI (omul_c (by assumption) (by assumption)) (fun w' hw'=>CosW.ofSt hw' (by exact memA)) ⟨rfl,rfl,rfl,rfl⟩ (by decide +kernel)) ?_)|(show YK _ _ _ _ _ ⟨_,.call { callee:=.value (.func 256),args:=_,argTypes:=_ },_,_,_,_⟩ _;refine YK.mk (zcI (oadd_c (by assumption) (by assumption) (by assumption)) (fun w' hw'=>CosW.ofSt hw' (by exact memA)) ⟨rfl,rfl,rfl,rfl⟩ (by decide +kernel)) ?_)|(show VK _ _ _ _ _ ⟨_,.load 92 _,_,_,_,_⟩ _;refine VK.mk (zlP (k:=2) (by rfl) (by exact memA) (by decide +kernel) (by rfl)) ?_)|(show YK _ _ _ _ _ ⟨_,.load 92 _,_,_,_,_⟩ _;refine YK.ofV (zlP (k:=2) (by rfl) (by exact memA) (by decide +kernel) (by rfl)) ?_)|(show YK _ _ _ _ _ _ _;refine YK.mk (zcA (q2) ⟨rfl,rfl⟩) ?_)|(refine nxV ?_)|(refine nSS ?_)|(refine nS1 fun _=>?_)|(refine nMM ?_)|(refine nM1 fun _=>?_)|(refine G.mA 3 [.go 0,.go 1,.go 2,.go 3,.go 4,.go 5,.go 7,.go 8,.go 9,.go 10,.go 11,.go 12,.go 14,.go 15,.pend 18,.go 6,.go 13,.go 16,.go 17,.done,.go 19] ?_)|(refine nxX ?_)|(refine G.cN rfl (fun hc=>?_) (fun hc=>?_)<;>(try first|exact hc.elim|(exfalso;omega))))
 all_goals first
  |(exfalso;simp at hc;omega)
  |exact X.ret (vs:=[_,_]) rfl ⟨⟨_,_,_,_,rfl,(by exact memA),lenA,by decide +kernel,rfl⟩,rfl,rfl⟩ rfl rE
theorem olat_c {a b:Int} (h : -5400000≤a∧a≤b∧b≤5400000):Cont Tryz.prog 254 [arcV a b] (.bool true):=fun w=>by
 have q1:=gval_c (a:=a) (b:=b) (by omega)
 refine enter0 Tryz.func254 rfl rfl rfl ?_
 repeat' (first|(show YK _ _ _ _ _ _ _;refine YK.mk (zcA (q1) ⟨rfl,rfl⟩) ?_)|(refine nxV ?_)|(refine nSS ?_)|(refine nS1 fun _=>?_)|(refine nxG ?_)|(refine nxX ?_)|done)
 all_goals exact X.ret (vs:=[_]) rfl ⟨rfl,rfl⟩ rfl (fun w hw=>⟨ret_bool (by simp;omega),hw.ext⟩)
theorem ovalid_c {l1 l2 t1 t2 k1 k2:Int} (hl : -5400000≤l1∧l1≤l2∧l2≤5400000) (ht : -5400000≤t1∧t1≤t2∧t2≤5400000) (hk : -100000000≤k1∧k1≤k2∧k2≤100000000):Cont Tryz.prog 210 [v6 l1 l2 t1 t2 k1 k2] (.bool true):=fun w=>by
 have q1:=olat_c hl
 have q2:=olat_c ht
 have q3:=gval_c (a:=k1) (b:=k2) (by omega)
 refine enter0 Tryz.func210 rfl rfl rfl ?_
 repeat' (first|(show YK _ _ _ _ _ ⟨_,.load 34 _,_,_,_,_⟩ _;refine YK.ofV (zlP (k:=2) (by rfl) (by exact memA) (by decide +kernel) (by rfl)) ?_)|(show YK _ _ _ _ _ _ _;first|refine YK.mk (zcA (q1) ⟨rfl,rfl⟩) ?_|refine YK.mk (zcA (q2) ⟨rfl,rfl⟩) ?_|refine YK.mk (zcA (q3) ⟨rfl,rfl⟩) ?_)|(refine nxV ?_)|(refine nSS ?_)|(refine nS1 fun _=>?_)|(refine nxX ?_)|done)
 all_goals exact X.ret (vs:=[_]) rfl ⟨rfl,rfl⟩ rfl (fun w hw=>⟨ret_bool (by simp),hw.ext⟩)
theorem oAlt_c {l1 l2 t1 t2 k1 k2 n m:Int} (hl : -5400000≤l1∧l1≤l2∧l2≤5400000) (ht : -5400000≤t1∧t1≤t2∧t2≤5400000) (hk : -100000000≤k1∧k1≤k2∧k2≤100000000)
  (hm0:(TT.meetO (sideS (l1,l2) (t1,t2) (k1,k2))).1≤(TT.meetO (sideS (l1,l2) (t1,t2) (k1,k2))).2) (i1:TT.IsAsin (TT.meetO (sideS (l1,l2) (t1,t2) (k1,k2))).1 n) (i2:TT.IsAsin (-(TT.meetO (sideS (l1,l2) (t1,t2) (k1,k2))).2) m) :
  Cont Tryz.prog 154 [v6 l1 l2 t1 t2 k1 k2] (.tuple [arcV n (-m),.int .i64 0].toArray):=fun w=>by
 have q1:=ovalid_c hl ht hk
 have q2:=oalt_c hl ht hk hm0 i1 i2
 clear i1 i2 hm0
 refine enter0 Tryz.func154 rfl rfl rfl ?_
 repeat' (first|(show YK _ _ _ _ _ _ _;first|refine YK.mk (zcA (q1) ⟨rfl,rfl⟩) ?_|refine YK.mk (zcA (q2) ⟨rfl,rfl⟩) ?_)|(refine nxV ?_)|(refine nSS ?_)|(refine nS1 fun _=>?_)|(refine nxX ?_)|(refine G.cN rfl (fun hc=>?_) (fun hc=>?_)<;>(try first|exact hc.elim|(exfalso;omega))))
 all_goals exact X.ret (vs:=[_,_]) rfl ⟨⟨_,_,_,_,rfl,(by exact memA),lenA,by decide +kernel,rfl⟩,rfl,rfl⟩ rfl rE
theorem ckeptA_c {b:Nat} {lo hi:Int} : ContIn Tryz.prog (ChnW b) 117 [ptK b,arcV lo hi,.int .i64 0] (arcV lo hi):=fun w hs=>by
 have hcl:=hs.cell
 refine enter0 Tryz.func117 rfl rfl rfl ?_
 repeat' (first|(refine nxN ?_)|(show YK _ _ _ _ _ ⟨_,.load 27 _,_,_,_,_⟩ _;refine YK.ofV (y_loadX (by rfl) (hcl _ _ (by rfl)) (by decide +kernel)) ?_)|(show RS _ _ _ _ _ _ _ (⟨none,.store 27 _ _,_,_,_,_⟩::_);refine RS.storeSame (b:=b) ?_ (by rfl) (by rfl) (fun w' hw'=>(hs.keep hw'.ext).blk) (by rfl) (by decide +kernel))|(refine nxV ?_)|(refine nSS ?_)|(refine nS1 fun _=>?_)|(refine nxX ?_)|(refine G.cN rfl (fun hc=>?_) (fun hc=>?_)<;>(try first|exact hc.elim|(exfalso;omega))))
 all_goals exact X.ret (vs:=[_]) rfl ⟨⟨_,_,_,_,rfl,(by exact memA),lenA,by decide +kernel,rfl⟩,rfl⟩ rfl rE
theorem cminus_c {b:Nat} {p q:Int×Int} (hp:two31 p) (hq:two31 q) (h : -2147483648≤(TT.subE p q).1∧(TT.subE p q).2≤2147483648):ContIn Tryz.prog (ChnW b) 118 [ptK b,arcV p.1 p.2,arcV q.1 q.2] (arcV (TT.subE p q).1 (TT.subE p q).2):=fun w hs=>by
 have q1:=fsub_c (p:=p) (q:=q) hp hq h
 generalize TT.subE p q=r at *
 refine enter0 Tryz.func118 rfl rfl rfl ?_
 repeat' (first|(show YK _ _ _ _ _ ⟨_,.call { callee:=.value (.func 147),args:=_,argTypes:=_ },_,_,_,_⟩ _;refine YK.mk (zcI (ckept_c) (fun w' hw'=>hs.keep hw'.ext) ⟨rfl,rfl,rfl,rfl⟩ (by decide +kernel)) ?_)|(show YK _ _ _ _ _ _ _;refine YK.mk (zcA (q1) ⟨rfl,rfl,rfl⟩) ?_)|(refine nxV ?_)|(refine nSS ?_)|(refine nS1 fun _=>?_)|(refine nxX ?_)|done)
 all_goals exact X.ret (vs:=[_]) rfl ⟨⟨_,_,_,_,rfl,(by exact memA),lenA,by decide +kernel,rfl⟩,rfl⟩ rfl rE
theorem gres_c {a b:Int} (h : -1099511627776≤a∧a≤b∧b≤1099511627776):Cont Tryz.prog 230 [.int .i64 a,.int .i64 b] (.tuple [arcV a b,.int .i64 0].toArray):=fun w=>by
 have q1:=gfits_c (n:=a) (by omega)
 have q2:=gfits_c (n:=b) (by omega)
 refine enter0 Tryz.func230 rfl rfl rfl ?_
 repeat' (first|(show YK _ _ _ _ _ _ _;first|refine YK.mk (zcA (q1) ⟨rfl,rfl⟩) ?_|refine YK.mk (zcA (q2) ⟨rfl,rfl⟩) ?_)|(refine nxV ?_)|(refine nSS ?_)|(refine nS1 fun _=>?_)|(refine nxX ?_)|(refine G.cN rfl (fun hc=>?_) (fun hc=>?_)<;>(try first|exact hc.elim|(exfalso;omega))))
 all_goals first
  |(exfalso;simp at hc;done)
  |exact X.ret (vs:=[_,_]) rfl ⟨⟨_,_,_,_,rfl,(by exact memA),lenA,by decide +kernel,rfl⟩,rfl,rfl⟩ rfl rE
theorem gadd_c {a b c d:Int} (h : -100000000000≤a∧a≤b∧b≤100000000000) (h' : -100000000000≤c∧c≤d∧d≤100000000000):Cont Tryz.prog 177 [arcV a b,arcV c d] (.tuple [arcV (a+c) (b+d),.int .i64 0].toArray):=fun w=>by
 have q1:=gval_c (a:=a) (b:=b) (by omega)
 have q2:=gval_c (a:=c) (b:=d) (by omega)
 have q3:=gres_c (a:=a+c) (b:=b+d) (by omega)
 refine enter0 Tryz.func177 rfl rfl rfl ?_
 repeat' (first|(show YK _ _ _ _ _ _ _;first|refine YK.mk (zcA (q1) ⟨rfl,rfl⟩) ?_|refine YK.mk (zcA (q2) ⟨rfl,rfl⟩) ?_|refine YK.mk (zcA (q3) ⟨rfl,rfl,rfl⟩) ?_)|(refine nxV ?_)|(refine nSS ?_)|(refine nS1 fun _=>?_)|(refine nxX ?_)|(refine G.cN rfl (fun hc=>?_) (fun hc=>?_)<;>(try first|exact hc.elim|(exfalso;omega))))
 all_goals first
  |(exfalso;simp at hc;done)
  |exact X.ret (vs:=[_,_]) rfl ⟨⟨_,_,_,_,rfl,(by exact memA),lenA,by decide +kernel,rfl⟩,rfl,rfl⟩ rfl rE
theorem csum_c {b:Nat} {p1 p2 q1 q2:Int} (h : -100000000000≤p1∧p1≤p2∧p2≤100000000000) (h' : -100000000000≤q1∧q1≤q2∧q2≤100000000000):ContIn Tryz.prog (ChnW b) 119 [ptK b,arcV p1 p2,arcV q1 q2] (arcV (p1+q1) (p2+q2)):=fun w hs=>by
 have k1:=gadd_c h h'
 refine enter0 Tryz.func119 rfl rfl rfl ?_
 repeat' (first|(show YK _ _ _ _ _ ⟨_,.call { callee:=.value (.func 117),args:=_,argTypes:=_ },_,_,_,_⟩ _;refine YK.mk (zcI (ckeptA_c) (fun w' hw'=>hs.keep hw'.ext) ⟨rfl,rfl,rfl,rfl⟩ (by decide +kernel)) ?_)|(show YK _ _ _ _ _ _ _;refine YK.mk (zcA (k1) ⟨rfl,rfl,rfl⟩) ?_)|(refine nxV ?_)|(refine nSS ?_)|(refine nS1 fun _=>?_)|(refine nxX ?_)|done)
 all_goals exact X.ret (vs:=[_]) rfl ⟨⟨_,_,_,_,rfl,(by exact memA),lenA,by decide +kernel,rfl⟩,rfl⟩ rfl rE
def atW (P:Int) (r z:Int×Int):Int×Int:=TT.brgI (TT.atY r z) (TT.atX P r z)
theorem at_c {P L r1 r2 z1 z2 n m:Int} (hP : -5400000≤P∧P≤5400000) (hL : -10800000≤L∧L<10800000) (hr:0≤r1∧r1≤r2∧r2≤10800000) (hz : -1099511627776≤z1∧z1≤z2∧z2≤1099511627776)
  (hm0:(TT.meetO (TT.gdS P (r1,r2) (z1,z2))).1≤(TT.meetO (TT.gdS P (r1,r2) (z1,z2))).2) (i1:TT.IsAsin (TT.meetO (TT.gdS P (r1,r2) (z1,z2))).1 n) (i2:TT.IsAsin (-(TT.meetO (TT.gdS P (r1,r2) (z1,z2))).2) m) :
  Cont Tryz.prog 51 [v6 P P L L r1 r2,arcV z1 z2] (.tuple [v4 n (-m) (lonsI (L+(atW P (r1,r2) (z1,z2)).1,L+(atW P (r1,r2) (z1,z2)).2)).1 (lonsI (L+(atW P (r1,r2) (z1,z2)).1,L+(atW P (r1,r2) (z1,z2)).2)).2,.int .i64 0].toArray):=fun w=>by
 have eb:0≤(atW P (r1,r2) (z1,z2)).1∧(atW P (r1,r2) (z1,z2)).1≤(atW P (r1,r2) (z1,z2)).2∧(atW P (r1,r2) (z1,z2)).1≤21600000∧(atW P (r1,r2) (z1,z2)).2≤43200000:=TT.brgI_bd _ _
 have q8:=clons_c (k:=(L+(atW P (r1,r2) (z1,z2)).1,L+(atW P (r1,r2) (z1,z2)).2)) (by dsimp only;omega)
 dsimp only at q8
 generalize lonsI (L+(atW P (r1,r2) (z1,z2)).1,L+(atW P (r1,r2) (z1,z2)).2)=lg at *
 have o1:=TT.encl_ord (Int.le_refl P)
 have o2:=TT.cosE_ord (Int.le_refl P)
 have o3:=TT.encl_ord hr.2.1
 have o4:=TT.cosE_ord hr.2.1
 have o5:=TT.encl_ord hz.2.1
 have o6:=TT.cosE_ord hz.2.1
 have o7:=TT.mulE_bd o1 o4
 have o8:=TT.mulE_bd o2 o3
 have o9:=TT.mulE_bd o8 o6
 have o10:=TT.mulE_bd o3 o5
 have o11:=TT.mulE_bd o4 o2
 have o12:=TT.mulE_bd o3 o1
 have o13:=TT.mulE_bd o12 o6
 have t1:=two_of o7
 have t2:=two_of o9
 have t3:=two_of o11
 have t4:=two_of o13
 have t5 : -2147483648≤(TT.addE (TT.mulE (TT.encl P P) (TT.cosE r1 r2)) (TT.mulE (TT.mulE (TT.cosE P P) (TT.encl r1 r2)) (TT.cosE z1 z2))).1∧(TT.addE (TT.mulE (TT.encl P P) (TT.cosE r1 r2)) (TT.mulE (TT.mulE (TT.cosE P P) (TT.encl r1 r2)) (TT.cosE z1 z2))).2≤2147483648:=by
  unfold TT.addE;omega
 have t6:two31 (TT.gdS P (r1,r2) (z1,z2)):=by unfold TT.gdS TT.addE;dsimp only;omega
 have q2:=Asin2_c t6 hm0 i1 i2
 have t7:two31 (TT.atX P (r1,r2) (z1,z2)):=by unfold TT.atX TT.subE;dsimp only;omega
 have q3:=Bearing_c (y:=TT.atY (r1,r2) (z1,z2)) (x:=TT.atX P (r1,r2) (z1,z2)) (by unfold TT.atY;dsimp only;omega) t7
 change Cont _ _ _ (.tuple [arcV (atW P (r1,r2) (z1,z2)).1 (atW P (r1,r2) (z1,z2)).2,.int .i64 0].toArray) at q3
 have q4:=fun b=>csum_c (b:=b) (p1:=L) (p2:=L) (q1:=(atW P (r1,r2) (z1,z2)).1) (q2:=(atW P (r1,r2) (z1,z2)).2) (by omega) (by omega)
 generalize atW P (r1,r2) (z1,z2)=eE at *
 have v1:=valI (lo:=P) (hi:=P) (by omega)
 have v2:=valI (lo:=r1) (hi:=r2) (by omega)
 have v3:=valI hz
 have q0:=cirval_c (a:=P) (b:=P) (c:=L) (d:=L) (r1:=r1) (r2:=r2) (by omega) (Or.inr (by omega)) hr
 have q1:=gval_c hz
 have t8 : -2147483648≤(TT.subE (TT.mulE (TT.cosE r1 r2) (TT.cosE P P)) (TT.mulE (TT.mulE (TT.encl r1 r2) (TT.encl P P)) (TT.cosE z1 z2))).1∧(TT.subE (TT.mulE (TT.cosE r1 r2) (TT.cosE P P)) (TT.mulE (TT.mulE (TT.encl r1 r2) (TT.encl P P)) (TT.cosE z1 z2))).2≤2147483648:=⟨t7.1,t7.2.2⟩
 clear i1 i2 t7 t6 hm0
 unfold TT.gdS at q2
 unfold TT.atY TT.atX at q3
 dsimp only at q2 q3
 refine enter0 Tryz.func51 rfl rfl rfl ?_
 repeat' (first|(refine nxN ?_)|(show YK _ _ _ _ _ ⟨_,.call { callee:=.value (.func 69),args:=_,argTypes:=_ },_,_,_,_⟩ _;refine YK.mk (zcI (csin_c (by assumption)) (fun w' hw'=>ChnW.ofSt hw' (by exact memA)) ⟨rfl,rfl,rfl⟩ (by decide +kernel)) ?_)|(show YK _ _ _ _ _ ⟨_,.call { callee:=.value (.func 70),args:=_,argTypes:=_ },_,_,_,_⟩ _;refine YK.mk (zcI (ccos_c (by assumption)) (fun w' hw'=>ChnW.ofSt hw' (by exact memA)) ⟨rfl,rfl,rfl⟩ (by decide +kernel)) ?_)|(show YK _ _ _ _ _ ⟨_,.call { callee:=.value (.func 68),args:=_,argTypes:=_ },_,_,_,_⟩ _;refine YK.mk (zcI (cmul_c (by assumption) (by assumption)) (fun w' hw'=>ChnW.ofSt hw' (by exact memA)) ⟨rfl,rfl,rfl,rfl⟩ (by decide +kernel)) ?_)|(show YK _ _ _ _ _ ⟨_,.call { callee:=.value (.func 67),args:=_,argTypes:=_ },_,_,_,_⟩ _;refine YK.mk (zcI (cplus_c (by assumption) (by assumption) (by assumption)) (fun w' hw'=>ChnW.ofSt hw' (by exact memA)) ⟨rfl,rfl,rfl,rfl⟩ (by decide +kernel)) ?_)|(show YK _ _ _ _ _ ⟨_,.call { callee:=.value (.func 118),args:=_,argTypes:=_ },_,_,_,_⟩ _;refine YK.mk (zcI (cminus_c (by assumption) (by assumption) (by assumption)) (fun w' hw'=>ChnW.ofSt hw' (by exact memA)) ⟨rfl,rfl,rfl,rfl⟩ (by decide +kernel)) ?_)|(show YK _ _ _ _ _ ⟨_,.call { callee:=.value (.func 119),args:=_,argTypes:=_ },_,_,_,_⟩ _;refine YK.mk (zcI (q4 _) (fun w' hw'=>ChnW.ofSt hw' (by exact memA)) ⟨rfl,rfl,rfl,rfl⟩ (by decide +kernel)) ?_)|(show YK _ _ _ _ _ ⟨_,.call { callee:=.value (.func 117),args:=_,argTypes:=_ },_,_,_,_⟩ _;refine YK.mk (zcI (ckeptA_c) (fun w' hw'=>ChnW.ofSt hw' (by exact memA)) ⟨rfl,rfl,rfl,rfl⟩ (by decide +kernel)) ?_)|(show VK _ _ _ _ _ ⟨_,.load 34 _,_,_,_,_⟩ _;refine VK.mk (zlP (k:=2) (by rfl) (by exact memA) (by decide +kernel) (by rfl)) ?_)|(show YK _ _ _ _ _ ⟨_,.load 34 _,_,_,_,_⟩ _;refine YK.ofV (zlP (k:=2) (by rfl) (by exact memA) (by decide +kernel) (by rfl)) ?_)|(show VK _ _ _ _ _ ⟨_,.build 36 #[(0,_),(1,_)],_,_,_,_⟩ _;refine VK.mk (y_build (parts:=[(0,_),(1,_)]) (vs:=[_,_]) ⟨rfl,rfl,rfl⟩ (place_built _ _ _ _)) ?_)|(refine G.mixedM 13 [.go 0,.go 1,.go 2,.go 3,.go 4,.go 5] [true,true,true,true,true,true,true,true,true,true,false,true,true] ?_;dsimp only[maskH])|(show YK _ _ _ _ _ _ _;first|refine YK.mk (zcA (q0) ⟨rfl,rfl⟩) ?_|refine YK.mk (zcA (q1) ⟨rfl,rfl⟩) ?_|refine YK.mk (zcA (q2) ⟨rfl,rfl⟩) ?_|refine YK.mk (zcA (q3) ⟨rfl,rfl,rfl⟩) ?_|refine YK.mk (zcA (q8) ⟨rfl,rfl⟩) ?_)|(refine nxV ?_)|(refine nSS ?_)|(refine nS1 fun _=>?_)|(refine nMM ?_)|(refine nM1 fun _=>?_)|(refine G.mA 4 [.go 0,.go 1,.go 2,.go 4,.go 5,.go 6,.go 8,.go 9,.go 10,.go 12,.go 13,.go 14,.pend 16,.pend 17,.pend 18,.pend 19,.go 3,.go 7,.go 11,.go 15,.done,.done,.done,.done,.go 20,.go 21,.go 22,.go 23] ?_)|(refine G.mA 5 [.go 0,.go 1,.go 3,.go 4,.pend 6,.pend 7,.go 2,.go 5,.done,.done,.go 8,.go 9] ?_)|(refine G.mA 6 [.go 0,.go 1,.go 2,.go 3,.go 5,.go 6,.go 7,.go 8,.go 10,.pend 17,.go 4,.go 9,.go 11,.go 12,.go 13,.go 14,.go 15,.go 16,.done,.go 18,.go 19] ?_)|(refine G.mA 8 [.go 0,.go 1,.go 2,.go 4,.go 5,.go 6,.go 7,.go 9,.go 10,.go 11,.go 12,.go 14,.pend 21,.go 3,.go 8,.go 13,.go 15,.go 16,.go 17,.go 18,.go 19,.go 20,.done,.go 22,.go 23] ?_)|(refine nxX ?_)|(refine G.cN rfl (fun hc=>?_) (fun hc=>?_)<;>(try first|exact hc.elim|(exfalso;omega))))
 all_goals first
  |(exfalso;simp at hc;done)
  |(exfalso;simp at hc;omega)
  |exact X.ret (vs:=[_,_]) rfl ⟨⟨_,_,_,_,rfl,(by exact memA),lenA,by decide +kernel,rfl⟩,rfl,rfl⟩ rfl rE
theorem RS.lit1Sn {P:Program} {ops:Array Oper} {Q:Exit→Act→World→Prop} {n:Nat} {L:FL} {w0:World} {H:List Hl} {dd:Tmp} {ty:TypeId} {pos:String} {af:Array Edge} {t e:TypeId} {bytes:Nat} {x:Operand} {a:SeenT} {rest:List Oper} (h:∀v':Sl,RS P ops Q n ((dd,v'.v)::L) w0 (Hl.rw v'.v e cSn 5 [a]::H) rest) (hx:evO L x=some (snV a)) [ht:RowTy P t e 5 bytes] (hd:Nat.blt dd n=true:=by rfl) :
  RS P ops Q n L w0 H (⟨some dd,.buildSlice t 1 #[(0,x)],ty,pos,af,none⟩::rest):=RS.actX rfl (x_litS (parts:=[(0,x)]) (vs:=[snV a]) (cs:=cSn a) (f:=cSn) (l:=[a]) ⟨hx,rfl⟩ rfl rfl rfl rfl (fun zs hz=>by
   match zs,hz with
   |[_,_,_,_,_],_=>rfl) rfl rfl rfl (rowTy_B ht.is) hd) fun v' _=>h v'
theorem cir0_built:Tryz.prog.built 58 []=some [.int .i64 0,.int .i64 0,.int .i64 0,.int .i64 0,.int .i64 0,.int .i64 0].toArray:=by kernel_rfl
def IsCir (x:SeenT) (P L w:Int) (c:CirT):Prop:=∃n m:Int,TT.IsAsin (TT.meetO (TT.gdS P (5400000-x.h2,5400000-x.h1) (x.z1,x.z2))).1 n∧TT.IsAsin (-(TT.meetO (TT.gdS P (5400000-x.h2,5400000-x.h1) (x.z1,x.z2))).2) m ∧
 c=⟨n,-m,(lonsI (L+(atW P (5400000-x.h2,5400000-x.h1) (x.z1,x.z2)).1,L+(atW P (5400000-x.h2,5400000-x.h1) (x.z1,x.z2)).2)).1,(lonsI (L+(atW P (5400000-x.h2,5400000-x.h1) (x.z1,x.z2)).1,L+(atW P (5400000-x.h2,5400000-x.h1) (x.z1,x.z2)).2)).2,max 0 (5400000-x.h2-w),min 10800000 (5400000-x.h1+w)⟩
theorem sval_of {x:SeenT} (h:svalB x=true):(-5400000≤x.h1∧x.h1≤x.h2∧x.h2≤5400000)∧-1099511627776≤x.z1∧x.z1≤x.z2∧x.z2≤1099511627776:=by
 unfold svalB avalB fitsB at h
 simp only[Bool.and_eq_true,decide_eq_true_eq] at h
 omega
theorem bear_turn (z1 z2:Int):∃k:Int,0≤z1+21600000*k∧z1+21600000*k<21600000:=⟨-(z1/21600000),by omega⟩
theorem cir_meet {x:SeenT} {P:Int} (h:svalB x=true) (hP : -5400000≤P∧P≤5400000):(TT.meetO (TT.gdS P (5400000-x.h2,5400000-x.h1) (x.z1,x.z2))).1≤(TT.meetO (TT.gdS P (5400000-x.h2,5400000-x.h1) (x.z1,x.z2))).2∧-1073741824≤(TT.meetO (TT.gdS P (5400000-x.h2,5400000-x.h1) (x.z1,x.z2))).1∧(TT.meetO (TT.gdS P (5400000-x.h2,5400000-x.h1) (x.z1,x.z2))).2≤1073741824:=by
 obtain⟨hh,hz⟩:=sval_of h
 obtain⟨k,k0,k1⟩:=bear_turn x.z1 x.z2
 have g:=TT.gdS_turn P k (5400000-x.h2,5400000-x.h1) (x.z1,x.z2)
 dsimp only at g
 rw[←g]
 exact TT.at_meet (r0:=5400000-x.h2) (k0:=x.z1+21600000*k) ⟨by omega,by omega⟩ ⟨by dsimp only;omega,by dsimp only;omega⟩ ⟨by omega,by omega⟩ ⟨by dsimp only;omega,by dsimp only;omega⟩ ⟨by omega,by omega⟩
theorem cir_ex {x:SeenT} {P L w:Int} (h:svalB x=true) (hP : -5400000≤P∧P≤5400000):∃c,IsCir x P L w c:=by
 have hm:=cir_meet h hP
 obtain⟨n,hn⟩:=TT.asin_ex (v:=(TT.meetO (TT.gdS P (5400000-x.h2,5400000-x.h1) (x.z1,x.z2))).1) hm.2.1
 obtain⟨m,hm'⟩:=TT.asin_ex (v:=-(TT.meetO (TT.gdS P (5400000-x.h2,5400000-x.h1) (x.z1,x.z2))).2) (by omega)
 exact⟨_,n,m,hn,hm',rfl⟩
theorem chcir_c {x:SeenT} {P L w:Int} {c:CirT} (hv:svalB x=true) (hp:pointB P L=true) (hw:0≤w∧w≤60000) (hc:IsCir x P L w c):Cont Tryz.prog 18 [snV x,ptV P L,.int .i64 w] (.tuple [krV c,.int .i64 0].toArray):=fun w'=>by
 have hP:(-5400000≤P∧P≤5400000)∧-10800000≤L∧L<10800000:=by
  unfold pointB at hp
  simp only[Bool.and_eq_true,decide_eq_true_eq] at hp
  omega
 have hm:=cir_meet hv hP.1
 obtain⟨hh,hz⟩:=sval_of hv
 obtain⟨n,m,i1,i2,rfl⟩:=hc
 have q1:=fun v=>right_c (v:=v) (l:=[x]) (la:=P) (lo:=L) (by simp)
 have er:(pointB P L&&!([x].any fun x=>!svalB x))=true:=by simp[hp,hv]
 rw[er] at q1
 have q2:=at_c (P:=P) (L:=L) (r1:=5400000-x.h2) (r2:=5400000-x.h1) (z1:=x.z1) (z2:=x.z2) hP.1 hP.2 (by omega) hz hm.1 i1 i2
 clear i1 i2 hm er
 generalize lonsI (L+(atW P (5400000-x.h2,5400000-x.h1) (x.z1,x.z2)).1,L+(atW P (5400000-x.h2,5400000-x.h1) (x.z1,x.z2)).2)=lg at *
 refine enter0 Tryz.func18 rfl rfl rfl ?_
 repeat' (first|(show RS _ _ _ _ _ _ _ (⟨some 13,.buildSlice 49 1 _,_,_,_,_⟩::_);refine RS.lit1Sn (a:=x) (fun v'=>?_) rfl)|(show YK _ _ _ _ _ ⟨_,.load 34 _,_,_,_,_⟩ _;refine YK.ofV (zlP (k:=2) (by rfl) (by exact memA) (by decide +kernel) (by rfl)) ?_)|(show YK _ _ _ _ _ ⟨_,.build 58 #[(0,_),(1,_),(2,_)],_,_,_,_⟩ _;refine YK.ofV (y_build (parts:=[(0,_),(1,_),(2,_)]) (vs:=[_,_,_]) ⟨rfl,rfl,rfl,rfl⟩ (cir_built _ _ _ _ _ _)) ?_)|(show YK _ _ _ _ _ _ _;first|refine YK.mk (zcR (q1 _) ⟨rfl,rfl,rfl⟩) ?_|refine YK.mk (zcA (q2) ⟨rfl,rfl,rfl⟩) ?_)|(refine nxV ?_)|(refine nSS ?_)|(refine nS1 fun _=>?_)|(refine nxG ?_)|(refine nxX ?_)|(refine G.cN rfl (fun hc=>?_) (fun hc=>?_)<;>(try first|exact hc.elim|(exfalso;omega))))
 all_goals first
  |(exfalso;simp at hc;done)
  |(exfalso;simp at hc;omega)
  |exact X.ret (vs:=[_,_]) rfl ⟨⟨_,_,_,_,rfl,(by exact memA),lenA,by decide +kernel,rfl⟩,rfl,rfl⟩ rfl rE
theorem chcir_no {x:SeenT} {P L w:Int} (hv:svalB x=false) (hp:pointB P L=true):Cont Tryz.prog 18 [snV x,ptV P L,.int .i64 w] (.tuple [krV ⟨0,0,0,0,0,0⟩,.int .i64 1].toArray):=fun w'=>by
 have q1:=fun v=>right_c (v:=v) (l:=[x]) (la:=P) (lo:=L) (by simp)
 have er:(pointB P L&&!([x].any fun x=>!svalB x))=false:=by simp[hp,hv]
 rw[er] at q1
 refine enter0 Tryz.func18 rfl rfl rfl ?_
 repeat' (first|(show RS _ _ _ _ _ _ _ (⟨some 13,.buildSlice 49 1 _,_,_,_,_⟩::_);refine RS.lit1Sn (a:=x) (fun v'=>?_) rfl)|(show YK _ _ _ _ _ ⟨_,.build 58 #[],_,_,_,_⟩ _;refine YK.ofV (y_build (parts:=[]) (vs:=[]) rfl (cir0_built)) ?_)|(show YK _ _ _ _ _ _ _;refine YK.mk (zcR (q1 _) ⟨rfl,rfl,rfl⟩) ?_)|(refine nxV ?_)|(refine nSS ?_)|(refine nS1 fun _=>?_)|(refine nxX ?_)|(refine G.cN rfl (fun hc=>?_) (fun hc=>?_)<;>(try first|exact hc.elim|(exfalso;omega))))
 all_goals first
  |(exfalso;simp at hc;done)
  |exact X.ret (vs:=[_,_]) rfl ⟨⟨_,_,_,_,rfl,(by exact memA),lenA,by decide +kernel,rfl⟩,rfl,rfl⟩ rfl rE
end Go.Proofs.YtjmdeplmenbmmaaGreatDoor
namespace Go.Proofs.YtjmdeplmenbmmaaGreatDoor
open Go.RowKit Go.Shelf
attribute [local go_sem] Oper.semAt_some
abbrev FrQ:=Int×Int
def upto (f:Nat→FrQ) (k:Nat):List FrQ:=(List.range k).map f
theorem upto_succ (f:Nat→FrQ) (k:Nat):upto f (k+1)=upto f k++[f k]:=by simp[upto,List.range_succ]
theorem upto_length (f:Nat→FrQ) (k:Nat):(upto f k).length=k:=by simp[upto]
theorem upto_all (zs:List FrQ):upto (fun j=>zs[j]?.getD (0,0)) zs.length=zs:=by
 apply List.ext_getElem
 ·simp[upto]
 ·intro i h1 h2
  simp[upto,h2]
set_option maxRecDepth 100000 in
set_option maxHeartbeats 2000000 in
theorem values1_in (F:Fence) (n:Nat) (h7:F.fn 297) (hro:F.round=none) (hn:1≤n) (l Bs n₀ b off len cap:Nat) (zs:List FrQ) (hreach:len*16≤140737488351232) (hb:b<n₀) (J Jx:List FrQ→World→Prop)
  (hY:∀pre x W,J pre W→pre.length<len→YieldAt F (n-1) Tryz.prog l #[.agg #[.int .i64 x.1,.int .i64 x.2]] W fun e W' =>
   (e=.returned (.bool true)∧J (pre++[x]) W'∧Below n₀ W W')∨(e=.returned (.bool false)∧Jx (pre++[x]) W'))
  (W:World) (hJ:AbidesFrom W.heap.size J) (hn₀:n₀≤W.heap.size) (hBs:W.cell? ⟨Bs,0,none⟩=some (.slice (some ⟨b,off,none⟩) len cap)) (hBn:Bs<n₀)
  (hc:∀j,j<len→W.cell? ⟨b,off+j*2,none⟩=some (.int .i64 (zs[j]?.getD (0,0)).1)∧W.cell? ⟨b,off+j*2+1,none⟩=some (.int .i64 (zs[j]?.getD (0,0)).2)) (h0:J [] W) :
  CallsIn F n Tryz.prog 297 #[.func (.yield l) #[] #[],.pointer (some ⟨Bs,0,none⟩)] W fun e W'=>(∃v,e=.returned v) ∧
   ((∃ys,ys=upto (fun j=>zs[j]?.getD (0,0)) len∧J ys W')∨(∃pre,(∃k,k≤len∧pre=upto (fun j=>zs[j]?.getD (0,0)) k)∧Jx pre W')):=by
 refine callsIn_of_wp Tryz.func297 rfl h7 ?_ hro
 simp only[Tryz.ntmps297,List.size_toArray,List.length_cons,List.length_nil,Nat.reduceAdd,Nat.reduceSub,Array.replicate_succ,Array.replicate_zero,List.push_toArray,List.append_toArray,List.nil_append,List.cons_append]
 gi_wp2
 gi_loopw [7] (fun i wr=>∃k:Nat,k≤len∧i=.int .i64 k∧J (upto (fun j=>zs[j]?.getD (0,0)) k) wr∧Below n₀ W wr)
  (fun i _=>len-(intOf i).toNat)
 case atStart=>exact⟨0,Nat.zero_le _,rfl,h0,Below.refl _ _⟩
 case round =>
  obtain⟨k,hk,rfl,hJs,hnx⟩:=hrel
  have hcx:k<len→wr.cell? ⟨b,off+k*2,none⟩=some (.int .i64 (zs[k]?.getD (0,0)).1)∧wr.cell? ⟨b,off+k*2+1,none⟩=some (.int .i64 (zs[k]?.getD (0,0)).2):=fun h=>⟨(hnx.cell (p:=⟨b,off+k*2,none⟩) hb).trans (hc k h).1,(hnx.cell (p:=⟨b,off+k*2+1,none⟩) hb).trans (hc k h).2⟩
  by_cases hlt:k<len
  ·obtain⟨hc1,hc2⟩:=hcx hlt
   have hJ2:J (upto (fun j=>zs[j]?.getD (0,0)) k) (wr.alloc (.cells #[.int .i64 (zs[k]?.getD (0,0)).1,.int .i64 (zs[k]?.getD (0,0)).2] 34)):=hJ _ _ _ none hJs (World.grownBy_alloc _ _ none) (fun r e=>by cases e)
   obtain⟨fn,tmps,assign,body,hy,hR⟩:=hY _ (zs[k]?.getD (0,0)) _ hJ2 (by rw[upto_length];exact hlt)
   gi_wp2
   refine hR.mono ?_
   rintro e W3 (⟨rfl,hJ3,hk3⟩|⟨rfl,hJx3⟩)
   ·gi_wp2
    go_roundw
    case rel=>exact⟨k+1,by omega,by simp,by rw[upto_succ];exact hJ3,(hnx.trans ((Below.refl n₀ wr).alloc (Nat.le_trans hn₀ hnx.size) _)).trans hk3⟩
    case measure=>simp[intOf];omega
   ·gi_wp2
    refine bodyPost_ret (results_none rfl _ _ _) rfl ?_
    exact⟨⟨_,rfl⟩,.inr ⟨_,⟨k+1,by omega,(upto_succ _ _).symm⟩,hJx3⟩⟩
  ·obtain rfl:k=len:=by omega
   gi_wp2
   go_end0
   exact⟨⟨_,rfl⟩,.inl ⟨_,rfl,hJs⟩⟩
end Go.Proofs.YtjmdeplmenbmmaaGreatDoor
