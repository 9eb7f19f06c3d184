/- Joined texts: Dln, Hlp, Tcp, Tcm, Cis, Ci2, Cos, Ixn, See, CAt, Crl, Ita, Apa, Sr1, Srt, Laid, Lib, Lib2, Aro, Fxa, Fxb, Fxd, Fxp, Wr1, Wr2, LaidC, Ang, Prt, Ptx, Gro, Joi, Wds, Fxf, Pl0, Pl1, Obs, Sid, Sur. -/
import Derived.Test.YtjmdeplmenbmmaaGreatW25
import Derived.Test.YtjmdeplmenbmmaaGreatV05
import Derived.RangeFuncNested
import Derived.RangeFuncBound
import Derived.RangeFuncCalls
import Derived.RangeFuncLeaves
import Derived.RangeFuncBox
import Derived.Shelf.Abstract
import Derived.Shelf.RegionOpen
import Derived.WalkKit
import Derived.OwnWalkIn
import Derived.TacticsInMore
import Derived.LoopNIn
import Derived.LoopIn
import Derived.Maps.AppendAt
import Derived.Test.YtjmdeplmenbmmaaGreatChecked
import Derived.Test.YtjmdeplmenbmmaaGreatW04
import Derived.Test.YtjmdeplmenbmmaaGreatW02
import Derived.LaidMore
import Derived.LaidHandle
import Derived.LaidSub
import Derived.Lib.LaidTab
import Derived.Lib.ItoaNum
import Derived.Shelf.Vars
import Derived.MakeChecks
import Derived.Lib.AtoiErrMem
import Derived.Stop.IfaceNil
import Derived.Lib.Split
import Derived.Lib.SplitLaws
import Derived.Lib.CountLaws
import Derived.Scope
import Derived.Test.YtjmdeplmenbmmaaGreatW06
import Derived.Test.YtjmdeplmenbmmaaGreatW05
set_option linter.unusedVariables false
set_option maxHeartbeats 16000000
namespace Go.Proofs.YtjmdeplmenbmmaaGreat
open Go.RowKit
section
variable {P:Program} {n:Nat} {L:FL} {w0:World} {H:List Hl} {d:Option Tmp} {ty:TypeId} {pos:String} {af:Array Edge} {g:Option (Nat×Bool)} {t:TypeId} {x:Operand}
theorem y_loadXP {b i k:Nat} {cs:List Value} (hx:evO L x=some (.pointer (some ⟨b,i,none⟩))) (hc:∀k v,cs[k]?=some v→w0.cell? ⟨b,k,none⟩=some v) (hs:rowB P t k=true) (hk:Nat.ble (i+k) cs.length=true) :
  V P n L w0 H ⟨d,.load t x,ty,pos,af,g⟩ (.agg ((cs.drop i).take k).toArray):=by
 unfold V
 intro a w ha hw
 have hk':i+k≤cs.length:=Nat.le_of_ble_eq_true hk
 have hlen:((cs.drop i).take k).length=k:=by simp;omega
 have hl:=run_loadCells_list (P:=P) w ⟨b,i,none⟩ ((cs.drop i).take k) (fun j u hu=>by
  have hj:j<k:=by
   have:=(List.getElem?_eq_some_iff.1 hu).1
   omega
  have e:(⟨b,i,none⟩:Addr).add j=⟨b,i+j,none⟩:=by unfold Addr.add;split<;>simp_all
  rw[e]
  have h0:=hc (i+j) u (by rw[←hu,List.getElem?_take_of_lt hj,List.getElem?_drop])
  exact(hw.ext.cell (World.block_lt_of_cell? w0 _ h0)).trans h0)
 rw[hlen] at hl
 simp[execOp,ha.eval hx,Instr.loadAt,Instr.sureAddr,loadVar,run_isAgg_true hs,run_sizeOf_of (info_of_rowB hs),hl]
end
structure DlW (b8 b6:Nat) (c1 c2:Int) (w:World):Prop where
 one:∀k u,[Value.int .i64 1073741824,.int .i64 1073741824][k]?=some u→w.cell? ⟨b8,k,none⟩=some u
 cos:∀k u,[Value.int .i64 c1,.int .i64 c2][k]?=some u→w.cell? ⟨b6,k,none⟩=some u
theorem DlW.keep {b8 b6:Nat} {c1 c2:Int} {w w':World} (h:DlW b8 b6 c1 c2 w) (hw:Below w.heap.size w w'):DlW b8 b6 c1 c2 w' :=
 ⟨fun k u hk=>(World.cell?_of_block (w:=w) (hw.block b8 (World.block_lt_of_cell? w _ (h.one k u hk)))).trans (h.one k u hk),fun k u hk=>(World.cell?_of_block (w:=w) (hw.block b6 (World.block_lt_of_cell? w _ (h.cos k u hk)))).trans (h.cos k u hk)⟩
def quoV (c1 c2:Int) (n:Nat):Value:=if -(-((1073741824*n:Nat):Int)/c1)≤1099511627776 then .tuple [.int .i64 (((1073741824*n:Nat):Int)/c2),.int .i64 (-(-((1073741824*n:Nat):Int)/c1)),.int .i64 0].toArray else .tuple [.int .i64 0,.int .i64 0,.int .i64 5].toArray
theorem dl1_c {b8 b6:Nat} {c1 c2:Int} {n:Nat} {x y e:Int} (hcc:1≤c1∧c1≤c2∧c2≤1073741824) (hn:n≤100000000) (hq:quoV c1 c2 n=.tuple [.int .i64 x,.int .i64 y,.int .i64 e].toArray):ContIn Tryz.prog (DlW b8 b6 c1 c2) 127 ([.int .i64 (n:Int)]++(#[bxP b8,bxP b6]:Array Value).toList) (.tuple [.int .i64 x,.int .i64 y,.int .i64 e].toArray):=fun w hs=>by
 have h1:=hs.one
 have h2:=hs.cos
 have q1:=fquot_c (c1:=c1) (c2:=c2) (n:=n) hcc hn
 change Cont _ _ _ (quoV c1 c2 n) at q1
 rw[hq] at q1
 refine enter0 Tryz.func127 rfl rfl rfl ?_
 repeat' (first|(show VK _ _ _ _ _ ⟨_,.load 108 _,_,_,_,_⟩ _;refine VK.mk (y_loadXP (b:=b8) (i:=0) (k:=2) (by rfl) h1 (by decide +kernel) (by rfl)) ?_)|(show YK _ _ _ _ _ ⟨_,.load 108 _,_,_,_,_⟩ _;refine YK.ofV (y_loadXP (b:=b8) (i:=0) (k:=2) (by rfl) h1 (by decide +kernel) (by rfl)) ?_)|(show VK _ _ _ _ _ ⟨_,.load 108 _,_,_,_,_⟩ _;refine VK.mk (y_loadXP (b:=b6) (i:=0) (k:=2) (by rfl) h2 (by decide +kernel) (by rfl)) ?_)|(show YK _ _ _ _ _ ⟨_,.load 108 _,_,_,_,_⟩ _;refine YK.ofV (y_loadXP (b:=b6) (i:=0) (k:=2) (by rfl) h2 (by decide +kernel) (by rfl)) ?_)|(show YK _ _ _ _ _ _ _;first|refine YK.mk (zcA (q1) ⟨rfl,rfl,rfl,rfl⟩) ?_)|(refine nxV ?_)|(refine nSS ?_)|(refine nS1 fun _=>?_)|(refine nMM ?_)|(refine nM1 fun _=>?_)|(show YG _ _ _ _ _ _ _ _;refine YG.mk (fun hb=>by(try(have hc:=And.left hb;have hb:=And.right hb;rw[hc]));(try rw[hb]);first|exact(zcA (q1) ⟨rfl,rfl,rfl,rfl⟩)|exact V.y vAuto) ?_)|(refine nxG ?_)|(refine nxX ?_)|(refine G.cN rfl (fun hc=>?_) (fun hc=>?_)<;>(try first|exact hc.elim|(exfalso;omega))))
 all_goals exact X.ret (vs:=[_,_,_]) rfl ⟨rfl,rfl,rfl,rfl⟩ rfl rE
abbrev v6 (a b c d e f:Int):Value:=.agg [.int .i64 a,.int .i64 b,.int .i64 c,.int .i64 d,.int .i64 e,.int .i64 f].toArray
def sideS (l t k:Int×Int):Int×Int:=TT.addE (TT.mulE (TT.encl l.1 l.2) (TT.encl t.1 t.2)) (TT.mulE (TT.mulE (TT.cosE l.1 l.2) (TT.cosE t.1 t.2)) (TT.cosE k.1 k.2))
structure CosW (b:Nat) (w:World):Prop where
 blk:w.heap[b]?=some (.cells #[.int .i64 0] 147 (0,0))
theorem CosW.keep {b:Nat} {w w':World} (h:CosW b w) (hw:Below w.heap.size w w'):CosW b w' :=
 ⟨(hw.block b (Array.getElem?_eq_some_iff.1 h.blk).1).trans h.blk⟩
theorem CosW.cell {b:Nat} {w:World} (h:CosW b w):∀k v,[Value.int .i64 0][k]?=some v→w.cell? ⟨b,k,none⟩=some v:=fun k v hk=>by
 have:=cell_of_row w b k #[.int .i64 0] _ (0,0) h.blk
 rw[this]
 simpa using hk
theorem CosW.ofSt {w0 w:World} {H:List Hl} {b:Nat} (hw:St w0 H w) (hm:Hl.blk b 147 [.int .i64 0]∈H):CosW b w:=⟨hw.blk hm⟩
theorem okeep_c {b:Nat} {lo hi:Int} : ContIn Tryz.prog (CosW b) 159 [ptK b,arcV lo hi,.int .i64 0] (arcV lo hi):=fun w hs=>by
 have hcl:=hs.cell
 refine enter0 Tryz.func159 rfl rfl rfl ?_
 repeat' (first|(refine nxN ?_)|(show VK _ _ _ _ _ ⟨_,.load 35 _,_,_,_,_⟩ _;refine VK.mk (y_loadX (by rfl) (hcl _ _ (by rfl)) (by decide +kernel)) ?_)|(show YK _ _ _ _ _ ⟨_,.load 35 _,_,_,_,_⟩ _;refine YK.ofV (y_loadX (by rfl) (hcl _ _ (by rfl)) (by decide +kernel)) ?_)|(show VG _ _ _ _ _ _ ⟨_,.load 35 _,_,_,_,_⟩ _;refine VG.mk (fun hb=>by(try(have hc:=And.left hb;have hb:=And.right hb;rw[hc]));(try rw[hb]);exact y_loadX (by rfl) (hcl _ _ (by rfl)) (by decide +kernel)) ?_)|(show YG _ _ _ _ _ _ ⟨_,.load 35 _,_,_,_,_⟩ _;refine YG.mk (fun hb=>by(try(have hc:=And.left hb;have hb:=And.right hb;rw[hc]));(try rw[hb]);exact V.y (y_loadX (by rfl) (hcl _ _ (by rfl)) (by decide +kernel))) ?_)|(show RS _ _ _ _ _ _ _ (⟨none,.store 35 _ _,_,_,_,_⟩::_);refine RS.storeSame (b:=b) ?_ (by rfl) (by rfl) (fun w' hw'=>(hs.keep hw'.ext).blk) (by rfl) (by decide +kernel))|(refine nxV ?_)|(refine nSS ?_)|(refine nS1 fun _=>?_)|(refine nMM ?_)|(refine nM1 fun _=>?_)|(refine nxG ?_)|(refine nxX ?_)|(refine G.cN rfl (fun hc=>?_) (fun hc=>?_)<;>(try first|exact hc.elim|(exfalso;omega))))
 all_goals exact X.ret (vs:=[_]) rfl ⟨⟨_,_,_,_,rfl,(by exact memA),lenA,by decide +kernel,rfl⟩,rfl⟩ rfl rE
theorem osin_c {b:Nat} {lo hi:Int} (h:validI lo hi=true):ContIn Tryz.prog (CosW b) 157 [ptK b,arcV lo hi] (arcV (TT.encl lo hi).1 (TT.encl lo hi).2):=fun w hs=>by
 have q1:=Sin_c h
 generalize TT.encl lo hi=r at *
 refine enter0 Tryz.func157 rfl rfl rfl ?_
 repeat' (first|(refine nxN ?_)|(show YK _ _ _ _ _ ⟨_,.call { callee:=.value (.func 159),args:=_,argTypes:=_ },_,_,_,_⟩ _;refine YK.mk (zcI (okeep_c) (fun w' hw'=>hs.keep hw'.ext) ⟨rfl,rfl,rfl,rfl⟩ (by decide +kernel)) ?_)|(show YG _ _ _ _ _ _ ⟨_,.call { callee:=.value (.func 159),args:=_,argTypes:=_ },_,_,_,_⟩ _;refine YG.mk (fun hb=>by(try(have hc:=And.left hb;have hb:=And.right hb;rw[hc]));(try rw[hb]);exact zcI (okeep_c) (fun w' hw'=>hs.keep hw'.ext) ⟨rfl,rfl,rfl,rfl⟩ (by decide +kernel)) ?_)|(show YK _ _ _ _ _ _ _;first|refine YK.mk (zcA (q1) ⟨rfl,rfl⟩) ?_)|(refine nxV ?_)|(refine nSS ?_)|(refine nS1 fun _=>?_)|(refine nMM ?_)|(refine nM1 fun _=>?_)|(show YG _ _ _ _ _ _ _ _;refine YG.mk (fun hb=>by(try(have hc:=And.left hb;have hb:=And.right hb;rw[hc]));(try rw[hb]);first|exact(zcA (q1) ⟨rfl,rfl⟩)|exact V.y vAuto) ?_)|(refine nxG ?_)|(refine nxX ?_)|(refine G.cN rfl (fun hc=>?_) (fun hc=>?_)<;>(try first|exact hc.elim|(exfalso;omega))))
 all_goals exact X.ret (vs:=[_]) rfl ⟨⟨_,_,_,_,rfl,(by exact memA),lenA,by decide +kernel,rfl⟩,rfl⟩ rfl rE
theorem ocos_c {b:Nat} {lo hi:Int} (h:validI lo hi=true):ContIn Tryz.prog (CosW b) 158 [ptK b,arcV lo hi] (arcV (TT.cosE lo hi).1 (TT.cosE lo hi).2):=fun w hs=>by
 have q1:=Cos_c h
 generalize TT.cosE lo hi=r at *
 refine enter0 Tryz.func158 rfl rfl rfl ?_
 repeat' (first|(refine nxN ?_)|(show YK _ _ _ _ _ ⟨_,.call { callee:=.value (.func 159),args:=_,argTypes:=_ },_,_,_,_⟩ _;refine YK.mk (zcI (okeep_c) (fun w' hw'=>hs.keep hw'.ext) ⟨rfl,rfl,rfl,rfl⟩ (by decide +kernel)) ?_)|(show YG _ _ _ _ _ _ ⟨_,.call { callee:=.value (.func 159),args:=_,argTypes:=_ },_,_,_,_⟩ _;refine YG.mk (fun hb=>by(try(have hc:=And.left hb;have hb:=And.right hb;rw[hc]));(try rw[hb]);exact zcI (okeep_c) (fun w' hw'=>hs.keep hw'.ext) ⟨rfl,rfl,rfl,rfl⟩ (by decide +kernel)) ?_)|(show YK _ _ _ _ _ _ _;first|refine YK.mk (zcA (q1) ⟨rfl,rfl⟩) ?_)|(refine nxV ?_)|(refine nSS ?_)|(refine nS1 fun _=>?_)|(refine nMM ?_)|(refine nM1 fun _=>?_)|(show YG _ _ _ _ _ _ _ _;refine YG.mk (fun hb=>by(try(have hc:=And.left hb;have hb:=And.right hb;rw[hc]));(try rw[hb]);first|exact(zcA (q1) ⟨rfl,rfl⟩)|exact V.y vAuto) ?_)|(refine nxG ?_)|(refine nxX ?_)|(refine G.cN rfl (fun hc=>?_) (fun hc=>?_)<;>(try first|exact hc.elim|(exfalso;omega))))
 all_goals exact X.ret (vs:=[_]) rfl ⟨⟨_,_,_,_,rfl,(by exact memA),lenA,by decide +kernel,rfl⟩,rfl⟩ rfl rE
theorem omul_c {b:Nat} {p q:Int×Int} (hp:one31 p) (hq:one31 q):ContIn Tryz.prog (CosW b) 101 [ptK b,arcV p.1 p.2,arcV q.1 q.2] (arcV (TT.mulE p q).1 (TT.mulE p q).2):=fun w hs=>by
 have q1:=fmul_c (p:=p) (q:=q) hp hq
 generalize TT.mulE p q=r at *
 refine enter0 Tryz.func101 rfl rfl rfl ?_
 repeat' (first|(refine nxN ?_)|(show YK _ _ _ _ _ ⟨_,.call { callee:=.value (.func 159),args:=_,argTypes:=_ },_,_,_,_⟩ _;refine YK.mk (zcI (okeep_c) (fun w' hw'=>hs.keep hw'.ext) ⟨rfl,rfl,rfl,rfl⟩ (by decide +kernel)) ?_)|(show YG _ _ _ _ _ _ ⟨_,.call { callee:=.value (.func 159),args:=_,argTypes:=_ },_,_,_,_⟩ _;refine YG.mk (fun hb=>by(try(have hc:=And.left hb;have hb:=And.right hb;rw[hc]));(try rw[hb]);exact zcI (okeep_c) (fun w' hw'=>hs.keep hw'.ext) ⟨rfl,rfl,rfl,rfl⟩ (by decide +kernel)) ?_)|(show YK _ _ _ _ _ _ _;first|refine YK.mk (zcA (q1) ⟨rfl,rfl,rfl⟩) ?_)|(refine nxV ?_)|(refine nSS ?_)|(refine nS1 fun _=>?_)|(refine nMM ?_)|(refine nM1 fun _=>?_)|(show YG _ _ _ _ _ _ _ _;refine YG.mk (fun hb=>by(try(have hc:=And.left hb;have hb:=And.right hb;rw[hc]));(try rw[hb]);first|exact(zcA (q1) ⟨rfl,rfl,rfl⟩)|exact V.y vAuto) ?_)|(refine nxG ?_)|(refine nxX ?_)|(refine G.cN rfl (fun hc=>?_) (fun hc=>?_)<;>(try first|exact hc.elim|(exfalso;omega))))
 all_goals exact X.ret (vs:=[_]) rfl ⟨⟨_,_,_,_,rfl,(by exact memA),lenA,by decide +kernel,rfl⟩,rfl⟩ rfl rE
theorem oadd_c {b:Nat} {p q:Int×Int} (hp:two31 p) (hq:two31 q) (h : -2147483648≤(TT.addE p q).1∧(TT.addE p q).2≤2147483648):ContIn Tryz.prog (CosW b) 100 [ptK b,arcV p.1 p.2,arcV q.1 q.2] (arcV (TT.addE p q).1 (TT.addE p q).2):=fun w hs=>by
 have q1:=fadd_c (a:=p.1) (b:=p.2) (c:=q.1) (d:=q.2) hp hq h
 change Cont _ _ _ (.tuple [arcV (TT.addE p q).1 (TT.addE p q).2,.int .i64 0].toArray) at q1
 generalize TT.addE p q=r at *
 refine enter0 Tryz.func100 rfl rfl rfl ?_
 repeat' (first|(refine nxN ?_)|(show YK _ _ _ _ _ ⟨_,.call { callee:=.value (.func 159),args:=_,argTypes:=_ },_,_,_,_⟩ _;refine YK.mk (zcI (okeep_c) (fun w' hw'=>hs.keep hw'.ext) ⟨rfl,rfl,rfl,rfl⟩ (by decide +kernel)) ?_)|(show YG _ _ _ _ _ _ ⟨_,.call { callee:=.value (.func 159),args:=_,argTypes:=_ },_,_,_,_⟩ _;refine YG.mk (fun hb=>by(try(have hc:=And.left hb;have hb:=And.right hb;rw[hc]));(try rw[hb]);exact zcI (okeep_c) (fun w' hw'=>hs.keep hw'.ext) ⟨rfl,rfl,rfl,rfl⟩ (by decide +kernel)) ?_)|(show YK _ _ _ _ _ _ _;first|refine YK.mk (zcA (q1) ⟨rfl,rfl,rfl⟩) ?_)|(refine nxV ?_)|(refine nSS ?_)|(refine nS1 fun _=>?_)|(refine nMM ?_)|(refine nM1 fun _=>?_)|(show YG _ _ _ _ _ _ _ _;refine YG.mk (fun hb=>by(try(have hc:=And.left hb;have hb:=And.right hb;rw[hc]));(try rw[hb]);first|exact(zcA (q1) ⟨rfl,rfl,rfl⟩)|exact V.y vAuto) ?_)|(refine nxG ?_)|(refine nxX ?_)|(refine G.cN rfl (fun hc=>?_) (fun hc=>?_)<;>(try first|exact hc.elim|(exfalso;omega))))
 all_goals exact X.ret (vs:=[_]) rfl ⟨⟨_,_,_,_,rfl,(by exact memA),lenA,by decide +kernel,rfl⟩,rfl⟩ rfl rE
theorem par_built (s1 s2 c1 c2 t1 t2 d1 d2 k1 k2 e1 e2:Int):Tryz.prog.built 149 [(0,.agg [.int .i64 s1,.int .i64 s2].toArray),(1,.agg [.int .i64 c1,.int .i64 c2].toArray),(2,.agg [.int .i64 t1,.int .i64 t2].toArray),(3,.agg [.int .i64 d1,.int .i64 d2].toArray),(4,.agg [.int .i64 k1,.int .i64 k2].toArray),(5,.agg [.int .i64 e1,.int .i64 e2].toArray)]=some [.int .i64 s1,.int .i64 s2,.int .i64 c1,.int .i64 c2,.int .i64 t1,.int .i64 t2,.int .i64 d1,.int .i64 d2,.int .i64 k1,.int .i64 k2,.int .i64 e1,.int .i64 e2].toArray:=by kernel_rfl
abbrev v12 (s1 s2 c1 c2 t1 t2 d1 d2 k1 k2 e1 e2:Int):Value:=.agg [.int .i64 s1,.int .i64 s2,.int .i64 c1,.int .i64 c2,.int .i64 t1,.int .i64 t2,.int .i64 d1,.int .i64 d2,.int .i64 k1,.int .i64 k2,.int .i64 e1,.int .i64 e2].toArray
theorem oof_c {b:Nat} {l1 l2 t1 t2 k1 k2:Int} (v1:validI l1 l2=true) (v2:validI t1 t2=true) (v3:validI k1 k2=true):ContIn Tryz.prog (CosW b) 99 [ptK b,v6 l1 l2 t1 t2 k1 k2]
  (v12 (TT.encl l1 l2).1 (TT.encl l1 l2).2 (TT.cosE l1 l2).1 (TT.cosE l1 l2).2 (TT.encl t1 t2).1 (TT.encl t1 t2).2 (TT.cosE t1 t2).1 (TT.cosE t1 t2).2 (TT.encl k1 k2).1 (TT.encl k1 k2).2 (TT.cosE k1 k2).1 (TT.cosE k1 k2).2):=fun w hs=>by
 refine enter0 Tryz.func99 rfl rfl rfl ?_
 repeat' (first|(refine nxN ?_)|(show YK _ _ _ _ _ ⟨_,.call { callee:=.value (.func 157),args:=_,argTypes:=_ },_,_,_,_⟩ _;refine YK.mk (zcI (osin_c (by assumption)) (fun w' hw'=>hs.keep hw'.ext) ⟨rfl,rfl,rfl⟩ (by decide +kernel)) ?_)|(show YG _ _ _ _ _ _ ⟨_,.call { callee:=.value (.func 157),args:=_,argTypes:=_ },_,_,_,_⟩ _;refine YG.mk (fun hb=>by(try(have hc:=And.left hb;have hb:=And.right hb;rw[hc]));(try rw[hb]);exact zcI (osin_c (by assumption)) (fun w' hw'=>hs.keep hw'.ext) ⟨rfl,rfl,rfl⟩ (by decide +kernel)) ?_)|(show YK _ _ _ _ _ ⟨_,.call { callee:=.value (.func 158),args:=_,argTypes:=_ },_,_,_,_⟩ _;refine YK.mk (zcI (ocos_c (by assumption)) (fun w' hw'=>hs.keep hw'.ext) ⟨rfl,rfl,rfl⟩ (by decide +kernel)) ?_)|(show YG _ _ _ _ _ _ ⟨_,.call { callee:=.value (.func 158),args:=_,argTypes:=_ },_,_,_,_⟩ _;refine YG.mk (fun hb=>by(try(have hc:=And.left hb;have hb:=And.right hb;rw[hc]));(try rw[hb]);exact zcI (ocos_c (by assumption)) (fun w' hw'=>hs.keep hw'.ext) ⟨rfl,rfl,rfl⟩ (by decide +kernel)) ?_)|(show VK _ _ _ _ _ ⟨_,.load 42 _,_,_,_,_⟩ _;refine VK.mk (zlP (k:=2) (by rfl) (by exact memA) (by decide +kernel) (by rfl)) ?_)|(show YK _ _ _ _ _ ⟨_,.load 42 _,_,_,_,_⟩ _;refine YK.ofV (zlP (k:=2) (by rfl) (by exact memA) (by decide +kernel) (by rfl)) ?_)|(show VG _ _ _ _ _ _ ⟨_,.load 42 _,_,_,_,_⟩ _;refine VG.mk (fun hb=>by(try rw[hb]);exact zlP (k:=2) (by rfl) (by exact memA) (by decide +kernel) (by rfl)) ?_)|(show YG _ _ _ _ _ _ ⟨_,.load 42 _,_,_,_,_⟩ _;refine YG.mk (fun hb=>by(try rw[hb]);exact V.y (zlP (k:=2) (by rfl) (by exact memA) (by decide +kernel) (by rfl))) ?_)|(show VK _ _ _ _ _ ⟨_,.build 149 _,_,_,_,_⟩ _;refine VK.mk (y_build (parts:=[(0,_),(1,_),(2,_),(3,_),(4,_),(5,_)]) (vs:=[_,_,_,_,_,_]) ⟨rfl,rfl,rfl,rfl,rfl,rfl,rfl⟩ (par_built _ _ _ _ _ _ _ _ _ _ _ _)) ?_)|(show YK _ _ _ _ _ ⟨_,.build 149 _,_,_,_,_⟩ _;refine YK.ofV (y_build (parts:=[(0,_),(1,_),(2,_),(3,_),(4,_),(5,_)]) (vs:=[_,_,_,_,_,_]) ⟨rfl,rfl,rfl,rfl,rfl,rfl,rfl⟩ (par_built _ _ _ _ _ _ _ _ _ _ _ _)) ?_)|(refine nxV ?_)|(refine nSS ?_)|(refine nS1 fun _=>?_)|(refine nMM ?_)|(refine nM1 fun _=>?_)|(refine nxG ?_)|(refine G.mA 1 [.go 0,.go 1,.go 2,.go 4,.go 5,.go 6,.go 8,.go 9,.go 10,.go 12,.go 13,.go 14,.go 16,.go 17,.go 18,.go 20,.go 21,.go 22,.go 3,.go 7,.go 11,.go 15,.go 19,.go 23,.go 24,.go 25] ?_)|(refine nxX ?_)|(refine G.cN rfl (fun hc=>?_) (fun hc=>?_)<;>(try first|exact hc.elim|(exfalso;omega))))
 all_goals exact X.ret (vs:=[_]) rfl ⟨⟨_,_,_,_,rfl,(by exact memA),lenA,by decide +kernel,rfl⟩,rfl⟩ rfl rE
theorem Asin2_c {a b n m:Int} (h:two31 (a,b)) (hm0:(TT.meetO (a,b)).1≤(TT.meetO (a,b)).2) (h1:TT.IsAsin (TT.meetO (a,b)).1 n) (h2:TT.IsAsin (-(TT.meetO (a,b)).2) m):Cont Tryz.prog 102 [arcV a b] (.tuple [arcV n (-m),.int .i64 0].toArray):=fun w=>by
 unfold TT.meetO at *
 dsimp only at *
 have q1:=fvalid_t (lo:=a) (hi:=b) (by omega)
 have q2:=part_c (a:=a) (b:=b) (lo:=-1073741824) (hi:=1073741824)
 rw[decide_eq_true hm0] at q2
 have q3:=asin_c h1
 have q4:=asin_c h2
 have hm:=h2.1
 have hm2:=h2.2.1
 refine enter0 Tryz.func102 rfl rfl rfl ?_
 repeat' (first|(refine G.mixedM 6 [.go 0,.go 1,.go 3,.go 4,.go 5,.go 2,.go 6,.go 7,.go 8,.go 9,.go 10] [false,true] ?_;dsimp only[maskH])|(show YK _ _ _ _ _ _ _;first|refine YK.mk (zcA (q1) ⟨rfl,rfl⟩) ?_|refine YK.mk (zcA (q2) ⟨rfl,rfl,rfl,rfl⟩) ?_|refine YK.mk (zcA (q3) ⟨rfl,rfl⟩) ?_|refine YK.mk (zcA (q4) ⟨rfl,rfl⟩) ?_)|(refine nxV ?_)|(refine nSS ?_)|(refine nS1 fun _=>?_)|(refine nMM ?_)|(refine nM1 fun _=>?_)|(show YG _ _ _ _ _ _ _ _;refine YG.mk (fun hb=>by(try(have hc:=And.left hb;have hb:=And.right hb;rw[hc]));(try rw[hb]);first|exact(zcA (q1) ⟨rfl,rfl⟩)|exact(zcA (q2) ⟨rfl,rfl,rfl,rfl⟩)|exact(zcA (q3) ⟨rfl,rfl⟩)|exact(zcA (q4) ⟨rfl,rfl⟩)|exact V.y vAuto) ?_)|(refine nxG ?_)|(refine nxX ?_)|(refine G.cN rfl (fun hc=>?_) (fun hc=>?_)<;>(try first|exact hc.elim|(exfalso;omega))))
 exact X.ret (vs:=[_,_]) rfl ⟨⟨_,_,_,_,rfl,(by exact memA),lenA,by decide +kernel,rfl⟩,rfl,rfl⟩ rfl rE
theorem oalt_c {l1 l2 t1 t2 k1 k2 n m:Int} (hl : -5400000≤l1∧l1≤l2∧l2≤5400000) (ht : -5400000≤t1∧t1≤t2∧t2≤5400000) (hk : -100000000≤k1∧k1≤k2∧k2≤100000000)
  (hm0:(TT.meetO (sideS (l1,l2) (t1,t2) (k1,k2))).1≤(TT.meetO (sideS (l1,l2) (t1,t2) (k1,k2))).2) (i1:TT.IsAsin (TT.meetO (sideS (l1,l2) (t1,t2) (k1,k2))).1 n) (i2:TT.IsAsin (-(TT.meetO (sideS (l1,l2) (t1,t2) (k1,k2))).2) m) :
  Cont Tryz.prog 48 [v6 l1 l2 t1 t2 k1 k2] (.tuple [arcV n (-m),.int .i64 0].toArray):=fun w=>by
 have o1:=TT.encl_ord hl.2.1
 have o2:=TT.encl_ord ht.2.1
 have o3:=TT.cosE_ord hl.2.1
 have o4:=TT.cosE_ord ht.2.1
 have o5:=TT.cosE_ord hk.2.1
 have o6:=TT.mulE_bd o1 o2
 have o7:=TT.mulE_bd o3 o4
 have o8:=TT.mulE_bd o7 o5
 have q1:=fun b=>oof_c (b:=b) (valI (lo:=l1) (hi:=l2) (by omega)) (valI (lo:=t1) (hi:=t2) (by omega)) (valI (lo:=k1) (hi:=k2) (by omega))
 have w1:=two_of o6
 have w2:=two_of o8
 have w3 : -2147483648≤(TT.addE (TT.mulE (TT.encl l1 l2) (TT.encl t1 t2)) (TT.mulE (TT.mulE (TT.cosE l1 l2) (TT.cosE t1 t2)) (TT.cosE k1 k2))).1∧(TT.addE (TT.mulE (TT.encl l1 l2) (TT.encl t1 t2)) (TT.mulE (TT.mulE (TT.cosE l1 l2) (TT.cosE t1 t2)) (TT.cosE k1 k2))).2≤2147483648:=by
  unfold TT.addE;dsimp only;omega
 have w4:two31 (sideS (l1,l2) (t1,t2) (k1,k2)):=by unfold sideS TT.addE;dsimp only;omega
 have q2:=Asin2_c (a:=(sideS (l1,l2) (t1,t2) (k1,k2)).1) (b:=(sideS (l1,l2) (t1,t2) (k1,k2)).2) w4 hm0 i1 i2
 clear i1 i2 hm0 w4
 unfold sideS at *
 dsimp only at q2
 refine enter0 Tryz.func48 rfl rfl rfl ?_
 repeat' (first|(refine nxN ?_)|(show YK _ _ _ _ _ ⟨_,.call { callee:=.value (.func 99),args:=_,argTypes:=_ },_,_,_,_⟩ _;refine YK.mk (zcI (q1 _) (fun w' hw'=>CosW.ofSt hw' (by exact memA)) ⟨rfl,rfl,rfl⟩ (by decide +kernel)) ?_)|(show YG _ _ _ _ _ _ ⟨_,.call { callee:=.value (.func 99),args:=_,argTypes:=_ },_,_,_,_⟩ _;refine YG.mk (fun hb=>by(try(have hc:=And.left hb;have hb:=And.right hb;rw[hc]));(try rw[hb]);exact zcI (q1 _) (fun w' hw'=>CosW.ofSt hw' (by exact memA)) ⟨rfl,rfl,rfl⟩ (by decide +kernel)) ?_)|(show YK _ _ _ _ _ ⟨_,.call { callee:=.value (.func 101),args:=_,argTypes:=_ },_,_,_,_⟩ _;refine YK.mk (zcI (omul_c (by assumption) (by assumption)) (fun w' hw'=>CosW.ofSt hw' (by exact memA)) ⟨rfl,rfl,rfl,rfl⟩ (by decide +kernel)) ?_)|(show YG _ _ _ _ _ _ ⟨_,.call { callee:=.value (.func 101),args:=_,argTypes:=_ },_,_,_,_⟩ _;refine YG.mk (fun hb=>by(try(have hc:=And.left hb;have hb:=And.right hb;rw[hc]));(try rw[hb]);exact zcI (omul_c (by assumption) (by assumption)) (fun w' hw'=>CosW.ofSt hw' (by exact memA)) ⟨rfl,rfl,rfl,rfl⟩ (by decide +kernel)) ?_)|(show YK _ _ _ _ _ ⟨_,.call { callee:=.value (.func 100),args:=_,argTypes:=_ },_,_,_,_⟩ _;refine YK.mk (zcI (oadd_c (by assumption) (by assumption) (by assumption)) (fun w' hw'=>CosW.ofSt hw' (by exact memA)) ⟨rfl,rfl,rfl,rfl⟩ (by decide +kernel)) ?_)|(show YG _ _ _ _ _ _ ⟨_,.call { callee:=.value (.func 100),args:=_,argTypes:=_ },_,_,_,_⟩ _;refine YG.mk (fun hb=>by(try(have hc:=And.left hb;have hb:=And.right hb;rw[hc]));(try rw[hb]);exact zcI (oadd_c (by assumption) (by assumption) (by assumption)) (fun w' hw'=>CosW.ofSt hw' (by exact memA)) ⟨rfl,rfl,rfl,rfl⟩ (by decide +kernel)) ?_)|(show VK _ _ _ _ _ ⟨_,.load 108 _,_,_,_,_⟩ _;refine VK.mk (zlP (k:=2) (by rfl) (by exact memA) (by decide +kernel) (by rfl)) ?_)|(show YK _ _ _ _ _ ⟨_,.load 108 _,_,_,_,_⟩ _;refine YK.ofV (zlP (k:=2) (by rfl) (by exact memA) (by decide +kernel) (by rfl)) ?_)|(show VG _ _ _ _ _ _ ⟨_,.load 108 _,_,_,_,_⟩ _;refine VG.mk (fun hb=>by(try rw[hb]);exact zlP (k:=2) (by rfl) (by exact memA) (by decide +kernel) (by rfl)) ?_)|(show YG _ _ _ _ _ _ ⟨_,.load 108 _,_,_,_,_⟩ _;refine YG.mk (fun hb=>by(try rw[hb]);exact V.y (zlP (k:=2) (by rfl) (by exact memA) (by decide +kernel) (by rfl))) ?_)|(show YK _ _ _ _ _ _ _;first|refine YK.mk (zcA (q2) ⟨rfl,rfl⟩) ?_)|(refine nxV ?_)|(refine nSS ?_)|(refine nS1 fun _=>?_)|(refine nMM ?_)|(refine nM1 fun _=>?_)|(show YG _ _ _ _ _ _ _ _;refine YG.mk (fun hb=>by(try(have hc:=And.left hb;have hb:=And.right hb;rw[hc]));(try rw[hb]);first|exact(zcA (q2) ⟨rfl,rfl⟩)|exact V.y vAuto) ?_)|(refine nxG ?_)|(refine G.mA 3 [.go 0,.go 1,.go 2,.go 3,.go 4,.go 5,.go 7,.go 8,.go 9,.go 10,.go 11,.go 12,.go 14,.go 15,.pend 18,.go 6,.go 13,.go 16,.go 17,.done,.go 19] ?_)|(refine G.mA 5 [.go 0,.go 1,.go 2,.go 3,.go 4,.go 5,.go 6] ?_)|(refine nxX ?_)|(refine G.cN rfl (fun hc=>?_) (fun hc=>?_)<;>(try first|exact hc.elim|(exfalso;omega))))
 all_goals first
  |(exfalso;simp at hc;omega)
  |exact X.ret (vs:=[_,_]) rfl ⟨⟨_,_,_,_,rfl,(by exact memA),lenA,by decide +kernel,rfl⟩,rfl,rfl⟩ rfl rE
theorem olat_c {a b:Int} (h : -5400000≤a∧a≤b∧b≤5400000):Cont Tryz.prog 98 [arcV a b] (.bool true):=fun w=>by
 have q1:=gval_c (a:=a) (b:=b) (by omega)
 refine enter0 Tryz.func98 rfl rfl rfl ?_
 repeat' (first|(refine nxN ?_)|(show YK _ _ _ _ _ _ _;first|refine YK.mk (zcA (q1) ⟨rfl,rfl⟩) ?_)|(refine nxV ?_)|(refine nSS ?_)|(refine nS1 fun _=>?_)|(refine nMM ?_)|(refine nM1 fun _=>?_)|(show YG _ _ _ _ _ _ _ _;refine YG.mk (fun hb=>by(try(have hc:=And.left hb;have hb:=And.right hb;rw[hc]));(try rw[hb]);first|exact(zcA (q1) ⟨rfl,rfl⟩)|exact V.y vAuto) ?_)|(refine nxG ?_)|(refine nxX ?_)|(refine G.cN rfl (fun hc=>?_) (fun hc=>?_)<;>(try first|exact hc.elim|(exfalso;omega))))
 all_goals exact X.ret (vs:=[_]) rfl ⟨rfl,rfl⟩ rfl (fun w hw=>⟨ret_bool (by simp;omega),hw.ext⟩)
theorem ovalid_c {l1 l2 t1 t2 k1 k2:Int} (hl : -5400000≤l1∧l1≤l2∧l2≤5400000) (ht : -5400000≤t1∧t1≤t2∧t2≤5400000) (hk : -100000000≤k1∧k1≤k2∧k2≤100000000):Cont Tryz.prog 47 [v6 l1 l2 t1 t2 k1 k2] (.bool true):=fun w=>by
 have q1:=olat_c hl
 have q2:=olat_c ht
 have q3:=gval_c (a:=k1) (b:=k2) (by omega)
 refine enter0 Tryz.func47 rfl rfl rfl ?_
 repeat' (first|(refine nxN ?_)|(show VK _ _ _ _ _ ⟨_,.load 42 _,_,_,_,_⟩ _;refine VK.mk (zlP (k:=2) (by rfl) (by exact memA) (by decide +kernel) (by rfl)) ?_)|(show YK _ _ _ _ _ ⟨_,.load 42 _,_,_,_,_⟩ _;refine YK.ofV (zlP (k:=2) (by rfl) (by exact memA) (by decide +kernel) (by rfl)) ?_)|(show VG _ _ _ _ _ _ ⟨_,.load 42 _,_,_,_,_⟩ _;refine VG.mk (fun hb=>by(try rw[hb]);exact zlP (k:=2) (by rfl) (by exact memA) (by decide +kernel) (by rfl)) ?_)|(show YG _ _ _ _ _ _ ⟨_,.load 42 _,_,_,_,_⟩ _;refine YG.mk (fun hb=>by(try rw[hb]);exact V.y (zlP (k:=2) (by rfl) (by exact memA) (by decide +kernel) (by rfl))) ?_)|(show YK _ _ _ _ _ _ _;first|refine YK.mk (zcA (q1) ⟨rfl,rfl⟩) ?_|refine YK.mk (zcA (q2) ⟨rfl,rfl⟩) ?_|refine YK.mk (zcA (q3) ⟨rfl,rfl⟩) ?_)|(refine nxV ?_)|(refine nSS ?_)|(refine nS1 fun _=>?_)|(refine nMM ?_)|(refine nM1 fun _=>?_)|(show YG _ _ _ _ _ _ _ _;refine YG.mk (fun hb=>by(try(have hc:=And.left hb;have hb:=And.right hb;rw[hc]));(try rw[hb]);first|exact(zcA (q1) ⟨rfl,rfl⟩)|exact(zcA (q2) ⟨rfl,rfl⟩)|exact(zcA (q3) ⟨rfl,rfl⟩)|exact V.y vAuto) ?_)|(refine nxG ?_)|(refine nxX ?_)|(refine G.cN rfl (fun hc=>?_) (fun hc=>?_)<;>(try first|exact hc.elim|(exfalso;omega))))
 all_goals exact X.ret (vs:=[_]) rfl ⟨rfl,rfl⟩ rfl (fun w hw=>⟨ret_bool (by simp),hw.ext⟩)
theorem oAlt_c {l1 l2 t1 t2 k1 k2 n m:Int} (hl : -5400000≤l1∧l1≤l2∧l2≤5400000) (ht : -5400000≤t1∧t1≤t2∧t2≤5400000) (hk : -100000000≤k1∧k1≤k2∧k2≤100000000)
  (hm0:(TT.meetO (sideS (l1,l2) (t1,t2) (k1,k2))).1≤(TT.meetO (sideS (l1,l2) (t1,t2) (k1,k2))).2) (i1:TT.IsAsin (TT.meetO (sideS (l1,l2) (t1,t2) (k1,k2))).1 n) (i2:TT.IsAsin (-(TT.meetO (sideS (l1,l2) (t1,t2) (k1,k2))).2) m) :
  Cont Tryz.prog 13 [v6 l1 l2 t1 t2 k1 k2] (.tuple [arcV n (-m),.int .i64 0].toArray):=fun w=>by
 have q1:=ovalid_c hl ht hk
 have q2:=oalt_c hl ht hk hm0 i1 i2
 clear i1 i2 hm0
 refine enter0 Tryz.func13 rfl rfl rfl ?_
 repeat' (first|(refine nxN ?_)|(show YK _ _ _ _ _ _ _;first|refine YK.mk (zcA (q1) ⟨rfl,rfl⟩) ?_|refine YK.mk (zcA (q2) ⟨rfl,rfl⟩) ?_)|(refine nxV ?_)|(refine nSS ?_)|(refine nS1 fun _=>?_)|(refine nMM ?_)|(refine nM1 fun _=>?_)|(show YG _ _ _ _ _ _ _ _;refine YG.mk (fun hb=>by(try(have hc:=And.left hb;have hb:=And.right hb;rw[hc]));(try rw[hb]);first|exact(zcA (q1) ⟨rfl,rfl⟩)|exact(zcA (q2) ⟨rfl,rfl⟩)|exact V.y vAuto) ?_)|(refine nxG ?_)|(refine nxX ?_)|(refine G.cN rfl (fun hc=>?_) (fun hc=>?_)<;>(try first|exact hc.elim|(exfalso;omega))))
 all_goals exact X.ret (vs:=[_,_]) rfl ⟨⟨_,_,_,_,rfl,(by exact memA),lenA,by decide +kernel,rfl⟩,rfl,rfl⟩ rfl rE
structure SeenT where
 body:List UInt8
 h1:Int
 h2:Int
 z1:Int
 z2:Int
instance:Inhabited SeenT:=⟨⟨[],0,0,0,0⟩⟩
structure CirT where
 a:Int
 b:Int
 c:Int
 d:Int
 r1:Int
 r2:Int
instance:Inhabited CirT:=⟨⟨0,0,0,0,0,0⟩⟩
abbrev ctV (x:RR.CellT):Value:=celV x.lv x.r x.c
end Go.Proofs.YtjmdeplmenbmmaaGreat
namespace Go.Proofs.YtjmdeplmenbmmaaGreat
open Go.RowKit Go.Shelf
attribute [local go_sem] Oper.semAt_some
end Go.Proofs.YtjmdeplmenbmmaaGreat
namespace Go.Proofs.YtjmdeplmenbmmaaGreat
open Go.RowKit Go.Shelf
attribute [local go_sem] Oper.semAt_some
end Go.Proofs.YtjmdeplmenbmmaaGreat
namespace Go.Proofs.YtjmdeplmenbmmaaGreat
open Go.RowKit Go.Sort
end Go.Proofs.YtjmdeplmenbmmaaGreat
set_option maxHeartbeats 4000000
namespace Go.Proofs.YtjmdeplmenbmmaaGreat
open Go.RowKit Go.Shelf
end Go.Proofs.YtjmdeplmenbmmaaGreat
set_option maxHeartbeats 8000000
namespace Go.Proofs.YtjmdeplmenbmmaaGreat
open Go.RowKit
theorem arcV_eq {a b c d:Int} (h:a=c) (h2:b=d):arcV a b=arcV c d:=by rw[h,h2]
theorem cv_ok {x:RR.CellT} (ok:RR.okC x):cvB x.lv x.r x.c=true:=by
 obtain⟨h1,h2,h3⟩:=ok
 unfold cvB
 rw[Int.toNat_natCast]
 have e:(2:Int)^x.lv=((2^x.lv:Nat):Int):=by simp
 rw[e]
 simp only[Bool.and_eq_true,decide_eq_true_eq]
 omega
theorem cBox_c {x:RR.CellT} (ok:RR.okC x):Cont Tryz.prog 177 [celV x.lv x.r x.c] (.tuple [plV (bxA x) (bxB x) (bxC x) (bxD x),.int .i64 0].toArray):=fun w=>by
 have q1:=cval_c x.lv x.r x.c
 rw[cv_ok ok] at q1
 have q2:=box_c ok
 generalize bxA x=a at *
 generalize bxB x=b at *
 generalize bxC x=c at *
 generalize bxD x=d at *
 refine enter0 Tryz.func177 rfl rfl rfl ?_
 repeat' (first|(refine nxN ?_)|(show YK _ _ _ _ _ _ _;first|refine YK.mk (zcA (q1) ⟨rfl,rfl⟩) ?_|refine YK.mk (zcA (q2) ⟨rfl,rfl⟩) ?_)|(refine nxV ?_)|(refine nSS ?_)|(refine nS1 fun _=>?_)|(refine nMM ?_)|(refine nM1 fun _=>?_)|(show YG _ _ _ _ _ _ _ _;refine YG.mk (fun hb=>by(try(have hc:=And.left hb;have hb:=And.right hb;rw[hc]));(try rw[hb]);first|exact(zcA (q1) ⟨rfl,rfl⟩)|exact(zcA (q2) ⟨rfl,rfl⟩)|exact V.y vAuto) ?_)|(refine nxG ?_)|(refine nxX ?_)|(refine G.cN rfl (fun hc=>?_) (fun hc=>?_)<;>(try first|exact hc.elim|(exfalso;omega))))
 all_goals exact X.ret (vs:=[_,_]) rfl ⟨⟨_,_,_,_,rfl,(by exact memA),lenA,by decide +kernel,rfl⟩,rfl,rfl⟩ rfl rE
theorem mul_zero {c:Int×Int} (h:0≤c.1) (h2:c.1≤c.2):(TT.mulE (0,0) c).1≤0∧0≤(TT.mulE (0,0) c).2:=by
 unfold TT.mulE
 simp
theorem pl0_built:Tryz.prog.built 63 []=some [.int .i64 0,.int .i64 0,.int .i64 0,.int .i64 0].toArray:=by kernel_rfl
theorem rbox_c {x:RR.CellT} (ok:RR.okC x):Cont Tryz.prog 129 [ctV x] (v4 (bxA x) (bxB x) (bxC x) (bxD x)):=fun w=>by
 have q1:=cBox_c ok
 generalize bxA x=a at *
 generalize bxB x=b at *
 generalize bxC x=c at *
 generalize bxD x=d at *
 refine enter0 Tryz.func129 rfl rfl rfl ?_
 repeat' (first|(refine nxN ?_)|(show YK _ _ _ _ _ _ _;first|refine YK.mk (zcA (q1) ⟨rfl,rfl⟩) ?_)|(refine nxV ?_)|(refine nSS ?_)|(refine nS1 fun _=>?_)|(refine nMM ?_)|(refine nM1 fun _=>?_)|(show YG _ _ _ _ _ _ _ _;refine YG.mk (fun hb=>by(try(have hc:=And.left hb;have hb:=And.right hb;rw[hc]));(try rw[hb]);first|exact(zcA (q1) ⟨rfl,rfl⟩)|exact V.y vAuto) ?_)|(refine nxG ?_)|(refine nxX ?_)|(refine G.cN rfl (fun hc=>?_) (fun hc=>?_)<;>(try first|exact hc.elim|(exfalso;omega))))
 all_goals exact X.ret (vs:=[_]) rfl ⟨⟨_,_,_,_,rfl,(by exact memA),lenA,by decide +kernel,rfl⟩,rfl⟩ rfl rE
end Go.Proofs.YtjmdeplmenbmmaaGreat
