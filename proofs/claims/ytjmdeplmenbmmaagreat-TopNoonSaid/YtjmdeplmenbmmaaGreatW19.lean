/- Joined texts: Lha, Tra, Cln, Bas. -/
import Derived.Test.YtjmdeplmenbmmaaGreatW18
import Derived.Test.YtjmdeplmenbmmaaGreatW09
import Derived.Test.YtjmdeplmenbmmaaGreatW05
import Derived.Test.YtjmdeplmenbmmaaGreatW04
set_option linter.unusedVariables false
set_option maxHeartbeats 8000000
namespace Go.Proofs.YtjmdeplmenbmmaaGreat
open Go.RowKit
theorem time_built (a b:Int):Tryz.prog.built 39 [(0,.int .i64 a),(1,.int .i64 b)]=some [.int .i64 a,.int .i64 b].toArray:=by kernel_rfl
section
variable {b:Nat} {dv pv:Sl} {pl:List PagT} {nm:List UInt8} {lo hi lon:Int}
theorem wh_gha (hB:BkOk pl) (hle:lo≤hi) (h:(whR pl nm lo hi).2=0):0≤(whR pl nm lo hi).1.1.1∧(whR pl nm lo hi).1.1.1≤(whR pl nm lo hi).1.1.2∧(whR pl nm lo hi).1.1.2≤43200000:=by
 rw[wh_dir h]
 unfold dirF
 split
 ·unfold NO.betA
  refine turn_bd ?_
  have:=NO.fl_mono hle
  have:=NO.fl_up hi
  dsimp only
  omega
 ·unfold NO.ghaA
  split
  ·exact turn_bd (over_ord (gF_ord _) (bF_nn hB _) _ _)
  ·unfold NO.joinA
   refine turn_bd ?_
   have:=(turn_bd (over_ord (gF_ord (pl:=pl) (nm:=nm) (lo/86400000)) (bF_nn (nm:=nm) hB (lo/86400000)) (lo-lo/86400000*86400000) 86400000)).2.1
   unfold NO.hullA
   dsimp only
   omega
theorem nlha_c (hB:BkOk pl) (hlon:okA lon lon):ContIn Tryz.prog (BkW b dv pv pl) 11 [ptB b,strV nm,arcV lo hi,arcV lon lon] (.tuple [arcV (lhR pl nm lo hi lon).1.1 (lhR pl nm lo hi lon).1.2,.int .i64 (lhR pl nm lo hi lon).2].toArray):=fun w hw0=>by
 have q1:=nclk_c (a:=lo) (b:=hi)
 have q2:=nval_c hlon
 have q3:=nwhr_c (b:=b) (dv:=dv) (pv:=pv) (pl:=pl) (nm:=nm) (lo:=lo) (hi:=hi) hB
 have he:=wh_err (pl:=pl) (nm:=nm) (lo:=lo) (hi:=hi)
 have hg:=fun hle h=>wh_gha (pl:=pl) (nm:=nm) (lo:=lo) (hi:=hi) hB hle h
 have hft:¬timeOk lo hi→whR pl nm lo hi=(geo0,1):=fun h=>by unfold whR;rw[if_pos h]
 unfold lhR
 generalize whR pl nm lo hi=R at *
 by_cases ht:timeOk lo hi
 ·have ht2:=ht
  obtain⟨ht3,ht4,ht5⟩:=ht2
  rw[decide_eq_true ht] at q1
  clear hft ht
  obtain⟨g,e⟩:=R
  dsimp only at q3 he hg ⊢
  by_cases hz:e=0
  ·subst hz
   rw[if_neg (by simp)]
   have hg2:=hg ht4 rfl
   have q4:=nturn_c hlon
   have e1:NO.turnA (lon,lon)=(lon%21600000,lon%21600000):=by
    unfold NO.turnA
    dsimp only
    rw[if_neg (by omega)]
    exact Prod.ext rfl (by dsimp only;omega)
   rw[e1] at q4
   have bm:=Int.emod_nonneg lon (show (21600000:Int)≠0 by decide)
   have bn:=Int.emod_lt_of_pos lon (show (0:Int)<21600000 by decide)
   generalize lon%21600000=r at *
   obtain⟨⟨g1,g2⟩,g3⟩:=g
   dsimp only at q3 q4 hg2 ⊢
   have q5:=nadd_c (a:=g1) (b:=g2) (c:=r) (d:=r) (by omega) (by omega) (by omega)
   have q6:=nturn_c (a:=g1+r) (b:=g2+r) (by omega)
   generalize NO.turnA (g1+r,g2+r)=T at *
   generalize g1+r=x at *
   generalize g2+r=y at *
   refine enter0 Tryz.func11 rfl rfl rfl ?_
   repeat' (first|(refine nxN ?_)|(show YK _ _ _ _ _ ⟨_,.binOp .eql _ _ (.const (.pointer none)) _,_,_,_,_⟩ _;refine YK.ofV (y_nilNo (by rfl) (by rfl) bk_ptr) ?_)|(show VK _ _ _ _ _ ⟨_,.load 42 _,_,_,_,_⟩ _;refine VK.mk (zlP (k:=2) (by rfl) (by exact memA) (by decide +kernel) (by rfl)) ?_)|(show YK _ _ _ _ _ ⟨_,.load 42 _,_,_,_,_⟩ _;refine YK.ofV (zlP (k:=2) (by rfl) (by exact memA) (by decide +kernel) (by rfl)) ?_)|(show VG _ _ _ _ _ _ ⟨_,.load 42 _,_,_,_,_⟩ _;refine VG.mk (fun hb=>by(try(have hc:=And.left hb;have hb:=And.right hb;rw[hc]));(try rw[hb]);exact zlP (k:=2) (by rfl) (by exact memA) (by decide +kernel) (by rfl)) ?_)|(show YG _ _ _ _ _ _ ⟨_,.load 42 _,_,_,_,_⟩ _;refine YG.mk (fun hb=>by(try(have hc:=And.left hb;have hb:=And.right hb;rw[hc]));(try rw[hb]);exact V.y (zlP (k:=2) (by rfl) (by exact memA) (by decide +kernel) (by rfl))) ?_)|(show YK _ _ _ _ _ ⟨_,.call { callee:=.value (.func 10),args:=_,argTypes:=_ },_,_,_,_⟩ _;refine YK.mk (zcI (q3) (fun w' hw'=>hw0.keep hw'.ext) ⟨rfl,rfl,rfl,rfl⟩ (by decide +kernel)) ?_)|(show YG _ _ _ _ _ _ ⟨_,.call { callee:=.value (.func 10),args:=_,argTypes:=_ },_,_,_,_⟩ _;refine YG.mk (fun hb=>by(try(have hc:=And.left hb;have hb:=And.right hb;rw[hc]));(try rw[hb]);exact zcI (q3) (fun w' hw'=>hw0.keep hw'.ext) ⟨rfl,rfl,rfl,rfl⟩ (by decide +kernel)) ?_)|(show YK _ _ _ _ _ _ _;first|refine YK.mk (zcA (q1) ⟨rfl,rfl⟩) ?_|refine YK.mk (zcA (q2) ⟨rfl,rfl⟩) ?_|refine YK.mk (zcA (q4) ⟨rfl,rfl⟩) ?_|refine YK.mk (zcA (q5) ⟨rfl,rfl,rfl⟩) ?_|refine YK.mk (zcA (q6) ⟨rfl,rfl⟩) ?_)|(refine nxV ?_)|(refine nSS ?_)|(refine nS1 fun _=>?_)|(refine nMM ?_)|(refine nM1 fun _=>?_)|(show YG _ _ _ _ _ _ _ _;refine YG.mk (fun hb=>by(try(have hc:=And.left hb;have hb:=And.right hb;rw[hc]));(try rw[hb]);first|exact(zcA (q1) ⟨rfl,rfl⟩)|exact(zcA (q2) ⟨rfl,rfl⟩)|exact(zcA (q4) ⟨rfl,rfl⟩)|exact(zcA (q5) ⟨rfl,rfl,rfl⟩)|exact(zcA (q6) ⟨rfl,rfl⟩)|exact V.y vAuto) ?_)|(refine nxG ?_)|(refine nxX ?_)|(refine G.cN rfl (fun hc=>?_) (fun hc=>?_)<;>(try first|exact hc.elim|(exfalso;omega))))
   all_goals first
    |(exfalso;simp at hc;done)
    |(exfalso;omega)
    |exact X.ret (vs:=[_,_]) rfl ⟨⟨_,_,_,_,rfl,(by exact memA),lenA,by decide +kernel,rfl⟩,rfl,rfl⟩ rfl rE
  ·rw[if_pos hz]
   obtain rfl:=he.resolve_left hz
   refine enter0 Tryz.func11 rfl rfl rfl ?_
   repeat' (first|(refine nxN ?_)|(show YK _ _ _ _ _ ⟨_,.binOp .eql _ _ (.const (.pointer none)) _,_,_,_,_⟩ _;refine YK.ofV (y_nilNo (by rfl) (by rfl) bk_ptr) ?_)|(show YK _ _ _ _ _ ⟨_,.call { callee:=.value (.func 10),args:=_,argTypes:=_ },_,_,_,_⟩ _;refine YK.mk (zcI (q3) (fun w' hw'=>hw0.keep hw'.ext) ⟨rfl,rfl,rfl,rfl⟩ (by decide +kernel)) ?_)|(show YG _ _ _ _ _ _ ⟨_,.call { callee:=.value (.func 10),args:=_,argTypes:=_ },_,_,_,_⟩ _;refine YG.mk (fun hb=>by(try(have hc:=And.left hb;have hb:=And.right hb;rw[hc]));(try rw[hb]);exact zcI (q3) (fun w' hw'=>hw0.keep hw'.ext) ⟨rfl,rfl,rfl,rfl⟩ (by decide +kernel)) ?_)|(show YK _ _ _ _ _ _ _;first|refine YK.mk (zcA (q1) ⟨rfl,rfl⟩) ?_|refine YK.mk (zcA (q2) ⟨rfl,rfl⟩) ?_)|(refine nxV ?_)|(refine nSS ?_)|(refine nS1 fun _=>?_)|(refine nMM ?_)|(refine nM1 fun _=>?_)|(show YG _ _ _ _ _ _ _ _;refine YG.mk (fun hb=>by(try(have hc:=And.left hb;have hb:=And.right hb;rw[hc]));(try rw[hb]);first|exact(zcA (q1) ⟨rfl,rfl⟩)|exact(zcA (q2) ⟨rfl,rfl⟩)|exact V.y vAuto) ?_)|(refine nxG ?_)|(refine nxX ?_)|(refine G.cN rfl (fun hc=>?_) (fun hc=>?_)<;>(try first|exact hc.elim|(exfalso;omega))))
   all_goals first
    |(exfalso;simp at hc;done)
    |(exfalso;omega)
    |exact X.ret (vs:=[_,_]) rfl ⟨⟨_,_,_,_,rfl,(by exact memA),lenA,by decide +kernel,rfl⟩,rfl,rfl⟩ rfl rE
 ·rw[hft ht]
  rw[decide_eq_false ht] at q1
  rw[if_pos (by simp)]
  refine enter0 Tryz.func11 rfl rfl rfl ?_
  repeat' (first|(refine nxN ?_)|(show YK _ _ _ _ _ ⟨_,.binOp .eql _ _ (.const (.pointer none)) _,_,_,_,_⟩ _;refine YK.ofV (y_nilNo (by rfl) (by rfl) bk_ptr) ?_)|(show YK _ _ _ _ _ _ _;first|refine YK.mk (zcA (q1) ⟨rfl,rfl⟩) ?_|refine YK.mk (zcA (q2) ⟨rfl,rfl⟩) ?_)|(refine nxV ?_)|(refine nSS ?_)|(refine nS1 fun _=>?_)|(refine nMM ?_)|(refine nM1 fun _=>?_)|(show YG _ _ _ _ _ _ _ _;refine YG.mk (fun hb=>by(try(have hc:=And.left hb;have hb:=And.right hb;rw[hc]));(try rw[hb]);first|exact(zcA (q1) ⟨rfl,rfl⟩)|exact(zcA (q2) ⟨rfl,rfl⟩)|exact V.y vAuto) ?_)|(refine nxG ?_)|(refine nxX ?_)|(refine G.cN rfl (fun hc=>?_) (fun hc=>?_)<;>(try first|exact hc.elim|(exfalso;omega))))
  all_goals first
   |(exfalso;simp at hc;done)
   |(exfalso;omega)
   |exact X.ret (vs:=[_,_]) rfl ⟨⟨_,_,_,_,rfl,(by exact memA),lenA,by decide +kernel,rfl⟩,rfl,rfl⟩ rfl rE
theorem lh_ok (hB:BkOk pl) (h:(lhR pl nm lo hi lon).2=0):okA (lhR pl nm lo hi lon).1.1 (lhR pl nm lo hi lon).1.2:=by
 rw[lh_zero] at h
 have hz:=(wh_zero.1 h).1
 have:=lh_bd (lon:=lon) hB hz.2.1 h
 omega
theorem nagr_c (hB:BkOk pl) (hlon:okA lon lon):ContIn Tryz.prog (BkW b dv pv pl) 38 [ptB b,strV nm,arcV lon lon,.int .i64 lo,.int .i64 hi] (.tuple [.bool (agR pl nm lo hi lon).1,.int .i64 (agR pl nm lo hi lon).2].toArray):=fun w hw0=>by
 have q3:=nlha_c (b:=b) (dv:=dv) (pv:=pv) (pl:=pl) (nm:=nm) (lo:=lo) (hi:=hi) hB hlon
 have hk:=lh_ok (nm:=nm) (lo:=lo) (hi:=hi) (lon:=lon) hB
 unfold agR
 generalize lhR pl nm lo hi lon=R at *
 obtain⟨⟨r1,r2⟩,e⟩:=R
 dsimp only at q3 hk ⊢
 by_cases hz:e=0
 ·subst hz
  rw[if_neg (by simp)]
  have q4:=nagree_c (c:=0) (d:=0) (hk rfl) (by omega)
  dsimp only
  generalize (decide ((0-r1)%21600000≤r2-r1)||decide ((r1-0)%21600000≤0-0))=x at *
  refine enter0 Tryz.func38 rfl rfl rfl ?_
  repeat' (first|(refine nxN ?_)|(show VK _ _ _ _ _ ⟨_,.build 39 #[(0,_),(1,_)],_,_,_,_⟩ _;refine VK.mk (y_build (parts:=[(0,_),(1,_)]) (vs:=[_,_]) ⟨rfl,rfl,rfl⟩ (time_built _ _)) ?_)|(show YK _ _ _ _ _ ⟨_,.build 39 #[(0,_),(1,_)],_,_,_,_⟩ _;refine YK.ofV (y_build (parts:=[(0,_),(1,_)]) (vs:=[_,_]) ⟨rfl,rfl,rfl⟩ (time_built _ _)) ?_)|(show VG _ _ _ _ _ _ ⟨_,.build 39 #[(0,_),(1,_)],_,_,_,_⟩ _;refine VG.mk (fun hb=>by(try(have hc:=And.left hb;have hb:=And.right hb;rw[hc]));(try rw[hb]);exact y_build (parts:=[(0,_),(1,_)]) (vs:=[_,_]) ⟨rfl,rfl,rfl⟩ (time_built _ _)) ?_)|(show YG _ _ _ _ _ _ ⟨_,.build 39 #[(0,_),(1,_)],_,_,_,_⟩ _;refine YG.mk (fun hb=>by(try(have hc:=And.left hb;have hb:=And.right hb;rw[hc]));(try rw[hb]);exact V.y (y_build (parts:=[(0,_),(1,_)]) (vs:=[_,_]) ⟨rfl,rfl,rfl⟩ (time_built _ _))) ?_)|(show YK _ _ _ _ _ ⟨_,.call { callee:=.value (.func 11),args:=_,argTypes:=_ },_,_,_,_⟩ _;refine YK.mk (zcI (q3) (fun w' hw'=>hw0.keep hw'.ext) ⟨rfl,rfl,rfl,rfl,rfl⟩ (by decide +kernel)) ?_)|(show YG _ _ _ _ _ _ ⟨_,.call { callee:=.value (.func 11),args:=_,argTypes:=_ },_,_,_,_⟩ _;refine YG.mk (fun hb=>by(try(have hc:=And.left hb;have hb:=And.right hb;rw[hc]));(try rw[hb]);exact zcI (q3) (fun w' hw'=>hw0.keep hw'.ext) ⟨rfl,rfl,rfl,rfl,rfl⟩ (by decide +kernel)) ?_)|(show YK _ _ _ _ _ _ _;first|refine YK.mk (zcA (q4) ⟨rfl,rfl,rfl⟩) ?_)|(refine nxV ?_)|(refine nSS ?_)|(refine nS1 fun _=>?_)|(refine nMM ?_)|(refine nM1 fun _=>?_)|(show YG _ _ _ _ _ _ _ _;refine YG.mk (fun hb=>by(try(have hc:=And.left hb;have hb:=And.right hb;rw[hc]));(try rw[hb]);first|exact(zcA (q4) ⟨rfl,rfl,rfl⟩)|exact V.y vAuto) ?_)|(refine nxG ?_)|(refine nxX ?_)|(refine G.cN rfl (fun hc=>?_) (fun hc=>?_)<;>(try first|exact hc.elim|(exfalso;omega))))
  all_goals first
   |(exfalso;simp at hc;done)
   |(exfalso;omega)
   |exact X.ret (vs:=[_,_]) rfl ⟨rfl,rfl,rfl⟩ rfl rE
 ·rw[if_pos hz]
  dsimp only
  refine enter0 Tryz.func38 rfl rfl rfl ?_
  repeat' (first|(refine nxN ?_)|(show VK _ _ _ _ _ ⟨_,.build 39 #[(0,_),(1,_)],_,_,_,_⟩ _;refine VK.mk (y_build (parts:=[(0,_),(1,_)]) (vs:=[_,_]) ⟨rfl,rfl,rfl⟩ (time_built _ _)) ?_)|(show YK _ _ _ _ _ ⟨_,.build 39 #[(0,_),(1,_)],_,_,_,_⟩ _;refine YK.ofV (y_build (parts:=[(0,_),(1,_)]) (vs:=[_,_]) ⟨rfl,rfl,rfl⟩ (time_built _ _)) ?_)|(show VG _ _ _ _ _ _ ⟨_,.build 39 #[(0,_),(1,_)],_,_,_,_⟩ _;refine VG.mk (fun hb=>by(try(have hc:=And.left hb;have hb:=And.right hb;rw[hc]));(try rw[hb]);exact y_build (parts:=[(0,_),(1,_)]) (vs:=[_,_]) ⟨rfl,rfl,rfl⟩ (time_built _ _)) ?_)|(show YG _ _ _ _ _ _ ⟨_,.build 39 #[(0,_),(1,_)],_,_,_,_⟩ _;refine YG.mk (fun hb=>by(try(have hc:=And.left hb;have hb:=And.right hb;rw[hc]));(try rw[hb]);exact V.y (y_build (parts:=[(0,_),(1,_)]) (vs:=[_,_]) ⟨rfl,rfl,rfl⟩ (time_built _ _))) ?_)|(show YK _ _ _ _ _ ⟨_,.call { callee:=.value (.func 11),args:=_,argTypes:=_ },_,_,_,_⟩ _;refine YK.mk (zcI (q3) (fun w' hw'=>hw0.keep hw'.ext) ⟨rfl,rfl,rfl,rfl,rfl⟩ (by decide +kernel)) ?_)|(show YG _ _ _ _ _ _ ⟨_,.call { callee:=.value (.func 11),args:=_,argTypes:=_ },_,_,_,_⟩ _;refine YG.mk (fun hb=>by(try(have hc:=And.left hb;have hb:=And.right hb;rw[hc]));(try rw[hb]);exact zcI (q3) (fun w' hw'=>hw0.keep hw'.ext) ⟨rfl,rfl,rfl,rfl,rfl⟩ (by decide +kernel)) ?_)|(refine nxV ?_)|(refine nSS ?_)|(refine nS1 fun _=>?_)|(refine nMM ?_)|(refine nM1 fun _=>?_)|(refine nxG ?_)|(refine nxX ?_)|(refine G.cN rfl (fun hc=>?_) (fun hc=>?_)<;>(try first|exact hc.elim|(exfalso;omega))))
  all_goals first
   |(exfalso;simp at hc;done)
   |(exfalso;omega)
   |exact X.ret (vs:=[_,_]) rfl ⟨rfl,rfl,rfl⟩ rfl rE
end
theorem time_z:Tryz.prog.built 39 []=some [.int .i64 0,.int .i64 0].toArray:=by kernel_rfl
def TrR (pl:List PagT) (nm:List UInt8) (lon fr:Int) (r:(Int×Int)×Int):Prop :=
 (r.2≠0∧r.1=(0,0))∨(r.2=0∧∃(k:Nat) (h0 l1:Int),(∀j:Nat,j<k→agR pl nm (fr+j*3600000) (fr+(j+1)*3600000) lon≠(true,0))∧(k≤25∧fr+k*3600000≤r.1.1∧r.1.1≤h0∧l1≤r.1.2∧r.1.2≤fr+k*3600000+7200000∧((r.1.1=l1∧h0=r.1.2)∨h0≤l1))∧(-70368744177664≤fr∧fr≤70368646977664)∧agR pl nm r.1.1 h0 lon=(true,0)∧agR pl nm l1 r.1.2 lon=(true,0))
abbrev Sp2:=(Int×Int)×(Int×Int)
def ozL (z:Option Sp2):Int:=match z with|none=>0|some p=>p.1.1
def ozH (z:Option Sp2):Int:=match z with|none=>0|some p=>p.2.2
def Ok2 (pl:List PagT) (nm:List UInt8) (lon fi hi:Int) (z:Option Sp2):Prop:=∀p,z=some p→(fi≤p.1.1∧p.1.1≤p.1.2∧p.2.1≤p.2.2∧p.2.2≤hi∧((p.1.1=p.2.1∧p.1.2=p.2.2)∨p.1.2≤p.2.1))∧agR pl nm p.1.1 p.1.2 lon=(true,0)∧agR pl nm p.2.1 p.2.2 lon=(true,0)
def fsK (fr:Int):Nat→Int
 |0=>fr
 |k+1=>fr+(k:Int)*3600000
def InvF (pl:List PagT) (nm:List UInt8) (lon fr:Int) (y:Nat×Bool):Prop:=y.1≤26∧match y.2 with
 |false=>∀j:Nat,j<y.1→agR pl nm (fr+j*3600000) (fr+(j+1)*3600000) lon≠(true,0)
 |true=>∃k:Nat,y.1=k+1∧(∀j:Nat,j<k→agR pl nm (fr+j*3600000) (fr+(j+1)*3600000) lon≠(true,0))
section
variable {b:Nat} {dv pv:Sl} {pl:List PagT} {nm:List UInt8} {lon fr:Int}
theorem InvF.next {k:Nat} {rb:Bool} {re:Int} (h:InvF pl nm lon fr (k,false)) (hk:k≤25) (hr:agR pl nm (fr+k*3600000) (fr+k*3600000+3600000) lon=(rb,re)) (hre:re=0):InvF pl nm lon fr (k+1,rb):=by
 obtain⟨h1,h2⟩:=h
 dsimp only at h1 h2
 refine⟨by dsimp only;omega,?_⟩
 cases rb with
 |false =>
  intro j hj
  dsimp only at hj
  rcases Nat.lt_or_ge j k with g|g
  ·exact h2 j g
  ·obtain rfl:j=k:=by omega
   rw[show fr+((j:Int)+1)*3600000=fr+j*3600000+3600000 by omega,hr]
   simp
 |true=>exact⟨k,rfl,h2⟩
theorem Ok2.next {fi x y:Int} {z:Option Sp2} (h:Ok2 pl nm lon fi (fi+x) z) (h0:0≤x∧x≤y) (hr:agR pl nm (fi+x) (fi+y) lon=(true,0)):Ok2 pl nm lon fi (fi+y) (some (match z with|none=>((fi+x,fi+y),(fi+x,fi+y))|some p=>(p.1,(fi+x,fi+y)))):=by
 intro p hp
 cases z with
 |none =>
  obtain rfl:=Option.some.inj hp
  exact⟨⟨by dsimp only;omega,by dsimp only;omega,by dsimp only;omega,by dsimp only;omega,.inl ⟨rfl,rfl⟩⟩,hr,hr⟩
 |some q =>
  obtain rfl:=Option.some.inj hp
  obtain⟨⟨a1,a2,a3,a4,a5⟩,a6,a7⟩:=h q rfl
  exact⟨⟨a1,a2,by dsimp only;omega,by dsimp only;omega,.inr (by dsimp only;omega)⟩,a6,hr⟩
theorem Ok2.keep {fi x y:Int} {z:Option Sp2} (h:Ok2 pl nm lon fi (fi+x) z) (h0:x≤y):Ok2 pl nm lon fi (fi+y) z:=fun p hp=>by
 obtain⟨⟨a1,a2,a3,a4,a5⟩,a6⟩:=h p hp
 exact⟨⟨a1,a2,a3,by omega,a5⟩,a6⟩
theorem ntra_c (hB:BkOk pl) (hlon:okA lon lon):ContXI Tryz.prog (BkW b dv pv pl) 8 [ptB b,strV nm,arcV lon lon,.int .i64 fr] (TrR pl nm lon fr) (fun r=>.tuple [arcV r.1.1 r.1.2,.int .i64 r.2].toArray) (fun _=>[]):=fun w hw0=>by
 have q2:=nval_c hlon
 by_cases hfr : -70368744177664≤fr∧fr≤70368646977664
 ·refine enter0 Tryz.func8 rfl rfl rfl ?_
  repeat' (first|(refine nxN ?_)|(show YK _ _ _ _ _ ⟨_,.binOp .eql _ _ (.const (.pointer none)) _,_,_,_,_⟩ _;refine YK.ofV (y_nilNo (by rfl) (by rfl) bk_ptr) ?_)|(show YK _ _ _ _ _ _ _;first|refine YK.mk (zcA (q2) ⟨rfl,rfl⟩) ?_)|(refine nxV ?_)|(refine nSS ?_)|(refine nS1 fun _=>?_)|(refine nMM ?_)|(refine nM1 fun _=>?_)|(show YG _ _ _ _ _ _ _ _;refine YG.mk (fun hb=>by(try(have hc:=And.left hb;have hb:=And.right hb;rw[hc]));(try rw[hb]);first|exact(zcA (q2) ⟨rfl,rfl⟩)|exact V.y vAuto) ?_)|(refine nxG ?_)|(refine nxX ?_)|(refine G.cN rfl (fun hc=>?_) (fun hc=>?_)<;>(try first|exact hc.elim|(exfalso;omega))))
  rename_i b6 b8
  clear hc
  refine G.loop (ι:=Nat×Bool) (fun y=>[(0,ptB b),(1,strV nm),(3,.int .i64 fr),(6,.pointer (some ⟨b6,0,none⟩)),(8,.pointer (some ⟨b8,0,none⟩)),(10,.int .i64 (fsK fr y.1)),(11,.bool y.2),(12,.int .i64 (y.1:Int))]) (fun _=>[Hl.blk b8 39 [.int .i64 0,.int .i64 0],Hl.blk b6 42 [.int .i64 lon,.int .i64 lon]]) (InvF pl nm lon fr) (fun y=>27-y.1) (0,false) ⟨by dsimp only;omega,fun j hj=>by cases hj⟩ ⟨rfl,rfl,rfl,rfl,rfl,rfl,rfl,rfl,trivial⟩ (by exact fun w h=>h.sub subS) ?_
  rintro⟨k,fd⟩ mx hI hmx
  have g1:=hI.1
  dsimp only at g1 hmx ⊢
  cases fd with
  |false =>
   rcases Nat.lt_or_ge 25 k with hk|hk
   ·obtain rfl:k=26:=by omega
    repeat' (first|(refine nxN ?_)|(refine nxV ?_)|(refine nSS ?_)|(refine nS1 fun _=>?_)|(refine nMM ?_)|(refine nM1 fun _=>?_)|(refine nxG ?_)|(refine nxX ?_)|(refine G.cN rfl (fun hc=>?_) (fun hc=>?_)<;>(try first|exact hc.elim|(exfalso;omega))))
    all_goals first
     |(exfalso;omega)
     |exact X.retN (vs:=[_,_]) ((0,0),12) rfl ⟨⟨_,_,_,_,rfl,(by exact memA),lenA,by decide +kernel,rfl⟩,rfl,rfl⟩ rfl (.inl ⟨by decide,rfl⟩) rfl NewIn.nil
   ·have q1:=nagr_c (b:=b) (dv:=dv) (pv:=pv) (nm:=nm) (lo:=fr+(k:Int)*3600000) (hi:=fr+(k:Int)*3600000+3600000) hB hlon
    have hnx:=fun rb re=>InvF.next (rb:=rb) (re:=re) hI hk
    generalize agR pl nm (fr+(k:Int)*3600000) (fr+(k:Int)*3600000+3600000) lon=r at *
    obtain⟨rb,re⟩:=r
    dsimp only at q1
    have hnx:=hnx rb re rfl
    repeat' (first|(refine nxN ?_)|(show YK _ _ _ _ _ ⟨_,.call { callee:=.value (.func 38),args:=_,argTypes:=_ },_,_,_,_⟩ _;refine YK.mk (zcI (q1) (fun w' hw'=>hw0.keep hw'.ext) ⟨rfl,rfl,rfl,rfl,rfl,rfl⟩ (by decide +kernel)) ?_)|(show YG _ _ _ _ _ _ ⟨_,.call { callee:=.value (.func 38),args:=_,argTypes:=_ },_,_,_,_⟩ _;refine YG.mk (fun hb=>by(try(have hc:=And.left hb;have hb:=And.right hb;rw[hc]));(try rw[hb]);exact zcI (q1) (fun w' hw'=>hw0.keep hw'.ext) ⟨rfl,rfl,rfl,rfl,rfl,rfl⟩ (by decide +kernel)) ?_)|(refine nxV ?_)|(refine nSS ?_)|(refine nS1 fun _=>?_)|(refine nMM ?_)|(refine nM1 fun _=>?_)|(refine nxG ?_)|(refine nxX ?_)|(refine G.cN rfl (fun hc=>?_) (fun hc=>?_)<;>(try first|exact hc.elim|(exfalso;omega))))
    all_goals first
     |(exfalso;omega)
     |(refine X.again (k+1,rb) (hnx (by omega)) (by dsimp only;omega) ⟨rfl,rfl,rfl,rfl,rfl,rfl,rfl,rfl,trivial⟩ (by exact fun w h=>h.sub subS);done)
     |exact X.retN (vs:=[_,_]) ((0,0),re) rfl ⟨⟨_,_,_,_,rfl,(by exact memA),lenA,by decide +kernel,rfl⟩,rfl,rfl⟩ rfl (.inl ⟨by dsimp only;omega,rfl⟩) rfl NewIn.nil
  |true =>
   obtain⟨_,kk,hke,hno⟩:=hI
   dsimp only at hke
   subst hke
   have e9:fsK fr (kk+1)=fr+(kk:Int)*3600000:=rfl
   rw[e9]
   have hfi : -70368744177664≤fr+(kk:Int)*3600000∧fr+(kk:Int)*3600000≤70368736977664:=by omega
   obtain⟨fi,hfe⟩:∃fi,fi=fr+(kk:Int)*3600000:=⟨_,rfl⟩
   rw[←hfe] at hfi ⊢
   have q1:=nagr_c (b:=b) (dv:=dv) (pv:=pv) (nm:=nm) (lo:=fi+3600000) (hi:=fi+7200000) hB hlon
   generalize agR pl nm (fi+3600000) (fi+7200000) lon=r at q1
   obtain⟨rb,re⟩:=r
   dsimp only at q1
   repeat' (first|(refine nxN ?_)|(show YK _ _ _ _ _ ⟨_,.call { callee:=.value (.func 38),args:=_,argTypes:=_ },_,_,_,_⟩ _;refine YK.mk (zcI (q1) (fun w' hw'=>hw0.keep hw'.ext) ⟨rfl,rfl,rfl,rfl,rfl,rfl⟩ (by decide +kernel)) ?_)|(show YG _ _ _ _ _ _ ⟨_,.call { callee:=.value (.func 38),args:=_,argTypes:=_ },_,_,_,_⟩ _;refine YG.mk (fun hb=>by(try(have hc:=And.left hb;have hb:=And.right hb;rw[hc]));(try rw[hb]);exact zcI (q1) (fun w' hw'=>hw0.keep hw'.ext) ⟨rfl,rfl,rfl,rfl,rfl,rfl⟩ (by decide +kernel)) ?_)|(show YK _ _ _ _ _ ⟨_,.build 39 #[],_,_,_,_⟩ _;refine YK.ofV (y_build (parts:=[]) (vs:=[]) (by rfl) time_z) ?_)|(refine nxV ?_)|(refine nSS ?_)|(refine nS1 fun _=>?_)|(refine nMM ?_)|(refine nM1 fun _=>?_)|(refine nxG ?_)|(refine nxX ?_)|(refine G.cN rfl (fun hc=>?_) (fun hc=>?_)<;>(try first|exact hc.elim|(exfalso;omega))))
   ·exact X.retN (vs:=[_,_]) ((0,0),re) rfl ⟨⟨_,_,_,_,rfl,(by exact memA),lenA,by decide +kernel,rfl⟩,rfl,rfl⟩ rfl (.inl ⟨by dsimp only;omega,rfl⟩) rfl NewIn.nil
   rename_i b17
   clear q1 q2
   refine G.loop (ι:=Nat×Option Sp2) (fun y=>[(0,ptB b),(1,strV nm),(6,.pointer (some ⟨b6,0,none⟩)),(8,.pointer (some ⟨b8,0,none⟩)),(10,.int .i64 fi),(17,.pointer (some ⟨b17,0,none⟩)),(18,.bool y.2.isSome),(87,.int .i64 (y.1:Int))]) (fun y=>[Hl.blk b17 39 [.int .i64 (ozL y.2),.int .i64 (ozH y.2)],Hl.blk b8 39 [.int .i64 0,.int .i64 0],Hl.blk b6 42 [.int .i64 lon,.int .i64 lon]]) (fun y=>y.1≤8192∧Ok2 pl nm lon fi (fi+((y.1:Int)*3600000)/4096) y.2) (fun y=>8192-y.1) (0,none) ⟨by dsimp only;omega,fun p hp=>by cases hp⟩ ⟨rfl,rfl,rfl,rfl,rfl,rfl,rfl,rfl,trivial⟩ (by exact fun w h=>h.sub subS) ?_
   rintro⟨i,z⟩ mx2 ⟨g2,g3⟩ hmx2
   dsimp only at g2 g3 hmx2 ⊢
   rcases Nat.lt_or_ge i 8192 with hi|hi
   ·have q1:=nagr_c (b:=b) (dv:=dv) (pv:=pv) (nm:=nm) (lo:=fi+((i:Int)*3600000)/4096) (hi:=fi+(((i:Int)+1)*3600000)/4096) hB hlon
    have ed3:(((i+1:Nat):Int)*3600000)/4096=(((i:Int)+1)*3600000)/4096:=by rw[Int.natCast_add];rfl
    have hxy:0≤((i:Int)*3600000)/4096∧((i:Int)*3600000)/4096≤(((i:Int)+1)*3600000)/4096∧(((i:Int)+1)*3600000)/4096≤7200000:=by omega
    have hk1:=g3.keep hxy.2.1
    have hk2:=fun hr=>g3.next (y:=(((i:Int)+1)*3600000)/4096) ⟨hxy.1,hxy.2.1⟩ hr
    rw[←ed3] at hk1 hk2
    obtain⟨r,hr⟩:∃r,agR pl nm (fi+((i:Int)*3600000)/4096) (fi+(((i:Int)+1)*3600000)/4096) lon=r:=⟨_,rfl⟩
    rw[ed3,hr] at hk2
    rw[hr] at q1
    obtain⟨rb,re⟩:=r
    dsimp only at q1
    cases rb with
    |false =>
     repeat' (first|(refine nxN ?_)|(show YK _ _ _ _ _ ⟨_,.call { callee:=.value (.func 38),args:=_,argTypes:=_ },_,_,_,_⟩ _;refine YK.mk (zcI (q1) (fun w' hw'=>hw0.keep hw'.ext) ⟨rfl,rfl,rfl,rfl,rfl,rfl⟩ (by decide +kernel)) ?_)|(show YG _ _ _ _ _ _ ⟨_,.call { callee:=.value (.func 38),args:=_,argTypes:=_ },_,_,_,_⟩ _;refine YG.mk (fun hb=>by(try(have hc:=And.left hb;have hb:=And.right hb;rw[hc]));(try rw[hb]);exact zcI (q1) (fun w' hw'=>hw0.keep hw'.ext) ⟨rfl,rfl,rfl,rfl,rfl,rfl⟩ (by decide +kernel)) ?_)|(refine nxV ?_)|(refine nSS ?_)|(refine nS1 fun _=>?_)|(refine nMM ?_)|(refine nM1 fun _=>?_)|(refine nxG ?_)|(refine nxX ?_)|(refine G.cN rfl (fun hc=>?_) (fun hc=>?_)<;>(try first|exact hc.elim|(exfalso;omega))))
     all_goals first
      |(exfalso;omega)
      |(refine X.again (i+1,z) ⟨by dsimp only;omega,hk1⟩ (by dsimp only;omega) ⟨rfl,rfl,rfl,rfl,rfl,rfl,rfl,rfl,trivial⟩ (by exact fun w h=>h.sub subS);done)
      |exact X.retN (vs:=[_,_]) ((0,0),re) rfl ⟨⟨_,_,_,_,rfl,(by exact memA),lenA,by decide +kernel,rfl⟩,rfl,rfl⟩ rfl (.inl ⟨by dsimp only;omega,rfl⟩) rfl NewIn.nil
    |true =>
     cases z with
     |none =>
      dsimp only at hk2
      repeat' (first|(refine nxN ?_)|(show YK _ _ _ _ _ ⟨_,.call { callee:=.value (.func 38),args:=_,argTypes:=_ },_,_,_,_⟩ _;refine YK.mk (zcI (q1) (fun w' hw'=>hw0.keep hw'.ext) ⟨rfl,rfl,rfl,rfl,rfl,rfl⟩ (by decide +kernel)) ?_)|(show YG _ _ _ _ _ _ ⟨_,.call { callee:=.value (.func 38),args:=_,argTypes:=_ },_,_,_,_⟩ _;refine YG.mk (fun hb=>by(try(have hc:=And.left hb;have hb:=And.right hb;rw[hc]));(try rw[hb]);exact zcI (q1) (fun w' hw'=>hw0.keep hw'.ext) ⟨rfl,rfl,rfl,rfl,rfl,rfl⟩ (by decide +kernel)) ?_)|(refine nxV ?_)|(refine nSS ?_)|(refine nS1 fun _=>?_)|(refine nMM ?_)|(refine nM1 fun _=>?_)|(refine nxG ?_)|(refine nxX ?_)|(refine G.cN rfl (fun hc=>?_) (fun hc=>?_)<;>(try first|exact hc.elim|(exfalso;omega))))
      all_goals first
       |(exfalso;omega)
       |(exfalso;exact absurd (by assumption:(none:Option Sp2).isSome=true) (by simp))
       |(refine X.again (i+1,some ((fi+((i:Int)*3600000)/4096,fi+(((i:Int)+1)*3600000)/4096),(fi+((i:Int)*3600000)/4096,fi+(((i:Int)+1)*3600000)/4096))) ⟨by dsimp only;omega,hk2 (by rw[show re=0 by omega])⟩ (by dsimp only;omega) ⟨rfl,rfl,rfl,rfl,rfl,rfl,rfl,rfl,trivial⟩ (by exact fun w h=>h.sub subS);done)
       |exact X.retN (vs:=[_,_]) ((0,0),re) rfl ⟨⟨_,_,_,_,rfl,(by exact memA),lenA,by decide +kernel,rfl⟩,rfl,rfl⟩ rfl (.inl ⟨by dsimp only;omega,rfl⟩) rfl NewIn.nil
     |some p =>
      dsimp only at hk2
      repeat' (first|(refine nxN ?_)|(show YK _ _ _ _ _ ⟨_,.call { callee:=.value (.func 38),args:=_,argTypes:=_ },_,_,_,_⟩ _;refine YK.mk (zcI (q1) (fun w' hw'=>hw0.keep hw'.ext) ⟨rfl,rfl,rfl,rfl,rfl,rfl⟩ (by decide +kernel)) ?_)|(show YG _ _ _ _ _ _ ⟨_,.call { callee:=.value (.func 38),args:=_,argTypes:=_ },_,_,_,_⟩ _;refine YG.mk (fun hb=>by(try(have hc:=And.left hb;have hb:=And.right hb;rw[hc]));(try rw[hb]);exact zcI (q1) (fun w' hw'=>hw0.keep hw'.ext) ⟨rfl,rfl,rfl,rfl,rfl,rfl⟩ (by decide +kernel)) ?_)|(refine nxV ?_)|(refine nSS ?_)|(refine nS1 fun _=>?_)|(refine nMM ?_)|(refine nM1 fun _=>?_)|(refine nxG ?_)|(refine nxX ?_)|(refine G.cN rfl (fun hc=>?_) (fun hc=>?_)<;>(try first|exact hc.elim|(exfalso;omega))))
      all_goals first
       |(exfalso;omega)
       |(exfalso;exact absurd (by assumption:(some p).isSome=false) (by simp))
       |(refine X.again (i+1,some (p.1,(fi+((i:Int)*3600000)/4096,fi+(((i:Int)+1)*3600000)/4096))) ⟨by dsimp only;omega,hk2 (by rw[show re=0 by omega])⟩ (by dsimp only;omega) ⟨rfl,rfl,rfl,rfl,rfl,rfl,rfl,rfl,trivial⟩ (by exact fun w h=>h.sub subS);done)
       |exact X.retN (vs:=[_,_]) ((0,0),re) rfl ⟨⟨_,_,_,_,rfl,(by exact memA),lenA,by decide +kernel,rfl⟩,rfl,rfl⟩ rfl (.inl ⟨by dsimp only;omega,rfl⟩) rfl NewIn.nil
   ·obtain rfl:i=8192:=by omega
    cases z with
    |none =>
     repeat' (first|(refine nxN ?_)|(refine nxV ?_)|(refine nSS ?_)|(refine nS1 fun _=>?_)|(refine nMM ?_)|(refine nM1 fun _=>?_)|(refine nxG ?_)|(refine nxX ?_)|(refine G.cN rfl (fun hc=>?_) (fun hc=>?_)<;>(try first|exact hc.elim|(exfalso;omega))))
     all_goals first
      |(exfalso;simp at hc;done)
      |exact X.retN (vs:=[_,_]) ((0,0),12) rfl ⟨⟨_,_,_,_,rfl,(by exact memA),lenA,by decide +kernel,rfl⟩,rfl,rfl⟩ rfl (.inl ⟨by decide,rfl⟩) rfl NewIn.nil
    |some p =>
     obtain⟨⟨h1,h2,h3,h4,h5⟩,h6,h7⟩:=g3 p rfl
     have h8:(((8192:Nat):Int)*3600000)/4096=7200000:=by decide
     rw[h8] at h4
     repeat' (first|(refine nxN ?_)|(refine nxV ?_)|(refine nSS ?_)|(refine nS1 fun _=>?_)|(refine nMM ?_)|(refine nM1 fun _=>?_)|(refine nxG ?_)|(refine nxX ?_)|(refine G.cN rfl (fun hc=>?_) (fun hc=>?_)<;>(try first|exact hc.elim|(exfalso;omega))))
     all_goals first
      |(exfalso;simp at hc;done)
      |exact X.retN (vs:=[_,_]) ((p.1.1,p.2.2),0) rfl ⟨⟨_,_,_,_,rfl,(by exact memA),lenA,by decide +kernel,rfl⟩,rfl,rfl⟩ rfl (.inr ⟨rfl,kk,p.1.2,p.2.1,hno,⟨by omega,by dsimp only;omega,h2,h3,by dsimp only;omega,h5⟩,hfr,h6,h7⟩) rfl NewIn.nil
 ·refine enter0 Tryz.func8 rfl rfl rfl ?_
  repeat' (first|(refine nxN ?_)|(show YK _ _ _ _ _ ⟨_,.binOp .eql _ _ (.const (.pointer none)) _,_,_,_,_⟩ _;refine YK.ofV (y_nilNo (by rfl) (by rfl) bk_ptr) ?_)|(show YK _ _ _ _ _ _ _;first|refine YK.mk (zcA (q2) ⟨rfl,rfl⟩) ?_)|(refine nxV ?_)|(refine nSS ?_)|(refine nS1 fun _=>?_)|(refine nMM ?_)|(refine nM1 fun _=>?_)|(show YG _ _ _ _ _ _ _ _;refine YG.mk (fun hb=>by(try(have hc:=And.left hb;have hb:=And.right hb;rw[hc]));(try rw[hb]);first|exact(zcA (q2) ⟨rfl,rfl⟩)|exact V.y vAuto) ?_)|(refine nxG ?_)|(refine nxX ?_)|(refine G.cN rfl (fun hc=>?_) (fun hc=>?_)<;>(try first|exact hc.elim|(exfalso;omega))))
  all_goals first
   |(exfalso;omega)
   |exact X.retN (vs:=[_,_]) ((0,0),1) rfl ⟨⟨_,_,_,_,rfl,(by exact memA),lenA,by decide +kernel,rfl⟩,rfl,rfl⟩ rfl (.inl ⟨by decide,rfl⟩) rfl NewIn.nil
end
theorem clnI_c {u:Value} {l:List Int} (hl:l.length≤1000000):ContL Tryz.prog (fun _=>True) [Hl.rd u cI 1 l] 81 [u] (fun _:Sl=>True) (fun z=>z.v) (fun z=>[Hl.rw z.v 3 cI 1 l,Hl.rd u cI 1 l]):=fun w0 HR w _ hw=>by
 change St w0 (Hl.rd u cI 1 l::HR) w at hw
 obtain⟨h1,A,c,rfl,hnc,hcells,hz⟩:=(hw.all _ List.mem_cons_self).1
 cases A with
 |none =>
  have hc0:=hz rfl
  obtain rfl:l=[]:=List.eq_nil_of_length_eq_zero (by omega)
  subst hc0
  refine enterU Tryz.func81 rfl rfl rfl hw ?_
  repeat' (first|(refine nxN ?_)|(refine nxV ?_)|(refine nSS ?_)|(refine nS1 fun _=>?_)|(refine nMM ?_)|(refine nM1 fun _=>?_)|(refine nxG ?_)|(refine nxX ?_)|(refine G.cN rfl (fun hc=>?_) (fun hc=>?_)<;>(try first|exact hc.elim|(exfalso;omega))))
  all_goals first
   |exact X.ret (vs:=[_]) rfl ⟨rfl,rfl⟩ rfl (fun w hw=>⟨⟨none,0,0⟩,trivial,rfl,St.nilRow 3 cI 1 hw⟩)
   |exact absurd hc (by simp[nilB])
 |some ad =>
  refine enterU Tryz.func81 rfl rfl rfl hw ?_
  repeat' (first|(refine nxN ?_)|(show RS _ _ _ _ _ _ _ (⟨some 7,_,_,_,_,_⟩::_);refine RS.appendA (f:=cI) (l:=[]) (l':=l) ?_;intro z1)|(refine nxV ?_)|(refine nSS ?_)|(refine nS1 fun _=>?_)|(refine nMM ?_)|(refine nM1 fun _=>?_)|(refine nxG ?_)|(refine nxX ?_)|(refine G.cN rfl (fun hc=>?_) (fun hc=>?_)<;>(try first|exact hc.elim|(exfalso;omega))))
  ·exact absurd hc (by simp[nilB])
  ·exact X.ret (vs:=[_]) rfl ⟨rfl,rfl⟩ rfl (fun w hw=>⟨z1,trivial,rfl,hw⟩)
theorem clnT_c {u:Value} {l:List TrkT} (hl:l.length≤1000000):ContL Tryz.prog (fun _=>True) [Hl.rd u cTk 6 l] 80 [u] (fun _:Sl=>True) (fun z=>z.v) (fun z=>[Hl.rw z.v 76 cTk 6 l,Hl.rd u cTk 6 l]):=fun w0 HR w _ hw=>by
 change St w0 (Hl.rd u cTk 6 l::HR) w at hw
 obtain⟨h1,A,c,rfl,hnc,hcells,hz⟩:=(hw.all _ List.mem_cons_self).1
 cases A with
 |none =>
  have hc0:=hz rfl
  obtain rfl:l=[]:=List.eq_nil_of_length_eq_zero (by omega)
  subst hc0
  refine enterU Tryz.func80 rfl rfl rfl hw ?_
  repeat' (first|(refine nxN ?_)|(refine nxV ?_)|(refine nSS ?_)|(refine nS1 fun _=>?_)|(refine nMM ?_)|(refine nM1 fun _=>?_)|(refine nxG ?_)|(refine nxX ?_)|(refine G.cN rfl (fun hc=>?_) (fun hc=>?_)<;>(try first|exact hc.elim|(exfalso;omega))))
  all_goals first
   |exact X.ret (vs:=[_]) rfl ⟨rfl,rfl⟩ rfl (fun w hw=>⟨⟨none,0,0⟩,trivial,rfl,St.nilRow 76 cTk 6 hw⟩)
   |exact absurd hc (by simp[nilB])
 |some ad =>
  refine enterU Tryz.func80 rfl rfl rfl hw ?_
  repeat' (first|(refine nxN ?_)|(show RS _ _ _ _ _ _ _ (⟨some 7,_,_,_,_,_⟩::_);refine RS.appendA (f:=cTk) (l:=[]) (l':=l) ?_;intro z1)|(refine nxV ?_)|(refine nSS ?_)|(refine nS1 fun _=>?_)|(refine nMM ?_)|(refine nM1 fun _=>?_)|(refine nxG ?_)|(refine nxX ?_)|(refine G.cN rfl (fun hc=>?_) (fun hc=>?_)<;>(try first|exact hc.elim|(exfalso;omega))))
  ·exact absurd hc (by simp[nilB])
  ·exact X.ret (vs:=[_]) rfl ⟨rfl,rfl⟩ rfl (fun w hw=>⟨z1,trivial,rfl,hw⟩)
theorem clnP_c {u:Value} {l:List PagT} (hl:l.length≤1000000):ContL Tryz.prog (fun _=>True) [Hl.rd u cPg 4 l] 79 [u] (fun _:Sl=>True) (fun z=>z.v) (fun z=>[Hl.rw z.v 32 cPg 4 l,Hl.rd u cPg 4 l]):=fun w0 HR w _ hw=>by
 change St w0 (Hl.rd u cPg 4 l::HR) w at hw
 obtain⟨h1,A,c,rfl,hnc,hcells,hz⟩:=(hw.all _ List.mem_cons_self).1
 cases A with
 |none =>
  have hc0:=hz rfl
  obtain rfl:l=[]:=List.eq_nil_of_length_eq_zero (by omega)
  subst hc0
  refine enterU Tryz.func79 rfl rfl rfl hw ?_
  repeat' (first|(refine nxN ?_)|(refine nxV ?_)|(refine nSS ?_)|(refine nS1 fun _=>?_)|(refine nMM ?_)|(refine nM1 fun _=>?_)|(refine nxG ?_)|(refine nxX ?_)|(refine G.cN rfl (fun hc=>?_) (fun hc=>?_)<;>(try first|exact hc.elim|(exfalso;omega))))
  all_goals first
   |exact X.ret (vs:=[_]) rfl ⟨rfl,rfl⟩ rfl (fun w hw=>⟨⟨none,0,0⟩,trivial,rfl,St.nilRow 32 cPg 4 hw⟩)
   |exact absurd hc (by simp[nilB])
 |some ad =>
  refine enterU Tryz.func79 rfl rfl rfl hw ?_
  repeat' (first|(refine nxN ?_)|(show RS _ _ _ _ _ _ _ (⟨some 7,_,_,_,_,_⟩::_);refine RS.appendA (f:=cPg) (l:=[]) (l':=l) ?_;intro z1)|(refine nxV ?_)|(refine nSS ?_)|(refine nS1 fun _=>?_)|(refine nMM ?_)|(refine nM1 fun _=>?_)|(refine nxG ?_)|(refine nxX ?_)|(refine G.cN rfl (fun hc=>?_) (fun hc=>?_)<;>(try first|exact hc.elim|(exfalso;omega))))
  ·exact absurd hc (by simp[nilB])
  ·exact X.ret (vs:=[_]) rfl ⟨rfl,rfl⟩ rfl (fun w hw=>⟨z1,trivial,rfl,hw⟩)
section
variable {P:Program} {n:Nat} {L:FL} {w0:World} {H:List Hl} {Q:Exit→Act→World→Prop} {ops:Array Oper} {rest:List Oper} {dd:Nat} {ty:TypeId} {pos:String} {af:Array Edge} {ι:Type} {f:FuncId} {xs:List Operand} {vs:List Value} {tys:Array TypeId}
def ContN (P:Program) (C:World→Prop) (f:FuncId) (args:List Value) {ι:Type} (post:ι→World→Prop) (v:ι→Value):Prop :=
 ∀w,C w→Calls P f args.toArray w fun e w'=>∃z,e=.returned (v z)∧Below w.heap.size w w'∧post z w'
theorem RS.callN {C:World→Prop} {post:ι→World→Prop} {v:ι→Value} (hc:ContN P C f vs post v) (hC:∀w,St w0 H w→C w) (ha:AE L xs vs)
  (h:∀z w1,Below w0.heap.size w0 w1→post z w1→RS P ops Q n ((dd,v z)::L) w1 [] rest) (hg:isGo P f=true) (hd:Nat.blt dd n=true) :
  RS P ops Q n L w0 H (⟨some dd,.call { callee:=.value (.func f),args:=xs.toArray,argTypes:=tys },ty,pos,af,none⟩::rest) :=
 RS.act (J:=fun a w'=>∃z,post z w'∧Below w0.heap.size w0 w'∧Fr n ((dd,v z)::L) a) rfl (fun a w hfr hw K Q hK=>by
  unfold Oper.wp
  rw[run_call hfr ha hg]
  refine(hc w (hC w hw)).mono ?_
  rintro e w' ⟨z,rfl,hb,hp⟩
  exact hK _ _ ⟨z,hp,hw.ext.trans (hb.mono hw.ext.size),hfr.put (by simpa [Nat.blt_eq] using hd)⟩) fun a w ⟨z,hp,hb,hfr⟩=>by
  have g:=h z w hb hp
  unfold RS at g
  exact g a w hfr (St.start w fun x hx=>by cases hx)
end
end Go.Proofs.YtjmdeplmenbmmaaGreat
