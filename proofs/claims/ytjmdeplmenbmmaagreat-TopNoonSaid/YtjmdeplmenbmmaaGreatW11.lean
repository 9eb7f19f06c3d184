/- Joined texts: Fix, Asn, Agn. -/
import Derived.Test.YtjmdeplmenbmmaaGreatW06
import Derived.Test.YtjmdeplmenbmmaaGreatV05
import Derived.Test.YtjmdeplmenbmmaaGreatV06
import Derived.Test.YtjmdeplmenbmmaaGreatW10
set_option linter.unusedVariables false
set_option maxHeartbeats 8000000
namespace Go.Proofs.YtjmdeplmenbmmaaGreat
open Go.RowKit
section
variable {P:Program} {n:Nat} {L:FL} {w0:World} {H:List Hl} {d:Option Tmp} {ty:TypeId} {pos:String} {af:Array Edge} {g:Option (Nat×Bool)} {x y z u:Operand} {k:IntKind} {a b c e:Int} {tys:Array TypeId}
theorem y_min4 (hx:evO L x=some (.int k a)) (hy:evO L y=some (.int k b)) (hz:evO L z=some (.int k c)) (hu:evO L u=some (.int k e)):V P n L w0 H ⟨d,.call { callee:=.builtin .min,args:=#[x,y,z,u],argTypes:=tys },ty,pos,af,g⟩ (.int k (min (min (min a b) c) e)):=by
 unfold V
 intro a' w ha hw
 have hm:∀p q:Int,(if q<p then q else p)=min p q:=fun p q=>by rw[Int.min_def];split<;>split<;>omega
 simp[execOp,resolve,invoke,builtin,ha.eval hx,ha.eval hy,ha.eval hz,ha.eval hu,Builtin.min_,Builtin.min2,hm]
theorem y_max4 (hx:evO L x=some (.int k a)) (hy:evO L y=some (.int k b)) (hz:evO L z=some (.int k c)) (hu:evO L u=some (.int k e)):V P n L w0 H ⟨d,.call { callee:=.builtin .max,args:=#[x,y,z,u],argTypes:=tys },ty,pos,af,g⟩ (.int k (max (max (max a b) c) e)):=by
 unfold V
 intro a' w ha hw
 have hm:∀p q:Int,(if p<q then q else p)=max p q:=fun p q=>by rw[Int.max_def];split<;>split<;>omega
 simp[execOp,resolve,invoke,builtin,ha.eval hx,ha.eval hy,ha.eval hz,ha.eval hu,Builtin.max_,Builtin.max2,hm]
end
theorem encl_bd2 (lo hi:Int):(-1073741824≤(TT.encl lo hi).1∧(TT.encl lo hi).1≤1073741824)∧-1073741824≤(TT.encl lo hi).2∧(TT.encl lo hi).2≤1073741824:=by
 have a:=TT.bnd_bd lo
 have b:=TT.bnd_bd hi
 unfold TT.encl
 dsimp only
 constructor
 ·split<;>omega
 ·split<;>omega
def fvB (lo hi:Int):Bool:=decide (-2147483648≤lo)&&decide (lo≤hi)&&decide (hi≤2147483648)
theorem fvB_t {lo hi:Int} : fvB lo hi=true↔-2147483648≤lo∧lo≤hi∧hi≤2147483648:=by
 unfold fvB
 simp only[Bool.and_eq_true,decide_eq_true_eq,and_assoc]
theorem fvalid_c {lo hi:Int} : Cont Tryz.prog 108 [arcV lo hi] (.bool (fvB lo hi)):=fun w=>by
 unfold fvB
 refine enter0 Tryz.func108 rfl rfl rfl ?_
 repeat' (first|(refine nxV ?_)|(refine nSS ?_)|(refine nS1 fun _=>?_)|(refine nMM ?_)|(refine nM1 fun _=>?_)|(refine nxG ?_)|(refine nxX ?_)|(refine G.cN rfl (fun hc=>?_) (fun hc=>?_)<;>(try first|exact hc.elim|(exfalso;omega))))
 exact X.ret1
theorem fvalid_t {lo hi:Int} (h : -2147483648≤lo∧lo≤hi∧hi≤2147483648):Cont Tryz.prog 108 [arcV lo hi] (.bool true):=by
 have q:=fvalid_c (lo:=lo) (hi:=hi)
 rw[fvB_t.2 h] at q
 exact q
theorem ffit_c {lo hi:Int} (h : -2147483648≤lo∧lo≤hi∧hi≤2147483648):Cont Tryz.prog 104 [.int .i64 lo,.int .i64 hi] (.tuple [arcV lo hi,.int .i64 0].toArray):=fun w=>by
 have q1:=fvalid_t h
 refine enter0 Tryz.func104 rfl rfl rfl ?_
 repeat' (first|(show YK _ _ _ _ _ _ _;first|refine YK.mk (zcA (q1) ⟨rfl,rfl⟩) ?_)|(refine nxV ?_)|(refine nSS ?_)|(refine nS1 fun _=>?_)|(refine nMM ?_)|(refine nM1 fun _=>?_)|(show YG _ _ _ _ _ _ _ _;refine YG.mk (fun hb=>by(try(have hc:=And.left hb;have hb:=And.right hb;rw[hc]));(try rw[hb]);first|exact(zcA (q1) ⟨rfl,rfl⟩)|exact V.y vAuto) ?_)|(refine nxG ?_)|(refine nxX ?_)|(refine G.cN rfl (fun hc=>?_) (fun hc=>?_)<;>(try first|exact hc.elim|(exfalso;omega))))
 exact X.ret (vs:=[_,_]) rfl ⟨⟨_,_,_,_,rfl,(by exact memA),lenA,by decide +kernel,rfl⟩,rfl,rfl⟩ rfl rE
theorem fboth_c {a b c d:Int} (h : -2147483648≤a∧a≤b∧b≤2147483648) (h' : -2147483648≤c∧c≤d∧d≤2147483648):Cont Tryz.prog 103 [arcV a b,arcV c d] (.bool true):=fun w=>by
 have q1:=fvalid_t h
 have q2:=fvalid_t h'
 refine enter0 Tryz.func103 rfl rfl rfl ?_
 repeat' (first|(show YK _ _ _ _ _ _ _;first|refine YK.mk (zcA (q1) ⟨rfl,rfl⟩) ?_|refine YK.mk (zcA (q2) ⟨rfl,rfl⟩) ?_)|(refine nxV ?_)|(refine nSS ?_)|(refine nS1 fun _=>?_)|(refine nMM ?_)|(refine nM1 fun _=>?_)|(show YG _ _ _ _ _ _ _ _;refine YG.mk (fun hb=>by(try(have hc:=And.left hb;have hb:=And.right hb;rw[hc]));(try rw[hb]);first|exact(zcA (q1) ⟨rfl,rfl⟩)|exact(zcA (q2) ⟨rfl,rfl⟩)|exact V.y vAuto) ?_)|(refine nxG ?_)|(refine nxX ?_)|(refine G.cN rfl (fun hc=>?_) (fun hc=>?_)<;>(try first|exact hc.elim|(exfalso;omega))))
 exact X.ret1
theorem fdiv_eq (n:Int):(n.tmod 1073741824=0→n.tdiv 1073741824=n/1073741824)∧(n.tmod 1073741824≠0→n<0→n.tdiv 1073741824-1=n/1073741824)∧(0≤n→n.tdiv 1073741824=n/1073741824):=by
 by_cases h:n<0
 ·have e1:n.tdiv 1073741824 = -((-n)/1073741824):=by
   have:n = -(-n):=by omega
   rw[this,Int.neg_tdiv,Int.tdiv_eq_ediv_of_nonneg (by omega),Int.neg_neg]
  have e2:n.tmod 1073741824 = -((-n)%1073741824):=by
   have:n = -(-n):=by omega
   rw[this,Int.neg_tmod,Int.tmod_eq_emod_of_nonneg (by omega),Int.neg_neg]
  omega
 ·have e1:=Int.tdiv_eq_ediv_of_nonneg (a:=n) (b:=1073741824) (by omega)
  omega
theorem ffloor_c {n:Int} (h : -4611686018427387904≤n∧n≤4611686018427387904):Cont Tryz.prog 165 [.int .i64 n,.int .i64 1073741824] (.int .i64 (n/1073741824)):=fun w=>by
 obtain⟨g1,g2,g3⟩:=fdiv_eq n
 have hb : -4611686018427387904≤n.tdiv 1073741824∧n.tdiv 1073741824≤4611686018427387904:=by
  by_cases e:n.tmod 1073741824=0
  ·rw[g1 e];omega
  ·by_cases e2:n<0
   ·have:=g2 e e2;omega
   ·rw[g3 (by omega)];omega
 have hw1:=IntWalk.i64_in (n.tdiv 1073741824) (by omega)
 have hw2:=IntWalk.i64_in (n.tdiv 1073741824-1) (by omega)
 refine enter0 Tryz.func165 rfl rfl rfl ?_
 repeat' (first|(refine nxV ?_)|(refine nSS ?_)|(refine nS1 fun _=>?_)|(refine nMM ?_)|(refine nM1 fun _=>?_)|(refine nxG ?_)|(refine nxX ?_)|(refine G.cN rfl (fun hc=>?_) (fun hc=>?_)<;>(try first|exact hc.elim|(exfalso;omega))))
 all_goals refine X.ret (vs:=[_]) rfl ⟨rfl,rfl⟩ rfl (fun w hw=>⟨congrArg Ending.returned (congrArg (Value.int .i64) ?_),hw.ext⟩)
 all_goals rw[hw1]
 all_goals (try rw[hw2])
 all_goals (simp at hc;omega)
theorem fceil_c {n:Int} (h : -4611686018427387904≤n∧n≤4611686018427387904):Cont Tryz.prog 166 [.int .i64 n,.int .i64 1073741824] (.int .i64 (-(-n/1073741824))):=fun w=>by
 have q1:=ffloor_c (n:=-n) (by omega)
 have hb : -4611686018427387904≤-n/1073741824∧-n/1073741824≤4611686018427387904:=by omega
 refine enter0 Tryz.func166 rfl rfl rfl ?_
 repeat' (first|(show YK _ _ _ _ _ _ _;first|refine YK.mk (zcA (q1) ⟨rfl,rfl,rfl⟩) ?_)|(refine nxV ?_)|(refine nSS ?_)|(refine nS1 fun _=>?_)|(refine nMM ?_)|(refine nM1 fun _=>?_)|(show YG _ _ _ _ _ _ _ _;refine YG.mk (fun hb=>by(try(have hc:=And.left hb;have hb:=And.right hb;rw[hc]));(try rw[hb]);first|exact(zcA (q1) ⟨rfl,rfl,rfl⟩)|exact V.y vAuto) ?_)|(refine nxG ?_)|(refine nxX ?_)|(refine G.cN rfl (fun hc=>?_) (fun hc=>?_)<;>(try first|exact hc.elim|(exfalso;omega))))
 exact X.ret1
theorem fadd_c {a b c d:Int} (h : -2147483648≤a∧a≤b∧b≤2147483648) (h' : -2147483648≤c∧c≤d∧d≤2147483648) (hs : -2147483648≤a+c∧b+d≤2147483648):Cont Tryz.prog 160 [arcV a b,arcV c d] (.tuple [arcV (a+c) (b+d),.int .i64 0].toArray):=fun w=>by
 have q1:=fboth_c h h'
 have q2:=ffit_c (lo:=a+c) (hi:=b+d) (by omega)
 refine enter0 Tryz.func160 rfl rfl rfl ?_
 repeat' (first|(show YK _ _ _ _ _ _ _;first|refine YK.mk (zcA (q1) ⟨rfl,rfl,rfl⟩) ?_|refine YK.mk (zcA (q2) ⟨rfl,rfl,rfl⟩) ?_)|(refine nxV ?_)|(refine nSS ?_)|(refine nS1 fun _=>?_)|(refine nMM ?_)|(refine nM1 fun _=>?_)|(show YG _ _ _ _ _ _ _ _;refine YG.mk (fun hb=>by(try(have hc:=And.left hb;have hb:=And.right hb;rw[hc]));(try rw[hb]);first|exact(zcA (q1) ⟨rfl,rfl,rfl⟩)|exact(zcA (q2) ⟨rfl,rfl,rfl⟩)|exact V.y vAuto) ?_)|(refine nxG ?_)|(refine nxX ?_)|(refine G.cN rfl (fun hc=>?_) (fun hc=>?_)<;>(try first|exact hc.elim|(exfalso;omega))))
 all_goals exact X.ret (vs:=[_,_]) rfl ⟨⟨_,_,_,_,rfl,(by exact memA),lenA,by decide +kernel,rfl⟩,rfl,rfl⟩ rfl rE
theorem fmul_c {p q:Int×Int} (hp : -1073741824≤p.1∧p.1≤p.2∧p.2≤1073741824) (hq : -1073741824≤q.1∧q.1≤q.2∧q.2≤1073741824):Cont Tryz.prog 106 [arcV p.1 p.2,arcV q.1 q.2] (.tuple [arcV (TT.mulE p q).1 (TT.mulE p q).2,.int .i64 0].toArray):=fun w=>by
 have h1:=TT.abs_mul_le (A:=1073741824) (u:=1073741824) (a:=p.1) (t:=q.1) (by omega) (by omega)
 have h2:=TT.abs_mul_le (A:=1073741824) (u:=1073741824) (a:=p.1) (t:=q.2) (by omega) (by omega)
 have h3:=TT.abs_mul_le (A:=1073741824) (u:=1073741824) (a:=p.2) (t:=q.1) (by omega) (by omega)
 have h4:=TT.abs_mul_le (A:=1073741824) (u:=1073741824) (a:=p.2) (t:=q.2) (by omega) (by omega)
 have hb:=TT.mulE_bd hp hq
 have q1:=fboth_c (a:=p.1) (b:=p.2) (c:=q.1) (d:=q.2) (by omega) (by omega)
 have q4:=ffit_c (lo:=(TT.mulE p q).1) (hi:=(TT.mulE p q).2) (by omega)
 have e1:(TT.mulE p q).1=min (min (min (p.1*q.1) (p.1*q.2)) (p.2*q.1)) (p.2*q.2)/1073741824:=by unfold TT.mulE;dsimp only;omega
 have e2:(TT.mulE p q).2 = -(-(max (max (max (p.1*q.1) (p.1*q.2)) (p.2*q.1)) (p.2*q.2))/1073741824):=by unfold TT.mulE;dsimp only;omega
 generalize TT.mulE p q=r at *
 obtain⟨r1,r2⟩:=r
 obtain⟨a,b⟩:=p
 obtain⟨c,d⟩:=q
 dsimp only at *
 subst e1 e2
 have q2:=ffloor_c (n:=min (min (min (a*c) (a*d)) (b*c)) (b*d)) (by omega)
 have q3:=fceil_c (n:=max (max (max (a*c) (a*d)) (b*c)) (b*d)) (by omega)
 refine enter0 Tryz.func106 rfl rfl rfl ?_
 repeat' (first|(show YK _ _ _ _ _ ⟨_,.call { callee:=.builtin .min,args:=_,argTypes:=_ },_,_,_,_⟩ _;refine YK.ofV (y_min4 (by rfl) (by rfl) (by rfl) (by rfl)) ?_)|(show YK _ _ _ _ _ ⟨_,.call { callee:=.builtin .max,args:=_,argTypes:=_ },_,_,_,_⟩ _;refine YK.ofV (y_max4 (by rfl) (by rfl) (by rfl) (by rfl)) ?_)|(show YK _ _ _ _ _ _ _;first|refine YK.mk (zcA (q1) ⟨rfl,rfl,rfl⟩) ?_|refine YK.mk (zcA (q2) ⟨rfl,rfl,rfl⟩) ?_|refine YK.mk (zcA (q3) ⟨rfl,rfl,rfl⟩) ?_|refine YK.mk (zcA (q4) ⟨rfl,rfl,rfl⟩) ?_)|(refine nxV ?_)|(refine nSS ?_)|(refine nS1 fun _=>?_)|(refine nMM ?_)|(refine nM1 fun _=>?_)|(show YG _ _ _ _ _ _ _ _;refine YG.mk (fun hb=>by(try(have hc:=And.left hb;have hb:=And.right hb;rw[hc]));(try rw[hb]);first|exact(zcA (q1) ⟨rfl,rfl,rfl⟩)|exact(zcA (q2) ⟨rfl,rfl,rfl⟩)|exact(zcA (q3) ⟨rfl,rfl,rfl⟩)|exact(zcA (q4) ⟨rfl,rfl,rfl⟩)|exact V.y vAuto) ?_)|(refine nxG ?_)|(refine G.mA 3 [.go 0,.go 1,.go 2,.go 3,.go 4,.go 5,.go 6,.go 7,.go 8,.go 9,.go 10,.go 11,.go 12,.go 13,.go 14,.go 15,.go 16,.go 17,.go 18,.go 19,.go 20,.go 21,.go 22,.go 23] ?_)|(refine nxX ?_)|(refine G.cN rfl (fun hc=>?_) (fun hc=>?_)<;>(try first|exact hc.elim|(exfalso;omega))))
 all_goals exact X.ret (vs:=[_,_]) rfl ⟨⟨_,_,_,_,rfl,(by exact memA),lenA,by decide +kernel,rfl⟩,rfl,rfl⟩ rfl rE
theorem Hav_c {lo hi:Int} (h:validI lo hi=true):Cont Tryz.prog 105 [arcV lo hi] (.tuple [arcV (TT.havE lo hi).1 (TT.havE lo hi).2,.int .i64 0].toArray):=fun w=>by
 have q1:=tvalid_c (lo:=lo) (hi:=hi)
 rw[h] at q1
 simp only[validI,Bool.and_eq_true,decide_eq_true_eq] at h
 have q2:=further_c (lo:=lo) (hi:=hi) (by omega) (by omega)
 have q3:=encl_c (lo:=lo+5400000) (hi:=hi+5400000) (by omega) (by omega)
 have hb:=encl_bd2 (lo+5400000) (hi+5400000)
 have e:TT.havE lo hi=((1073741824-(TT.encl (lo+5400000) (hi+5400000)).2)/2,(1073741824-(TT.encl (lo+5400000) (hi+5400000)).1+1)/2):=rfl
 rw[e]
 generalize TT.encl (lo+5400000) (hi+5400000)=x at *
 obtain⟨x1,x2⟩:=x
 (try dsimp only at *)
 refine enter0 Tryz.func105 rfl rfl rfl ?_
 repeat' (first|(show YK _ _ _ _ _ _ _;first|refine YK.mk (zcA (q1) ⟨rfl,rfl⟩) ?_|refine YK.mk (zcA (q2) ⟨rfl,rfl⟩) ?_|refine YK.mk (zcA (q3) ⟨rfl,rfl⟩) ?_)|(refine nxV ?_)|(refine nSS ?_)|(refine nS1 fun _=>?_)|(refine nMM ?_)|(refine nM1 fun _=>?_)|(show YG _ _ _ _ _ _ _ _;refine YG.mk (fun hb=>by(try(have hc:=And.left hb;have hb:=And.right hb;rw[hc]));(try rw[hb]);first|exact(zcA (q1) ⟨rfl,rfl⟩)|exact(zcA (q2) ⟨rfl,rfl⟩)|exact(zcA (q3) ⟨rfl,rfl⟩)|exact V.y vAuto) ?_)|(refine nxG ?_)|(refine nxX ?_)|(refine G.cN rfl (fun hc=>?_) (fun hc=>?_)<;>(try first|exact hc.elim|(exfalso;omega))))
 exact X.ret (vs:=[_,_]) rfl ⟨⟨_,_,_,_,rfl,(by exact memA),lenA,by decide +kernel,rfl⟩,rfl,rfl⟩ rfl rE
theorem bnd_gap (n:Int):(TT.bnd n).2≤(TT.bnd n).1+1:=by
 unfold TT.bnd TT.hiB
 split
 ·dsimp only;split<;>omega
 ·dsimp only;split<;>omega
def belI (n v:Int):Int:=if (TT.bnd n).2≤v∧(TT.bnd n).1<v then -1 else if v≤(TT.bnd n).1∧v<(TT.bnd n).2 then 1 else if v=(TT.bnd n).1 then 0 else if v<(TT.bnd n).1 then 1 else -1
theorem belI_le (n v:Int):belI n v≤0↔(TT.bnd n).2≤v:=by
 have h1:=bnd_gap n
 have h2:=(TT.bnd_bd n).2.1
 unfold belI
 split
 ·omega
 split
 ·omega
 split
 ·omega
 split
 ·omega
 ·omega
theorem below_c {n v:Int} (h : -4611686018427387904≤n∧n≤4611686018427387904):Cont Tryz.prog 206 [.int .i64 n,.int .i64 v] (.int .i64 (belI n v)):=fun w=>by
 have q1:=bounds_c h
 unfold belI
 generalize TT.bnd n=x at *
 obtain⟨lo,hi⟩:=x
 refine enter0 Tryz.func206 rfl rfl rfl ?_
 repeat' (first|(show YK _ _ _ _ _ _ _;first|refine YK.mk (zcA (q1) ⟨rfl,rfl⟩) ?_)|(refine nxV ?_)|(refine nSS ?_)|(refine nS1 fun _=>?_)|(refine nMM ?_)|(refine nM1 fun _=>?_)|(show YG _ _ _ _ _ _ _ _;refine YG.mk (fun hb=>by(try(have hc:=And.left hb;have hb:=And.right hb;rw[hc]));(try rw[hb]);first|exact(zcA (q1) ⟨rfl,rfl⟩)|exact V.y vAuto) ?_)|(refine nxG ?_)|(refine nxX ?_)|(refine G.cN rfl (fun hc=>?_) (fun hc=>?_)<;>(try first|exact hc.elim|(exfalso;omega))))
 all_goals exact X.ret (vs:=[_]) rfl ⟨rfl,rfl⟩ rfl (fun w hw=>⟨congrArg Ending.returned (congrArg (Value.int .i64) (by(repeat' split)<;>omega)),hw.ext⟩)
theorem asin_c {v n:Int} (hn:TT.IsAsin v n):Cont Tryz.prog 161 [.int .i64 v] (.int .i64 n):=fun w=>by
 have hi:=fun m h0 h1=>TT.asin_iff (m:=m) hn h0 h1
 obtain⟨n0,n1,_,_⟩:=hn
 refine enter0 Tryz.func161 rfl rfl rfl ?_
 repeat' (first|(refine nxV ?_)|(refine nSS ?_)|(refine nS1 fun _=>?_)|(refine nMM ?_)|(refine nM1 fun _=>?_)|(refine nxG ?_)|(refine nxX ?_)|(refine G.cN rfl (fun hc=>?_) (fun hc=>?_)<;>(try first|exact hc.elim|(exfalso;omega))))
 refine G.loop (ι:=Int×Int) (fun x=>[(0,.int .i64 v),(3,.int .i64 x.1),(4,.int .i64 x.2)]) (fun _=>[]) (fun x=>-5400000≤x.1∧x.1≤n∧n<x.2∧x.2≤5400001) (fun x=>(x.2-x.1).toNat) (-5400000,5400001) ⟨by dsimp only;omega,by dsimp only;omega,by dsimp only;omega,by dsimp only;omega⟩ ⟨rfl,rfl,rfl,trivial⟩ (by exact fun w h=>h.sub subS) ?_
 rintro⟨lo,hh⟩ mx ⟨g1,g2,g3,g4⟩ hmx
 dsimp only at g1 g2 g3 g4 hmx ⊢
 by_cases hc0:hh-lo≤1
 ·obtain rfl:lo=n:=by omega
  repeat' (first|(refine nxV ?_)|(refine nSS ?_)|(refine nS1 fun _=>?_)|(refine nMM ?_)|(refine nM1 fun _=>?_)|(refine nxG ?_)|(refine nxX ?_)|(refine G.cN rfl (fun hc=>?_) (fun hc=>?_)<;>(try first|exact hc.elim|(exfalso;omega))))
  exact X.ret1
 ·have q1:=below_c (n:=(lo+hh)/2) (v:=v) (by omega)
  have hb:=belI_le ((lo+hh)/2) v
  have hj:=hi ((lo+hh)/2) (by omega) (by omega)
  rw[←hb] at hj
  generalize belI ((lo+hh)/2) v=bb at *
  clear hb hi
  repeat' (first|(show YK _ _ _ _ _ _ _;first|refine YK.mk (zcA (q1) ⟨rfl,rfl,rfl⟩) ?_)|(refine nxV ?_)|(refine nSS ?_)|(refine nS1 fun _=>?_)|(refine nMM ?_)|(refine nM1 fun _=>?_)|(show YG _ _ _ _ _ _ _ _;refine YG.mk (fun hb=>by(try(have hc:=And.left hb;have hb:=And.right hb;rw[hc]));(try rw[hb]);first|exact(zcA (q1) ⟨rfl,rfl,rfl⟩)|exact V.y vAuto) ?_)|(refine nxG ?_)|(refine nxX ?_)|(refine G.cN rfl (fun hc=>?_) (fun hc=>?_)<;>(try first|exact hc.elim|(exfalso;omega))))
  ·exact X.again (((lo+hh)/2),hh) ⟨by dsimp only;omega,by dsimp only;omega,by dsimp only;omega,by dsimp only;omega⟩ (by dsimp only;omega) ⟨rfl,rfl,rfl,trivial⟩ (by exact fun w h=>h.sub subS)
  ·exact X.again (lo,((lo+hh)/2)) ⟨by dsimp only;omega,by dsimp only;omega,by dsimp only;omega,by dsimp only;omega⟩ (by dsimp only;omega) ⟨rfl,rfl,rfl,trivial⟩ (by exact fun w h=>h.sub subS)
theorem part_c {a b lo hi:Int} : Cont Tryz.prog 109 [arcV a b,.int .i64 lo,.int .i64 hi] (.tuple [arcV (max a lo) (min b hi),.bool (decide (max a lo≤min b hi))].toArray):=fun w=>by
 refine enter0 Tryz.func109 rfl rfl rfl ?_
 repeat' (first|(refine G.mixedM 2 [.go 0,.go 1,.go 2,.go 3,.go 4,.go 5,.go 6,.go 7] [false,true] ?_;dsimp only[maskH])|(refine nxV ?_)|(refine nSS ?_)|(refine nS1 fun _=>?_)|(refine nMM ?_)|(refine nM1 fun _=>?_)|(refine nxG ?_)|(refine nxX ?_)|(refine G.cN rfl (fun hc=>?_) (fun hc=>?_)<;>(try first|exact hc.elim|(exfalso;omega))))
 exact X.ret (vs:=[_,_]) rfl ⟨⟨_,_,_,_,rfl,(by exact memA),lenA,by decide +kernel,rfl⟩,rfl,rfl⟩ rfl rE
theorem Asin_c {a b n m:Int} (h : -1073741824≤a∧a≤b∧b≤1073741824) (h1:TT.IsAsin a n) (h2:TT.IsAsin (-b) m):Cont Tryz.prog 102 [arcV a b] (.tuple [arcV n (-m),.int .i64 0].toArray):=fun w=>by
 have q1:=fvalid_t (lo:=a) (hi:=b) (by omega)
 have q2:=part_c (a:=a) (b:=b) (lo:=-1073741824) (hi:=1073741824)
 rw[show max a (-1073741824)=a by omega,show min b 1073741824=b by omega,decide_eq_true h.2.1] at q2
 have q3:=asin_c h1
 have q4:=asin_c h2
 have hm:=h2.1
 have hm2:=h2.2.1
 refine enter0 Tryz.func102 rfl rfl rfl ?_
 repeat' (first|(refine G.mixedM 6 [.go 0,.go 1,.go 3,.go 4,.go 5,.go 2,.go 6,.go 7,.go 8,.go 9,.go 10] [false,true] ?_;dsimp only[maskH])|(show YK _ _ _ _ _ _ _;first|refine YK.mk (zcA (q1) ⟨rfl,rfl⟩) ?_|refine YK.mk (zcA (q2) ⟨rfl,rfl,rfl,rfl⟩) ?_|refine YK.mk (zcA (q3) ⟨rfl,rfl⟩) ?_|refine YK.mk (zcA (q4) ⟨rfl,rfl⟩) ?_)|(refine nxV ?_)|(refine nSS ?_)|(refine nS1 fun _=>?_)|(refine nMM ?_)|(refine nM1 fun _=>?_)|(show YG _ _ _ _ _ _ _ _;refine YG.mk (fun hb=>by(try(have hc:=And.left hb;have hb:=And.right hb;rw[hc]));(try rw[hb]);first|exact(zcA (q1) ⟨rfl,rfl⟩)|exact(zcA (q2) ⟨rfl,rfl,rfl,rfl⟩)|exact(zcA (q3) ⟨rfl,rfl⟩)|exact(zcA (q4) ⟨rfl,rfl⟩)|exact V.y vAuto) ?_)|(refine nxG ?_)|(refine nxX ?_)|(refine G.cN rfl (fun hc=>?_) (fun hc=>?_)<;>(try first|exact hc.elim|(exfalso;omega))))
 exact X.ret (vs:=[_,_]) rfl ⟨⟨_,_,_,_,rfl,(by exact memA),lenA,by decide +kernel,rfl⟩,rfl,rfl⟩ rfl rE
theorem Acos_c {a b n m:Int} (h : -1073741824≤a∧a≤b∧b≤1073741824) (h1:TT.IsAsin a n) (h2:TT.IsAsin (-b) m):Cont Tryz.prog 110 [arcV a b] (.tuple [arcV (5400000+m) (5400000-n),.int .i64 0].toArray):=fun w=>by
 have q1:=Asin_c h h1 h2
 have hm:=h2.1
 have hm2:=h2.2.1
 have hn:=h1.1
 have hn2:=h1.2.1
 refine enter0 Tryz.func110 rfl rfl rfl ?_
 repeat' (first|(show YK _ _ _ _ _ _ _;first|refine YK.mk (zcA (q1) ⟨rfl,rfl⟩) ?_)|(refine nxV ?_)|(refine nSS ?_)|(refine nS1 fun _=>?_)|(refine nMM ?_)|(refine nM1 fun _=>?_)|(show YG _ _ _ _ _ _ _ _;refine YG.mk (fun hb=>by(try(have hc:=And.left hb;have hb:=And.right hb;rw[hc]));(try rw[hb]);first|exact(zcA (q1) ⟨rfl,rfl⟩)|exact V.y vAuto) ?_)|(refine nxG ?_)|(refine nxX ?_)|(refine G.cN rfl (fun hc=>?_) (fun hc=>?_)<;>(try first|exact hc.elim|(exfalso;omega))))
 refine X.ret (vs:=[_,_]) rfl ⟨⟨_,_,_,_,rfl,(by exact memA),lenA,by decide +kernel,rfl⟩,rfl,rfl⟩ rfl (fun w hw=>⟨?_,hw.ext⟩)
 rw[show 5400000 - -m=5400000+m by omega]
theorem Ahav_c {p:Int×Int} {n m:Int} (h : -2147483648≤p.1∧p.1≤p.2∧p.2≤2147483648) (hc:0≤(TT.clamp p).1∧(TT.clamp p).2≤1073741824∧(TT.clamp p).1≤(TT.clamp p).2) (h1:TT.IsAsin (1073741824-2*(TT.clamp p).2) n) (h2:TT.IsAsin (-(1073741824-2*(TT.clamp p).1)) m) :
  Cont Tryz.prog 59 [arcV p.1 p.2] (.tuple [arcV (5400000+m) (5400000-n),.int .i64 0].toArray):=fun w=>by
 have q1:=fvalid_t (lo:=p.1) (hi:=p.2) h
 have q2:=part_c (a:=p.1) (b:=p.2) (lo:=0) (hi:=1073741824)
 have q3:=Acos_c (a:=1073741824-2*(TT.clamp p).2) (b:=1073741824-2*(TT.clamp p).1) (by omega) h1 h2
 have e:max p.1 0≤min p.2 1073741824:=hc.2.2
 rw[decide_eq_true e] at q2
 unfold TT.clamp at *
 dsimp only at *
 refine enter0 Tryz.func59 rfl rfl rfl ?_
 repeat' (first|(show YK _ _ _ _ _ _ _;first|refine YK.mk (zcA (q1) ⟨rfl,rfl⟩) ?_|refine YK.mk (zcA (q2) ⟨rfl,rfl,rfl,rfl⟩) ?_|refine YK.mk (zcA (q3) ⟨rfl,rfl⟩) ?_)|(refine nxV ?_)|(refine nSS ?_)|(refine nS1 fun _=>?_)|(refine nMM ?_)|(refine nM1 fun _=>?_)|(show YG _ _ _ _ _ _ _ _;refine YG.mk (fun hb=>by(try(have hc:=And.left hb;have hb:=And.right hb;rw[hc]));(try rw[hb]);first|exact(zcA (q1) ⟨rfl,rfl⟩)|exact(zcA (q2) ⟨rfl,rfl,rfl,rfl⟩)|exact(zcA (q3) ⟨rfl,rfl⟩)|exact V.y vAuto) ?_)|(refine nxG ?_)|(refine nxX ?_)|(refine G.cN rfl (fun hc=>?_) (fun hc=>?_)<;>(try first|exact hc.elim|(exfalso;omega))))
 exact X.ret (vs:=[_,_]) rfl ⟨⟨_,_,_,_,rfl,(by exact memA),lenA,by decide +kernel,rfl⟩,rfl,rfl⟩ rfl rE
abbrev okA (a b:Int):Prop:=-1099511627776≤a∧a≤b∧b≤1099511627776
theorem nfits_c {n:Int} (h : -1099511627776≤n∧n≤1099511627776):Cont Tryz.prog 87 [.int .i64 n] (.bool true):=fun w=>by
 refine enter0 Tryz.func87 rfl rfl rfl ?_
 repeat' (first|(refine nxV ?_)|(refine nSS ?_)|(refine nS1 fun _=>?_)|(refine nMM ?_)|(refine nM1 fun _=>?_)|(refine nxG ?_)|(refine nxX ?_)|(refine G.cN rfl (fun hc=>?_) (fun hc=>?_)<;>(try first|exact hc.elim|(exfalso;omega))))
 all_goals exact X.ret (vs:=[_]) rfl ⟨rfl,rfl⟩ rfl (fun w hw=>⟨ret_bool (by simp;omega),hw.ext⟩)
theorem nval_c {a b:Int} (h:okA a b):Cont Tryz.prog 37 [arcV a b] (.bool true):=fun w=>by
 have q1:=nfits_c (n:=a) (by omega)
 have q2:=nfits_c (n:=b) (by omega)
 refine enter0 Tryz.func37 rfl rfl rfl ?_
 repeat' (first|(show YK _ _ _ _ _ _ _;first|refine YK.mk (zcA (q1) ⟨rfl,rfl⟩) ?_|refine YK.mk (zcA (q2) ⟨rfl,rfl⟩) ?_)|(refine nxV ?_)|(refine nSS ?_)|(refine nS1 fun _=>?_)|(refine nMM ?_)|(refine nM1 fun _=>?_)|(show YG _ _ _ _ _ _ _ _;refine YG.mk (fun hb=>by(try(have hc:=And.left hb;have hb:=And.right hb;rw[hc]));(try rw[hb]);first|exact(zcA (q1) ⟨rfl,rfl⟩)|exact(zcA (q2) ⟨rfl,rfl⟩)|exact V.y vAuto) ?_)|(refine nxG ?_)|(refine nxX ?_)|(refine G.cN rfl (fun hc=>?_) (fun hc=>?_)<;>(try first|exact hc.elim|(exfalso;omega))))
 all_goals exact X.ret (vs:=[_]) rfl ⟨rfl,rfl⟩ rfl (fun w hw=>⟨ret_bool (by simp;omega),hw.ext⟩)
theorem nres_c {a b:Int} (h:okA a b):Cont Tryz.prog 97 [.int .i64 a,.int .i64 b] (.tuple [arcV a b,.int .i64 0].toArray):=fun w=>by
 have q1:=nfits_c (n:=a) (by omega)
 have q2:=nfits_c (n:=b) (by omega)
 refine enter0 Tryz.func97 rfl rfl rfl ?_
 repeat' (first|(show YK _ _ _ _ _ _ _;first|refine YK.mk (zcA (q1) ⟨rfl,rfl⟩) ?_|refine YK.mk (zcA (q2) ⟨rfl,rfl⟩) ?_)|(refine nxV ?_)|(refine nSS ?_)|(refine nS1 fun _=>?_)|(refine nMM ?_)|(refine nM1 fun _=>?_)|(show YG _ _ _ _ _ _ _ _;refine YG.mk (fun hb=>by(try(have hc:=And.left hb;have hb:=And.right hb;rw[hc]));(try rw[hb]);first|exact(zcA (q1) ⟨rfl,rfl⟩)|exact(zcA (q2) ⟨rfl,rfl⟩)|exact V.y vAuto) ?_)|(refine nxG ?_)|(refine nxX ?_)|(refine G.cN rfl (fun hc=>?_) (fun hc=>?_)<;>(try first|exact hc.elim|(exfalso;omega))))
 all_goals first
  |(exfalso;simp at hc;done)
  |exact X.ret (vs:=[_,_]) rfl ⟨⟨_,_,_,_,rfl,(by exact memA),lenA,by decide +kernel,rfl⟩,rfl,rfl⟩ rfl rE
theorem nadd_c {a b c d:Int} (h:okA a b) (h':okA c d) (h2:okA (a+c) (b+d)):Cont Tryz.prog 46 [arcV a b,arcV c d] (.tuple [arcV (a+c) (b+d),.int .i64 0].toArray):=fun w=>by
 have q1:=nval_c (a:=a) (b:=b) (by omega)
 have q2:=nval_c (a:=c) (b:=d) (by omega)
 have q3:=nres_c (a:=a+c) (b:=b+d) (by omega)
 refine enter0 Tryz.func46 rfl rfl rfl ?_
 repeat' (first|(show YK _ _ _ _ _ _ _;first|refine YK.mk (zcA (q1) ⟨rfl,rfl⟩) ?_|refine YK.mk (zcA (q2) ⟨rfl,rfl⟩) ?_|refine YK.mk (zcA (q3) ⟨rfl,rfl,rfl⟩) ?_)|(refine nxV ?_)|(refine nSS ?_)|(refine nS1 fun _=>?_)|(refine nMM ?_)|(refine nM1 fun _=>?_)|(show YG _ _ _ _ _ _ _ _;refine YG.mk (fun hb=>by(try(have hc:=And.left hb;have hb:=And.right hb;rw[hc]));(try rw[hb]);first|exact(zcA (q1) ⟨rfl,rfl⟩)|exact(zcA (q2) ⟨rfl,rfl⟩)|exact(zcA (q3) ⟨rfl,rfl,rfl⟩)|exact V.y vAuto) ?_)|(refine nxG ?_)|(refine nxX ?_)|(refine G.cN rfl (fun hc=>?_) (fun hc=>?_)<;>(try first|exact hc.elim|(exfalso;omega))))
 all_goals first
  |(exfalso;simp at hc;done)
  |exact X.ret (vs:=[_,_]) rfl ⟨⟨_,_,_,_,rfl,(by exact memA),lenA,by decide +kernel,rfl⟩,rfl,rfl⟩ rfl rE
theorem nmeet_c {a b c d:Int} (h:okA a b) (h':okA c d) (g:max a c≤min b d):Cont Tryz.prog 60 [arcV a b,arcV c d] (.tuple [arcV (max a c) (min b d),.int .i64 0].toArray):=fun w=>by
 have q1:=nval_c (a:=a) (b:=b) (by omega)
 have q2:=nval_c (a:=c) (b:=d) (by omega)
 generalize hx:max a c=x at *
 generalize hy:min b d=y at *
 refine enter0 Tryz.func60 rfl rfl rfl ?_
 repeat' (first|(show YK _ _ _ _ _ _ _;first|refine YK.mk (zcA (q1) ⟨rfl,rfl⟩) ?_|refine YK.mk (zcA (q2) ⟨rfl,rfl⟩) ?_)|(refine nxV ?_)|(refine nSS ?_)|(refine nS1 fun _=>?_)|(refine nMM ?_)|(refine nM1 fun _=>?_)|(show YG _ _ _ _ _ _ _ _;refine YG.mk (fun hb=>by(try(have hc:=And.left hb;have hb:=And.right hb;rw[hc]));(try rw[hb]);first|exact(zcA (q1) ⟨rfl,rfl⟩)|exact(zcA (q2) ⟨rfl,rfl⟩)|exact V.y vAuto) ?_)|(refine nxG ?_)|(refine nxX ?_)|(refine G.cN rfl (fun hc=>?_) (fun hc=>?_)<;>(try first|exact hc.elim|(exfalso;omega))))
 all_goals first
  |(exfalso;simp at hc;done)
  |(exfalso;simp at hc;omega)
  |exact X.ret (vs:=[_,_]) rfl ⟨⟨_,_,_,_,rfl,(by exact memA),lenA,by decide +kernel,rfl⟩,rfl,rfl⟩ rfl (fun w hw=>⟨by rw[←hx,←hy],hw.ext⟩)
theorem turn_mod (n:Int):TT.turnI n=n%21600000:=rfl
theorem nwrap_c {n:Int} (h : -4611686018427387904≤n∧n≤4611686018427387904):Cont Tryz.prog 96 [.int .i64 n] (.int .i64 (n%21600000)):=by
 have:=wrap_c h
 rwa [turn_mod] at this
theorem nsign_c {n:Int} (h : -4611686018427387904≤n∧n≤4611686018427387904):Cont Tryz.prog 68 [.int .i64 n] (.int .i64 (NO.signA n)):=by
 have:=signed_c h
 unfold signI at this
 rwa [turn_mod] at this
theorem nturn_c {a b:Int} (h:okA a b):Cont Tryz.prog 45 [arcV a b] (.tuple [arcV (NO.turnA (a,b)).1 (NO.turnA (a,b)).2,.int .i64 0].toArray):=fun w=>by
 have q1:=nval_c h
 have q2:=nwrap_c (n:=a) (by omega)
 have b1:=Int.emod_nonneg a (show (21600000:Int)≠0 by decide)
 have b2:=Int.emod_lt_of_pos a (show (0:Int)<21600000 by decide)
 unfold NO.turnA
 dsimp only
 generalize a%21600000=r at *
 refine enter0 Tryz.func45 rfl rfl rfl ?_
 split
 ·repeat' (first|(show YK _ _ _ _ _ _ _;first|refine YK.mk (zcA (q1) ⟨rfl,rfl⟩) ?_|refine YK.mk (zcA (q2) ⟨rfl,rfl⟩) ?_)|(refine nxV ?_)|(refine nSS ?_)|(refine nS1 fun _=>?_)|(refine nMM ?_)|(refine nM1 fun _=>?_)|(show YG _ _ _ _ _ _ _ _;refine YG.mk (fun hb=>by(try(have hc:=And.left hb;have hb:=And.right hb;rw[hc]));(try rw[hb]);first|exact(zcA (q1) ⟨rfl,rfl⟩)|exact(zcA (q2) ⟨rfl,rfl⟩)|exact V.y vAuto) ?_)|(refine nxG ?_)|(refine nxX ?_)|(refine G.cN rfl (fun hc=>?_) (fun hc=>?_)<;>(try first|exact hc.elim|(exfalso;omega))))
  all_goals first
   |(exfalso;simp at hc;done)
   |(exfalso;simp at hc;omega)
   |exact X.ret (vs:=[_,_]) rfl ⟨⟨_,_,_,_,rfl,(by exact memA),lenA,by decide +kernel,rfl⟩,rfl,rfl⟩ rfl rE
 ·repeat' (first|(show YK _ _ _ _ _ _ _;first|refine YK.mk (zcA (q1) ⟨rfl,rfl⟩) ?_|refine YK.mk (zcA (q2) ⟨rfl,rfl⟩) ?_)|(refine nxV ?_)|(refine nSS ?_)|(refine nS1 fun _=>?_)|(refine nMM ?_)|(refine nM1 fun _=>?_)|(show YG _ _ _ _ _ _ _ _;refine YG.mk (fun hb=>by(try(have hc:=And.left hb;have hb:=And.right hb;rw[hc]));(try rw[hb]);first|exact(zcA (q1) ⟨rfl,rfl⟩)|exact(zcA (q2) ⟨rfl,rfl⟩)|exact V.y vAuto) ?_)|(refine nxG ?_)|(refine nxX ?_)|(refine G.cN rfl (fun hc=>?_) (fun hc=>?_)<;>(try first|exact hc.elim|(exfalso;omega))))
  all_goals first
   |(exfalso;simp at hc;done)
   |(exfalso;simp at hc;omega)
   |exact X.ret (vs:=[_,_]) rfl ⟨⟨_,_,_,_,rfl,(by exact memA),lenA,by decide +kernel,rfl⟩,rfl,rfl⟩ rfl rE
theorem nagree_c {a b c d:Int} (h:okA a b) (h':okA c d):Cont Tryz.prog 88 [arcV a b,arcV c d] (.tuple [.bool (decide ((c-a)%21600000≤b-a)||decide ((a-c)%21600000≤d-c)),.int .i64 0].toArray):=fun w=>by
 have q1:=nval_c h
 have q2:=nval_c h'
 have q3:=nwrap_c (n:=c-a) (by omega)
 have q4:=nwrap_c (n:=a-c) (by omega)
 have b1:=Int.emod_nonneg (c-a) (show (21600000:Int)≠0 by decide)
 have b2:=Int.emod_lt_of_pos (c-a) (show (0:Int)<21600000 by decide)
 have b3:=Int.emod_nonneg (a-c) (show (21600000:Int)≠0 by decide)
 have b4:=Int.emod_lt_of_pos (a-c) (show (0:Int)<21600000 by decide)
 refine enter0 Tryz.func88 rfl rfl rfl ?_
 generalize (c-a)%21600000=r1 at *
 generalize (a-c)%21600000=r2 at *
 repeat' (first|(show YK _ _ _ _ _ _ _;first|refine YK.mk (zcA (q1) ⟨rfl,rfl⟩) ?_|refine YK.mk (zcA (q2) ⟨rfl,rfl⟩) ?_|refine YK.mk (zcA (q3) ⟨rfl,rfl⟩) ?_|refine YK.mk (zcA (q4) ⟨rfl,rfl⟩) ?_)|(refine nxV ?_)|(refine nSS ?_)|(refine nS1 fun _=>?_)|(refine nMM ?_)|(refine nM1 fun _=>?_)|(show YG _ _ _ _ _ _ _ _;refine YG.mk (fun hb=>by(try(have hc:=And.left hb;have hb:=And.right hb;rw[hc]));(try rw[hb]);first|exact(zcA (q1) ⟨rfl,rfl⟩)|exact(zcA (q2) ⟨rfl,rfl⟩)|exact(zcA (q3) ⟨rfl,rfl⟩)|exact(zcA (q4) ⟨rfl,rfl⟩)|exact V.y vAuto) ?_)|(refine nxG ?_)|(refine G.mA 3 [.go 0,.go 1,.go 2,.go 3,.go 4,.go 6,.go 7,.go 8,.go 9,.go 10,.go 5,.go 11,.go 12,.go 13,.go 14,.go 15,.go 16,.go 17,.go 19,.go 20,.go 21,.go 22,.go 23,.go 18,.go 24,.go 25,.go 26,.go 27] ?_)|(refine nxX ?_)|(refine G.cN rfl (fun hc=>?_) (fun hc=>?_)<;>(try first|exact hc.elim|(exfalso;omega))))
 all_goals first
  |(exfalso;simp at hc;done)
  |exact X.ret (vs:=[_,_]) rfl ⟨rfl,rfl,rfl⟩ rfl rE
end Go.Proofs.YtjmdeplmenbmmaaGreat
