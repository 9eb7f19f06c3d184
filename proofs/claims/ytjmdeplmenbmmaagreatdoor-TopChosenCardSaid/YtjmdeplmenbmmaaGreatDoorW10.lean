/- Joined texts: Fix, Wid, Fx2, Fx3, Cmp, Cm2, Cm3. -/
import Derived.Test.YtjmdeplmenbmmaaGreatDoorW08
import Derived.Test.YtjmdeplmenbmmaaGreatDoorV04
import Derived.Test.YtjmdeplmenbmmaaGreatDoorW04
import Derived.Test.YtjmdeplmenbmmaaGreatDoorV07
import Derived.Test.YtjmdeplmenbmmaaGreatDoorW03
import Derived.Test.YtjmdeplmenbmmaaGreatDoorW09
import Derived.Lib.SliceRun
set_option linter.unusedVariables false
set_option maxHeartbeats 8000000
namespace Go.Proofs.YtjmdeplmenbmmaaGreatDoor
open Go.RowKit
section
variable {P:Program} {n:Nat} {L:FL} {w0:World} {H:List Hl} {d:Option Tmp} {ty:TypeId} {pos:String} {af:Array Edge} {g:Option (Nat×Bool)} {x y z u:Operand} {k:IntKind} {a b c e:Int} {tys:Array TypeId}
theorem y_min4 (hx:evO L x=some (.int k a)) (hy:evO L y=some (.int k b)) (hz:evO L z=some (.int k c)) (hu:evO L u=some (.int k e)):V P n L w0 H ⟨d,.call { callee:=.builtin .min,args:=#[x,y,z,u],argTypes:=tys },ty,pos,af,g⟩ (.int k (min (min (min a b) c) e)):=by
 unfold V
 intro a' w ha hw
 have hm:∀p q:Int,(if q<p then q else p)=min p q:=fun p q=>by rw[Int.min_def];split<;>split<;>omega
 simp[execOp,resolve,invoke,builtin,ha.eval hx,ha.eval hy,ha.eval hz,ha.eval hu,Builtin.min_,Builtin.min2,hm]
theorem y_max4 (hx:evO L x=some (.int k a)) (hy:evO L y=some (.int k b)) (hz:evO L z=some (.int k c)) (hu:evO L u=some (.int k e)):V P n L w0 H ⟨d,.call { callee:=.builtin .max,args:=#[x,y,z,u],argTypes:=tys },ty,pos,af,g⟩ (.int k (max (max (max a b) c) e)):=by
 unfold V
 intro a' w ha hw
 have hm:∀p q:Int,(if p<q then q else p)=max p q:=fun p q=>by rw[Int.max_def];split<;>split<;>omega
 simp[execOp,resolve,invoke,builtin,ha.eval hx,ha.eval hy,ha.eval hz,ha.eval hu,Builtin.max_,Builtin.max2,hm]
end
def fvB (lo hi:Int):Bool:=decide (-2147483648≤lo)&&decide (lo≤hi)&&decide (hi≤2147483648)
theorem fvB_t {lo hi:Int} : fvB lo hi=true↔-2147483648≤lo∧lo≤hi∧hi≤2147483648:=by
 unfold fvB
 simp only[Bool.and_eq_true,decide_eq_true_eq,and_assoc]
theorem fvalid_c {lo hi:Int} : Cont Tryz.prog 165 [arcV lo hi] (.bool (fvB lo hi)):=fun w=>by
 unfold fvB
 refine enter0 Tryz.func165 rfl rfl rfl ?_
 repeat' (first|(refine nxV ?_)|(refine nSS ?_)|(refine nS1 fun _=>?_)|(refine nxG ?_)|(refine nxX ?_)|done)
 exact X.ret1
theorem fvalid_t {lo hi:Int} (h : -2147483648≤lo∧lo≤hi∧hi≤2147483648):Cont Tryz.prog 165 [arcV lo hi] (.bool true):=by
 have q:=fvalid_c (lo:=lo) (hi:=hi)
 rw[fvB_t.2 h] at q
 exact q
theorem ffit_c {lo hi:Int} (h : -2147483648≤lo∧lo≤hi∧hi≤2147483648):Cont Tryz.prog 162 [.int .i64 lo,.int .i64 hi] (.tuple [arcV lo hi,.int .i64 0].toArray):=fun w=>by
 have q1:=fvalid_t h
 refine enter0 Tryz.func162 rfl rfl rfl ?_
 repeat' (first|(show YK _ _ _ _ _ _ _;refine YK.mk (zcA (q1) ⟨rfl,rfl⟩) ?_)|(refine nxV ?_)|(refine nSS ?_)|(refine nS1 fun _=>?_)|(refine nxX ?_)|(refine G.cN rfl (fun hc=>?_) (fun hc=>?_)<;>(try first|exact hc.elim|(exfalso;omega))))
 exact X.ret (vs:=[_,_]) rfl ⟨⟨_,_,_,_,rfl,(by exact memA),lenA,by decide +kernel,rfl⟩,rfl,rfl⟩ rfl rE
theorem fboth_c {a b c d:Int} (h : -2147483648≤a∧a≤b∧b≤2147483648) (h' : -2147483648≤c∧c≤d∧d≤2147483648):Cont Tryz.prog 95 [arcV a b,arcV c d] (.bool true):=fun w=>by
 have q1:=fvalid_t h
 have q2:=fvalid_t h'
 refine enter0 Tryz.func95 rfl rfl rfl ?_
 repeat' (first|(show YK _ _ _ _ _ _ _;first|refine YK.mk (zcA (q1) ⟨rfl,rfl⟩) ?_|refine YK.mk (zcA (q2) ⟨rfl,rfl⟩) ?_)|(refine nxV ?_)|(refine nSS ?_)|(refine nS1 fun _=>?_)|(refine nxX ?_)|done)
 exact X.ret1
theorem fdiv_eq (n:Int):(n.tmod 1073741824=0→n.tdiv 1073741824=n/1073741824)∧(n.tmod 1073741824≠0→n<0→n.tdiv 1073741824-1=n/1073741824)∧(0≤n→n.tdiv 1073741824=n/1073741824):=by
 by_cases h:n<0
 ·have e1:n.tdiv 1073741824 = -((-n)/1073741824):=by
   have:n = -(-n):=by omega
   rw[this,Int.neg_tdiv,Int.tdiv_eq_ediv_of_nonneg (by omega),Int.neg_neg]
  have e2:n.tmod 1073741824 = -((-n)%1073741824):=by
   have:n = -(-n):=by omega
   rw[this,Int.neg_tmod,Int.tmod_eq_emod_of_nonneg (by omega),Int.neg_neg]
  omega
 ·have e1:=Int.tdiv_eq_ediv_of_nonneg (a:=n) (b:=1073741824) (by omega)
  omega
theorem ffloor_c {n:Int} (h : -4611686018427387904≤n∧n≤4611686018427387904):Cont Tryz.prog 160 [.int .i64 n,.int .i64 1073741824] (.int .i64 (n/1073741824)):=fun w=>by
 obtain⟨g1,g2,g3⟩:=fdiv_eq n
 have hb : -4611686018427387904≤n.tdiv 1073741824∧n.tdiv 1073741824≤4611686018427387904:=by
  by_cases e:n.tmod 1073741824=0
  ·rw[g1 e];omega
  ·by_cases e2:n<0
   ·have:=g2 e e2;omega
   ·rw[g3 (by omega)];omega
 have hw1:=IntWalk.i64_in (n.tdiv 1073741824) (by omega)
 have hw2:=IntWalk.i64_in (n.tdiv 1073741824-1) (by omega)
 refine enter0 Tryz.func160 rfl rfl rfl ?_
 repeat' (first|(refine nxV ?_)|(refine nSS ?_)|(refine nxG ?_)|(refine nxX ?_)|(refine G.cN rfl (fun hc=>?_) (fun hc=>?_)<;>(try first|exact hc.elim|(exfalso;omega))))
 all_goals refine X.ret (vs:=[_]) rfl ⟨rfl,rfl⟩ rfl (fun w hw=>⟨congrArg Ending.returned (congrArg (Value.int .i64) ?_),hw.ext⟩)
 all_goals rw[hw1]
 all_goals (try rw[hw2])
 all_goals (simp at hc;omega)
theorem fceil_c {n:Int} (h : -4611686018427387904≤n∧n≤4611686018427387904):Cont Tryz.prog 161 [.int .i64 n,.int .i64 1073741824] (.int .i64 (-(-n/1073741824))):=fun w=>by
 have q1:=ffloor_c (n:=-n) (by omega)
 have hb : -4611686018427387904≤-n/1073741824∧-n/1073741824≤4611686018427387904:=by omega
 refine enter0 Tryz.func161 rfl rfl rfl ?_
 repeat' (first|(show YK _ _ _ _ _ _ _;refine YK.mk (zcA (q1) ⟨rfl,rfl,rfl⟩) ?_)|(refine nxV ?_)|(refine nSS ?_)|(refine nxX ?_)|done)
 exact X.ret1
theorem fadd_c {a b c d:Int} (h : -2147483648≤a∧a≤b∧b≤2147483648) (h' : -2147483648≤c∧c≤d∧d≤2147483648) (hs : -2147483648≤a+c∧b+d≤2147483648):Cont Tryz.prog 146 [arcV a b,arcV c d] (.tuple [arcV (a+c) (b+d),.int .i64 0].toArray):=fun w=>by
 have q1:=fboth_c h h'
 have q2:=ffit_c (lo:=a+c) (hi:=b+d) (by omega)
 refine enter0 Tryz.func146 rfl rfl rfl ?_
 repeat' (first|(show YK _ _ _ _ _ _ _;first|refine YK.mk (zcA (q1) ⟨rfl,rfl,rfl⟩) ?_|refine YK.mk (zcA (q2) ⟨rfl,rfl,rfl⟩) ?_)|(refine nxV ?_)|(refine nSS ?_)|(refine nS1 fun _=>?_)|(refine nxX ?_)|(refine G.cN rfl (fun hc=>?_) (fun hc=>?_)<;>(try first|exact hc.elim|(exfalso;omega))))
 all_goals exact X.ret (vs:=[_,_]) rfl ⟨⟨_,_,_,_,rfl,(by exact memA),lenA,by decide +kernel,rfl⟩,rfl,rfl⟩ rfl rE
theorem fmul_c {p q:Int×Int} (hp : -1073741824≤p.1∧p.1≤p.2∧p.2≤1073741824) (hq : -1073741824≤q.1∧q.1≤q.2∧q.2≤1073741824):Cont Tryz.prog 148 [arcV p.1 p.2,arcV q.1 q.2] (.tuple [arcV (TT.mulE p q).1 (TT.mulE p q).2,.int .i64 0].toArray):=fun w=>by
 have h1:=TT.abs_mul_le (A:=1073741824) (u:=1073741824) (a:=p.1) (t:=q.1) (by omega) (by omega)
 have h2:=TT.abs_mul_le (A:=1073741824) (u:=1073741824) (a:=p.1) (t:=q.2) (by omega) (by omega)
 have h3:=TT.abs_mul_le (A:=1073741824) (u:=1073741824) (a:=p.2) (t:=q.1) (by omega) (by omega)
 have h4:=TT.abs_mul_le (A:=1073741824) (u:=1073741824) (a:=p.2) (t:=q.2) (by omega) (by omega)
 have hb:=TT.mulE_bd hp hq
 have q1:=fboth_c (a:=p.1) (b:=p.2) (c:=q.1) (d:=q.2) (by omega) (by omega)
 have q4:=ffit_c (lo:=(TT.mulE p q).1) (hi:=(TT.mulE p q).2) (by omega)
 have e1:(TT.mulE p q).1=min (min (min (p.1*q.1) (p.1*q.2)) (p.2*q.1)) (p.2*q.2)/1073741824:=by unfold TT.mulE;dsimp only;omega
 have e2:(TT.mulE p q).2 = -(-(max (max (max (p.1*q.1) (p.1*q.2)) (p.2*q.1)) (p.2*q.2))/1073741824):=by unfold TT.mulE;dsimp only;omega
 generalize TT.mulE p q=r at *
 obtain⟨r1,r2⟩:=r
 obtain⟨a,b⟩:=p
 obtain⟨c,d⟩:=q
 dsimp only at *
 subst e1 e2
 have q2:=ffloor_c (n:=min (min (min (a*c) (a*d)) (b*c)) (b*d)) (by omega)
 have q3:=fceil_c (n:=max (max (max (a*c) (a*d)) (b*c)) (b*d)) (by omega)
 refine enter0 Tryz.func148 rfl rfl rfl ?_
 repeat' (first|(show YK _ _ _ _ _ ⟨_,.call { callee:=.builtin .min,args:=_,argTypes:=_ },_,_,_,_⟩ _;refine YK.ofV (y_min4 (by rfl) (by rfl) (by rfl) (by rfl)) ?_)|(show YK _ _ _ _ _ ⟨_,.call { callee:=.builtin .max,args:=_,argTypes:=_ },_,_,_,_⟩ _;refine YK.ofV (y_max4 (by rfl) (by rfl) (by rfl) (by rfl)) ?_)|(show YK _ _ _ _ _ _ _;first|refine YK.mk (zcA (q1) ⟨rfl,rfl,rfl⟩) ?_|refine YK.mk (zcA (q2) ⟨rfl,rfl,rfl⟩) ?_|refine YK.mk (zcA (q3) ⟨rfl,rfl,rfl⟩) ?_|refine YK.mk (zcA (q4) ⟨rfl,rfl,rfl⟩) ?_)|(refine nxV ?_)|(refine nSS ?_)|(refine nS1 fun _=>?_)|(refine nMM ?_)|(refine G.mA 3 [.go 0,.go 1,.go 2,.go 3,.go 4,.go 5,.go 6,.go 7,.go 8,.go 9,.go 10,.go 11,.go 12,.go 13,.go 14,.go 15,.go 16,.go 17,.go 18,.go 19,.go 20,.go 21,.go 22,.go 23] ?_)|(refine nxX ?_)|(refine G.cN rfl (fun hc=>?_) (fun hc=>?_)<;>(try first|exact hc.elim|(exfalso;omega))))
 all_goals exact X.ret (vs:=[_,_]) rfl ⟨⟨_,_,_,_,rfl,(by exact memA),lenA,by decide +kernel,rfl⟩,rfl,rfl⟩ rfl rE
theorem bnd_gap (n:Int):(TT.bnd n).2≤(TT.bnd n).1+1:=by
 unfold TT.bnd TT.hiB
 split
 ·dsimp only;split<;>omega
 ·dsimp only;split<;>omega
def belI (n v:Int):Int:=if (TT.bnd n).2≤v∧(TT.bnd n).1<v then -1 else if v≤(TT.bnd n).1∧v<(TT.bnd n).2 then 1 else if v=(TT.bnd n).1 then 0 else if v<(TT.bnd n).1 then 1 else -1
theorem belI_le (n v:Int):belI n v≤0↔(TT.bnd n).2≤v:=by
 have h1:=bnd_gap n
 have h2:=(TT.bnd_bd n).2.1
 unfold belI
 split
 ·omega
 split
 ·omega
 split
 ·omega
 split
 ·omega
 ·omega
theorem below_c {n v:Int} (h : -4611686018427387904≤n∧n≤4611686018427387904):Cont Tryz.prog 228 [.int .i64 n,.int .i64 v] (.int .i64 (belI n v)):=fun w=>by
 have q1:=bounds_c h
 unfold belI
 generalize TT.bnd n=x at *
 obtain⟨lo,hi⟩:=x
 refine enter0 Tryz.func228 rfl rfl rfl ?_
 repeat' (first|(show YK _ _ _ _ _ _ _;refine YK.mk (zcA (q1) ⟨rfl,rfl⟩) ?_)|(refine nxV ?_)|(refine nSS ?_)|(refine nxG ?_)|(refine nxX ?_)|(refine G.cN rfl (fun hc=>?_) (fun hc=>?_)<;>(try first|exact hc.elim|(exfalso;omega))))
 all_goals exact X.ret (vs:=[_]) rfl ⟨rfl,rfl⟩ rfl (fun w hw=>⟨congrArg Ending.returned (congrArg (Value.int .i64) (by(repeat' split)<;>omega)),hw.ext⟩)
section
variable {P:Program} {n:Nat} {L:FL} {w0:World} {H:List Hl} {d:Option Tmp} {ty:TypeId} {pos:String} {af:Array Edge} {g:Option (Nat×Bool)} {x y:Operand} {k k':IntKind} {m q r c:Int} {t t':TypeId}
theorem y_shrQ (hx:evO L x=some (.int k m)) (hy:evO L y=some (.int k' c)) (hc:0≤c) (hq:(2:Int)^(min c.toNat k.bits)=q) (hr:m/q=r):V P n L w0 H ⟨d,.binOp .shr t x y t',ty,pos,af,g⟩ (.int k r):=by
 rw[←hr]
 exact y_shr hx hy hc hq
end
theorem rnd_up {p d:Int} (hd:0<d) : -(-p/d)=p/d+(if p%d=0 then 0 else 1):=by
 have h1:=Int.emod_add_mul_ediv p d
 have h2:=Int.emod_nonneg p (by omega:d≠0)
 have h3:=Int.emod_lt_of_pos p hd
 split
 ·rename_i h
  rw[h,Int.zero_add] at h1
  have : -p/d = -(p/d):=by
   rw[←h1]
   rw[show -(d*(p/d))=d * -(p/d) by rw[Int.mul_neg]]
   rw[Int.mul_ediv_cancel_left _ (by omega),Int.mul_ediv_cancel_left _ (by omega)]
  omega
 ·have : -p/d = -(p/d)-1:=by
   refine(Int.ediv_eq_iff_of_pos hd).2 ?_
   generalize p/d=q at *
   generalize p%d=r at *
   have e:(-q-1)*d = -(d*q)-d:=by rw[Int.sub_mul,Int.neg_mul,Int.mul_comm];omega
   omega
  omega
abbrev two31 (p:Int×Int):Prop:=-2147483648≤p.1∧p.1≤p.2∧p.2≤2147483648
theorem fsub_c {p q:Int×Int} (hp:two31 p) (hq:two31 q) (h : -2147483648≤(TT.subE p q).1∧(TT.subE p q).2≤2147483648):Cont Tryz.prog 175 [arcV p.1 p.2,arcV q.1 q.2] (.tuple [arcV (TT.subE p q).1 (TT.subE p q).2,.int .i64 0].toArray):=fun w=>by
 unfold TT.subE at *
 dsimp only at *
 have q1:=fboth_c hp hq
 have q2:=ffit_c (lo:=p.1-q.2) (hi:=p.2-q.1) (by omega)
 refine enter0 Tryz.func175 rfl rfl rfl ?_
 repeat' (first|(show YK _ _ _ _ _ _ _;first|refine YK.mk (zcA (q1) ⟨rfl,rfl,rfl⟩) ?_|refine YK.mk (zcA (q2) ⟨rfl,rfl,rfl⟩) ?_)|(refine nxV ?_)|(refine nSS ?_)|(refine nS1 fun _=>?_)|(refine nxX ?_)|(refine G.cN rfl (fun hc=>?_) (fun hc=>?_)<;>(try first|exact hc.elim|(exfalso;omega))))
 all_goals exact X.ret (vs:=[_,_]) rfl ⟨⟨_,_,_,_,rfl,(by exact memA),lenA,by decide +kernel,rfl⟩,rfl,rfl⟩ rfl rE
theorem fzero_c {a b:Int} : Cont Tryz.prog 97 [arcV a b] (.bool (decide (a≤0)&&decide (0≤b))):=fun w=>by
 refine enter0 Tryz.func97 rfl rfl rfl ?_
 repeat' (first|(refine nxV ?_)|(refine nSS ?_)|(refine nS1 fun _=>?_)|(refine nxG ?_)|(refine nxX ?_)|done)
 exact X.ret1
theorem fzero_f {a b:Int} (h:0<a):Cont Tryz.prog 97 [arcV a b] (.bool false):=by
 have:=fzero_c (a:=a) (b:=b)
 rw[decide_eq_false (by omega),Bool.false_and] at this
 exact this
theorem tdiv_gen {n d:Int} (hd:0<d):(n.tmod d=0→n.tdiv d=n/d)∧(n.tmod d≠0→n<0→n.tdiv d-1=n/d)∧(0≤n→n.tdiv d=n/d):=by
 by_cases h:n<0
 ·obtain⟨m,rfl⟩:∃m,n = -m:=⟨-n,by omega⟩
  have e1:(-m).tdiv d = -(m/d):=by rw[Int.neg_tdiv,Int.tdiv_eq_ediv_of_nonneg (by omega)]
  have e2:(-m).tmod d = -(m%d):=by rw[Int.neg_tmod,Int.tmod_eq_emod_of_nonneg (by omega)]
  have e3:=rnd_up (p:=m) hd
  rw[e1,e2]
  split at e3<;>omega
 ·have e1:=Int.tdiv_eq_ediv_of_nonneg (a:=n) (b:=d) (by omega)
  omega
theorem tdiv_bd {n d:Int} (hd:0<d) (h : -4611686018427387904≤n∧n≤4611686018427387904) : -4611686018427387904≤n/d∧n/d≤4611686018427387904:=by
 have h1:=Int.emod_add_mul_ediv n d
 have h2:=Int.emod_nonneg n (by omega:d≠0)
 have h3:=Int.emod_lt_of_pos n hd
 constructor
 ·refine Int.not_lt.1 fun hlt=>?_
  have:d*(n/d)≤d * -4611686018427387905:=Int.mul_le_mul_of_nonneg_left (by omega) (by omega)
  have h4:d * -4611686018427387905+d≤-4611686018427387904:=by omega
  omega
 ·by_cases hn:0≤n
  ·have:=Int.ediv_le_self (a:=n) d hn
   omega
  ·have:n/d<0:=Int.ediv_neg_of_neg_of_pos (by omega) hd
   omega
theorem ffloorD_c {n d:Int} (hd:0<d∧d≤4611686018427387904) (h : -4611686018427387904≤n∧n≤4611686018427387904):Cont Tryz.prog 160 [.int .i64 n,.int .i64 d] (.int .i64 (n/d)):=fun w=>by
 obtain⟨g1,g2,g3⟩:=tdiv_gen (n:=n) hd.1
 have hb:=tdiv_bd hd.1 h
 have hb2 : -4611686018427387904≤n.tdiv d∧n.tdiv d≤4611686018427387905:=by
  by_cases e:n.tmod d=0
  ·rw[g1 e];omega
  ·by_cases e2:n<0
   ·have:=g2 e e2;omega
   ·rw[g3 (by omega)];omega
 have hw1:=IntWalk.i64_in (n.tdiv d) (by omega)
 have hw2:=IntWalk.i64_in (n.tdiv d-1) (by omega)
 have hd0:¬d<0:=by omega
 generalize n/d=r at *
 refine enter0 Tryz.func160 rfl rfl rfl ?_
 repeat' (first|(refine nxV ?_)|(refine nSS ?_)|(refine nxG ?_)|(refine nxX ?_)|(refine G.cN rfl (fun hc=>?_) (fun hc=>?_)<;>(try first|exact hc.elim|(exfalso;omega))))
 all_goals refine X.ret (vs:=[_]) rfl ⟨rfl,rfl⟩ rfl (fun w hw=>⟨congrArg Ending.returned (congrArg (Value.int .i64) ?_),hw.ext⟩)
 all_goals rw[hw1]
 all_goals (try rw[hw2])
 all_goals (simp[hd0] at hc;omega)
theorem fceilD_c {n d:Int} (hd:0<d∧d≤4611686018427387904) (h : -4611686018427387904≤n∧n≤4611686018427387904):Cont Tryz.prog 161 [.int .i64 n,.int .i64 d] (.int .i64 (-(-n/d))):=fun w=>by
 have q1:=ffloorD_c (n:=-n) hd (by omega)
 have hb:=tdiv_bd (n:=-n) hd.1 (by omega)
 generalize -n/d=r at *
 refine enter0 Tryz.func161 rfl rfl rfl ?_
 repeat' (first|(show YK _ _ _ _ _ _ _;refine YK.mk (zcA (q1) ⟨rfl,rfl,rfl⟩) ?_)|(refine nxV ?_)|(refine nSS ?_)|(refine nxX ?_)|done)
 exact X.ret1
def cPt (p:Int×Int):List Value:=[.int .i64 p.1,.int .i64 p.2]
section
variable {P:Program} {n:Nat} {L:FL} {w0:World} {H:List Hl} {Q:Exit→Act→World→Prop} {ops:Array Oper} {rest:List Oper} {dd:Nat} {ty:TypeId} {pos:String} {af:Array Edge} {t e:TypeId} {bytes:Nat}
theorem RS.lit2Pt {x0 x1:Operand} {a b:Int×Int} (h:∀v':Sl,RS P ops Q n ((dd,v'.v)::L) w0 (Hl.rw v'.v e cPt 2 [a,b]::H) rest) (hx0:evO L x0=some (ptV a.1 a.2)) (hx1:evO L x1=some (ptV b.1 b.2)) [ht:RowTy P t e 2 bytes] (hd:Nat.blt dd n=true:=by rfl) :
  RS P ops Q n L w0 H (⟨some dd,.buildSlice t 2 #[(0,x0),(1,x1)],ty,pos,af,none⟩::rest):=RS.actX rfl (x_litS (parts:=[(0,x0),(1,x1)]) (vs:=[ptV a.1 a.2,ptV b.1 b.2]) (cs:=cPt a++cPt b) (f:=cPt) (l:=[a,b]) ⟨hx0,hx1,rfl⟩ rfl rfl rfl rfl (fun zs hz=>by
   match zs,hz with
   |[_,_,_,_],_=>rfl) rfl rfl rfl (rowTy_B ht.is) hd) fun v' _=>h v'
theorem RS.lit1Pt {x0:Operand} {a:Int×Int} (h:∀v':Sl,RS P ops Q n ((dd,v'.v)::L) w0 (Hl.rw v'.v e cPt 2 [a]::H) rest) (hx0:evO L x0=some (ptV a.1 a.2)) [ht:RowTy P t e 2 bytes] (hd:Nat.blt dd n=true:=by rfl) :
  RS P ops Q n L w0 H (⟨some dd,.buildSlice t 1 #[(0,x0)],ty,pos,af,none⟩::rest):=RS.actX rfl (x_litS (parts:=[(0,x0)]) (vs:=[ptV a.1 a.2]) (cs:=cPt a) (f:=cPt) (l:=[a]) ⟨hx0,rfl⟩ rfl rfl rfl rfl (fun zs hz=>by
   match zs,hz with
   |[_,_],_=>rfl) rfl rfl rfl (rowTy_B ht.is) hd) fun v' _=>h v'
theorem RS.lit2I {x0 x1:Operand} {a b:Int} (h:∀v':Sl,RS P ops Q n ((dd,v'.v)::L) w0 (Hl.rw v'.v e cI 1 [a,b]::H) rest) (hx0:evO L x0=some (.int .i64 a)) (hx1:evO L x1=some (.int .i64 b)) [ht:RowTy P t e 1 bytes] (hd:Nat.blt dd n=true:=by rfl) :
  RS P ops Q n L w0 H (⟨some dd,.buildSlice t 2 #[(0,x0),(1,x1)],ty,pos,af,none⟩::rest):=RS.actX rfl (x_litS (parts:=[(0,x0),(1,x1)]) (vs:=[.int .i64 a,.int .i64 b]) (cs:=cI a++cI b) (f:=cI) (l:=[a,b]) ⟨hx0,hx1,rfl⟩ rfl rfl rfl rfl (fun zs hz=>by
   match zs,hz with
   |[_,_],_=>rfl) rfl rfl rfl (rowTy_B ht.is) hd) fun v' _=>h v'
end
def divQ (x y:Int):Int:=x*1073741824/y
def divC (x y:Int):Int:=-(-(x*1073741824)/y)
def divE (A B:Int×Int):Int×Int:=(min (min (min (min (divQ A.1 B.1) (divQ A.1 B.1)) (divQ A.1 B.2)) (divQ A.2 B.1)) (divQ A.2 B.2),max (max (max (max (divC A.1 B.1) (divC A.1 B.1)) (divC A.1 B.2)) (divC A.2 B.1)) (divC A.2 B.2))
theorem fdiv_c {A B:Int×Int} (hA:two31 A) (hB:two31 B) (h0:0<B.1) (h : -2147483648≤(divE A B).1∧(divE A B).1≤(divE A B).2∧(divE A B).2≤2147483648):Cont Tryz.prog 85 [arcV A.1 A.2,arcV B.1 B.2] (.tuple [arcV (divE A B).1 (divE A B).2,.int .i64 0].toArray):=fun w=>by
 obtain⟨A1,A2⟩:=A
 obtain⟨B1,B2⟩:=B
 unfold divE at *
 dsimp only at *
 have q1:=fboth_c (a:=A1) (b:=A2) (c:=B1) (d:=B2) hA hB
 have q2:=fzero_f (a:=B1) (b:=B2) h0
 have q3:=ffit_c h
 have f11:=ffloorD_c (n:=A1*1073741824) (d:=B1) (by omega) (by omega)
 have f12:=ffloorD_c (n:=A1*1073741824) (d:=B2) (by omega) (by omega)
 have f21:=ffloorD_c (n:=A2*1073741824) (d:=B1) (by omega) (by omega)
 have f22:=ffloorD_c (n:=A2*1073741824) (d:=B2) (by omega) (by omega)
 have c11:=fceilD_c (n:=A1*1073741824) (d:=B1) (by omega) (by omega)
 have c12:=fceilD_c (n:=A1*1073741824) (d:=B2) (by omega) (by omega)
 have c21:=fceilD_c (n:=A2*1073741824) (d:=B1) (by omega) (by omega)
 have c22:=fceilD_c (n:=A2*1073741824) (d:=B2) (by omega) (by omega)
 unfold divQ divC at *
 generalize A1*1073741824/B1=d11 at *
 generalize A1*1073741824/B2=d12 at *
 generalize A2*1073741824/B1=d21 at *
 generalize A2*1073741824/B2=d22 at *
 generalize -(-(A1*1073741824)/B1)=e11 at *
 generalize -(-(A1*1073741824)/B2)=e12 at *
 generalize -(-(A2*1073741824)/B1)=e21 at *
 generalize -(-(A2*1073741824)/B2)=e22 at *
 have n1:nth [A1,A2] 0=A1:=rfl
 have n2:nth [A1,A2] (0+1)=A2:=rfl
 have l1:(([A1,A2].length:Nat):Int)=2:=rfl
 have l2:(([B1,B2].length:Nat):Int)=2:=rfl
 refine enter0 Tryz.func85 rfl rfl rfl ?_
 repeat' (first|(show G _ _ _ _ _ _ (.loop _);refine G.loopN 3 (GR.step ?_))|(show X (Exit.then (Code.rounds _ _ _ _) _) _ _ _ _ .normal;refine X.round (GR.step ?_))|(show RS _ _ _ _ _ _ _ (⟨some _,.buildSlice _ 2 _,_,_,_,_⟩::_);refine RS.lit2I (fun v'=>?_) rfl rfl)|(show YK _ _ _ _ _ _ _;first|refine YK.mk (zcA (q1) ⟨rfl,rfl,rfl⟩) ?_|refine YK.mk (zcA (q2) ⟨rfl,rfl⟩) ?_|refine YK.mk (zcA (f11) ⟨rfl,rfl,rfl⟩) ?_|refine YK.mk (zcA (f12) ⟨rfl,rfl,rfl⟩) ?_|refine YK.mk (zcA (f21) ⟨rfl,rfl,rfl⟩) ?_|refine YK.mk (zcA (f22) ⟨rfl,rfl,rfl⟩) ?_|refine YK.mk (zcA (c11) ⟨rfl,rfl,rfl⟩) ?_|refine YK.mk (zcA (c12) ⟨rfl,rfl,rfl⟩) ?_|refine YK.mk (zcA (c21) ⟨rfl,rfl,rfl⟩) ?_|refine YK.mk (zcA (c22) ⟨rfl,rfl,rfl⟩) ?_|refine YK.mk (zcA (q3) ⟨rfl,rfl,rfl⟩) ?_)|(refine nxV ?_)|(refine nSS ?_)|(refine nS1 fun _=>?_)|(refine nMM ?_)|(refine G.mA 5 [.go 0,.go 1,.go 2,.go 3,.go 4,.go 6,.go 7,.go 8,.go 9,.go 10,.go 5,.go 11,.go 12,.go 13] ?_)|(refine nxX ?_)|(refine G.cN rfl (fun hc=>?_) (fun hc=>?_)<;>(try first|exact hc.elim|(exfalso;omega))))
 exact X.ret (vs:=[_,_]) rfl ⟨⟨_,_,_,_,rfl,(by exact memA),lenA,by decide +kernel,rfl⟩,rfl,rfl⟩ rfl rE
abbrev PtT:=Int×Int
def zPts (n:Nat):List PtT:=List.replicate n (0,0)
theorem zero_flat:∀n:Nat,(zPts n).flatMap cPt=List.replicate (n*2) (Value.int .i64 0)
 |0=>rfl
 |n+1=>by
  have h:=zero_flat n
  unfold zPts at *
  rw[List.replicate_succ,List.flatMap_cons,h,Nat.succ_mul]
  rfl
theorem zero_cells (n:Nat):(Builtin.zeroCells #[.int .i64 0,.int .i64 0] n).toList=(zPts n).flatMap cPt:=by
 rw[zero_flat]
 unfold Builtin.zeroCells
 refine List.ext_getElem (by simp) fun i h1 h2=>?_
 rw[List.getElem_replicate]
 simp only[Array.toList_map,List.getElem_map]
 rcases(show (i%2=0)∨(i%2=1) by omega) with h|h
 ·simp[h]
 ·simp[h]
theorem flat_cut (l:List PtT) (k:Nat) (hk:k≤l.length):setAt (l.flatMap cPt) (k*2) ((zPts (l.length-k)).flatMap cPt)=(l.take k++zPts (l.length-k)).flatMap cPt:=by
 have e:l.flatMap cPt=(l.take k).flatMap cPt++(l.drop k).flatMap cPt:=by rw[←List.flatMap_append,List.take_append_drop]
 have hl:∀r:List PtT,(r.flatMap cPt).length=r.length*2:=fun r=>flat_len (f:=cPt) (s:=2) (fun _=>rfl) r
 have hk2:k*2=((l.take k).flatMap cPt).length+0:=by rw[hl,List.length_take,Nat.min_eq_left hk];omega
 rw[e,hk2,setAt_app,List.flatMap_append]
 congr 1
 have:=setAt_all ((zPts (l.length-k)).flatMap cPt) ((l.drop k).flatMap cPt) [] (by rw[hl,hl,List.length_drop];simp[zPts])
 rw[List.append_nil,List.append_nil] at this
 exact this
section
variable {P:Program} {n:Nat} {L:FL} {w0:World} {H HS:List Hl} {Q:Exit→Act→World→Prop} {ops:Array Oper} {rest:List Oper} {ty:TypeId} {pos:String} {af:Array Edge} {gd:Option (Nat×Bool)} {x:Operand} {t e:TypeId} {l:List PtT} {v:Value}
theorem x_clear2 {k:Nat} {H':List Hl} (hx:evO L x=some (cutV v 2 k l.length)) (hu:Upd (Hl.rw v e cPt 2 l) (Hl.rw v e cPt 2 (l.take k++zPts (l.length-k))) H H') (hk:k<l.length) (ht:P.underlying t=some (.slice e)) (hz:zeroOf P e=some (.agg #[.int .i64 0,.int .i64 0])) :
  EX P n L w0 H ⟨none,.call { callee:=.builtin .clear,args:=#[x],argTypes:=#[t] },ty,pos,af,gd⟩ (fun _:Unit=>True) (fun _=>L) (fun _=>H') :=
 fun a w ha hw K Q hK=>by
  have hown:w.ownsRow w0.heap.size e 2 v l.length (l.flatMap cPt):=hw.all _ hu.mem
  rcases hown.2 with ⟨h',hn⟩|⟨g,cap',cur,h',hb',hg,hnc,hcm,hcs,htake⟩
  ·exact absurd hn (by omega)
  ·subst h'
   have hlen:=flat_len (f:=cPt) (s:=2) (fun _=>rfl) l
   have hadd:(⟨g,0,none⟩:Addr).add (k*2)=⟨g,k*2,none⟩:=by unfold Addr.add;split<;>simp_all
   have hcv:cutV (.slice (some ⟨g,0,none⟩) l.length cap') 2 k l.length=.slice (some ⟨g,k*2,none⟩) (l.length-k) (cap'-k):=by
    have hne:¬cap'=k:=by omega
    simp[cutV,sliced,hadd,hne]
   rw[hcv] at hx
   have hst:=own_setAt ((zPts (l.length-k)).flatMap cPt) (l.flatMap cPt) (k*2) w hown
   rw[flat_cut l k (by omega)] at hst
   have hzl:((zPts (l.length-k)).flatMap cPt).length=(l.length-k)*2:=by rw[flat_len (f:=cPt) (s:=2) (fun _=>rfl)];simp[zPts]
   have hrun:=run_storeCells_cells (P:=P) g (k*2) ((zPts (l.length-k)).flatMap cPt) 0 w (fun j hj'=>by
     have hold:w.cell? ⟨g,k*2+0+j,none⟩=(l.flatMap cPt)[k*2+0+j]?:=hown.cellAt _ (by omega)
     rw[hold,List.getElem?_eq_getElem (by omega)];rfl) (fun j _=>hown.frozenAt _) (fun u hu=>by
     rw[zero_flat] at hu
     rw[List.eq_of_mem_replicate hu];rfl)
   have hzv:∀w:World,(zeroValue e).run P w=.ok (.agg #[.int .i64 0,.int .i64 0]) w:=fun w=>by
    unfold zeroOf at hz
    obtain⟨i,hi,hz1⟩:=Option.bind_eq_some_iff.1 hz
    simp[zeroValue,typeInfo,hi,hz1]
   obtain⟨m,hm⟩:∃m,l.length-k=m+1:=⟨l.length-k-1,by omega⟩
   have he:(execOp a.eval ⟨none,.call { callee:=.builtin .clear,args:=#[x],argTypes:=#[t] },ty,pos,af,gd⟩).run P w=.ok (.value (.tuple #[])) (w.setCells g (k*2) ((zPts (l.length-k)).flatMap cPt)):=by
    rw[hm] at hx hrun ⊢
    simp[execOp,resolve,invoke,builtin,ha.eval hx,Builtin.clear_,run_underlying ht,hzv,Value.cells,zero_cells,hrun]
   unfold Oper.wp
   rw[he]
   refine hK _ _ ⟨(),trivial,ha.putNone,?_⟩
   ·refine hw.turn hu rfl hst.2 ?_ fun b hb=>.inl hb
    have e2:(l.take k++zPts (l.length-k)).length=l.length:=by simp[zPts];omega
    show World.ownsRow _ _ _ _ _ _ _
    rw[e2]
    exact hst.1
end
structure Cmp (out inp:List PtT):Prop where
 ne:out≠[]
 hd:out.head?=inp.head?
 lst:out.getLast?=inp.getLast?
 adj:∀(i:Nat) a b,out[i]?=some a→out[i+1]?=some b→a≠b
 mem:∀x∈out,x∈inp
theorem Cmp.start {l:List PtT} (h:l≠[]) (ha:∀(i:Nat) a b,l[i]?=some a→l[i+1]?=some b→a≠b):Cmp l l:=⟨h,rfl,rfl,ha,fun _ h=>h⟩
theorem take_last {l:List PtT} {j:Nat} {a:PtT} (h:l[j]?=some a):l.take (j+1)=l.take j++[a]:=by
 rw[List.take_add_one,h];rfl
theorem Cmp.skip {out l:List PtT} {j:Nat} {a:PtT} (h:Cmp out (l.take j)) (h1:l[j]?=some a) (h0:l[j-1]?=some a) (hj:1≤j):Cmp out (l.take (j+1)):=by
 obtain⟨i,rfl⟩:∃i,j=i+1:=⟨j-1,by omega⟩
 rw[Nat.add_sub_cancel] at h0
 have e0:=take_last h0
 have e1:=take_last h1
 refine⟨h.ne,?_,?_,h.adj,fun x hx=>?_⟩
 ·rw[h.hd,e1,e0];cases l.take i<;>rfl
 ·rw[h.lst,e1,e0];simp
 ·rw[e1];exact List.mem_append_left _ (h.mem x hx)
theorem Cmp.keep {out l:List PtT} {j:Nat} {a b:PtT} (h:Cmp out (l.take j)) (h1:l[j]?=some a) (h0:l[j-1]?=some b) (hj:1≤j) (hne:a≠b):Cmp (out++[a]) (l.take (j+1)):=by
 obtain⟨i,rfl⟩:∃i,j=i+1:=⟨j-1,by omega⟩
 rw[Nat.add_sub_cancel] at h0
 have e0:=take_last h0
 have e1:=take_last h1
 have hb:out.getLast?=some b:=by rw[h.lst,e0];simp
 refine⟨by simp,?_,by rw[e1];simp,fun k x y hx hy=>?_,fun x hx=>?_⟩
 ·have h2:=h.hd
  rw[e0] at h2
  rw[e1,e0]
  obtain⟨o,os,rfl⟩:∃o os,out=o::os:=by
   cases hq:out with
   |nil=>exact absurd hq h.ne
   |cons o os=>exact⟨o,os,rfl⟩
  generalize l.take i=r at *
  cases r with
  |nil=>exact h2
  |cons _ _=>exact h2
 ·rcases Nat.lt_or_ge (k+1) out.length with hk|hk
  ·rw[List.getElem?_append_left hk] at hy
   rw[List.getElem?_append_left (by omega)] at hx
   exact h.adj k x y hx hy
  ·have hk2:k+1=out.length:=by
    have:=(List.getElem?_eq_some_iff.1 hy).1
    simp at this;omega
   rw[List.getElem?_append_right hk,hk2,Nat.sub_self] at hy
   rw[List.getElem?_append_left (by omega)] at hx
   have:out.getLast?=some x:=by rw[List.getLast?_eq_getElem?,←hk2];exact hx
   rw[hb] at this
   cases this
   simp only[List.getElem?_cons_zero,Option.some.injEq] at hy
   rw[←hy]
   exact fun e=>hne e.symm
 ·rcases List.mem_append.1 hx with hx|hx
  ·rw[e1];exact List.mem_append_left _ (h.mem x hx)
  ·rw[List.mem_singleton.1 hx,e1];exact List.mem_append_right _ (List.mem_singleton.2 rfl)
theorem nth_cut {m:List PtT} {k j:Nat} {i:Int} (hi:0≤i∧i<j):nth ((m.drop k).take j) i=nth m (k+i):=by
 unfold nth
 obtain⟨n,rfl⟩:∃n:Nat,i=n:=⟨i.toNat,by omega⟩
 rw[show ((k:Int)+(n:Int)).toNat=k+n by omega,Int.toNat_natCast,List.getD_eq_getElem?_getD,List.getD_eq_getElem?_getD,List.getElem?_take,if_pos (by omega),List.getElem?_drop]
structure Cmi (l m:List PtT) (kk j:Nat):Prop where
 len:m.length=l.length
 lt:kk<j
 hi:∀i:Nat,j≤i+1→m[i]?=l[i]?
 cmp:Cmp (m.take kk) (l.take j)
theorem St.cutN {w0 w:World} {HR:List Hl} {v:Value} {e:TypeId} {l:List PtT} {k:Nat} (hk:k≤l.length) (hk0:0<k) (h:St w0 (Hl.rw v e cPt 2 l::HR) w):St w0 (Hl.nw (cutV v 2 0 k) cPt 2 (l.take k)::HR) w:=by
 have hown:w.ownsRow w0.heap.size e 2 v l.length (l.flatMap cPt):=h.all _ List.mem_cons_self
 have h1:=(RO.of_row hown).cut (i:=0) (j:=k) (Nat.zero_le _) hk
 have e1:((l.flatMap cPt).drop (0*2)).take ((k-0)*2)=(l.take k).flatMap cPt:=by
  have e:l.flatMap cPt=(l.take k).flatMap cPt++(l.drop k).flatMap cPt:=by rw[←List.flatMap_append,List.take_append_drop]
  have hl:((l.take k).flatMap cPt).length=k*2:=by rw[flat_len (f:=cPt) (s:=2) (fun _=>rfl),List.length_take,Nat.min_eq_left hk]
  rw[Nat.zero_mul,List.drop_zero,Nat.sub_zero,e,List.take_append_of_le_length (by omega),List.take_of_length_le (by omega)]
 rw[e1,Nat.sub_zero] at h1
 have hb:(cutV v 2 0 k).ownBlock=v.ownBlock:=by
  rcases hown.2 with ⟨h',hn⟩|⟨g,cap',cur,h',hb',hg,hnc,hcm,hcs,htake⟩
  ·exact absurd hn (by omega)
  ·subst h'
   have hne:¬cap'=0:=by omega
   have hadd:(⟨g,0,none⟩:Addr).add (0*2)=⟨g,0,none⟩:=by unfold Addr.add;split<;>simp_all
   simp[cutV,sliced,hne,hadd]
   rfl
 have h2:=St.froz h
 have hlk:(l.take k).length=k:=by rw[List.length_take,Nat.min_eq_left hk]
 have hne2:(l.take k).flatMap cPt≠[]:=fun e0=>by
  have:=flat_len (f:=cPt) (s:=2) (fun _=>rfl) (l.take k)
  rw[e0,hlk] at this
  simp at this
  omega
 have hne3:l.flatMap cPt≠[]:=fun e0=>by
  have:=flat_len (f:=cPt) (s:=2) (fun _=>rfl) l
  rw[e0] at this
  simp at this
  omega
 have sp:(Hl.nw (cutV v 2 0 k) cPt 2 (l.take k)).spot=v.ownBlock:=by
  show (match (l.take k).flatMap cPt with|[]=>none|_::_=>(cutV v 2 0 k).ownBlock)=_
  cases hx:(l.take k).flatMap cPt with
  |nil=>exact absurd hx hne2
  |cons _ _=>exact hb
 have sp2:(Hl.nw v cPt 2 l).spot=v.ownBlock:=by
  show (match l.flatMap cPt with|[]=>none|_::_=>v.ownBlock)=_
  cases hx:l.flatMap cPt with
  |nil=>exact absurd hx hne3
  |cons _ _=>rfl
 refine⟨h2.ext,fun x hx=>?_,fun z hz b hb1 ho=>?_,h2.apart.2⟩
 ·rcases List.mem_cons.1 hx with rfl|hx
  ·refine⟨by rw[hlk];exact h1,fun _ _ b hb2=>?_⟩
   rw[hb] at hb2
   exact(hown.lt b hb2).1
  ·exact h2.all x (List.mem_cons_of_mem _ hx)
 ·rw[sp,←sp2] at hb1
  exact h2.apart.1 z hz b hb1 ho
abbrev rwP (v:Value) (l:List PtT):Hl:=Hl.rw v 23 cPt 2 l
theorem nth_opt {l:List PtT} {i:Nat} (h:i<l.length):l[i]?=some (nth l (i:Int)):=by
 have:=nth_some (l:=l) (m:=(i:Int)) (by omega) (by omega)
 simpa using this
theorem eqPt {p q:PtT} (h:eqCells (cPt p) (cPt q)=true):p=q:=by
 obtain⟨a,b⟩:=p
 obtain⟨c,d⟩:=q
 simp[cPt,eqCells,vEq] at h
 rw[h.1,h.2]
theorem nePt {p q:PtT} (h:eqCells (cPt p) (cPt q)=false):p≠q:=fun e=>by
 subst e
 obtain⟨a,b⟩:=p
 simp[cPt,eqCells,vEq] at h
theorem compact_c (x:Sl) (l:List PtT) (h0:2≤l.length) (hl:l.length≤1000) :
  ContU Tryz.prog (rwP x.v l) 35 [x.v] (fun z:Value×List PtT=>Cmp z.2 l∧z.2.length≤l.length) (fun z=>z.1) (fun z=>[Hl.nw z.1 cPt 2 z.2]):=fun w0 HR w hs=>by
 refine enterU Tryz.func35 rfl rfl rfl (H:=rwP x.v l::HR) hs ?_
 repeat' (first|(refine nxV ?_)|(refine nSS ?_)|(refine nxX ?_)|(refine G.cN rfl (fun hc=>?_) (fun hc=>?_)<;>(try first|exact hc.elim|(exfalso;omega))))
 refine G.loop (ι:=Nat) (fun k=>[(0,x.v),(3,.int .i64 (k:Int))]) (fun _=>rwP x.v l::HR) (fun k=>(1≤k∧k≤l.length)∧∀(i:Nat) a b,i+1<k→l[i]?=some a→l[i+1]?=some b→a≠b) (fun k=>l.length-k) 1 ⟨by omega,fun i a b hi=>by omega⟩ ⟨rfl,rfl,trivial⟩ (by exact fun w h=>h.sub subS) ?_
 rintro k mx ⟨hk,hadj⟩ hmx
 (try dsimp only at hk hadj hmx ⊢)
 rcases Nat.lt_or_ge k l.length with hkl|hkl
 ·have hn:=nth_opt hkl
  have hp:=nth_opt (l:=l) (i:=k-1) (by omega)
  rw[show ((k-1:Nat):Int)=(k:Int)-1 by omega] at hp
  repeat' (first|(refine nxV ?_)|(refine nSS ?_)|(refine nMM ?_)|(refine G.mA 6 [.go 0,.go 1,.go 2,.go 3,.go 4,.go 5,.go 6,.go 7,.go 8,.go 9] ?_)|(refine nxX ?_)|(refine G.cN rfl (fun hc=>?_) (fun hc=>?_)<;>(try first|exact hc.elim|(exfalso;omega))))
  ·have heq:nth l (k:Int)=nth l ((k:Int)-1):=by
    have h1:=eqPt hc
    exact h1
   have hst:Cmi l l k (k+1):=⟨rfl,by omega,fun _ _=>rfl,by
    rw[←heq] at hp
    refine Cmp.skip ?_ hn hp hk.1
    refine Cmp.start (List.ne_nil_of_length_pos (by rw[List.length_take];omega)) fun i a b ha hb=>?_
    ·rw[List.getElem?_take] at ha hb
     split at hb
     ·rw[if_pos (by omega)] at ha
      exact hadj i a b (by omega) ha hb
     ·cases hb⟩
   refine G.loop (ι:=(Nat×Nat)×List PtT) (fun y=>[(0,x.v),(3,.int .i64 (y.1.1:Int)),(4,cutV x.v 2 k l.length),(5,.int .i64 (y.1.2:Int))]) (fun y=>rwP x.v y.2::HR) (fun y=>(1≤y.1.2∧k+y.1.2≤l.length)∧Cmi l y.2 y.1.1 (k+y.1.2)) (fun y=>l.length-y.1.2) ((k,1),l) ⟨⟨by dsimp only;omega,by dsimp only;omega⟩,hst⟩ ⟨rfl,rfl,rfl,rfl,trivial⟩ (by exact fun w h=>h.sub subS) ?_
   rintro⟨⟨kk,k2⟩,m⟩ mx2 ⟨hk2,hI⟩ hmx2
   (try dsimp only at hk2 hI hmx2 ⊢)
   obtain⟨i1,i2,i3,i4⟩:=hI
   have hcl:(((m.drop k).take (l.length-k)).length:Int)=(l.length:Int)-k:=by
    simp only[List.length_take,List.length_drop];omega
   rcases Nat.lt_or_ge (k+k2) l.length with hjl|hjl
   ·have hm1:m.length=l.length:=i1
    have e1:=i3 (k+k2) (by omega)
    have e0:=i3 (k+k2-1) (by omega)
    have n1:=nth_opt hjl
    have n0:=nth_opt (l:=l) (i:=k+k2-1) (by omega)
    have c1:nth ((m.drop k).take (l.length-k)) (k2:Int)=nth l ((k+k2:Nat):Int):=by
     rw[nth_cut (by omega)]
     have:=nth_opt (l:=m) (i:=k+k2) (by omega)
     rw[e1,n1] at this
     exact(Option.some.inj this).symm
    have c0:nth ((m.drop k).take (l.length-k)) ((k2:Int)-1)=nth l ((k+k2-1:Nat):Int):=by
     rw[nth_cut (by omega)]
     have:=nth_opt (l:=m) (i:=k+k2-1) (by omega)
     rw[e0,n0] at this
     rw[Option.some.inj this]
     congr 1
     omega
    repeat' (first|(show RS _ _ _ _ _ _ _ (⟨none,.store 23 _ _,_,_,_,_⟩::_);refine RS.storeElRow (b:=nth ((m.drop k).take (l.length-k)) (k2:Int)) ?_ (by rfl) (by rfl) (by rfl) (.here _) (by omega) (fun _=>rfl) (by rfl) (by decide +kernel))|(refine nxV ?_)|(refine nSS ?_)|(refine nMM ?_)|(refine G.mA 11 [.go 0,.go 1,.go 2,.go 3,.go 4,.go 5,.go 6,.go 7,.go 8,.go 9] ?_)|(refine nxX ?_)|(refine G.cN rfl (fun hc=>?_) (fun hc=>?_)<;>(try first|exact hc.elim|(exfalso;omega))))
    ·have hne:=nePt hc
     rw[c1,c0] at hne
     rw[c1]
     refine X.again ((kk+1,k2+1),m.set kk (nth l ((k+k2:Nat):Int))) ⟨⟨by dsimp only;omega,by dsimp only;omega⟩,?_⟩ (by dsimp only;omega) ⟨rfl,rfl,rfl,rfl,trivial⟩ (by exact fun w h=>h.sub subS)
     dsimp only
     refine⟨by rw[List.length_set];exact i1,by omega,fun i hi=>?_,?_⟩
     ·rw[List.getElem?_set_ne (by omega)]
      exact i3 i (by omega)
     ·have e2:(m.set kk (nth l ((k+k2:Nat):Int))).take (kk+1)=m.take kk++[nth l ((k+k2:Nat):Int)]:=by
       rw[take_last (a:=nth l ((k+k2:Nat):Int)) (List.getElem?_set_self (by omega)),List.take_set_of_le (Nat.le_refl _)]
      rw[e2,←Nat.add_assoc]
      exact Cmp.keep i4 n1 n0 (by omega) hne
    ·have heq2:=eqPt hc
     rw[c1,c0] at heq2
     refine X.again ((kk,k2+1),m) ⟨⟨by dsimp only;omega,by dsimp only;omega⟩,?_⟩ (by dsimp only;omega) ⟨rfl,rfl,rfl,rfl,trivial⟩ (by exact fun w h=>h.sub subS)
     dsimp only
     refine⟨i1,by omega,fun i hi=>i3 i (by omega),?_⟩
     rw[←Nat.add_assoc]
     rw[←heq2] at n0
     exact Cmp.skip i4 n1 n0 (by omega)
   ·repeat' (first|(show RS _ _ _ _ _ _ _ (⟨none,.call { callee:=.builtin .clear,args:=_,argTypes:=_ },_,_,_,_⟩::_);refine RS.actX rfl (x_clear2 (l:=m) (k:=kk) (by rfl) (.here _) (by omega) (by kernel_rfl) (by kernel_rfl)) fun _ _=>?_)|(refine nxV ?_)|(refine nSS ?_)|(refine nxX ?_)|(refine G.cN rfl (fun hc=>?_) (fun hc=>?_)<;>(try first|exact hc.elim|(exfalso;omega))))
    have hkk:kk≤m.length:=by omega
    have hkp:0<kk:=by
     rcases Nat.eq_zero_or_pos kk with h|h
     ·rw[h] at i4
      exact absurd rfl i4.ne
     ·exact h
    refine X.ret (vs:=[_]) rfl ⟨rfl,rfl⟩ rfl (fun w hw=>⟨(cutV x.v 2 0 kk,m.take kk),⟨?_,?_⟩,rfl,?_⟩)
    ·rw[show k+k2=l.length by omega,List.take_length] at i4
     exact i4
    ·rw[List.length_take];omega
    ·have h9:=St.cutN (k:=kk) (by simp only[List.length_append,List.length_take,zPts,List.length_replicate];omega) hkp hw
     rw[List.take_append_of_le_length (by rw[List.length_take];omega),List.take_take,Nat.min_self] at h9
     exact h9
  ·refine X.again (k+1) ⟨by omega,fun i a b hi ha hb=>?_⟩ (by omega) ⟨rfl,rfl,trivial⟩ (by exact fun w h=>h.sub subS)
   have hne:=nePt hc
   rcases Nat.lt_or_ge (i+1) k with h|h
   ·exact hadj i a b h ha hb
   ·obtain rfl:k=i+1:=by omega
    rw[hn] at hb
    rw[Nat.add_sub_cancel] at hp
    rw[hp] at ha
    cases ha
    cases hb
    exact fun e=>hne e.symm
 ·repeat' (first|(refine nxV ?_)|(refine nSS ?_)|(refine nxX ?_)|(refine G.cN rfl (fun hc=>?_) (fun hc=>?_)<;>(try first|exact hc.elim|(exfalso;omega))))
  obtain rfl:k=l.length:=by omega
  exact X.ret (vs:=[_]) rfl ⟨rfl,rfl⟩ rfl (fun w hw=>⟨((x.v,l):Value×List PtT),⟨Cmp.start (List.ne_nil_of_length_pos (show 0<l.length by omega)) fun i a b ha hb=>hadj i a b (List.getElem?_eq_some_iff.1 hb).1 ha hb,Nat.le_refl l.length⟩,rfl,St.froz hw⟩)
end Go.Proofs.YtjmdeplmenbmmaaGreatDoor
