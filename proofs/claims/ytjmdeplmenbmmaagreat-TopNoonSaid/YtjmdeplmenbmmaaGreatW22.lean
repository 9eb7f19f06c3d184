/- Joined texts: ANm, AMu. -/
import Derived.Test.YtjmdeplmenbmmaaGreatW05
import Derived.Test.YtjmdeplmenbmmaaGreatV05
set_option linter.unusedVariables false
set_option maxHeartbeats 4000000
namespace Go.Proofs.YtjmdeplmenbmmaaGreat
open Go.RowKit
open TT (W256 W192 cW lb)
theorem add_val {a b:Nat} (ha:a<W256) (hb:b<W256) {s3 c3 s2 c2 s1 c1 s0 c0:Int} (e3:(lb a 3:Int)+lb b 3+0=s3+18446744073709551616*c3) (e2:(lb a 2:Int)+lb b 2+c3=s2+18446744073709551616*c2) (e1:(lb a 1:Int)+lb b 1+c2=s1+18446744073709551616*c1) (e0:(lb a 0:Int)+lb b 0+c1=s0+18446744073709551616*c0)
  (h3:0≤s3∧s3<18446744073709551616) (h2:0≤s2∧s2<18446744073709551616) (h1:0≤s1∧s1<18446744073709551616) (h0:0≤s0∧s0<18446744073709551616) (k3:0≤c3∧c3≤1) (k2:0≤c2∧c2≤1) (k1:0≤c1∧c1≤1) (k0:0≤c0∧c0≤1) :
  (Value.agg [.int .u64 s0,.int .u64 s1,.int .u64 s2,.int .u64 s3].toArray)=numV ((a+b)%W256):=by
 refine num_val h0.1 h1.1 h2.1 h3.1 ?_
 refine TT.add_words ha hb (c3:=c3.toNat) (c2:=c2.toNat) (c1:=c1.toNat) (c0:=c0.toNat) ?_ ?_ ?_ ?_ ?_ ?_ ?_ ?_
 all_goals (clear ha hb;(try simp only[cW]);omega)
theorem asub_c {a b:Nat} (ha:a<W256) (hb:b<W256):Cont Tryz.prog 267 [numV a,numV b] (numV ((a+W256-b)%W256)):=fun w=>by
 have a0:=lb_u64 a 0;have a1:=lb_u64 a 1;have a2:=lb_u64 a 2;have a3:=lb_u64 a 3
 have b0:=lb_u64 b 0;have b1:=lb_u64 b 1;have b2:=lb_u64 b 2;have b3:=lb_u64 b 3
 refine enter0 Tryz.func267 rfl rfl rfl ?_
 repeat' (first|(show G _ _ _ _ _ _ (.loop _);refine G.loopN 6 (GR.step ?_))|(show X (Exit.then (Code.rounds _ _ _ _) _) _ _ _ _ .normal;refine X.round (GR.step ?_))|(show YK _ _ _ _ _ ⟨_,.call { callee:=.value (.func 266),args:=_,argTypes:=_ },_,_,_,_⟩ _;refine sub64K rfl rfl rfl (by omega) (by omega) (by omega) (fun s c e h k=>?_))|(show YK _ _ _ _ _ ⟨_,.indexAddr 250 _ _,_,_,_,_⟩ _;refine YK.ofV (y_indexArr (len:=4) rfl rfl (by first|exact(rfl:_=((0:Nat):Int))|exact(rfl:_=((1:Nat):Int))|exact(rfl:_=((2:Nat):Int))|exact(rfl:_=((3:Nat):Int))) (by decide +kernel) rfl) ?_)|(show VK _ _ _ _ _ ⟨_,.indexAddr 250 _ _,_,_,_,_⟩ _;refine VK.mk (y_indexArr (len:=4) rfl rfl (by first|exact(rfl:_=((0:Nat):Int))|exact(rfl:_=((1:Nat):Int))|exact(rfl:_=((2:Nat):Int))|exact(rfl:_=((3:Nat):Int))) (by decide +kernel) rfl) ?_)|(show VFrK _ _ _ _ _ ⟨_,.indexAddr 250 _ _,_,_,_,_⟩ _;refine VFrK.mk (vf_of fun _=>y_indexArr (len:=4) rfl rfl (by first|exact(rfl:_=((0:Nat):Int))|exact(rfl:_=((1:Nat):Int))|exact(rfl:_=((2:Nat):Int))|exact(rfl:_=((3:Nat):Int))) (by decide +kernel) rfl) ?_)|(refine G.mixedFH 5 [.go 0,.go 1,.go 2,.go 3,.go 4,.go 5,.go 6,.go 7,.go 8,.go 9,.go 10,.go 11,.go 12,.go 13,.go 14] ?_)|(refine nxRF ?_)|(refine nxVF ?_)|(refine nxV ?_)|(refine nSS ?_)|(refine nS1 fun _=>?_)|(refine nMM ?_)|(refine nM1 fun _=>?_)|(refine nxG ?_)|(refine nxX ?_)|(refine G.cN rfl (fun hc=>?_) (fun hc=>?_)<;>(try first|exact hc.elim|(exfalso;omega))))
 refine X.ret (vs:=[_]) rfl ⟨⟨_,_,_,_,rfl,(by exact memA),lenA,by decide +kernel,rfl⟩,rfl⟩ rfl (fun w hw=>⟨?_,hw.ext⟩)
 exact congrArg Ending.returned (sub_val ha hb (by assumption) (by assumption) (by assumption) (by assumption) (by assumption) (by assumption) (by assumption) (by assumption) (by assumption) (by assumption) (by assumption) (by assumption))
theorem aadd_c {a b:Nat} (ha:a<W256) (hb:b<W256):Cont Tryz.prog 268 [numV a,numV b] (numV ((a+b)%W256)):=fun w=>by
 have a0:=lb_u64 a 0;have a1:=lb_u64 a 1;have a2:=lb_u64 a 2;have a3:=lb_u64 a 3
 have b0:=lb_u64 b 0;have b1:=lb_u64 b 1;have b2:=lb_u64 b 2;have b3:=lb_u64 b 3
 refine enter0 Tryz.func268 rfl rfl rfl ?_
 repeat' (first|(show G _ _ _ _ _ _ (.loop _);refine G.loopN 6 (GR.step ?_))|(show X (Exit.then (Code.rounds _ _ _ _) _) _ _ _ _ .normal;refine X.round (GR.step ?_))|(show YK _ _ _ _ _ ⟨_,.call { callee:=.value (.func 257),args:=_,argTypes:=_ },_,_,_,_⟩ _;refine add64K rfl rfl rfl (by omega) (by omega) (by omega) (fun s c e h k=>?_))|(show YK _ _ _ _ _ ⟨_,.indexAddr 250 _ _,_,_,_,_⟩ _;refine YK.ofV (y_indexArr (len:=4) rfl rfl (by first|exact(rfl:_=((0:Nat):Int))|exact(rfl:_=((1:Nat):Int))|exact(rfl:_=((2:Nat):Int))|exact(rfl:_=((3:Nat):Int))) (by decide +kernel) rfl) ?_)|(show VK _ _ _ _ _ ⟨_,.indexAddr 250 _ _,_,_,_,_⟩ _;refine VK.mk (y_indexArr (len:=4) rfl rfl (by first|exact(rfl:_=((0:Nat):Int))|exact(rfl:_=((1:Nat):Int))|exact(rfl:_=((2:Nat):Int))|exact(rfl:_=((3:Nat):Int))) (by decide +kernel) rfl) ?_)|(show VFrK _ _ _ _ _ ⟨_,.indexAddr 250 _ _,_,_,_,_⟩ _;refine VFrK.mk (vf_of fun _=>y_indexArr (len:=4) rfl rfl (by first|exact(rfl:_=((0:Nat):Int))|exact(rfl:_=((1:Nat):Int))|exact(rfl:_=((2:Nat):Int))|exact(rfl:_=((3:Nat):Int))) (by decide +kernel) rfl) ?_)|(refine G.mixedFH 5 [.go 0,.go 1,.go 2,.go 3,.go 4,.go 5,.go 6,.go 7,.go 8,.go 9,.go 10,.go 11,.go 12,.go 13,.go 14] ?_)|(refine nxRF ?_)|(refine nxVF ?_)|(refine nxV ?_)|(refine nSS ?_)|(refine nS1 fun _=>?_)|(refine nMM ?_)|(refine nM1 fun _=>?_)|(refine nxG ?_)|(refine nxX ?_)|(refine G.cN rfl (fun hc=>?_) (fun hc=>?_)<;>(try first|exact hc.elim|(exfalso;omega))))
 refine X.ret (vs:=[_]) rfl ⟨⟨_,_,_,_,rfl,(by exact memA),lenA,by decide +kernel,rfl⟩,rfl⟩ rfl (fun w hw=>⟨?_,hw.ext⟩)
 exact congrArg Ending.returned (add_val ha hb (by assumption) (by assumption) (by assumption) (by assumption) (by assumption) (by assumption) (by assumption) (by assumption) (by assumption) (by assumption) (by assumption) (by assumption))
theorem aover_c {a d:Nat} (ha:a<W256) (hd:0<d) (hd1:d<18446744073709551616):Cont Tryz.prog 254 [numV a,.int .u64 (d:Int)] (numV (a/d)):=fun w=>by
 have a0:=lb_u64 a 0;have a1:=lb_u64 a 1;have a2:=lb_u64 a 2;have a3:=lb_u64 a 3
 have hd0:(0:Int)<d:=by omega
 refine enter0 Tryz.func254 rfl rfl rfl ?_
 repeat' (first|(show G _ _ _ _ _ _ (.loop _);refine G.loopN 6 (GR.step ?_))|(show X (Exit.then (Code.rounds _ _ _ _) _) _ _ _ _ .normal;refine X.round (GR.step ?_))|(show YK _ _ _ _ _ ⟨_,.call { callee:=.value (.func 201),args:=_,argTypes:=_ },_,_,_,_⟩ _;refine div64K rfl rfl rfl (by omega) (by omega) (by omega) (fun s c e h k=>?_))|(show YK _ _ _ _ _ ⟨_,.indexAddr 250 _ _,_,_,_,_⟩ _;refine YK.ofV (y_indexArr (len:=4) rfl rfl (by first|exact(rfl:_=((0:Nat):Int))|exact(rfl:_=((1:Nat):Int))|exact(rfl:_=((2:Nat):Int))|exact(rfl:_=((3:Nat):Int))) (by decide +kernel) rfl) ?_)|(show VK _ _ _ _ _ ⟨_,.indexAddr 250 _ _,_,_,_,_⟩ _;refine VK.mk (y_indexArr (len:=4) rfl rfl (by first|exact(rfl:_=((0:Nat):Int))|exact(rfl:_=((1:Nat):Int))|exact(rfl:_=((2:Nat):Int))|exact(rfl:_=((3:Nat):Int))) (by decide +kernel) rfl) ?_)|(refine nxV ?_)|(refine nSS ?_)|(refine nS1 fun _=>?_)|(refine nMM ?_)|(refine nM1 fun _=>?_)|(refine nxG ?_)|(refine nxX ?_)|(refine G.cN rfl (fun hc=>?_) (fun hc=>?_)<;>(try first|exact hc.elim|(exfalso;omega))))
 refine X.ret (vs:=[_]) rfl ⟨⟨_,_,_,_,rfl,(by exact memA),lenA,by decide +kernel,rfl⟩,rfl⟩ rfl (fun w hw=>⟨?_,hw.ext⟩)
 have:=div_val (t:=0) ha hd hd (by assumption) (by assumption) (by assumption) (by assumption) (by assumption) (by assumption) (by assumption) (by assumption) (by assumption) (by assumption) (by assumption) (by assumption)
 rw[Nat.zero_mul,Nat.zero_add] at this
 exact congrArg Ending.returned this
theorem times_val {a n:Nat} (ha:a<W256) (hp:a*n<W256) {p0 p1 p2 p3 q0 q1 q2 q3 s0 s1 s2 s3 c0 c1 c2 c3:Int} (m3:(lb a 3:Int)*n=p3*18446744073709551616+q3) (e3:q3+0+0=s3+18446744073709551616*c3) (m2:(lb a 2:Int)*n=p2*18446744073709551616+q2) (e2:q2+(p3+c3)+0=s2+18446744073709551616*c2) (m1:(lb a 1:Int)*n=p1*18446744073709551616+q1) (e1:q1+(p2+c2)+0=s1+18446744073709551616*c1) (m0:(lb a 0:Int)*n=p0*18446744073709551616+q0) (e0:q0+(p1+c1)+0=s0+18446744073709551616*c0)
  (h3:0≤s3∧s3<18446744073709551616) (h2:0≤s2∧s2<18446744073709551616) (h1:0≤s1∧s1<18446744073709551616) (h0:0≤s0∧s0<18446744073709551616) (hp0:0≤p0) (k0:0≤c0) :
  (Value.agg [.int .u64 s0,.int .u64 s1,.int .u64 s2,.int .u64 s3].toArray)=numV (a*n):=by
 refine num_val h0.1 h1.1 h2.1 h3.1 ?_
 obtain⟨S0,rfl⟩:=Int.eq_ofNat_of_zero_le h0.1
 obtain⟨S1,rfl⟩:=Int.eq_ofNat_of_zero_le h1.1
 obtain⟨S2,rfl⟩:=Int.eq_ofNat_of_zero_le h2.1
 obtain⟨S3,rfl⟩:=Int.eq_ofNat_of_zero_le h3.1
 simp only[Int.toNat_natCast]
 have lt:∀{z:Nat},(z:Int)<18446744073709551616→z<cW:=fun {z} h=>by simp only[cW];omega
 have ea:=TT.lb_sum ha
 have e:((a*n:Nat):Int)=((S0*cW^3+S1*cW^2+S2*cW+S3:Nat):Int)+(p0+c0)*((W256:Nat):Int):=by
  have e1':((a*n:Nat):Int)=((lb a 0:Int)*n)*18446744073709551616^3+((lb a 1:Int)*n)*18446744073709551616^2+((lb a 2:Int)*n)*18446744073709551616+(lb a 3:Int)*n:=by
   conv=>lhs;rw[ea]
   simp only[Int.natCast_add,Int.natCast_mul,Int.natCast_pow]
   have hc:((cW:Nat):Int)=18446744073709551616:=rfl
   rw[hc]
   generalize (lb a 0:Int)=x0;generalize (lb a 1:Int)=x1;generalize (lb a 2:Int)=x2;generalize (lb a 3:Int)=x3
   grind
  rw[e1',m0,m1,m2,m3]
  simp only[Int.natCast_add,Int.natCast_mul,Int.natCast_pow]
  have hc:((cW:Nat):Int)=18446744073709551616:=rfl
  have hW:((W256:Nat):Int)=18446744073709551616^4:=rfl
  rw[hc,hW]
  clear m0 m1 m2 m3 ha hp ea e1' h0 h1 h2 h3 lt
  generalize (18446744073709551616:Int)=z at *
  grind
 have hx:=TT.digits_lt (lt h0.2) (lt h1.2) (lt h2.2) (lt h3.2)
 have hz:p0+c0=0:=by
  refine Int.le_antisymm (Int.not_lt.1 fun hlt=>?_) (by omega)
  have h1:1*((W256:Nat):Int)≤(p0+c0)*((W256:Nat):Int):=Int.mul_le_mul_of_nonneg_right (by omega) (by omega)
  have h2:((a*n:Nat):Int)<((W256:Nat):Int):=by omega
  generalize (p0+c0)*((W256:Nat):Int)=k at *
  generalize ((W256:Nat):Int)=v at *
  omega
 rw[hz,Int.zero_mul,Int.add_zero] at e
 exact TT.lb_eq (lt h0.2) (lt h1.2) (lt h2.2) (lt h3.2) (Int.ofNat.inj e)
theorem atimes_c {a n:Nat} (ha:a<W256) (hn:n<18446744073709551616) (hp:a*n<W256):Cont Tryz.prog 239 [numV a,.int .u64 (n:Int)] (numV (a*n)):=fun w=>by
 have a0:=lb_u64 a 0;have a1:=lb_u64 a 1;have a2:=lb_u64 a 2;have a3:=lb_u64 a 3
 refine enter0 Tryz.func239 rfl rfl rfl ?_
 repeat' (first|(show G _ _ _ _ _ _ (.loop _);refine G.loopN 6 (GR.step ?_))|(show X (Exit.then (Code.rounds _ _ _ _) _) _ _ _ _ .normal;refine X.round (GR.step ?_))|(show YK _ _ _ _ _ ⟨_,.call { callee:=.value (.func 200),args:=_,argTypes:=_ },_,_,_,_⟩ _;refine mul64K rfl rfl (by omega) (by omega) (fun s c e h k=>?_))|(show YK _ _ _ _ _ ⟨_,.call { callee:=.value (.func 257),args:=_,argTypes:=_ },_,_,_,_⟩ _;refine add64K rfl rfl rfl (by omega) (by omega) (by omega) (fun s c e h k=>?_))|(show YK _ _ _ _ _ ⟨_,.indexAddr 250 _ _,_,_,_,_⟩ _;refine YK.ofV (y_indexArr (len:=4) rfl rfl (by first|exact(rfl:_=((0:Nat):Int))|exact(rfl:_=((1:Nat):Int))|exact(rfl:_=((2:Nat):Int))|exact(rfl:_=((3:Nat):Int))) (by decide +kernel) rfl) ?_)|(show VK _ _ _ _ _ ⟨_,.indexAddr 250 _ _,_,_,_,_⟩ _;refine VK.mk (y_indexArr (len:=4) rfl rfl (by first|exact(rfl:_=((0:Nat):Int))|exact(rfl:_=((1:Nat):Int))|exact(rfl:_=((2:Nat):Int))|exact(rfl:_=((3:Nat):Int))) (by decide +kernel) rfl) ?_)|(refine nxV ?_)|(refine nSS ?_)|(refine nS1 fun _=>?_)|(refine nMM ?_)|(refine nM1 fun _=>?_)|(refine nxG ?_)|(refine nxX ?_)|(refine G.cN rfl (fun hc=>?_) (fun hc=>?_)<;>(try first|exact hc.elim|(exfalso;omega))))
 refine X.ret (vs:=[_]) rfl ⟨⟨_,_,_,_,rfl,(by exact memA),lenA,by decide +kernel,rfl⟩,rfl⟩ rfl (fun w hw=>⟨?_,hw.ext⟩)
 exact congrArg Ending.returned (times_val ha hp (by assumption) (by assumption) (by assumption) (by assumption) (by assumption) (by assumption) (by assumption) (by assumption) (by assumption) (by assumption) (by assumption) (by assumption) (by omega) (by omega))
end Go.Proofs.YtjmdeplmenbmmaaGreat
set_option maxHeartbeats 16000000
namespace Go.Proofs.YtjmdeplmenbmmaaGreat
open Go.RowKit
open TT (W256 W192 cW lb)
def vo8 (o0 o1 o2 o3 o4 o5 o6 o7:Int):Int:=o7+o6*18446744073709551616+o5*340282366920938463463374607431768211456+o4*6277101735386680763835789423207666416102355444464034512896+o3*115792089237316195423570985008687907853269984665640564039457584007913129639936+o2*2135987035920910082395021706169552114602704522356652769947041607822219725780640550022962086936576+o1*39402006196394479212279040100143613805079739270465446667948293404245721771497210611414266254884915640806627990306816+o0*726838724295606890549323807888004534353641360687318060281490199180639288113397923326191050713763565560762521606266177933534601628614656
def psum8 (a b:Nat):Int→Int
 |3=>0
 |2=>(lb a 3:Int)*lb b 3+(lb a 3:Int)*lb b 2*18446744073709551616+(lb a 3:Int)*lb b 1*340282366920938463463374607431768211456+(lb a 3:Int)*lb b 0*6277101735386680763835789423207666416102355444464034512896
 |1=>(lb a 3:Int)*lb b 3+(lb a 3:Int)*lb b 2*18446744073709551616+(lb a 3:Int)*lb b 1*340282366920938463463374607431768211456+(lb a 3:Int)*lb b 0*6277101735386680763835789423207666416102355444464034512896+(lb a 2:Int)*lb b 3*18446744073709551616+(lb a 2:Int)*lb b 2*340282366920938463463374607431768211456+(lb a 2:Int)*lb b 1*6277101735386680763835789423207666416102355444464034512896+(lb a 2:Int)*lb b 0*115792089237316195423570985008687907853269984665640564039457584007913129639936
 |0=>(lb a 3:Int)*lb b 3+(lb a 3:Int)*lb b 2*18446744073709551616+(lb a 3:Int)*lb b 1*340282366920938463463374607431768211456+(lb a 3:Int)*lb b 0*6277101735386680763835789423207666416102355444464034512896+(lb a 2:Int)*lb b 3*18446744073709551616+(lb a 2:Int)*lb b 2*340282366920938463463374607431768211456+(lb a 2:Int)*lb b 1*6277101735386680763835789423207666416102355444464034512896+(lb a 2:Int)*lb b 0*115792089237316195423570985008687907853269984665640564039457584007913129639936+(lb a 1:Int)*lb b 3*340282366920938463463374607431768211456+(lb a 1:Int)*lb b 2*6277101735386680763835789423207666416102355444464034512896+(lb a 1:Int)*lb b 1*115792089237316195423570985008687907853269984665640564039457584007913129639936+(lb a 1:Int)*lb b 0*2135987035920910082395021706169552114602704522356652769947041607822219725780640550022962086936576
 |_=>(lb a 3:Int)*lb b 3+(lb a 3:Int)*lb b 2*18446744073709551616+(lb a 3:Int)*lb b 1*340282366920938463463374607431768211456+(lb a 3:Int)*lb b 0*6277101735386680763835789423207666416102355444464034512896+(lb a 2:Int)*lb b 3*18446744073709551616+(lb a 2:Int)*lb b 2*340282366920938463463374607431768211456+(lb a 2:Int)*lb b 1*6277101735386680763835789423207666416102355444464034512896+(lb a 2:Int)*lb b 0*115792089237316195423570985008687907853269984665640564039457584007913129639936+(lb a 1:Int)*lb b 3*340282366920938463463374607431768211456+(lb a 1:Int)*lb b 2*6277101735386680763835789423207666416102355444464034512896+(lb a 1:Int)*lb b 1*115792089237316195423570985008687907853269984665640564039457584007913129639936+(lb a 1:Int)*lb b 0*2135987035920910082395021706169552114602704522356652769947041607822219725780640550022962086936576+(lb a 0:Int)*lb b 3*6277101735386680763835789423207666416102355444464034512896+(lb a 0:Int)*lb b 2*115792089237316195423570985008687907853269984665640564039457584007913129639936+(lb a 0:Int)*lb b 1*2135987035920910082395021706169552114602704522356652769947041607822219725780640550022962086936576+(lb a 0:Int)*lb b 0*39402006196394479212279040100143613805079739270465446667948293404245721771497210611414266254884915640806627990306816
theorem pq3 (a b:Nat):psum8 a b 3=0:=rfl
theorem pq2 (a b:Nat):psum8 a b 2=(lb a 3:Int)*lb b 3+(lb a 3:Int)*lb b 2*18446744073709551616+(lb a 3:Int)*lb b 1*340282366920938463463374607431768211456+(lb a 3:Int)*lb b 0*6277101735386680763835789423207666416102355444464034512896:=rfl
theorem pq1 (a b:Nat):psum8 a b 1=(lb a 3:Int)*lb b 3+(lb a 3:Int)*lb b 2*18446744073709551616+(lb a 3:Int)*lb b 1*340282366920938463463374607431768211456+(lb a 3:Int)*lb b 0*6277101735386680763835789423207666416102355444464034512896+(lb a 2:Int)*lb b 3*18446744073709551616+(lb a 2:Int)*lb b 2*340282366920938463463374607431768211456+(lb a 2:Int)*lb b 1*6277101735386680763835789423207666416102355444464034512896+(lb a 2:Int)*lb b 0*115792089237316195423570985008687907853269984665640564039457584007913129639936:=rfl
theorem pq0 (a b:Nat):psum8 a b 0=(lb a 3:Int)*lb b 3+(lb a 3:Int)*lb b 2*18446744073709551616+(lb a 3:Int)*lb b 1*340282366920938463463374607431768211456+(lb a 3:Int)*lb b 0*6277101735386680763835789423207666416102355444464034512896+(lb a 2:Int)*lb b 3*18446744073709551616+(lb a 2:Int)*lb b 2*340282366920938463463374607431768211456+(lb a 2:Int)*lb b 1*6277101735386680763835789423207666416102355444464034512896+(lb a 2:Int)*lb b 0*115792089237316195423570985008687907853269984665640564039457584007913129639936+(lb a 1:Int)*lb b 3*340282366920938463463374607431768211456+(lb a 1:Int)*lb b 2*6277101735386680763835789423207666416102355444464034512896+(lb a 1:Int)*lb b 1*115792089237316195423570985008687907853269984665640564039457584007913129639936+(lb a 1:Int)*lb b 0*2135987035920910082395021706169552114602704522356652769947041607822219725780640550022962086936576:=rfl
theorem pqm (a b:Nat):psum8 a b (-1)=(lb a 3:Int)*lb b 3+(lb a 3:Int)*lb b 2*18446744073709551616+(lb a 3:Int)*lb b 1*340282366920938463463374607431768211456+(lb a 3:Int)*lb b 0*6277101735386680763835789423207666416102355444464034512896+(lb a 2:Int)*lb b 3*18446744073709551616+(lb a 2:Int)*lb b 2*340282366920938463463374607431768211456+(lb a 2:Int)*lb b 1*6277101735386680763835789423207666416102355444464034512896+(lb a 2:Int)*lb b 0*115792089237316195423570985008687907853269984665640564039457584007913129639936+(lb a 1:Int)*lb b 3*340282366920938463463374607431768211456+(lb a 1:Int)*lb b 2*6277101735386680763835789423207666416102355444464034512896+(lb a 1:Int)*lb b 1*115792089237316195423570985008687907853269984665640564039457584007913129639936+(lb a 1:Int)*lb b 0*2135987035920910082395021706169552114602704522356652769947041607822219725780640550022962086936576+(lb a 0:Int)*lb b 3*6277101735386680763835789423207666416102355444464034512896+(lb a 0:Int)*lb b 2*115792089237316195423570985008687907853269984665640564039457584007913129639936+(lb a 0:Int)*lb b 1*2135987035920910082395021706169552114602704522356652769947041607822219725780640550022962086936576+(lb a 0:Int)*lb b 0*39402006196394479212279040100143613805079739270465446667948293404245721771497210611414266254884915640806627990306816:=rfl
theorem dig8 {O0 O1 O2 O3 O4 O5 O6 O7:Nat} (h0:O0<cW) (h1:O1<cW) (h2:O2<cW) (h3:O3<cW) (h4:O4<cW) (h5:O5<cW) (h6:O6<cW) (h7:O7<cW) :
  ((O0*cW^3+O1*cW^2+O2*cW+O3)*(cW^4)+(O4*cW^3+O5*cW^2+O6*cW+O7))/W192=O0*cW^4+O1*cW^3+O2*cW^2+O3*cW+O4:=by
 have e:(O0*cW^3+O1*cW^2+O2*cW+O3)*(cW^4)+(O4*cW^3+O5*cW^2+O6*cW+O7)=(O5*cW^2+O6*cW+O7)+(O0*cW^4+O1*cW^3+O2*cW^2+O3*cW+O4)*W192:=by
  have hW:W192=cW^3:=by decide
  rw[hW]
  generalize cW=c
  grind
 have hlt:O5*cW^2+O6*cW+O7<W192:=by
  simp only[cW,W192,Nat.reducePow] at *
  omega
 rw[e,Nat.add_mul_div_right _ _ (by decide),Nat.div_eq_of_lt hlt,Nat.zero_add]
theorem mul8_val {a b:Nat} (ha:a<W256) (hb:b<W256) (hab:a*b/W192<W256) {o0 o1 o2 o3 o4 o5 o6 o7:Int} (h:vo8 o0 o1 o2 o3 o4 o5 o6 o7=psum8 a b (-1)) (h0:0≤o0∧o0<18446744073709551616) (h1:0≤o1∧o1<18446744073709551616) (h2:0≤o2∧o2<18446744073709551616) (h3:0≤o3∧o3<18446744073709551616) (h4:0≤o4∧o4<18446744073709551616) (h5:0≤o5∧o5<18446744073709551616) (h6:0≤o6∧o6<18446744073709551616) (h7:0≤o7∧o7<18446744073709551616) :
  (Value.agg [.int .u64 o1,.int .u64 o2,.int .u64 o3,.int .u64 o4].toArray)=numV (TT.mul4 a b):=by
 obtain⟨O0,rfl⟩:=Int.eq_ofNat_of_zero_le h0.1
 obtain⟨O1,rfl⟩:=Int.eq_ofNat_of_zero_le h1.1
 obtain⟨O2,rfl⟩:=Int.eq_ofNat_of_zero_le h2.1
 obtain⟨O3,rfl⟩:=Int.eq_ofNat_of_zero_le h3.1
 obtain⟨O4,rfl⟩:=Int.eq_ofNat_of_zero_le h4.1
 obtain⟨O5,rfl⟩:=Int.eq_ofNat_of_zero_le h5.1
 obtain⟨O6,rfl⟩:=Int.eq_ofNat_of_zero_le h6.1
 obtain⟨O7,rfl⟩:=Int.eq_ofNat_of_zero_le h7.1
 have lt:∀{z:Nat},(z:Int)<18446744073709551616→z<cW:=fun {z} h=>by simp only[cW];omega
 have hc:((cW:Nat):Int)=18446744073709551616:=rfl
 have hS:a*b=(O0*cW^3+O1*cW^2+O2*cW+O3)*(cW^4)+(O4*cW^3+O5*cW^2+O6*cW+O7):=by
  have e:((a*b:Nat):Int)=vo8 O0 O1 O2 O3 O4 O5 O6 O7:=by
   rw[h,pqm]
   have ea:=TT.lb_sum ha
   have eb:=TT.lb_sum hb
   conv=>lhs;rw[ea,eb]
   simp only[Int.natCast_add,Int.natCast_mul,Int.natCast_pow]
   rw[hc]
   generalize (lb a 0:Int)=x0;generalize (lb a 1:Int)=x1;generalize (lb a 2:Int)=x2;generalize (lb a 3:Int)=x3
   generalize (lb b 0:Int)=y0;generalize (lb b 1:Int)=y1;generalize (lb b 2:Int)=y2;generalize (lb b 3:Int)=y3
   clear ea eb h h0 h1 h2 h3 h4 h5 h6 h7 ha hb hab lt hc
   grind
  have e2:((a*b:Nat):Int)=(((O0*cW^3+O1*cW^2+O2*cW+O3)*(cW^4)+(O4*cW^3+O5*cW^2+O6*cW+O7):Nat):Int):=by
   rw[e]
   unfold vo8
   simp only[Int.natCast_add,Int.natCast_mul,Int.natCast_pow]
   rw[hc]
   clear e h h0 h1 h2 h3 h4 h5 h6 h7 ha hb hab lt hc
   grind
  exact Int.ofNat.inj e2
 have hq:TT.mul4 a b=O0*cW^4+O1*cW^3+O2*cW^2+O3*cW+O4:=by
  unfold TT.mul4
  rw[hS]
  exact dig8 (lt h0.2) (lt h1.2) (lt h2.2) (lt h3.2) (lt h4.2) (lt h5.2) (lt h6.2) (lt h7.2)
 have hlt:TT.mul4 a b<W256:=hab
 have hz:O0=0:=by
  rw[hq] at hlt
  simp only[cW,W256,Nat.reducePow] at hlt
  omega
 rw[hz,Nat.zero_mul,Nat.zero_add] at hq
 exact num_val h1.1 h2.1 h3.1 h4.1 (TT.lb_eq (lt h1.2) (lt h2.2) (lt h3.2) (lt h4.2) hq)
structure M8 where
 i:Int
 o0:Int
 o1:Int
 o2:Int
 o3:Int
 o4:Int
 o5:Int
 o6:Int
 o7:Int
abbrev c64 (x:Int):Prop:=0≤x∧x<18446744073709551616
abbrev m8Pre (a b:Nat) (s:M8):Prop:=(s.i=3∨s.i=2∨s.i=1∨s.i=0∨s.i = -1)∧vo8 s.o0 s.o1 s.o2 s.o3 s.o4 s.o5 s.o6 s.o7=psum8 a b s.i∧(c64 s.o0∧c64 s.o1∧c64 s.o2∧c64 s.o3∧c64 s.o4∧c64 s.o5∧c64 s.o6∧c64 s.o7)∧(0≤s.i→s.o0=0)∧(1≤s.i→s.o1=0)∧(2≤s.i→s.o2=0)∧(3≤s.i→s.o3=0)
theorem m8Pre_mk {a b:Nat} {i o0 o1 o2 o3 o4 o5 o6 o7:Int} (h0:i=3∨i=2∨i=1∨i=0∨i = -1) (h1:vo8 o0 o1 o2 o3 o4 o5 o6 o7=psum8 a b i) (h2:c64 o0) (h3:c64 o1) (h4:c64 o2) (h5:c64 o3) (h6:c64 o4) (h7:c64 o5) (h8:c64 o6) (h9:c64 o7) (z0:0≤i→o0=0) (z1:1≤i→o1=0) (z2:2≤i→o2=0) (z3:3≤i→o3=0):m8Pre a b ⟨i,o0,o1,o2,o3,o4,o5,o6,o7⟩ :=
 ⟨h0,h1,⟨h2,h3,h4,h5,h6,h7,h8,h9⟩,z0,z1,z2,z3⟩
theorem m8Mu {i o0 o1 o2 o3 o4 o5 o6 o7:Int} {mx:Nat} (h:(i-1+1).toNat<mx):((⟨i-1,o0,o1,o2,o3,o4,o5,o6,o7⟩:M8).i+1).toNat<mx:=h
section
variable {P:Program} {n:Nat} {L:FL} {w0:World} {H:List Hl} {d:Option Tmp} {ty:TypeId} {pos:String} {af:Array Edge} {gd:Option (Nat×Bool)} {x y z:Operand} {t:TypeId}
theorem y_sliceArr2 {b len:Nat} {k k':IntKind} {m l:Nat} (hx:evO L x=some (.pointer (some ⟨b,0,none⟩))) (hz:evO L z=some (.int k' (l:Int))) (hy:evO L y=some (.int k (m:Int))) (ht:arrayB P t len=true) (hm:Nat.ble m len=true) (h0:Nat.ble l m=true) (hl:Nat.blt l len=true) :
  V P n L w0 H ⟨d,.slice t x (some z) (some y) none,ty,pos,af,gd⟩ (.slice (some ⟨b,l,none⟩) (m-l) (len-l)):=by
 unfold V
 intro a w ha hw
 unfold arrayB at ht
 cases hu:P.underlying t with
 |none=>simp[hu] at ht
 |some dsc =>
  cases dsc<;>simp[hu] at ht
  rename_i l' e
  obtain⟨rfl,hs⟩:=ht
  have hle:m≤l':=Nat.le_of_ble_eq_true hm
  have hlm:l≤m:=Nat.le_of_ble_eq_true h0
  have hpos:l<l':=by simpa [Nat.blt_eq] using hl
  have hadd:(⟨b,0,none⟩:Addr).add l=⟨b,l,none⟩:=by unfold Addr.add;split<;>simp_all
  have h2:=run_sliceBound (P:=P) (w:=w) k m l' .sliceAlen (by omega) (by omega)
  have h3:=run_sliceBound (P:=P) (w:=w) k' l m .sliceB (by omega) (by omega)
  simp[execOp,ha.eval hx,ha.eval hy,ha.eval hz,Instr.sliceAt,Instr.sliceBounds,Instr.sureAddr,run_underlying hu,h2,h3,run_sizeOf_of (info_of_scalarB hs),hadd]
  intro h;omega
end
set_option maxRecDepth 20000 in
theorem amul_c {a b:Nat} (ha:a<W256) (hb:b<W256) (hab:a*b/W192<W256):Cont Tryz.prog 255 [numV a,numV b] (numV (TT.mul4 a b)):=fun w=>by
 have a0:=lb_u64 a 0;have a1:=lb_u64 a 1;have a2:=lb_u64 a 2;have a3:=lb_u64 a 3
 have b0:=lb_u64 b 0;have b1:=lb_u64 b 1;have b2:=lb_u64 b 2;have b3:=lb_u64 b 3
 refine enter0 Tryz.func255 rfl rfl rfl ?_
 repeat' (first|(refine nxV ?_)|(refine nSS ?_)|(refine nS1 fun _=>?_)|(refine nMM ?_)|(refine nM1 fun _=>?_)|(refine nxG ?_)|(refine G.mA 9 [.go 0,.go 1,.go 2,.go 3,.go 4,.go 5,.go 6,.go 7,.go 8,.go 9,.go 10,.go 11] ?_)|(refine nxX ?_)|(refine G.cN rfl (fun hc=>?_) (fun hc=>?_)<;>(try first|exact hc.elim|(exfalso;omega))))
 rename_i q2 q3 q4 q5
 refine G.loop (ι:=M8) (fun s=>[(2,.pointer (some ⟨q2,0,none⟩)),(3,.pointer (some ⟨q3,0,none⟩)),(4,.pointer (some ⟨q4,0,none⟩)),(5,.pointer (some ⟨q5,0,none⟩)),(6,.int .i64 s.i)])
  (fun s=>[Hl.blk q5 278 [.int .u64 s.o0,.int .u64 s.o1,.int .u64 s.o2,.int .u64 s.o3,.int .u64 s.o4,.int .u64 s.o5,.int .u64 s.o6,.int .u64 s.o7],Hl.blk q4 250 [.int .u64 0,.int .u64 0,.int .u64 0,.int .u64 0],Hl.blk q3 250 [.int .u64 (lb b 0:Int),.int .u64 (lb b 1:Int),.int .u64 (lb b 2:Int),.int .u64 (lb b 3:Int)],Hl.blk q2 250 [.int .u64 (lb a 0:Int),.int .u64 (lb a 1:Int),.int .u64 (lb a 2:Int),.int .u64 (lb a 3:Int)]])
  (m8Pre a b) (fun s=>(s.i+1).toNat) ⟨3,0,0,0,0,0,0,0,0⟩ ⟨.inl rfl,rfl,⟨by decide,by decide,by decide,by decide,by decide,by decide,by decide,by decide⟩,fun _=>rfl,fun _=>rfl,fun _=>rfl,fun _=>rfl⟩ ⟨rfl,rfl,rfl,rfl,rfl,trivial⟩ (by exact fun w h=>h.sub subS) ?_
 rintro⟨i,o0,o1,o2,o3,o4,o5,o6,o7⟩ mx ⟨g0,g1,⟨g2,g3,g4,g5,g6,g7,g8,g9⟩,z0,z1,z2,z3⟩ hmx
 dsimp only at g0 g1 g2 g3 g4 g5 g6 g7 g8 g9 z0 z1 z2 z3 hmx ⊢
 rcases g0 with rfl|rfl|rfl|rfl|rfl
 ·obtain rfl:=z0 (by omega);obtain rfl:=z1 (by omega);obtain rfl:=z2 (by omega);obtain rfl:=z3 (by omega);clear z0 z1 z2 z3
  rw[pq3] at g1
  unfold vo8 at g1
  repeat' (first|(show G _ _ _ _ _ _ (.loop _);refine G.loopN 6 (GR.step ?_))|(show X (Exit.then (Code.rounds _ _ _ _) _) _ _ _ _ .normal;refine X.round (GR.step ?_))|(show YK _ _ _ _ _ ⟨_,.call { callee:=.value (.func 200),args:=_,argTypes:=_ },_,_,_,_⟩ _;refine mul64K rfl rfl (by omega) (by omega) (fun s c e h k=>?_))|(show YK _ _ _ _ _ ⟨_,.call { callee:=.value (.func 257),args:=_,argTypes:=_ },_,_,_,_⟩ _;refine add64K rfl rfl rfl (by omega) (by omega) (by omega) (fun s c e h k=>?_))|(show YK _ _ _ _ _ ⟨_,.indexAddr 250 _ _,_,_,_,_⟩ _;refine YK.ofV (y_indexArr (len:=4) rfl rfl (by first|exact(rfl:_=((0:Nat):Int))|exact(rfl:_=((1:Nat):Int))|exact(rfl:_=((2:Nat):Int))|exact(rfl:_=((3:Nat):Int))) (by decide +kernel) rfl) ?_)|(show VK _ _ _ _ _ ⟨_,.indexAddr 250 _ _,_,_,_,_⟩ _;refine VK.mk (y_indexArr (len:=4) rfl rfl (by first|exact(rfl:_=((0:Nat):Int))|exact(rfl:_=((1:Nat):Int))|exact(rfl:_=((2:Nat):Int))|exact(rfl:_=((3:Nat):Int))) (by decide +kernel) rfl) ?_)|(show YK _ _ _ _ _ ⟨_,.indexAddr 278 _ _,_,_,_,_⟩ _;refine YK.ofV (y_indexArr (len:=8) rfl rfl (by first|exact(rfl:_=((0:Nat):Int))|exact(rfl:_=((1:Nat):Int))|exact(rfl:_=((2:Nat):Int))|exact(rfl:_=((3:Nat):Int))|exact(rfl:_=((4:Nat):Int))|exact(rfl:_=((5:Nat):Int))|exact(rfl:_=((6:Nat):Int))|exact(rfl:_=((7:Nat):Int))) (by decide +kernel) rfl) ?_)|(show VK _ _ _ _ _ ⟨_,.indexAddr 278 _ _,_,_,_,_⟩ _;refine VK.mk (y_indexArr (len:=8) rfl rfl (by first|exact(rfl:_=((0:Nat):Int))|exact(rfl:_=((1:Nat):Int))|exact(rfl:_=((2:Nat):Int))|exact(rfl:_=((3:Nat):Int))|exact(rfl:_=((4:Nat):Int))|exact(rfl:_=((5:Nat):Int))|exact(rfl:_=((6:Nat):Int))|exact(rfl:_=((7:Nat):Int))) (by decide +kernel) rfl) ?_)|(refine nxV ?_)|(refine nSS ?_)|(refine nS1 fun _=>?_)|(refine nMM ?_)|(refine nM1 fun _=>?_)|(refine nxG ?_)|(refine G.mA 9 [.go 0,.go 1,.go 2,.go 3,.go 4,.go 5,.go 6,.go 7,.go 8,.go 9,.go 10,.go 11] ?_)|(refine nxX ?_)|(refine G.cN rfl (fun hc=>?_) (fun hc=>?_)<;>(try first|exact hc.elim|(exfalso;omega))))
  all_goals (
   refine X.again ⟨_,_,_,_,_,_,_,_,_⟩ ?_ ?_ ⟨rfl,rfl,rfl,rfl,rfl,trivial⟩ (fun w h=>h)
   ·refine m8Pre_mk (by decide) ?_ (by omega) (by omega) (by omega) (by omega) (by omega) (by omega) (by omega) (by omega) ?_ ?_ ?_ ?_
    ·show vo8 _ _ _ _ _ _ _ _=psum8 a b 2
     rw[pq2]
     unfold vo8
     omega
    all_goals first|exact fun _=>rfl|exact fun h=>absurd h (by decide)
   ·refine m8Mu ?_;omega)
 ·obtain rfl:=z0 (by omega);obtain rfl:=z1 (by omega);obtain rfl:=z2 (by omega);clear z0 z1 z2 z3
  rw[pq2] at g1
  unfold vo8 at g1
  repeat' (first|(show G _ _ _ _ _ _ (.loop _);refine G.loopN 6 (GR.step ?_))|(show X (Exit.then (Code.rounds _ _ _ _) _) _ _ _ _ .normal;refine X.round (GR.step ?_))|(show YK _ _ _ _ _ ⟨_,.call { callee:=.value (.func 200),args:=_,argTypes:=_ },_,_,_,_⟩ _;refine mul64K rfl rfl (by omega) (by omega) (fun s c e h k=>?_))|(show YK _ _ _ _ _ ⟨_,.call { callee:=.value (.func 257),args:=_,argTypes:=_ },_,_,_,_⟩ _;refine add64K rfl rfl rfl (by omega) (by omega) (by omega) (fun s c e h k=>?_))|(show YK _ _ _ _ _ ⟨_,.indexAddr 250 _ _,_,_,_,_⟩ _;refine YK.ofV (y_indexArr (len:=4) rfl rfl (by first|exact(rfl:_=((0:Nat):Int))|exact(rfl:_=((1:Nat):Int))|exact(rfl:_=((2:Nat):Int))|exact(rfl:_=((3:Nat):Int))) (by decide +kernel) rfl) ?_)|(show VK _ _ _ _ _ ⟨_,.indexAddr 250 _ _,_,_,_,_⟩ _;refine VK.mk (y_indexArr (len:=4) rfl rfl (by first|exact(rfl:_=((0:Nat):Int))|exact(rfl:_=((1:Nat):Int))|exact(rfl:_=((2:Nat):Int))|exact(rfl:_=((3:Nat):Int))) (by decide +kernel) rfl) ?_)|(show YK _ _ _ _ _ ⟨_,.indexAddr 278 _ _,_,_,_,_⟩ _;refine YK.ofV (y_indexArr (len:=8) rfl rfl (by first|exact(rfl:_=((0:Nat):Int))|exact(rfl:_=((1:Nat):Int))|exact(rfl:_=((2:Nat):Int))|exact(rfl:_=((3:Nat):Int))|exact(rfl:_=((4:Nat):Int))|exact(rfl:_=((5:Nat):Int))|exact(rfl:_=((6:Nat):Int))|exact(rfl:_=((7:Nat):Int))) (by decide +kernel) rfl) ?_)|(show VK _ _ _ _ _ ⟨_,.indexAddr 278 _ _,_,_,_,_⟩ _;refine VK.mk (y_indexArr (len:=8) rfl rfl (by first|exact(rfl:_=((0:Nat):Int))|exact(rfl:_=((1:Nat):Int))|exact(rfl:_=((2:Nat):Int))|exact(rfl:_=((3:Nat):Int))|exact(rfl:_=((4:Nat):Int))|exact(rfl:_=((5:Nat):Int))|exact(rfl:_=((6:Nat):Int))|exact(rfl:_=((7:Nat):Int))) (by decide +kernel) rfl) ?_)|(refine nxV ?_)|(refine nSS ?_)|(refine nS1 fun _=>?_)|(refine nMM ?_)|(refine nM1 fun _=>?_)|(refine nxG ?_)|(refine G.mA 9 [.go 0,.go 1,.go 2,.go 3,.go 4,.go 5,.go 6,.go 7,.go 8,.go 9,.go 10,.go 11] ?_)|(refine nxX ?_)|(refine G.cN rfl (fun hc=>?_) (fun hc=>?_)<;>(try first|exact hc.elim|(exfalso;omega))))
  all_goals (
   refine X.again ⟨_,_,_,_,_,_,_,_,_⟩ ?_ ?_ ⟨rfl,rfl,rfl,rfl,rfl,trivial⟩ (fun w h=>h)
   ·refine m8Pre_mk (by decide) ?_ (by omega) (by omega) (by omega) (by omega) (by omega) (by omega) (by omega) (by omega) ?_ ?_ ?_ ?_
    ·show vo8 _ _ _ _ _ _ _ _=psum8 a b 1
     rw[pq1]
     unfold vo8
     omega
    all_goals first|exact fun _=>rfl|exact fun h=>absurd h (by decide)
   ·refine m8Mu ?_;omega)
 ·obtain rfl:=z0 (by omega);obtain rfl:=z1 (by omega);clear z0 z1 z2 z3
  rw[pq1] at g1
  unfold vo8 at g1
  repeat' (first|(show G _ _ _ _ _ _ (.loop _);refine G.loopN 6 (GR.step ?_))|(show X (Exit.then (Code.rounds _ _ _ _) _) _ _ _ _ .normal;refine X.round (GR.step ?_))|(show YK _ _ _ _ _ ⟨_,.call { callee:=.value (.func 200),args:=_,argTypes:=_ },_,_,_,_⟩ _;refine mul64K rfl rfl (by omega) (by omega) (fun s c e h k=>?_))|(show YK _ _ _ _ _ ⟨_,.call { callee:=.value (.func 257),args:=_,argTypes:=_ },_,_,_,_⟩ _;refine add64K rfl rfl rfl (by omega) (by omega) (by omega) (fun s c e h k=>?_))|(show YK _ _ _ _ _ ⟨_,.indexAddr 250 _ _,_,_,_,_⟩ _;refine YK.ofV (y_indexArr (len:=4) rfl rfl (by first|exact(rfl:_=((0:Nat):Int))|exact(rfl:_=((1:Nat):Int))|exact(rfl:_=((2:Nat):Int))|exact(rfl:_=((3:Nat):Int))) (by decide +kernel) rfl) ?_)|(show VK _ _ _ _ _ ⟨_,.indexAddr 250 _ _,_,_,_,_⟩ _;refine VK.mk (y_indexArr (len:=4) rfl rfl (by first|exact(rfl:_=((0:Nat):Int))|exact(rfl:_=((1:Nat):Int))|exact(rfl:_=((2:Nat):Int))|exact(rfl:_=((3:Nat):Int))) (by decide +kernel) rfl) ?_)|(show YK _ _ _ _ _ ⟨_,.indexAddr 278 _ _,_,_,_,_⟩ _;refine YK.ofV (y_indexArr (len:=8) rfl rfl (by first|exact(rfl:_=((0:Nat):Int))|exact(rfl:_=((1:Nat):Int))|exact(rfl:_=((2:Nat):Int))|exact(rfl:_=((3:Nat):Int))|exact(rfl:_=((4:Nat):Int))|exact(rfl:_=((5:Nat):Int))|exact(rfl:_=((6:Nat):Int))|exact(rfl:_=((7:Nat):Int))) (by decide +kernel) rfl) ?_)|(show VK _ _ _ _ _ ⟨_,.indexAddr 278 _ _,_,_,_,_⟩ _;refine VK.mk (y_indexArr (len:=8) rfl rfl (by first|exact(rfl:_=((0:Nat):Int))|exact(rfl:_=((1:Nat):Int))|exact(rfl:_=((2:Nat):Int))|exact(rfl:_=((3:Nat):Int))|exact(rfl:_=((4:Nat):Int))|exact(rfl:_=((5:Nat):Int))|exact(rfl:_=((6:Nat):Int))|exact(rfl:_=((7:Nat):Int))) (by decide +kernel) rfl) ?_)|(refine nxV ?_)|(refine nSS ?_)|(refine nS1 fun _=>?_)|(refine nMM ?_)|(refine nM1 fun _=>?_)|(refine nxG ?_)|(refine G.mA 9 [.go 0,.go 1,.go 2,.go 3,.go 4,.go 5,.go 6,.go 7,.go 8,.go 9,.go 10,.go 11] ?_)|(refine nxX ?_)|(refine G.cN rfl (fun hc=>?_) (fun hc=>?_)<;>(try first|exact hc.elim|(exfalso;omega))))
  all_goals (
   refine X.again ⟨_,_,_,_,_,_,_,_,_⟩ ?_ ?_ ⟨rfl,rfl,rfl,rfl,rfl,trivial⟩ (fun w h=>h)
   ·refine m8Pre_mk (by decide) ?_ (by omega) (by omega) (by omega) (by omega) (by omega) (by omega) (by omega) (by omega) ?_ ?_ ?_ ?_
    ·show vo8 _ _ _ _ _ _ _ _=psum8 a b 0
     rw[pq0]
     unfold vo8
     omega
    all_goals first|exact fun _=>rfl|exact fun h=>absurd h (by decide)
   ·refine m8Mu ?_;omega)
 ·obtain rfl:=z0 (by omega);clear z0 z1 z2 z3
  rw[pq0] at g1
  unfold vo8 at g1
  repeat' (first|(show G _ _ _ _ _ _ (.loop _);refine G.loopN 6 (GR.step ?_))|(show X (Exit.then (Code.rounds _ _ _ _) _) _ _ _ _ .normal;refine X.round (GR.step ?_))|(show YK _ _ _ _ _ ⟨_,.call { callee:=.value (.func 200),args:=_,argTypes:=_ },_,_,_,_⟩ _;refine mul64K rfl rfl (by omega) (by omega) (fun s c e h k=>?_))|(show YK _ _ _ _ _ ⟨_,.call { callee:=.value (.func 257),args:=_,argTypes:=_ },_,_,_,_⟩ _;refine add64K rfl rfl rfl (by omega) (by omega) (by omega) (fun s c e h k=>?_))|(show YK _ _ _ _ _ ⟨_,.indexAddr 250 _ _,_,_,_,_⟩ _;refine YK.ofV (y_indexArr (len:=4) rfl rfl (by first|exact(rfl:_=((0:Nat):Int))|exact(rfl:_=((1:Nat):Int))|exact(rfl:_=((2:Nat):Int))|exact(rfl:_=((3:Nat):Int))) (by decide +kernel) rfl) ?_)|(show VK _ _ _ _ _ ⟨_,.indexAddr 250 _ _,_,_,_,_⟩ _;refine VK.mk (y_indexArr (len:=4) rfl rfl (by first|exact(rfl:_=((0:Nat):Int))|exact(rfl:_=((1:Nat):Int))|exact(rfl:_=((2:Nat):Int))|exact(rfl:_=((3:Nat):Int))) (by decide +kernel) rfl) ?_)|(show YK _ _ _ _ _ ⟨_,.indexAddr 278 _ _,_,_,_,_⟩ _;refine YK.ofV (y_indexArr (len:=8) rfl rfl (by first|exact(rfl:_=((0:Nat):Int))|exact(rfl:_=((1:Nat):Int))|exact(rfl:_=((2:Nat):Int))|exact(rfl:_=((3:Nat):Int))|exact(rfl:_=((4:Nat):Int))|exact(rfl:_=((5:Nat):Int))|exact(rfl:_=((6:Nat):Int))|exact(rfl:_=((7:Nat):Int))) (by decide +kernel) rfl) ?_)|(show VK _ _ _ _ _ ⟨_,.indexAddr 278 _ _,_,_,_,_⟩ _;refine VK.mk (y_indexArr (len:=8) rfl rfl (by first|exact(rfl:_=((0:Nat):Int))|exact(rfl:_=((1:Nat):Int))|exact(rfl:_=((2:Nat):Int))|exact(rfl:_=((3:Nat):Int))|exact(rfl:_=((4:Nat):Int))|exact(rfl:_=((5:Nat):Int))|exact(rfl:_=((6:Nat):Int))|exact(rfl:_=((7:Nat):Int))) (by decide +kernel) rfl) ?_)|(refine nxV ?_)|(refine nSS ?_)|(refine nS1 fun _=>?_)|(refine nMM ?_)|(refine nM1 fun _=>?_)|(refine nxG ?_)|(refine G.mA 9 [.go 0,.go 1,.go 2,.go 3,.go 4,.go 5,.go 6,.go 7,.go 8,.go 9,.go 10,.go 11] ?_)|(refine nxX ?_)|(refine G.cN rfl (fun hc=>?_) (fun hc=>?_)<;>(try first|exact hc.elim|(exfalso;omega))))
  all_goals (
   refine X.again ⟨_,_,_,_,_,_,_,_,_⟩ ?_ ?_ ⟨rfl,rfl,rfl,rfl,rfl,trivial⟩ (fun w h=>h)
   ·refine m8Pre_mk (by decide) ?_ (by omega) (by omega) (by omega) (by omega) (by omega) (by omega) (by omega) (by omega) ?_ ?_ ?_ ?_
    ·show vo8 _ _ _ _ _ _ _ _=psum8 a b (-1)
     rw[pqm]
     unfold vo8
     omega
    all_goals first|exact fun _=>rfl|exact fun h=>absurd h (by decide)
   ·refine m8Mu ?_;omega)
 ·clear z0 z1 z2 z3 hmx
  repeat' (first|(show RS _ _ _ _ _ _ _ (⟨_,.slice _ _ (some _) (some _) none,_,_,_,_⟩::_);refine RS.step (V.y (y_sliceArr2 (len:=8) (l:=1) (m:=5) rfl rfl rfl (by decide +kernel) rfl rfl rfl)) rfl ?_)|(show RS _ _ _ _ _ _ _ (⟨_,.sliceToArrayPointer _ _,_,_,_,_⟩::_);refine RS.step (V.y (y_arrPtr (len:=4) rfl (by decide +kernel) rfl)) rfl ?_)|(show YK _ _ _ _ _ ⟨_,.load 250 _,_,_,_,_⟩ _;refine YK.ofV (v:=.agg [.int .u64 o1,.int .u64 o2,.int .u64 o3,.int .u64 o4].toArray) (zlP (k:=4) (i:=1) rfl (List.Mem.head _) (by decide +kernel) rfl) ?_)|(refine nxV ?_)|(refine nSS ?_)|(refine nS1 fun _=>?_)|(refine nMM ?_)|(refine nM1 fun _=>?_)|(refine nxG ?_)|(refine G.mA 9 [.go 0,.go 1,.go 2,.go 3,.go 4,.go 5,.go 6,.go 7,.go 8,.go 9,.go 10,.go 11] ?_)|(refine nxX ?_)|(refine G.cN rfl (fun hc=>?_) (fun hc=>?_)<;>(try first|exact hc.elim|(exfalso;omega))))
  refine X.ret (vs:=[_]) rfl ⟨⟨_,_,_,_,rfl,(by exact memA),lenA,by decide +kernel,rfl⟩,rfl⟩ rfl (fun w hw=>⟨?_,hw.ext⟩)
  exact congrArg Ending.returned (mul8_val ha hb hab g1 g2 g3 g4 g5 g6 g7 g8 g9)
end Go.Proofs.YtjmdeplmenbmmaaGreat
