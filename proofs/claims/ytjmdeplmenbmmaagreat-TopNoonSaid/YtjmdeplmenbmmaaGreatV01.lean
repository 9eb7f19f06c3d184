/- Joined texts: DivPlain, TrS, TrP, NumP, TrPb, TrQ. -/
set_option linter.unusedVariables false
namespace Go.Proofs.YtjmdeplmenbmmaaGreat
theorem digit_ge {u d y1 y0:Int} (hu:0≤u) (hd0:0≤d) (hd:d<4294967296) (h1:0<y1) (h0:0≤y0):(u*4294967296+d)/(y1*4294967296+y0)≤u/y1:=by
 have hy:0<y1*4294967296+y0:=by omega
 have h2:(u*4294967296+d)/(y1*4294967296+y0)≤(u*4294967296+d)/(y1*4294967296):=by
  have hq:=Int.ediv_nonneg (a:=u*4294967296+d) (b:=y1*4294967296+y0) (by omega) (by omega)
  refine Int.le_ediv_of_mul_le (by omega) ?_
  have h3:=Int.ediv_mul_le (u*4294967296+d) (show y1*4294967296+y0≠0 by omega)
  have h4:=Int.mul_nonneg hq h0
  rw[Int.mul_add] at h3
  omega
 have h5:(u*4294967296+d)/(y1*4294967296)=u/y1:=by
  rw[Int.mul_comm y1,←Int.ediv_ediv_of_nonneg (by omega:(0:Int)≤4294967296)]
  congr 1
  omega
 omega
theorem digit_le {u y y1 y0:Int} (hu:0≤u) (huy:u<y) (hy:y=y1*4294967296+y0) (h1:2147483648≤y1) (h0:0≤y0) (h0':y0<4294967296):u/y1≤4294967297:=by
 have h2:u<y1*4294967298:=by omega
 have:=Int.ediv_lt_of_lt_mul (show 0<y1 by omega) (show u<4294967298*y1 by omega)
 omega
theorem digit_test {u d y1 y0 q r:Int} (hy:0<y1*4294967296+y0) (hr:r=u-q*y1):(q*y0>4294967296*r+d)↔(u*4294967296+d)/(y1*4294967296+y0)<q:=by
 have e:q*(y1*4294967296+y0)=q*y1*4294967296+q*y0:=by rw[Int.mul_add,Int.mul_assoc]
 constructor
 ·intro h
  refine Int.ediv_lt_of_lt_mul hy ?_
  rw[e];omega
 ·intro h
  have h2:=Int.lt_mul_of_ediv_lt hy h
  rw[e] at h2
  omega
theorem digit_lt {u d y:Int} (hy:0<y) (hd:d<4294967296) (hu:u<y):(u*4294967296+d)/y<4294967296:=by
 refine Int.ediv_lt_of_lt_mul hy ?_
 omega
theorem digit_stop {u d y1 y0 q r:Int} (hy:0<y1*4294967296+y0) (hr:r=u-q*y1) (hd:0≤d) (h0:0≤y0) (h0':y0<4294967296) (hq0:0≤q) (hq:q≤4294967296) (hb:4294967296≤r):q≤(u*4294967296+d)/(y1*4294967296+y0):=by
 have h1:=(digit_test (u:=u) (d:=d) (y1:=y1) (y0:=y0) (q:=q) (r:=r) hy hr)
 have h2:q*y0≤4294967296*y0:=Int.mul_le_mul_of_nonneg_right hq h0
 have h3:¬q*y0>4294967296*r+d:=by omega
 have:=mt h1.2 h3
 omega
theorem div_whole {hi lo y p r u32 u10 un1 un0 q1 q0 u21 R:Int} (hp:0<p) (hpr:p*r=18446744073709551616) (hr:0<r) (hy:0<y) (hyb:y*p≤18446744073709551615) (hi0:0≤hi) (hlt:hi<y) (hlo:0≤lo)
  (e32:u32=hi*p+lo/r) (e10:u10=(lo*p)%18446744073709551616) (e1:u10=un1*4294967296+un0)
  (eq1:u21=u32*4294967296+un1-q1*(y*p)) (hR:R=u21*4294967296+un0-q0*(y*p)) (hR0:0≤R) (hRy:R<y*p) :
  (hi*18446744073709551616+lo)/y=q1*4294967296+q0∧(hi*18446744073709551616+lo)%y=R/p:=by
 have e2:lo*p=lo/r*18446744073709551616+u10:=by
  have h1:=Int.emod_add_mul_ediv (lo*p) 18446744073709551616
  have h2:lo*p/18446744073709551616=lo/r:=by
   rw[←hpr,Int.mul_comm lo p]
   exact Int.mul_ediv_mul_of_pos _ _ hp
  rw[h2] at h1
  omega
 have e3:(hi*18446744073709551616+lo)*p=(q1*4294967296+q0)*(y*p)+R:=by
  rw[Int.add_mul,e2,hR,eq1,e32,e1]
  grind
 have e4:R=(hi*18446744073709551616+lo-(q1*4294967296+q0)*y)*p:=by
  rw[Int.sub_mul,e3,Int.mul_assoc];omega
 generalize hD:hi*18446744073709551616+lo-(q1*4294967296+q0)*y=Dd at *
 have h0:0≤Dd:=by
  rcases Int.lt_or_le Dd 0 with h|h
  ·have:=Int.mul_neg_of_neg_of_pos h hp;omega
  ·exact h
 have h1:Dd<y:=by
  rw[e4] at hRy
  exact Int.lt_of_mul_lt_mul_right hRy (by omega)
 have h2:R/p=Dd:=by rw[e4];exact Int.mul_ediv_cancel _ (by omega)
 rw[h2]
 exact(Int.ediv_emod_unique hy).2 ⟨by rw[Int.mul_comm y];omega,h0,h1⟩
end Go.Proofs.YtjmdeplmenbmmaaGreat
namespace Go.Proofs.YtjmdeplmenbmmaaGreat.TT
def dd (o k:Nat):Nat:=(2*k+1+o)*(2*k+2+o)
def hv (o:Nat) (y:Rat):Nat→Nat→Rat
 |_,0=>0
 |k,m+1=>y/(dd o k:Rat)*(1-hv o y (k+1) m)
def tm (o:Nat) (x:Rat):Nat→Rat
 |0=>if o=1 then x else 1
 |i+1=>tm o x i*(x*x/(dd o i:Rat))
def sa (o:Nat) (x:Rat):Nat→Nat→Rat
 |_,0=>0
 |k,m+1=>tm o x k-sa o x (k+1) m
theorem dd_ge (o k:Nat):2≤dd o k:=by
 unfold dd
 have h1:1≤2*k+1+o:=by omega
 have h2:2≤2*k+2+o:=by omega
 exact Nat.le_trans (by decide) (Nat.mul_le_mul h1 h2)
theorem dd_geR (o k:Nat):(2:Rat)≤(dd o k:Rat):=by
 have:=dd_ge o k
 have h:((2:Nat):Rat)≤(dd o k:Rat):=Rat.natCast_le_natCast.2 this
 exact h
theorem quo_bd {y d:Rat} (hy:0≤y) (hd:2≤d):0≤y/d∧2*(y/d)≤y∧y/d*d=y:=by
 have hd0:0<d:=by grind
 have h1:y/d*d=y:=Rat.div_mul_cancel (by grind)
 have h2:0≤y/d:=by
  rw[Rat.div_def];exact Rat.mul_nonneg hy (Rat.le_of_lt (Rat.inv_pos.2 hd0))
 have h3:=Rat.mul_le_mul_of_nonneg_left hd h2
 refine⟨h2,?_,h1⟩
 grind
theorem mul_le_one {a b:Rat} (ha:0≤a) (hb:b≤1):a*b≤a:=by
 have:=Rat.mul_le_mul_of_nonneg_left hb ha
 grind
theorem hv_bd {o:Nat} {y:Rat} (hy:0≤y) (hy1:y≤617/1000):∀(m k:Nat),0≤hv o y k m∧hv o y k m≤309/1000
 |0,k=>by unfold hv;exact⟨by grind,by decide +kernel⟩
 |m+1,k=>by
  obtain⟨h1,h2⟩:=hv_bd (o:=o) hy hy1 m (k+1)
  obtain⟨g1,g2,g3⟩:=quo_bd hy (dd_geR o k)
  unfold hv
  have a1:0≤1-hv o y (k+1) m:=by grind
  have a2:1-hv o y (k+1) m≤1:=by grind
  have a3:=mul_le_one g1 a2
  exact⟨Rat.mul_nonneg g1 a1,by grind⟩
theorem sa_hv (o:Nat) (x:Rat):∀(m k:Nat),sa o x k (m+1)=tm o x k*(1-hv o (x*x) k m)
 |0,k=>by simp only[sa,hv];grind
 |m+1,k=>by
  have ih:=sa_hv o x m (k+1)
  show tm o x k-sa o x (k+1) (m+1)=_
  rw[ih]
  simp only[hv,tm]
  grind
theorem tm_nn {o:Nat} {x:Rat} (hx:0≤x):∀i,0≤tm o x i
 |0=>by unfold tm;split<;>grind
 |i+1=>by
  unfold tm
  exact Rat.mul_nonneg (tm_nn hx i) (quo_bd (Rat.mul_nonneg hx hx) (dd_geR o i)).1
theorem sa_bd {o:Nat} {x:Rat} (hx:0≤x) (hx1:x*x≤617/1000) (k p:Nat):0≤sa o x k p∧sa o x k p≤tm o x k:=by
 have ht:=tm_nn (o:=o) hx k
 cases p with
 |zero=>exact⟨by simp only[sa];grind,by simp only[sa];exact ht⟩
 |succ p =>
  rw[sa_hv]
  obtain⟨h1,h2⟩:=hv_bd (o:=o) (Rat.mul_nonneg hx hx) hx1 p k
  exact⟨Rat.mul_nonneg ht (by grind),mul_le_one ht (by grind)⟩
theorem sa_more {o:Nat} {x:Rat} (hx:0≤x) (hx1:x*x≤617/1000) (p:Nat):∀(m k:Nat),sa o x k (m+p)-sa o x k m≤tm o x (k+m)∧sa o x k m-sa o x k (m+p)≤tm o x (k+m)
 |0,k=>by
  obtain⟨h1,h2⟩:=sa_bd (o:=o) hx hx1 k p
  have ht:=tm_nn (o:=o) hx k
  rw[Nat.zero_add,Nat.add_zero]
  simp only[sa]
  exact⟨by grind,by grind⟩
 |m+1,k=>by
  obtain⟨h1,h2⟩:=sa_more (o:=o) hx hx1 p m (k+1)
  rw[show m+1+p=(m+p)+1 by omega,show k+(m+1)=k+1+m by omega]
  simp only[sa]
  exact⟨by grind,by grind⟩
theorem tm_le {o:Nat} {x:Rat} (hx:0≤x) (hx1:x*x≤617/1000) (hx2:x≤1):∀i,tm o x i≤1
 |0=>by unfold tm;split<;>grind
 |i+1=>by
  have ih:=tm_le (o:=o) hx hx1 hx2 i
  obtain⟨g1,g2,_⟩:=quo_bd (Rat.mul_nonneg hx hx) (dd_geR o i)
  have:=mul_le_one (tm_nn (o:=o) hx i) (b:=x*x/(dd o i:Rat)) (by grind)
  unfold tm
  grind
abbrev W256:Nat:=115792089237316195423570985008687907853269984665640564039457584007913129639936
abbrev cW:Nat:=18446744073709551616
abbrev piN:Nat:=3*W256+0x243F6A8885A308D313198A2E03707344A4093822299F31D0082EFA98EC4E6C89
abbrev halfN:Nat:=10800000
def lb (a i:Nat):Nat:=a/cW^(3-i)%cW
def mulS (a b:Nat):Nat:=lb a 0*lb b 0*cW^4+(lb a 0*lb b 1+lb a 1*lb b 0)*cW^3+(lb a 0*lb b 2+lb a 1*lb b 1+lb a 2*lb b 0)*cW^2+(lb a 0*lb b 3+lb a 1*lb b 2+lb a 2*lb b 1+lb a 3*lb b 0)*cW+(lb a 1*lb b 3+lb a 2*lb b 2+lb a 3*lb b 1)
def mulF (a b:Nat):Nat:=mulS a b/cW^2
theorem lb_sum {a:Nat} (h:a<W256):a=lb a 0*cW^3+lb a 1*cW^2+lb a 2*cW+lb a 3:=by
 unfold lb
 simp only[cW,W256,Nat.sub_zero,Nat.reduceSub,Nat.reducePow,Nat.pow_one,Nat.pow_zero,Nat.div_one] at *
 omega
theorem lb_lt (a i:Nat):lb a i<cW:=Nat.mod_lt _ (by decide)
theorem mulF_bd {a b:Nat} (ha:a<W256) (hb:b<W256):mulF a b*W256≤a*b∧a*b<(mulF a b+2)*W256:=by
 have ea:=lb_sum ha
 have eb:=lb_sum hb
 have a2:=lb_lt a 2;have a3:=lb_lt a 3;have b2:=lb_lt b 2;have b3:=lb_lt b 3
 have h1:a*b=mulS a b*cW^2+((lb a 2*lb b 3+lb a 3*lb b 2)*cW+lb a 3*lb b 3):=by
  unfold mulS
  generalize lb a 0=x0 at *;generalize lb a 1=x1 at *;generalize lb a 2=x2 at *;generalize lb a 3=x3 at *
  generalize lb b 0=y0 at *;generalize lb b 1=y1 at *;generalize lb b 2=y2 at *;generalize lb b 3=y3 at *
  subst ea eb
  generalize cW=c
  grind
 have h2:lb a 2*lb b 3≤(cW-1)*(cW-1):=Nat.mul_le_mul (by omega) (by omega)
 have h3:lb a 3*lb b 2≤(cW-1)*(cW-1):=Nat.mul_le_mul (by omega) (by omega)
 have h4:lb a 3*lb b 3≤(cW-1)*(cW-1):=Nat.mul_le_mul (by omega) (by omega)
 unfold mulF
 generalize mulS a b=s at *
 generalize a*b=p at *
 generalize lb a 2*lb b 3=z1 at *;generalize lb a 3*lb b 2=z2 at *;generalize lb a 3*lb b 3=z3 at *
 simp only[cW,W256,Nat.reducePow,Nat.reduceSub,Nat.reduceMul] at *
 omega
theorem mulF_le {a b:Nat} (ha:a<W256) (hb:b<W256):mulF a b≤a:=by
 have h1:=(mulF_bd ha hb).1
 have h2:a*b≤a*W256:=Nat.mul_le_mul_left _ (by omega)
 exact Nat.le_of_mul_le_mul_right (Nat.le_trans h1 h2) (by decide)
def radF (n:Nat):Nat:=n*piN/halfN
def lessF (o y:Nat):Nat→Nat→Nat
 |_,0=>0
 |k,m+1=>y/dd o k-mulF (y/dd o k) (lessF o y (k+1) m)
theorem lessF_le (o y:Nat) (hy:y<W256):∀m k,lessF o y k m≤y
 |0,k=>by unfold lessF;omega
 |m+1,k=>by
  unfold lessF
  have:=Nat.div_le_self y (dd o k)
  omega
/-! the same in rationals -/
abbrev wR:Rat:=((W256:Nat):Rat)
abbrev eR:Rat:=1/wR
theorem eR_pos:0<eR:=by decide +kernel
theorem eR_w:wR*eR=1:=by decide +kernel
theorem eR_small:eR≤1/1000000:=by decide +kernel
theorem natR {a b:Nat} (h:a≤b):(a:Rat)≤(b:Rat):=Rat.natCast_le_natCast.2 h
theorem mulF_R {a b:Nat} (ha:a<W256) (hb:b<W256):(mulF a b:Rat)*eR≤(a:Rat)*eR*((b:Rat)*eR)∧(a:Rat)*eR*((b:Rat)*eR)≤(mulF a b:Rat)*eR+2*eR:=by
 obtain⟨h1,h2⟩:=mulF_bd ha hb
 have g1:=natR h1
 have g2:=natR (Nat.le_of_lt h2)
 rw[Rat.natCast_mul,Rat.natCast_mul] at g1
 rw[Rat.natCast_mul,Rat.natCast_mul,Rat.natCast_add] at g2
 have h22:((2:Nat):Rat)=2:=rfl
 rw[h22] at g2
 have he:=eR_pos
 have hw:((W256:Nat):Rat)*eR=1:=eR_w
 have hee:0≤eR*eR:=Rat.le_of_lt (Rat.mul_pos he he)
 have k1:=Rat.mul_le_mul_of_nonneg_right g1 hee
 have k2:=Rat.mul_le_mul_of_nonneg_right g2 hee
 generalize eR=e at *
 generalize ((W256:Nat):Rat)=w at *
 generalize (mulF a b:Rat)=m at *
 generalize (a:Rat)=a at *
 generalize (b:Rat)=b at *
 have e1:m*w*(e*e)=m*e*(w*e):=by grind
 have e2:(m+2)*w*(e*e)=(m*e+2*e)*(w*e):=by grind
 have e3:a*b*(e*e)=a*e*(b*e):=by grind
 rw[e1,e3,hw] at k1
 rw[e2,e3,hw] at k2
 exact⟨by grind,by grind⟩
theorem quo_R {y d:Nat} (hd:0<d):((y/d:Nat):Rat)*eR*(d:Rat)≤(y:Rat)*eR∧(y:Rat)*eR≤((y/d:Nat):Rat)*eR*(d:Rat)+eR*(d:Rat):=by
 have h1:y/d*d≤y:=Nat.div_mul_le_self y d
 have h2:y≤(y/d+1)*d:=by
  have:=Nat.lt_div_mul_add hd (a:=y)
  rw[Nat.succ_mul];omega
 have g1:=natR h1
 have g2:=natR h2
 simp only[Rat.natCast_mul,Rat.natCast_add,Rat.natCast_ofNat] at g1 g2
 have he:=Rat.le_of_lt eR_pos
 have k1:=Rat.mul_le_mul_of_nonneg_right g1 he
 have k2:=Rat.mul_le_mul_of_nonneg_right g2 he
 exact⟨by grind,by grind⟩
theorem horner_step {r d Y Q U V P e:Rat} (he:0<e) (he1:e≤1/1000000) (hd:2≤d) (hy0:r*d-4*e≤Y) (hy1:Y≤r*d) (hq1:Q*d≤Y) (hq2:Y≤Q*d+e*d) (hr0:0≤r) (hr:2*r≤617/1000)
  (hQ:0≤Q) (hV0:0≤V) (hV1:V≤309/1000) (hu1:U-V≤8*e) (hu2:V-U≤8*e) (hU0:0≤U) (hP1:P≤Q*U) (hP2:Q*U≤P+2*e):(Q-P)-r*(1-V)≤8*e∧r*(1-V)-(Q-P)≤8*e:=by
 have hd0:0<d:=by grind
 have q1:Q≤r:=Rat.le_of_mul_le_mul_right (c:=d) (by grind) hd0
 have q2:r≤Q+3*e:=by
  refine Rat.le_of_mul_le_mul_right (c:=d) ?_ hd0
  have:=Rat.mul_le_mul_of_nonneg_left hd (Rat.le_of_lt he)
  grind
 have hr1:r≤309/1000:=by grind
 -- Q-P is near Q (1-U)
 have a1:0≤1-U:=by grind
 have b1:=Rat.mul_le_mul_of_nonneg_right q1 a1
 have b2:=Rat.mul_le_mul_of_nonneg_right q2 a1
 have b3:=Rat.mul_le_mul_of_nonneg_left hu1 hr0
 have b4:=Rat.mul_le_mul_of_nonneg_left hu2 hr0
 have b5:r*e≤309/1000*e:=Rat.mul_le_mul_of_nonneg_right hr1 (Rat.le_of_lt he)
 have b6:e*U≥0:=Rat.mul_nonneg (Rat.le_of_lt he) hU0
 exact⟨by grind,by grind⟩
theorem lessF_R {o y:Nat} {z:Rat} (hy:y<W256) (hz0:0≤z) (hz1:z≤617/1000) (hy0:z-4*eR≤(y:Rat)*eR) (hy1:(y:Rat)*eR≤z):∀m k,(lessF o y k m:Rat)*eR-hv o z k m≤8*eR∧hv o z k m-(lessF o y k m:Rat)*eR≤8*eR
 |0,k=>by
  have:=eR_pos
  simp only[lessF,hv,show ((0:Nat):Rat)=0 from rfl]
  exact⟨by grind,by grind⟩
 |m+1,k=>by
  obtain⟨u1,u2⟩:=lessF_R (o:=o) hy hz0 hz1 hy0 hy1 m (k+1)
  obtain⟨v1,v2⟩:=hv_bd (o:=o) hz0 hz1 m (k+1)
  obtain⟨r1,r2,r3⟩:=quo_bd hz0 (dd_geR o k)
  have hl:=lessF_le o y hy m (k+1)
  have hq:y/dd o k<W256:=Nat.lt_of_le_of_lt (Nat.div_le_self _ _) hy
  have hu:lessF o y (k+1) m<W256:=Nat.lt_of_le_of_lt hl hy
  obtain⟨p1,p2⟩:=mulF_R hq hu
  have hle:=mulF_le hq hu
  obtain⟨g1,g2⟩:=quo_R (y:=y) (d:=dd o k) (by have:=dd_ge o k;omega)
  have he:=eR_pos
  have hes:=eR_small
  have e1:(lessF o y k (m+1):Rat)=((y/dd o k:Nat):Rat)-(mulF (y/dd o k) (lessF o y (k+1) m):Rat):=by
   have:((y/dd o k:Nat):Rat)=((lessF o y k (m+1)+mulF (y/dd o k) (lessF o y (k+1) m):Nat):Rat):=by
    congr 1
    show _=(y/dd o k-mulF (y/dd o k) (lessF o y (k+1) m))+_
    omega
   rw[this,Rat.natCast_add];grind
  have:=horner_step (r:=z/(dd o k:Rat)) (d:=(dd o k:Rat)) (Y:=(y:Rat)*eR) (Q:=((y/dd o k:Nat):Rat)*eR) (U:=(lessF o y (k+1) m:Rat)*eR) (V:=hv o z (k+1) m) (P:=(mulF (y/dd o k) (lessF o y (k+1) m):Rat)*eR) he hes (dd_geR o k)
   (by rw[r3];exact hy0) (by rw[r3];exact hy1) g1 g2 r1 (by grind) (Rat.mul_nonneg Rat.natCast_nonneg (Rat.le_of_lt he)) v1 v2 u1 u2 (Rat.mul_nonneg Rat.natCast_nonneg (Rat.le_of_lt he)) p1 p2
  rw[e1]
  simp only[hv]
  exact⟨by grind,by grind⟩
theorem lb_digits {x0 x1 x2 x3:Nat} (h0:x0<cW) (h1:x1<cW) (h2:x2<cW) (h3:x3<cW):lb (x0*cW^3+x1*cW^2+x2*cW+x3) 0=x0∧lb (x0*cW^3+x1*cW^2+x2*cW+x3) 1=x1∧lb (x0*cW^3+x1*cW^2+x2*cW+x3) 2=x2∧lb (x0*cW^3+x1*cW^2+x2*cW+x3) 3=x3:=by
 unfold lb
 simp only[cW,Nat.sub_zero,Nat.reduceSub,Nat.reducePow,Nat.pow_one,Nat.pow_zero,Nat.div_one] at *
 omega
theorem digits_lt {x0 x1 x2 x3:Nat} (h0:x0<cW) (h1:x1<cW) (h2:x2<cW) (h3:x3<cW):x0*cW^3+x1*cW^2+x2*cW+x3<W256:=by
 simp only[cW,W256,Nat.reducePow] at *
 omega
theorem lb_eq {x x0 x1 x2 x3:Nat} (h0:x0<cW) (h1:x1<cW) (h2:x2<cW) (h3:x3<cW) (h:x=x0*cW^3+x1*cW^2+x2*cW+x3):lb x 0=x0∧lb x 1=x1∧lb x 2=x2∧lb x 3=x3:=by
 subst h;exact lb_digits h0 h1 h2 h3
theorem add_words {a b:Nat} (ha:a<W256) (hb:b<W256) {s3 c3 s2 c2 s1 c1 s0 c0:Nat} (e3:lb a 3+lb b 3=s3+cW*c3) (e2:lb a 2+lb b 2+c3=s2+cW*c2) (e1:lb a 1+lb b 1+c2=s1+cW*c1) (e0:lb a 0+lb b 0+c1=s0+cW*c0)
  (h3:s3<cW) (h2:s2<cW) (h1:s1<cW) (h0:s0<cW):lb ((a+b)%W256) 0=s0∧lb ((a+b)%W256) 1=s1∧lb ((a+b)%W256) 2=s2∧lb ((a+b)%W256) 3=s3:=by
 refine lb_eq h0 h1 h2 h3 ?_
 have ea:=lb_sum ha
 have eb:=lb_sum hb
 have hx:=digits_lt h0 h1 h2 h3
 have e:a+b=s0*cW^3+s1*cW^2+s2*cW+s3+W256*c0:=by
  generalize lb a 0=x0 at *;generalize lb a 1=x1 at *;generalize lb a 2=x2 at *;generalize lb a 3=x3 at *
  generalize lb b 0=y0 at *;generalize lb b 1=y1 at *;generalize lb b 2=y2 at *;generalize lb b 3=y3 at *
  simp only[cW,W256,Nat.reducePow] at *
  omega
 rw[e,Nat.add_mul_mod_self_left]
 exact Nat.mod_eq_of_lt hx
theorem mod_sub {a b s W c:Nat} (e:a+W*c=s+b) (hs:s<W) (hb:b<W) (k:c≤1):(a+W-b)%W=s:=by
 rcases Nat.le_one_iff_eq_zero_or_eq_one.1 k with rfl|rfl
 ·rw[show a+W-b=s+W*1 by omega,Nat.add_mul_mod_self_left]
  exact Nat.mod_eq_of_lt hs
 ·rw[show a+W-b=s by omega]
  exact Nat.mod_eq_of_lt hs
theorem sub_words {a b:Nat} (ha:a<W256) (hb:b<W256) {s3 c3 s2 c2 s1 c1 s0 c0:Nat} (e3:lb a 3+cW*c3=s3+lb b 3) (e2:lb a 2+cW*c2=s2+lb b 2+c3) (e1:lb a 1+cW*c1=s1+lb b 1+c2) (e0:lb a 0+cW*c0=s0+lb b 0+c1)
  (h3:s3<cW) (h2:s2<cW) (h1:s1<cW) (h0:s0<cW) (k0:c0≤1):lb ((a+W256-b)%W256) 0=s0∧lb ((a+W256-b)%W256) 1=s1∧lb ((a+W256-b)%W256) 2=s2∧lb ((a+W256-b)%W256) 3=s3:=by
 refine lb_eq h0 h1 h2 h3 ?_
 have ea:=lb_sum ha
 have eb:=lb_sum hb
 have hx:=digits_lt h0 h1 h2 h3
 have e:a+W256*c0=s0*cW^3+s1*cW^2+s2*cW+s3+b:=by
  generalize lb a 0=x0 at *;generalize lb a 1=x1 at *;generalize lb a 2=x2 at *;generalize lb a 3=x3 at *
  generalize lb b 0=y0 at *;generalize lb b 1=y1 at *;generalize lb b 2=y2 at *;generalize lb b 3=y3 at *
  rw[ea,eb]
  have hW:W256=cW*cW*cW*cW:=rfl
  rw[hW]
  clear hW hx ea eb ha hb h0 h1 h2 h3 k0
  generalize cW=c at *
  grind
 exact mod_sub e hx hb k0
theorem div_words {a t d:Nat} (ha:a<W256) (hd:0<d) (ht:t<d) {q0 t0 q1 t1 q2 t2 q3 t3:Nat} (e0:t*cW+lb a 0=q0*d+t0) (e1:t0*cW+lb a 1=q1*d+t1) (e2:t1*cW+lb a 2=q2*d+t2) (e3:t2*cW+lb a 3=q3*d+t3)
  (r0:t0<d) (r1:t1<d) (r2:t2<d) (r3:t3<d):(lb ((t*W256+a)/d) 0=q0∧lb ((t*W256+a)/d) 1=q1∧lb ((t*W256+a)/d) 2=q2∧lb ((t*W256+a)/d) 3=q3)∧(t*W256+a)/d<W256:=by
 have lt:∀{x y l q r:Nat},l<cW→x<d→x*cW+l=q*d+r→q<cW:=fun {x y l q r} hl hx e=>by
  refine Nat.lt_of_not_le fun hge=>?_
  have h1:cW*d≤q*d:=Nat.mul_le_mul_right d hge
  have h2:(x+1)*cW≤d*cW:=Nat.mul_le_mul_right cW hx
  rw[Nat.mul_comm cW d] at h1
  rw[Nat.succ_mul] at h2
  omega
 have l0:=lt (y:=0) (lb_lt a 0) ht e0
 have l1:=lt (y:=0) (lb_lt a 1) r0 e1
 have l2:=lt (y:=0) (lb_lt a 2) r1 e2
 have l3:=lt (y:=0) (lb_lt a 3) r2 e3
 have ea:=lb_sum ha
 have hx:=digits_lt l0 l1 l2 l3
 have e:t*W256+a=(q0*cW^3+q1*cW^2+q2*cW+q3)*d+t3:=by
  have hW:W256=cW*cW*cW*cW:=rfl
  generalize lb a 0=x0 at *;generalize lb a 1=x1 at *;generalize lb a 2=x2 at *;generalize lb a 3=x3 at *
  rw[hW]
  clear hW hx l0 l1 l2 l3 lt ha r0 r1 r2 r3 ht hd
  generalize cW=c at *
  have s1:t*(c*c*c*c)+a=(t*c+x0)*(c*c*c)+x1*(c*c)+x2*c+x3:=by rw[ea];grind
  have s2:(q0*d+t0)*(c*c*c)+x1*(c*c)+x2*c+x3=q0*d*(c*c*c)+(t0*c+x1)*(c*c)+x2*c+x3:=by grind
  have s3:q0*d*(c*c*c)+(q1*d+t1)*(c*c)+x2*c+x3=q0*d*(c*c*c)+q1*d*(c*c)+(t1*c+x2)*c+x3:=by grind
  have s4:q0*d*(c*c*c)+q1*d*(c*c)+(q2*d+t2)*c+x3=q0*d*(c*c*c)+q1*d*(c*c)+q2*d*c+(t2*c+x3):=by grind
  rw[s1,e0,s2,e1,s3,e2,s4,e3]
  clear s1 s2 s3 s4 e0 e1 e2 e3 ea
  grind
 have e2':(t*W256+a)/d=q0*cW^3+q1*cW^2+q2*cW+q3:=by
  rw[e,Nat.mul_comm,Nat.mul_add_div hd,Nat.div_eq_of_lt r3,Nat.add_zero]
 exact⟨lb_eq l0 l1 l2 l3 e2',by rw[e2'];exact hx⟩
def xi (n:Nat):Rat:=((n*piN:Nat):Rat)/((halfN*W256:Nat):Rat)
def TT (o n:Nat):Rat:=sa o (xi n) 0 35
def sinF (o n:Nat):Nat:=if o=0 then W256-lessF 0 (mulF (radF n) (radF n)) 0 34 else radF n-mulF (radF n) (lessF 1 (mulF (radF n) (radF n)) 0 34)
theorem sub_R {w u:Nat} (h:u≤w):((w-u:Nat):Rat)=(w:Rat)-(u:Rat):=by
 have:(w:Rat)=((w-u+u:Nat):Rat):=by rw[Nat.sub_add_cancel h]
 rw[this,Rat.natCast_add];grind
theorem sinF_0 (n:Nat):sinF 0 n=W256-lessF 0 (mulF (radF n) (radF n)) 0 34:=if_pos rfl
theorem sinF_1 (n:Nat):sinF 1 n=radF n-mulF (radF n) (lessF 1 (mulF (radF n) (radF n)) 0 34):=if_neg (by decide)
theorem xi_nn (n:Nat):0≤xi n:=by
 unfold xi
 rw[Rat.div_def]
 exact Rat.mul_nonneg Rat.natCast_nonneg (Rat.le_of_lt (Rat.inv_pos.2 (by decide +kernel)))
theorem xi_mul (n:Nat):xi n*((halfN*W256:Nat):Rat)=((n*piN:Nat):Rat):=Rat.div_mul_cancel (by decide +kernel)
theorem xi_le {n:Nat} (h:n≤2700000):xi n≤7853982/10000000:=by
 refine Rat.le_of_mul_le_mul_right (c:=((halfN*W256:Nat):Rat)) ?_ (by decide +kernel)
 rw[xi_mul]
 refine Rat.le_trans (natR (Nat.mul_le_mul_right piN h)) ?_
 decide +kernel
theorem sq_le {a b:Rat} (h0:0≤a) (h:a≤b):a*a≤b*b:=by
 have h1:=Rat.mul_le_mul_of_nonneg_left h h0
 have h2:=Rat.mul_le_mul_of_nonneg_right h (show 0≤b by grind)
 grind
theorem xi_sq {n:Nat} (h:n≤2700000):xi n*xi n≤617/1000:=Rat.le_trans (sq_le (xi_nn n) (xi_le h)) (by decide +kernel)
theorem radF_R (n:Nat):(radF n:Rat)*eR≤xi n∧xi n≤(radF n:Rat)*eR+eR:=by
 have h1:radF n*halfN≤n*piN:=Nat.div_mul_le_self _ _
 have h2:n*piN≤(radF n+1)*halfN:=by
  have h:=Nat.lt_div_mul_add (a:=n*piN) (b:=halfN) (by decide)
  unfold radF
  rw[Nat.succ_mul]
  exact Nat.le_of_lt h
 have g1:=natR h1
 have g2:=natR h2
 have hx:=xi_mul n
 rw[←hx,Rat.natCast_mul,Rat.natCast_mul] at g1
 rw[←hx,Rat.natCast_mul,Rat.natCast_mul,Rat.natCast_add] at g2
 have hw:((W256:Nat):Rat)*eR=1:=eR_w
 have hH:(0:Rat)<((halfN:Nat):Rat):=by decide +kernel
 have he:=Rat.le_of_lt eR_pos
 have k1:=Rat.mul_le_mul_of_nonneg_right g1 he
 have k2:=Rat.mul_le_mul_of_nonneg_right g2 he
 have h11:((1:Nat):Rat)=1:=rfl
 rw[h11] at k2
 generalize eR=e at *
 generalize ((W256:Nat):Rat)=w at *
 generalize ((halfN:Nat):Rat)=H at *
 generalize xi n=x at *
 generalize (radF n:Rat)=r at *
 have e1:x*(H*w)*e=x*(w*e)*H:=by grind
 rw[e1,hw] at k1 k2
 exact⟨Rat.le_of_mul_le_mul_right (c:=H) (by grind) hH,Rat.le_of_mul_le_mul_right (c:=H) (by grind) hH⟩
theorem radF_lt {n:Nat} (h:n≤2700000):radF n<W256:=by
 unfold radF
 refine(Nat.div_lt_iff_lt_mul (by decide)).2 ?_
 refine Nat.lt_of_le_of_lt (Nat.mul_le_mul_right piN h) ?_
 decide +kernel
theorem ysq_R {n:Nat} (h:n≤2700000):xi n*xi n-4*eR≤(mulF (radF n) (radF n):Rat)*eR∧(mulF (radF n) (radF n):Rat)*eR≤xi n*xi n:=by
 obtain⟨r1,r2⟩:=radF_R n
 obtain⟨m1,m2⟩:=mulF_R (radF_lt h) (radF_lt h)
 have x0:=xi_nn n
 have x1:=xi_le h
 have he:=Rat.le_of_lt eR_pos
 have rn:0≤(radF n:Rat)*eR:=Rat.mul_nonneg Rat.natCast_nonneg he
 have s1:=sq_le rn r1
 have a1:=Rat.mul_le_mul_of_nonneg_left r2 x0
 have a2:=Rat.mul_le_mul_of_nonneg_right r2 rn
 have a3:=Rat.mul_le_mul_of_nonneg_right x1 he
 have a4:=Rat.mul_le_mul_of_nonneg_right (Rat.le_trans r1 x1) he
 exact⟨by grind,by grind⟩
theorem lt_of_R {a:Nat} {z:Rat} (h:(a:Rat)*eR≤z) (hz:z<1):a<W256:=by
 rcases Nat.lt_or_ge a W256 with h1|h1
 ·exact h1
 ·have g:=Rat.mul_le_mul_of_nonneg_right (natR h1) (Rat.le_of_lt eR_pos)
  have hw:((W256:Nat):Rat)*eR=1:=eR_w
  rw[hw] at g
  clear h1 hw
  generalize (a:Rat)*eR=q at *
  grind
theorem sinF_R {o n:Nat} (ho:o≤1) (h:n≤2700000):(sinF o n:Rat)*eR-TT o n≤11*eR∧TT o n-(sinF o n:Rat)*eR≤11*eR:=by
 obtain⟨y1,y2⟩:=ysq_R h
 have x0:=xi_nn n
 have x1:=xi_le h
 have x2:=xi_sq h
 have xx:=Rat.mul_nonneg x0 x0
 have he:=Rat.le_of_lt eR_pos
 have hes:=eR_small
 have hy:mulF (radF n) (radF n)<W256:=lt_of_R y2 (by grind)
 obtain⟨u1,u2⟩:=lessF_R (o:=o) hy xx x2 y1 y2 34 0
 obtain⟨v1,v2⟩:=hv_bd (o:=o) xx x2 34 0
 have hle:=lessF_le o _ hy 34 0
 have hu:=Nat.lt_of_le_of_lt hle hy
 have eT:TT o n=tm o (xi n) 0*(1-hv o (xi n*xi n) 0 34):=sa_hv o (xi n) 34 0
 rw[eT]
 match o,ho with
 |0,_ =>
  have e1:(sinF 0 n:Rat)=((W256:Nat):Rat)-(lessF 0 (mulF (radF n) (radF n)) 0 34:Rat):=by rw[sinF_0,sub_R (Nat.le_of_lt hu)]
  have hw:((W256:Nat):Rat)*eR=1:=eR_w
  have e2:tm 0 (xi n) 0=1:=rfl
  rw[e1,e2]
  generalize ((W256:Nat):Rat)=w at *
  exact⟨by grind,by grind⟩
 |1,_ =>
  obtain⟨r1,r2⟩:=radF_R n
  obtain⟨m1,m2⟩:=mulF_R (radF_lt h) hu
  have hm:=mulF_le (radF_lt h) hu
  have e1:(sinF 1 n:Rat)=(radF n:Rat)-(mulF (radF n) (lessF 1 (mulF (radF n) (radF n)) 0 34):Rat):=by rw[sinF_1,sub_R hm]
  have e2:tm 1 (xi n) 0=xi n:=rfl
  rw[e1,e2]
  have rn:0≤(radF n:Rat)*eR:=Rat.mul_nonneg Rat.natCast_nonneg he
  have un:0≤(lessF 1 (mulF (radF n) (radF n)) 0 34:Rat)*eR:=Rat.mul_nonneg Rat.natCast_nonneg he
  generalize (mulF (radF n) (lessF 1 (mulF (radF n) (radF n)) 0 34):Rat)=P at *
  generalize (lessF 1 (mulF (radF n) (radF n)) 0 34:Rat)=U at *
  generalize hv 1 (xi n*xi n) 0 34=V at *
  generalize (radF n:Rat)=R at *
  generalize eR=e at *
  generalize xi n=x at *
  have b1:=Rat.mul_le_mul_of_nonneg_left u1 x0
  have b2:=Rat.mul_le_mul_of_nonneg_left u2 x0
  have b3:=Rat.mul_le_mul_of_nonneg_right x1 he
  have a0:0≤1-U*e:=by grind
  have b4:=Rat.mul_le_mul_of_nonneg_right r1 a0
  have b5:=Rat.mul_le_mul_of_nonneg_right r2 a0
  have b6:=Rat.mul_nonneg he un
  exact⟨by grind,by grind⟩
theorem xi_ge {n:Nat} (h:n≠0):1/10000000≤xi n:=by
 refine Rat.le_of_mul_le_mul_right (c:=((halfN*W256:Nat):Rat)) ?_ (by decide +kernel)
 rw[xi_mul]
 refine Rat.le_trans ?_ (natR (Nat.mul_le_mul_right piN (show 1≤n by omega)))
 decide +kernel
theorem lessC_pos {n:Nat} (h0:n≠0) (h:n≤2700000):0<lessF 0 (mulF (radF n) (radF n)) 0 34:=by
 obtain⟨y1,y2⟩:=ysq_R h
 have x0:=xi_nn n
 have x2:=xi_sq h
 have xx:=Rat.mul_nonneg x0 x0
 have hy:mulF (radF n) (radF n)<W256:=lt_of_R y2 (by grind)
 obtain⟨u1,u2⟩:=lessF_R (o:=0) hy xx x2 y1 y2 34 0
 obtain⟨v1,v2⟩:=hv_bd (o:=0) xx x2 33 1
 have e:hv 0 (xi n*xi n) 0 34=xi n*xi n/(dd 0 0:Rat)*(1-hv 0 (xi n*xi n) 1 33):=rfl
 have hz:1/100000000000000≤xi n*xi n:=Rat.le_trans (by decide +kernel) (sq_le (by decide +kernel) (xi_ge h0))
 obtain⟨q1,q2,q3⟩:=quo_bd xx (dd_geR 0 0)
 have ed:(dd 0 0:Rat)=2:=rfl
 rw[ed] at q1 q3 e
 have hs:8*eR<1/1000000000000000:=by decide +kernel
 refine Nat.pos_of_ne_zero fun hc=>?_
 rw[hc] at u2
 rw[e] at u2
 have e0:((0:Nat):Rat)=0:=rfl
 rw[e0] at u2
 clear hc u1 y1 y2 hy q2 ed e
 generalize hv 0 (xi n*xi n) 1 33=V at *
 generalize xi n*xi n=z at *
 generalize z/2=q at *
 have b:=Rat.mul_le_mul_of_nonneg_left (show (691:Rat)/1000≤1-V by grind) q1
 generalize eR=e at *
 grind
abbrev W62:Nat:=4611686018427387904
abbrev W31:Nat:=2147483648
def hi62 (a b:Nat):Nat:=a/W31*(b/W31)+a/W31*(b%W31)/W31+a%W31*(b/W31)/W31
def unitN:Nat:=2620088056*2147483648+658911831
def radQ (r:Nat):Nat:=r*2620088056*512+r*658911831/4194304
def tq (o x s:Nat):Nat→Nat
 |0=>if o=1 then x else W62
 |i+1=>hi62 (tq o x s i) s/dd o i
def sq (t:Nat→Nat):Nat→Nat→Int
 |_,0=>0
 |k,m+1=>(t k:Int)-sq t (k+1) m
def quickF (o r:Nat):Int:=sq (tq o (radQ r) (hi62 (radQ r) (radQ r))) 0 12
theorem hi62_bd (a b:Nat):hi62 a b*W62≤a*b∧a*b≤(hi62 a b+3)*W62:=by
 unfold hi62
 have ea:a=a/W31*W31+a%W31:=by rw[Nat.mul_comm];exact(Nat.div_add_mod _ _).symm
 have eb:b=b/W31*W31+b%W31:=by rw[Nat.mul_comm];exact(Nat.div_add_mod _ _).symm
 have la:a%W31≤W31-1:=by have:=Nat.mod_lt a (show 0<W31 by decide);omega
 have lb:b%W31≤W31-1:=by have:=Nat.mod_lt b (show 0<W31 by decide);omega
 have h3:=Nat.mul_le_mul la lb
 generalize a/W31=a1 at *
 generalize a%W31=a0 at *
 generalize b/W31=b1 at *
 generalize b%W31=b0 at *
 subst ea eb
 have e:(a1*W31+a0)*(b1*W31+b0)=a1*b1*W62+(a1*b0+a0*b1)*W31+a0*b0:=by
  have:W62=W31*W31:=rfl
  rw[this]
  generalize W31=c
  grind
 rw[e]
 generalize a1*b1=z1 at *
 generalize a1*b0=z2 at *
 generalize a0*b1=z3 at *
 generalize a0*b0=z4 at *
 simp only[W31,W62,Nat.reduceSub,Nat.reduceMul] at *
 omega
abbrev q62:Rat:=1/((W62:Nat):Rat)
theorem q62_pos:0<q62:=by decide +kernel
theorem q62_small:q62≤1/1000000:=by decide +kernel
theorem q62_w:((W62:Nat):Rat)*q62=1:=by decide +kernel
theorem hi62_R (a b:Nat):(hi62 a b:Rat)*q62≤(a:Rat)*q62*((b:Rat)*q62)∧(a:Rat)*q62*((b:Rat)*q62)≤(hi62 a b:Rat)*q62+3*q62:=by
 obtain⟨h1,h2⟩:=hi62_bd a b
 have g1:=natR h1
 have g2:=natR h2
 rw[Rat.natCast_mul,Rat.natCast_mul] at g1
 rw[Rat.natCast_mul,Rat.natCast_mul,Rat.natCast_add] at g2
 have h33:((3:Nat):Rat)=3:=rfl
 rw[h33] at g2
 have he:=q62_pos
 have hw:((W62:Nat):Rat)*q62=1:=q62_w
 have hee:0≤q62*q62:=Rat.le_of_lt (Rat.mul_pos he he)
 have k1:=Rat.mul_le_mul_of_nonneg_right g1 hee
 have k2:=Rat.mul_le_mul_of_nonneg_right g2 hee
 generalize q62=e at *
 generalize ((W62:Nat):Rat)=w at *
 generalize (hi62 a b:Rat)=m at *
 generalize (a:Rat)=a at *
 generalize (b:Rat)=b at *
 have e1:m*w*(e*e)=m*e*(w*e):=by grind
 have e2:(m+3)*w*(e*e)=(m*e+3*e)*(w*e):=by grind
 have e3:a*b*(e*e)=a*e*(b*e):=by grind
 rw[e1,e3,hw] at k1
 rw[e2,e3,hw] at k2
 exact⟨by grind,by grind⟩
theorem quo_Q {y d:Nat} (hd:0<d):((y/d:Nat):Rat)*q62*(d:Rat)≤(y:Rat)*q62∧(y:Rat)*q62≤((y/d:Nat):Rat)*q62*(d:Rat)+q62*(d:Rat):=by
 have h1:y/d*d≤y:=Nat.div_mul_le_self y d
 have h2:y≤(y/d+1)*d:=by
  have:=Nat.lt_div_mul_add hd (a:=y)
  rw[Nat.succ_mul];omega
 have g1:=natR h1
 have g2:=natR h2
 simp only[Rat.natCast_mul,Rat.natCast_add,Rat.natCast_ofNat] at g1 g2
 have he:=Rat.le_of_lt q62_pos
 have k1:=Rat.mul_le_mul_of_nonneg_right g1 he
 have k2:=Rat.mul_le_mul_of_nonneg_right g2 he
 exact⟨by grind,by grind⟩
theorem aux3 (r q:Nat) (hr:r≤2700000) (a1:r*658911831<q*4194304+4194304):r*(2620088056*2147483648+658911831)+r≤(r*2620088056*512+q+2)*4194304:=by omega
theorem aux1 {q r u H p w c:Nat} (h1:q*c≤r*u) (u1:u*H≤p*(w*c)) (hc:0<c):q*H≤r*p*w:=by
 refine Nat.le_of_mul_le_mul_right (c:=c) ?_ hc
 have a1:=Nat.mul_le_mul_right H h1
 have a2:=Nat.mul_le_mul_left r u1
 grind
theorem aux2 {q r u H p w c:Nat} (h1:r*u+r≤q*c) (u1:p*(w*c)≤(u+1)*H) (hc:0<c):r*p*w≤q*H:=by
 refine Nat.le_of_mul_le_mul_right (c:=c) ?_ hc
 have a1:=Nat.mul_le_mul_right H h1
 have a2:=Nat.mul_le_mul_left r u1
 grind
theorem radQ_R {r:Nat} (hr:r≤2700000):(radQ r:Rat)*q62≤xi r∧xi r≤(radQ r:Rat)*q62+2*q62:=by
 have h1:radQ r*4194304≤r*unitN:=by unfold radQ unitN;omega
 have h2:r*unitN+r≤(radQ r+2)*4194304:=by
  unfold radQ unitN
  have a1:=Nat.lt_div_mul_add (a:=r*658911831) (b:=4194304) (by omega)
  exact aux3 r _ hr a1
 -- unitN is pi/halfN*2^84,rounded down
 have u1:unitN*(halfN*W256)≤piN*(W62*4194304):=by decide +kernel
 have u2:piN*(W62*4194304)≤(unitN+1)*(halfN*W256):=by decide +kernel
 have k1:=aux1 (c:=4194304) h1 u1 (Nat.succ_pos _)
 have k2:=aux2 (c:=4194304) h2 u2 (Nat.succ_pos _)
 have g1:=natR k1
 have g2:=natR k2
 have hx:=xi_mul r
 rw[Rat.natCast_mul (r*piN),←hx,Rat.natCast_mul (radQ r)] at g1
 rw[Rat.natCast_mul (r*piN),←hx,Rat.natCast_mul (radQ r+2),Rat.natCast_add] at g2
 have hw:((W62:Nat):Rat)*q62=1:=q62_w
 have hH:(0:Rat)<((halfN*W256:Nat):Rat):=by decide +kernel
 have he:=Rat.le_of_lt q62_pos
 have j1:=Rat.mul_le_mul_of_nonneg_right g1 he
 have j2:=Rat.mul_le_mul_of_nonneg_right g2 he
 have h22:((2:Nat):Rat)=2:=rfl
 rw[h22] at j2
 clear g1 g2 k1 k2 u1 u2 h1 h2 hx
 generalize q62=e at *
 generalize ((W62:Nat):Rat)=w at *
 generalize ((halfN*W256:Nat):Rat)=H at *
 generalize xi r=x at *
 generalize (radQ r:Rat)=r at *
 have e1:x*H*w*e=x*(w*e)*H:=by grind
 rw[e1,hw] at j1 j2
 exact⟨Rat.le_of_mul_le_mul_right (c:=H) (by grind) hH,Rat.le_of_mul_le_mul_right (c:=H) (by grind) hH⟩
theorem sqQ_R {r:Nat} (hr:r≤2700000):xi r*xi r-7*q62≤(hi62 (radQ r) (radQ r):Rat)*q62∧(hi62 (radQ r) (radQ r):Rat)*q62≤xi r*xi r:=by
 obtain⟨r1,r2⟩:=radQ_R hr
 obtain⟨m1,m2⟩:=hi62_R (radQ r) (radQ r)
 have x0:=xi_nn r
 have x1:=xi_le hr
 have he:=Rat.le_of_lt q62_pos
 have rn:0≤(radQ r:Rat)*q62:=Rat.mul_nonneg Rat.natCast_nonneg he
 have s1:=sq_le rn r1
 have a1:=Rat.mul_le_mul_of_nonneg_left r2 x0
 have a2:=Rat.mul_le_mul_of_nonneg_right r2 rn
 have a3:=Rat.mul_le_mul_of_nonneg_right x1 he
 have a4:=Rat.mul_le_mul_of_nonneg_right (Rat.le_trans r1 x1) he
 exact⟨by grind,by grind⟩
theorem term_step {t s h t' d θ z e:Rat} (he:0<e) (he1:e≤1/1000000) (hd:2≤d) (hz0:0≤z) (hz1:z≤617/1000) (hs0:0≤s) (hs1:s≤z) (hs2:z-7*e≤s) (ht:0≤t) (h0:0≤θ) (h1:θ≤1) (e1:t-θ≤9*e) (e2:θ-t≤9*e)
  (hh1:h≤t*s) (hh2:t*s≤h+3*e) (hq1:t'*d≤h) (hq2:h≤t'*d+e*d):t'-θ*(z/d)≤9*e∧θ*(z/d)-t'≤9*e:=by
 have hd0:0<d:=by grind
 obtain⟨r1,r2,r3⟩:=quo_bd hz0 hd
 have b1:=Rat.mul_le_mul_of_nonneg_left hs1 ht
 have b2:=Rat.mul_le_mul_of_nonneg_right e1 hz0
 have b3:=Rat.mul_le_mul_of_nonneg_right hz1 (Rat.le_of_lt he)
 have b4:=Rat.mul_le_mul_of_nonneg_right e2 hs0
 have b5:=Rat.mul_le_mul_of_nonneg_left hs2 h0
 have b6:=Rat.mul_le_mul_of_nonneg_right h1 (Rat.le_of_lt he)
 have b7:=Rat.mul_le_mul_of_nonneg_right hs1 (Rat.le_of_lt he)
 have b8:=Rat.mul_le_mul_of_nonneg_left hd (Rat.le_of_lt he)
 have e3:θ*(z/d)*d=θ*z:=by grind
 refine⟨Rat.le_of_mul_le_mul_right (c:=d) ?_ hd0,Rat.le_of_mul_le_mul_right (c:=d) ?_ hd0⟩
 ·grind
 ·grind
theorem tq_R {o r:Nat} (ho:o≤1) (hr:r≤2700000):∀i,(tq o (radQ r) (hi62 (radQ r) (radQ r)) i:Rat)*q62-tm o (xi r) i≤9*q62∧tm o (xi r) i-(tq o (radQ r) (hi62 (radQ r) (radQ r)) i:Rat)*q62≤9*q62
 |0=>by
  obtain⟨r1,r2⟩:=radQ_R hr
  have he:=q62_pos
  match o,ho with
  |0,_ =>
   rw[show tq 0 (radQ r) (hi62 (radQ r) (radQ r)) 0=W62 from if_neg (by decide),show tm 0 (xi r) 0=1 from if_neg (by decide)]
   have hw:((W62:Nat):Rat)*q62=1:=q62_w
   rw[hw]
   exact⟨by grind,by grind⟩
  |1,_ =>
   rw[show tq 1 (radQ r) (hi62 (radQ r) (radQ r)) 0=radQ r from if_pos rfl,show tm 1 (xi r) 0=xi r from if_pos rfl]
   exact⟨by grind,by grind⟩
 |i+1=>by
  obtain⟨e1,e2⟩:=tq_R ho hr i
  obtain⟨s1,s2⟩:=sqQ_R hr
  have x0:=xi_nn r
  have x1:=xi_le hr
  have x2:=xi_sq hr
  have he:=Rat.le_of_lt q62_pos
  obtain⟨m1,m2⟩:=hi62_R (tq o (radQ r) (hi62 (radQ r) (radQ r)) i) (hi62 (radQ r) (radQ r))
  obtain⟨g1,g2⟩:=quo_Q (y:=hi62 (tq o (radQ r) (hi62 (radQ r) (radQ r)) i) (hi62 (radQ r) (radQ r))) (d:=dd o i) (by have:=dd_ge o i;omega)
  exact term_step q62_pos q62_small (dd_geR o i) (Rat.mul_nonneg x0 x0) x2 (Rat.mul_nonneg Rat.natCast_nonneg he) s2 s1 (Rat.mul_nonneg Rat.natCast_nonneg he) (tm_nn x0 i) (tm_le x0 x2 (by grind) i) e1 e2 m1 m2 g1 g2
theorem sq_R {t:Nat→Nat} {o:Nat} {x:Rat} (h:∀i,(t i:Rat)*q62-tm o x i≤9*q62∧tm o x i-(t i:Rat)*q62≤9*q62):∀m k,(sq t k m:Rat)*q62-sa o x k m≤9*(m:Rat)*q62∧sa o x k m-(sq t k m:Rat)*q62≤9*(m:Rat)*q62
 |0,k=>by
  have e0:((0:Nat):Rat)=0:=rfl
  have e1:((0:Int):Rat)=0:=rfl
  simp only[sq,sa,e0,e1]
  exact⟨by grind,by grind⟩
 |m+1,k=>by
  obtain⟨h1,h2⟩:=sq_R h m (k+1)
  obtain⟨g1,g2⟩:=h k
  have e1:((1:Nat):Rat)=1:=rfl
  simp only[sq,sa,Rat.intCast_sub,Rat.intCast_natCast,Rat.natCast_add,e1]
  exact⟨by grind,by grind⟩
theorem tm_small {o r:Nat} (ho:o≤1) (hr:r≤2700000):tm o (xi r) 12≤q62:=by
 have x0:=xi_nn r
 have x2:=xi_sq hr
 have xx:=Rat.mul_nonneg x0 x0
 -- each term is at most 617/1000/d of the one before
 have step:∀i (b c:Rat),tm o (xi r) i≤b→b*(617/1000)≤c*(dd o i:Rat)→tm o (xi r) (i+1)≤c:=fun i b c hb hc=>by
  obtain⟨r1,r2,r3⟩:=quo_bd xx (dd_geR o i)
  have hd0:(0:Rat)<(dd o i:Rat):=by have:=dd_geR o i;grind
  have ht:=tm_nn (o:=o) x0 i
  refine Rat.le_of_mul_le_mul_right (c:=(dd o i:Rat)) ?_ hd0
  have e:tm o (xi r) (i+1)*(dd o i:Rat)=tm o (xi r) i*(xi r*xi r):=by
   show tm o (xi r) i*(xi r*xi r/(dd o i:Rat))*(dd o i:Rat)=_
   grind
  rw[e]
  have a1:=Rat.mul_le_mul_of_nonneg_left x2 ht
  have a2:=Rat.mul_le_mul_of_nonneg_right hb (show (0:Rat)≤617/1000 by decide +kernel)
  grind
 have t0:tm o (xi r) 0≤1:=tm_le x0 x2 (by have:=xi_le hr;grind) 0
 match o,ho with
 |0,_ =>
  have t1:=step 0 1 (31/100) t0 (by decide +kernel)
  have t2:=step 1 _ (2/100) t1 (by decide +kernel)
  have t3:=step 2 _ (1/1000) t2 (by decide +kernel)
  have t4:=step 3 _ (1/50000) t3 (by decide +kernel)
  have t5:=step 4 _ (1/5000000) t4 (by decide +kernel)
  have t6:=step 5 _ (1/1000000000) t5 (by decide +kernel)
  have t7:=step 6 _ (1/200000000000) t6 (by decide +kernel)
  have t8:=step 7 _ (1/50000000000000) t7 (by decide +kernel)
  have t9:=step 8 _ (1/20000000000000000) t8 (by decide +kernel)
  have t10:=step 9 _ (1/10000000000000000000) t9 (by decide +kernel)
  have t11:=step 10 _ (1/5000000000000000000000) t10 (by decide +kernel)
  exact step 11 _ _ t11 (by decide +kernel)
 |1,_ =>
  have t1:=step 0 1 (31/100) t0 (by decide +kernel)
  have t2:=step 1 _ (2/100) t1 (by decide +kernel)
  have t3:=step 2 _ (1/1000) t2 (by decide +kernel)
  have t4:=step 3 _ (1/50000) t3 (by decide +kernel)
  have t5:=step 4 _ (1/5000000) t4 (by decide +kernel)
  have t6:=step 5 _ (1/1000000000) t5 (by decide +kernel)
  have t7:=step 6 _ (1/200000000000) t6 (by decide +kernel)
  have t8:=step 7 _ (1/50000000000000) t7 (by decide +kernel)
  have t9:=step 8 _ (1/20000000000000000) t8 (by decide +kernel)
  have t10:=step 9 _ (1/10000000000000000000) t9 (by decide +kernel)
  have t11:=step 10 _ (1/5000000000000000000000) t10 (by decide +kernel)
  exact step 11 _ _ t11 (by decide +kernel)
theorem quickF_R {o r:Nat} (ho:o≤1) (hr:r≤2700000):(quickF o r:Rat)*q62-TT o r≤110*q62∧TT o r-(quickF o r:Rat)*q62≤110*q62:=by
 obtain⟨h1,h2⟩:=sq_R (tq_R ho hr) 12 0
 obtain⟨g1,g2⟩:=sa_more (o:=o) (xi_nn r) (xi_sq hr) 23 12 0
 have hs:=tm_small ho hr
 have e:((12:Nat):Rat)=12:=rfl
 rw[e] at h1 h2
 have eT:TT o r=sa o (xi r) 0 (12+23):=rfl
 rw[Nat.zero_add] at g1 g2
 rw[eT]
 unfold quickF
 exact⟨by grind,by grind⟩
end Go.Proofs.YtjmdeplmenbmmaaGreat.TT
