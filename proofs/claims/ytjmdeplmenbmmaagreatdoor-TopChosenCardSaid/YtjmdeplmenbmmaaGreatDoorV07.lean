/- Joined texts: Gca, AsnP, TriQ, Gcb, Gcc, Gcd, Gce, Gcf, Gcg, Atc, Atd, Ate. -/
import Derived.Test.YtjmdeplmenbmmaaGreatDoorV06
import Derived.Test.YtjmdeplmenbmmaaGreatDoorV04
set_option linter.unusedVariables false
namespace Go.Proofs.YtjmdeplmenbmmaaGreatDoor.TT
/-! ### roots -/
theorem isq:∀N:Nat,∃n:Nat,n*n≤N∧N<(n+1)*(n+1)
 |0=>⟨0,by decide,by decide⟩
 |N+1=>by
  obtain⟨n,h1,h2⟩:=isq N
  by_cases h:(n+1)*(n+1)≤N+1
  ·refine⟨n+1,h,?_⟩
   have e:(n+1+1)*(n+1+1)=(n+1)*(n+1)+2*n+3:=by grind
   omega
  ·exact⟨n,by omega,by omega⟩
theorem root_R {r:Rat} (hr:0≤r) (M:Nat) (hM:0<M):∃f g:Rat,0≤f∧f*f≤r∧r≤g*g∧(g-f)*(M:Rat)=1:=by
 have hMR:(0:Rat)<(M:Rat):=by have:=natRlt hM;exact this
 have hx:0≤r*((M:Rat)*(M:Rat)):=Rat.mul_nonneg hr (Rat.mul_nonneg (Rat.le_of_lt hMR) (Rat.le_of_lt hMR))
 have f1:=Rat.floor_le (r*((M:Rat)*(M:Rat)))
 have f2:=Rat.lt_floor_add_one (r*((M:Rat)*(M:Rat)))
 have f0:0≤(r*((M:Rat)*(M:Rat))).floor:=Rat.le_floor_iff.2 hx
 generalize (r*((M:Rat)*(M:Rat))).floor=N at *
 obtain⟨K,rfl⟩:=nat_of f0
 obtain⟨n,n1,n2⟩:=isq K
 have g1:=natR n1
 have g2:=natR n2
 rw[Rat.natCast_mul] at g1
 have e1:((K+1:Nat):Rat)=(K:Rat)+1:=by rw[Rat.natCast_add];rfl
 have e2:(((n+1)*(n+1):Nat):Rat)=((n:Rat)+1)*((n:Rat)+1):=by rw[Rat.natCast_mul,Rat.natCast_add];rfl
 have e3:(((K:Int)+1:Int):Rat)=(K:Rat)+1:=by rw[Rat.intCast_add,Rat.intCast_natCast];rfl
 have e4:(((K:Nat):Int):Rat)=(K:Rat):=Rat.intCast_natCast _
 rw[e3] at f2
 rw[e4] at f1
 rw[show K.succ=K+1 from rfl,e1,e2] at g2
 have hn0:(0:Rat)≤(n:Rat):=Rat.natCast_nonneg
 have d1:(n:Rat)/(M:Rat)*(M:Rat)=(n:Rat):=Rat.div_mul_cancel (by grind)
 have d2:((n:Rat)+1)/(M:Rat)*(M:Rat)=(n:Rat)+1:=Rat.div_mul_cancel (by grind)
 have hMM:=Rat.mul_pos hMR hMR
 refine⟨(n:Rat)/(M:Rat),((n:Rat)+1)/(M:Rat),?_,?_,?_,?_⟩
 ·refine Rat.le_of_mul_le_mul_right (c:=(M:Rat)) ?_ hMR
  rw[d1];grind
 ·refine Rat.le_of_mul_le_mul_right (c:=(M:Rat)*(M:Rat)) ?_ hMM
  generalize (n:Rat)/(M:Rat)=q at *
  have e:q*q*((M:Rat)*(M:Rat))=q*(M:Rat)*(q*(M:Rat)):=by grind
  rw[e,d1]
  exact Rat.le_trans g1 f1
 ·refine Rat.le_of_mul_le_mul_right (c:=(M:Rat)*(M:Rat)) ?_ hMM
  generalize ((n:Rat)+1)/(M:Rat)=q at *
  have e:q*q*((M:Rat)*(M:Rat))=q*(M:Rat)*(q*(M:Rat)):=by grind
  rw[e,d2]
  exact Rat.le_trans (Rat.le_of_lt f2) g2
 ·generalize ((n:Rat)+1)/(M:Rat)=q at *
  generalize (n:Rat)/(M:Rat)=z at *
  grind
/-! ### the program's great circles -/
def subE (p q:Int×Int):Int×Int:=(p.1-q.2,p.2-q.1)
def gdS (a:Int) (D K:Int×Int):Int×Int:=addE (mulE (encl a a) (cosE D.1 D.2)) (mulE (mulE (cosE a a) (encl D.1 D.2)) (cosE K.1 K.2))
def meetO (p:Int×Int):Int×Int:=(max p.1 (-1073741824),min p.2 1073741824)
theorem sub_enc {p q:Int×Int} {x y d e:Rat} (hp:Enc p x d) (hq:Enc q y e):Enc (subE p q) (x-y) (d+e):=by
 obtain⟨x',a1,a2,n1,n2⟩:=hp
 obtain⟨y',b1,b2,k1,k2⟩:=hq
 refine⟨x'-y',?_,?_,by grind,by grind⟩
 ·show ((p.1-q.2:Int):Rat)≤_
  rw[Rat.intCast_sub];grind
 ·show _≤((p.2-q.1:Int):Rat)
  rw[Rat.intCast_sub];grind
abbrev ok8 (n:Int):Prop:=-100000000≤n∧n≤100000000
theorem dB_nn:(0:Rat)≤dB:=by decide +kernel
theorem bnd_south:(bnd (-5400000)).2 = -1073741824:=by decide +kernel
theorem asin_upto {v:Int} (h : -1073741824≤v):∀k:Nat,k≤10800000→∃n:Int,-5400000≤n∧n≤-5400000+k∧(bnd n).2≤v∧∀m:Int,n<m→m≤-5400000+k→v<(bnd m).2
 |0,_=>⟨-5400000,by omega,by omega,by rw[bnd_south];exact h,fun m a b=>by omega⟩
 |k+1,hk=>by
  obtain⟨n,a,b,c,d⟩:=asin_upto h k (by omega)
  by_cases hc:(bnd (-5400000+(k+1:Nat))).2≤v
  ·exact⟨-5400000+(k+1:Nat),by omega,by omega,hc,fun m x y=>by omega⟩
  ·refine⟨n,a,by omega,c,fun m x y=>?_⟩
   by_cases hm:m≤-5400000+(k:Int)
   ·exact d m x hm
   ·rw[show m = -5400000+((k+1:Nat):Int) by omega];omega
theorem asin_ex {v:Int} (h : -1073741824≤v):∃n,IsAsin v n:=by
 obtain⟨n,a,b,c,d⟩:=asin_upto h 10800000 (by omega)
 exact⟨n,a,by omega,c,fun m x y=>d m x (by omega)⟩
theorem asin_iff {v n m:Int} (h:IsAsin v n) (h0 : -5400000≤m) (h1:m≤5400000):(bnd m).2≤v↔m≤n:=by
 obtain⟨a,b,c,d⟩:=h
 constructor
 ·intro g
  exact Int.not_lt.1 fun hlt=>by have:=d m hlt h1;omega
 ·intro g
  have:=(bnd_mono h0 g b).1
  omega
end Go.Proofs.YtjmdeplmenbmmaaGreatDoor.TT
set_option linter.unusedVariables false
namespace Go.Proofs.YtjmdeplmenbmmaaGreatDoor.TT
theorem sq_sub {x x' d:Rat} (hx : -1≤x∧x≤1) (h:Near x x' d) (hd:0≤d) (hd1:d≤1):Near (x*x) (x'*x') (3*d):=by
 obtain⟨h1,h2⟩:=h
 have m1:=mul_abs (d:=d) hx.1 hx.2 (e:=x-x') (by grind) (by grind)
 have m2:=mul_abs (d:=d) (a:=(x'-x)) (by grind) (by grind) (e:=x-x') (by grind) (by grind)
 constructor
 ·have:x*x-x'*x'=2*(x*(x-x'))+(x'-x)*(x-x'):=by grind
  grind
 ·have:x'*x'-x*x = -(2*(x*(x-x'))+(x'-x)*(x-x')):=by grind
  grind
theorem mul_enc2 {p q:Int×Int} {x y d e:Rat} (hp:Enc p x d) (hq:Enc q y e) (hd:0≤d) (he:0≤e) (bp : -1073741824≤p.1∧p.2≤1073741824) (hy : -2≤y∧y≤2):Enc (mulE p q) (x*y) (2*d+e):=by
 -- half of the second factor
 obtain⟨x',a1,a2,n1,n2⟩:=hp
 obtain⟨y',b1,b2,k1,k2⟩:=hq
 have h0:Enc (mulE p q) (x'*y') 0:=by
  have:=mul_enc (p:=p) (q:=q) (x:=x') (y:=y') (d:=0) (e:=0) ⟨x',a1,a2,by grind,by grind⟩ ⟨y',b1,b2,by grind,by grind⟩ Rat.le_refl Rat.le_refl bp
  by_cases hy1 : -1≤y'∧y'≤1
  ·have:=this hy1
   rw[Rat.add_zero] at this
   exact this
  ·-- the proof does not lean on the bound
   refine⟨x'*y',?_,?_,by grind,by grind⟩
   ·have h:=(corner a1 a2 b1 b2 ((min (min (p.1*q.1) (p.1*q.2)) (min (p.2*q.1) (p.2*q.2)):Int):Rat) ((max (max (p.1*q.1) (p.1*q.2)) (max (p.2*q.1) (p.2*q.2)):Int):Rat)
     (by rw[←Rat.intCast_mul,←Rat.intCast_mul,←Rat.intCast_mul,←Rat.intCast_mul];exact⟨Rat.intCast_le_intCast.2 (by omega),Rat.intCast_le_intCast.2 (by omega),Rat.intCast_le_intCast.2 (by omega),Rat.intCast_le_intCast.2 (by omega)⟩)
     (by rw[←Rat.intCast_mul,←Rat.intCast_mul,←Rat.intCast_mul,←Rat.intCast_mul];exact⟨Rat.intCast_le_intCast.2 (by omega),Rat.intCast_le_intCast.2 (by omega),Rat.intCast_le_intCast.2 (by omega),Rat.intCast_le_intCast.2 (by omega)⟩)).1
    have e:oR*x'*(oR*y')=oR*(oR*(x'*y')):=by grind
    rw[e] at h
    exact floor_le_R h
   ·have h:=(corner a1 a2 b1 b2 ((min (min (p.1*q.1) (p.1*q.2)) (min (p.2*q.1) (p.2*q.2)):Int):Rat) ((max (max (p.1*q.1) (p.1*q.2)) (max (p.2*q.1) (p.2*q.2)):Int):Rat)
     (by rw[←Rat.intCast_mul,←Rat.intCast_mul,←Rat.intCast_mul,←Rat.intCast_mul];exact⟨Rat.intCast_le_intCast.2 (by omega),Rat.intCast_le_intCast.2 (by omega),Rat.intCast_le_intCast.2 (by omega),Rat.intCast_le_intCast.2 (by omega)⟩)
     (by rw[←Rat.intCast_mul,←Rat.intCast_mul,←Rat.intCast_mul,←Rat.intCast_mul];exact⟨Rat.intCast_le_intCast.2 (by omega),Rat.intCast_le_intCast.2 (by omega),Rat.intCast_le_intCast.2 (by omega),Rat.intCast_le_intCast.2 (by omega)⟩)).2
    have e:oR*x'*(oR*y')=oR*(oR*(x'*y')):=by grind
    rw[e] at h
    have h2:=floor_le_R (m:=-(max (max (p.1*q.1) (p.1*q.2)) (max (p.2*q.1) (p.2*q.2)))) (x:=-(oR*(x'*y'))) (by rw[Rat.intCast_neg];grind)
    show oR*(x'*y')≤((-(-(max (max (p.1*q.1) (p.1*q.2)) (max (p.2*q.1) (p.2*q.2)))/1073741824):Int):Rat)
    rw[Rat.intCast_neg]
    grind
 have l1:=Rat.intCast_le_intCast.2 bp.1
 have l2:=Rat.intCast_le_intCast.2 bp.2
 have e2:((1073741824:Int):Rat)=1073741824:=rfl
 rw[Rat.intCast_neg,e2] at l1
 rw[e2] at l2
 have x1 : -1≤x':=by refine Rat.le_of_mul_le_mul_left (c:=oR) ?_ oR_pos;clear h0;grind
 have x2:x'≤1:=by refine Rat.le_of_mul_le_mul_left (c:=oR) ?_ oR_pos;clear h0;grind
 obtain⟨z,z1,z2,z3,z4⟩:=h0
 have m1:=mul_abs (a:=y/2) (d:=d) (by grind) (by grind) (e:=x-x') (by grind) (by grind)
 have m2:=mul_abs (d:=e) x1 x2 (e:=y-y') (by grind) (by grind)
 exact⟨z,z1,z2,by grind,by grind⟩
theorem all_enc {q:Int×Int} {t z d e:Rat} (h:Enc q t d) (h1:z≤t+e) (h2 : -z≤t+e) (hde:0≤d+e):Enc (mulE q (-1073741824,1073741824)) z (d+e):=by
 obtain⟨t',a1,a2,n1,n2⟩:=h
 have up:∀m:Int,(m=q.1∨m = -q.1∨m=q.2∨m = -q.2)→m≤(mulE q (-1073741824,1073741824)).2∧(mulE q (-1073741824,1073741824)).1≤m:=fun m hm=>by
  unfold mulE
  dsimp only
  omega
 have g:=oR_pos
 generalize mulE q (-1073741824,1073741824)=r at *
 have u1:=Rat.intCast_le_intCast.2 (up _ (Or.inl rfl)).1
 have u2:=Rat.intCast_le_intCast.2 (up _ (Or.inr (Or.inl rfl))).1
 have u3:=Rat.intCast_le_intCast.2 (up _ (Or.inr (Or.inr (Or.inl rfl)))).1
 have v1:=Rat.intCast_le_intCast.2 (up _ (Or.inl rfl)).2
 have v2:=Rat.intCast_le_intCast.2 (up _ (Or.inr (Or.inr (Or.inr rfl)))).2
 have v3:=Rat.intCast_le_intCast.2 (up _ (Or.inr (Or.inr (Or.inl rfl)))).2
 have v4:=Rat.intCast_le_intCast.2 (up _ (Or.inr (Or.inl rfl))).2
 have u4:=Rat.intCast_le_intCast.2 (up _ (Or.inr (Or.inr (Or.inr rfl)))).1
 rw[Rat.intCast_neg] at u2 v2 v4 u4
 clear up
 -- the ends
 have r1:oR*t'≤(r.2:Rat):=Rat.le_trans a2 u3
 have r2:oR * -t'≤(r.2:Rat):=by grind
 have r3:(r.1:Rat)≤oR*t':=Rat.le_trans v1 a1
 have r4:(r.1:Rat)≤oR * -t':=by grind
 rcases Rat.nonneg_total t' with ht|ht
 ·rcases Rat.le_total (a:=z) (b:=t') with k|k
  ·rcases Rat.le_total (a:=-t') (b:=z) with k'|k'
   ·have p1:=Rat.mul_le_mul_of_nonneg_left k (Rat.le_of_lt g)
    have p2:=Rat.mul_le_mul_of_nonneg_left k' (Rat.le_of_lt g)
    exact⟨z,Rat.le_trans r4 p2,Rat.le_trans p1 r1,by grind,by grind⟩
   ·exact⟨-t',r4,r2,by grind,by grind⟩
  ·exact⟨t',r3,r1,by grind,by grind⟩
 ·rcases Rat.le_total (a:=z) (b:=-t') with k|k
  ·rcases Rat.le_total (a:=t') (b:=z) with k'|k'
   ·have p1:=Rat.mul_le_mul_of_nonneg_left k (Rat.le_of_lt g)
    have p2:=Rat.mul_le_mul_of_nonneg_left k' (Rat.le_of_lt g)
    exact⟨z,Rat.le_trans r3 p2,Rat.le_trans p1 r2,by grind,by grind⟩
   ·exact⟨t',r3,r1,by grind,by grind⟩
  ·exact⟨-t',r4,r2,by grind,by grind⟩
/-! ### the sine of the distance -/
theorem cosE_all:cosE 0 21600000=(-1073741824,1073741824):=by
 have m1:meetsI 5400000 27000000 16200000=true:=by decide
 have m2:meetsI 5400000 27000000 5400000=true:=by decide
 unfold cosE encl
 rw[show (0:Int)+5400000=5400000 by omega,show (21600000:Int)+5400000=27000000 by omega,if_pos m1,if_pos m2]
theorem C_nn {a:Int} (ha : -5400000<a∧a<5400000):u7/2≤C a:=by
 by_cases h:0≤a
 ·exact C_low h (by omega)
 ·have:=C_low (k:=-a) (by omega) (by omega)
  rwa [C_neg] at this
end Go.Proofs.YtjmdeplmenbmmaaGreatDoor.TT
set_option linter.unusedVariables false
namespace Go.Proofs.YtjmdeplmenbmmaaGreatDoor.TT
theorem meet_enc {p:Int×Int} {x d:Rat} (hp:p.1≤p.2) (he:Enc p x d) (hx : -1≤x∧x≤1) (hd0:0≤d) (hd:oR*d<1):((meetO p).1≤(meetO p).2∧-1073741824≤(meetO p).1∧(meetO p).2≤1073741824)∧Enc (meetO p) x d:=by
 obtain⟨y,a,b,n1,n2⟩:=he
 have e2:((1073741824:Int):Rat)=1073741824:=rfl
 have e4:((-1073741824:Int):Rat) = -1073741824:=rfl
 have g:=oR_pos
 have y1:oR*y≤oR*x+oR*d:=by have:=Rat.mul_le_mul_of_nonneg_left n2 (Rat.le_of_lt g);grind
 have y2:oR*x-oR*d≤oR*y:=by have:=Rat.mul_le_mul_of_nonneg_left n1 (Rat.le_of_lt g);grind
 have lo1:p.1≤1073741824:=by
  have:(p.1:Rat)<((1073741825:Int):Rat):=by
   have e3:((1073741825:Int):Rat)=1073741825:=rfl
   rw[e3];grind
  have:=Rat.intCast_lt_intCast.1 this
  omega
 have hi0 : -1073741824≤p.2:=by
  have:((-1073741825:Int):Rat)<(p.2:Rat):=by
   have e3:((-1073741825:Int):Rat) = -1073741825:=rfl
   rw[e3];grind
  have:=Rat.intCast_lt_intCast.1 this
  omega
 refine⟨by unfold meetO;dsimp only;omega,?_⟩
 have l1:=Rat.intCast_le_intCast.2 lo1
 have h1:=Rat.intCast_le_intCast.2 hi0
 rw[e2] at l1
 rw[e4] at h1
 have m1:((meetO p).1:Rat)≤oR*y∨((meetO p).1:Rat) = -1073741824:=by
  unfold meetO
  dsimp only
  rcases Int.le_total p.1 (-1073741824) with h|h
  ·rw[Int.max_eq_right h];exact Or.inr e4
  ·rw[Int.max_eq_left h];exact Or.inl a
 have m2:oR*y≤((meetO p).2:Rat)∨((meetO p).2:Rat)=1073741824:=by
  unfold meetO
  dsimp only
  rcases Int.le_total p.2 1073741824 with h|h
  ·rw[Int.min_eq_left h];exact Or.inl b
  ·rw[Int.min_eq_right h];exact Or.inr e2
 have m3:((meetO p).1:Rat)≤1073741824:=by
  have:(meetO p).1≤1073741824:=by unfold meetO;dsimp only;omega
  have:=Rat.intCast_le_intCast.2 this
  rwa [e2] at this
 have m4 : -1073741824≤((meetO p).2:Rat):=by
  have : -1073741824≤(meetO p).2:=by unfold meetO;dsimp only;omega
  have:=Rat.intCast_le_intCast.2 this
  rwa [e4] at this
 have m5 : -1073741824≤((meetO p).1:Rat):=by
  have : -1073741824≤(meetO p).1:=by unfold meetO;dsimp only;omega
  have:=Rat.intCast_le_intCast.2 this
  rwa [e4] at this
 have m6:((meetO p).2:Rat)≤1073741824:=by
  have:(meetO p).2≤1073741824:=by unfold meetO;dsimp only;omega
  have:=Rat.intCast_le_intCast.2 this
  rwa [e2] at this
 rcases Rat.le_total (a:=y) (b:=-1) with k|k
 ·have:=Rat.mul_le_mul_of_nonneg_left k (Rat.le_of_lt g)
  exact⟨-1,by grind,by grind,by grind,by grind⟩
 rcases Rat.le_total (a:=1) (b:=y) with k'|k'
 ·have:=Rat.mul_le_mul_of_nonneg_left k' (Rat.le_of_lt g)
  exact⟨1,by grind,by grind,by grind,by grind⟩
 ·have q1:=Rat.mul_le_mul_of_nonneg_left k (Rat.le_of_lt g)
  have q2:=Rat.mul_le_mul_of_nonneg_left k' (Rat.le_of_lt g)
  exact⟨y,by rcases m1 with m|m<;>grind,by rcases m2 with m|m<;>grind,by grind,by grind⟩
end Go.Proofs.YtjmdeplmenbmmaaGreatDoor.TT
set_option linter.unusedVariables false
namespace Go.Proofs.YtjmdeplmenbmmaaGreatDoor.TT
theorem bnd_bot:(bnd 16200000).1 = -1073741824:=by decide +kernel
theorem bnd_top:(bnd 5400000).2=1073741824:=by decide +kernel
theorem encl_mono {lo hi l h:Int} (h0:l≤lo) (h1:hi≤h) (h2:lo≤hi):(encl l h).1≤(encl lo hi).1∧(encl lo hi).2≤(encl l h).2:=by
 have a1:=encl_any (lo:=l) (hi:=h) (n:=lo) h0 (by omega)
 have a2:=encl_any (lo:=l) (hi:=h) (n:=hi) (by omega) h1
 have mt:∀x:Int,meetsI lo hi x=true→∃k:Int,l≤x+21600000*k∧x+21600000*k≤h:=fun x hm=>by
  unfold meetsI turnI at hm
  have:=of_decide_eq_true hm
  exact⟨-((x-lo)/21600000),by omega,by omega⟩
 constructor
 ·show _≤(if meetsI lo hi 16200000=true then -1073741824 else min (bnd lo).1 (bnd hi).1)
  split
  ·rename_i hm
   obtain⟨k,k1,k2⟩:=mt _ hm
   have:=encl_any k1 k2
   rw[bnd_turn,bnd_bot] at this
   exact this.1
  ·omega
 ·show (if meetsI lo hi 5400000=true then 1073741824 else max (bnd lo).2 (bnd hi).2)≤_
  split
  ·rename_i hm
   obtain⟨k,k1,k2⟩:=mt _ hm
   have:=encl_any k1 k2
   rw[bnd_turn,bnd_top] at this
   exact this.2
  ·omega
theorem cosE_mono {lo hi l h:Int} (h0:l≤lo) (h1:hi≤h) (h2:lo≤hi):(cosE l h).1≤(cosE lo hi).1∧(cosE lo hi).2≤(cosE l h).2:=encl_mono (by omega) (by omega) (by omega)
abbrev d39:Rat:=1/((2^39:Nat):Rat)
abbrev d80:Rat:=1/((2^80:Nat):Rat)
theorem cos_up {s c z g e t:Rat} (u:c*c+s*s=1) (hs:0≤s∧s≤1) (hz : -(s+e)≤z∧z≤s+e) (he:0≤e) (he1:e≤1) (hg:0≤g) (hr:1-z*z≤g*g) (ht:0≤t) (het:3*e≤t*t):c≤g+t:=by
 refine le_of_sq (by grind) ?_
 have k1:=Rat.mul_nonneg (show 0≤s+e-z by grind) (show 0≤s+e+z by grind)
 have k2:=Rat.mul_nonneg hg ht
 have k3:=Rat.mul_nonneg he (show 0≤1-s by grind)
 have k4:=Rat.mul_nonneg he (show 0≤1-e by grind)
 grind
theorem cos_dn {s c z f e t:Rat} (u:c*c+s*s=1) (hs:0≤s∧s≤1) (hz:s-e≤z) (he:0≤e) (he1:e≤1) (hf:0≤f) (hr:f*f≤1-z*z) (hc:0≤c) (ht:0≤t) (het:3*e≤t*t):f≤c+t:=by
 refine le_of_sq (by grind) ?_
 have k2:=Rat.mul_nonneg hc ht
 have k3:=Rat.mul_nonneg he (show 0≤1-s by grind)
 have k4:=Rat.mul_nonneg he (show 0≤1-e by grind)
 have ee:=sq_nn e
 have zz:=sq_nn z
 rcases Rat.le_total (a:=s) (b:=e) with h|h
 ·have k5:=Rat.mul_nonneg (show 0≤e-s by grind) (show 0≤e+s by grind)
  grind
 ·have k1:=Rat.mul_nonneg (show 0≤z-(s-e) by grind) (show 0≤z+(s-e) by grind)
  grind
theorem cLow {n:Int} (h0 : -5400000≤n) (h1:n≤5400000) : -d150≤C n:=by
 have q:=quarter.1.1
 by_cases e:n=5400000
 ·rw[e];exact q
 by_cases e':n = -5400000
 ·rw[e',C_neg];exact q
 ·have c:=C_nn (a:=n) ⟨by omega,by omega⟩
  have hu:0≤u7/2:=by decide +kernel
  have hd:(0:Rat)≤d150:=by decide +kernel
  grind
theorem abs_c {c d:Rat} (h : -d≤c) (hd:0≤d):∃a:Rat,0≤a∧a*a=c*c∧a≤c+(d+d):=by
 rcases Rat.le_total (a:=0) (b:=c) with h|h
 ·exact⟨c,h,rfl,by grind⟩
 ·exact⟨-c,by grind,by grind,by grind⟩
theorem cos_encC {n M:Int} {z f g e:Rat} (h0 : -5400000≤n) (h1:n≤M) (h2:M≤5400000) (hM:0≤M) (hz0:S n≤z+e) (hz1:z≤S M+e) (hn1 : -z≤S (-n)+e) (he:0≤e) (he1:3*e≤d39*d39) (hf:0≤f) (hg:0≤g) (hr1:f*f≤1-z*z) (hr2:1-z*z≤g*g) (hfg:g≤f+d39):Enc (cosE n M) g (4*d39):=by
 have e1:e≤1:=by
  have:d39*d39≤1:=by decide +kernel
  grind
 have d0:(0:Rat)≤d39:=by decide +kernel
 have dd:dB+3*d39≤4*d39:=by decide +kernel
 have dd0:(0:Rat)≤3*d39:=by decide +kernel
 have dB0:(0:Rat)≤dB:=by decide +kernel
 have hq:d150+d150≤d39:=by decide +kernel
 have q0:(0:Rat)≤d150:=by decide +kernel
 have cn:=cos_encA (lo:=n) (hi:=M) (n:=n) (by omega) h1 ⟨by omega,by omega⟩
 have cM:=cos_encA (lo:=n) (hi:=M) (n:=M) h1 (by omega) ⟨by omega,by omega⟩
 have un:=unit n
 have uM:=unit M
 have sM:=S_nn (x:=M) hM (by omega)
 have sM1:=(S_abs M).2
 have lo:=cLow h0 (by omega:n≤5400000)
 generalize d150=q at *
 generalize hd39:d39=t at *
 generalize hB:dB=b at *
 rcases Int.lt_or_le 0 n with hn|hn
 ·have sn:=S_nn (x:=n) (by omega) (by omega)
  have sn1:=(S_abs n).2
  obtain⟨a,a0,a1,a2⟩:=abs_c lo q0
  have a3:C M≤g+t:=cos_up uM ⟨sM,sM1⟩ ⟨by grind,hz1⟩ he e1 hg hr2 d0 he1
  have a4:f≤a+t:=cos_dn (s:=S n) (z:=z) (e:=e) (by rw[a1];exact un) ⟨sn,sn1⟩ (by grind) he e1 hf hr1 a0 d0 he1
  refine(Enc.between cM cn dd0 dB0 ?_ ?_).mono dd
  ·grind
  ·grind
 ·have c0:=cos_encA (lo:=n) (hi:=M) (n:=0) hn hM ⟨by omega,by omega⟩
  rw[C_0] at c0
  have sn:=S_nn (x:=-n) (by omega) (by omega)
  have sn1:=(S_abs (-n)).2
  have un2:=unit (-n)
  rw[C_neg] at un2
  have f1:f≤1:=le_of_sq (by decide +kernel) (by have:=sq_nn z;grind)
  rw[hB] at c0
  rcases Rat.le_total (a:=0) (b:=z) with hz|hz
  ·have a3:C M≤g+t:=cos_up uM ⟨sM,sM1⟩ ⟨by grind,hz1⟩ he e1 hg hr2 d0 he1
   refine(Enc.between cM c0 dd0 dB0 ?_ ?_).mono dd
   ·grind
   ·grind
  ·have a3:C n≤g+t:=cos_up (z:=-z) un2 ⟨sn,sn1⟩ ⟨by grind,hn1⟩ he e1 hg (by grind) d0 he1
   refine(Enc.between cn c0 dd0 dB0 ?_ ?_).mono dd
   ·grind
   ·grind
abbrev d37:Rat:=4*d39
theorem lat_enc {v:Int×Int} {n m:Int} {z d f g:Rat} (h1:IsAsin v.1 n) (h2:IsAsin (-v.2) m) (hnm:n≤-m) (hz:Enc v z d) (hd0:0≤d) (hd:d≤d80/2) (hf:0≤f) (hg:0≤g) (hr1:f*f≤1-z*z) (hr2:1-z*z≤g*g) (hfg:g≤f+d39):Enc (encl n (-m)) z d37∧Enc (cosE n (-m)) g d37:=by
 obtain⟨n0,n1,n2,_⟩:=h1
 obtain⟨m0,m1,m2,_⟩:=h2
 obtain⟨z',z1,z2,k1,k2⟩:=hz
 have hn:=(bnd_holds (n:=n) (by omega) (by omega)).2
 have hm:=(bnd_holds (n:=m) (by omega) (by omega)).2
 have r1:=Rat.intCast_le_intCast.2 n2
 have r2:=Rat.intCast_le_intCast.2 m2
 rw[Rat.intCast_neg] at r2
 have hq:d100=oR*(d100/oR):=by decide +kernel
 have hq2:d80/2+d100/oR≤d80:=by decide +kernel
 have og:=oR_pos
 rw[hq] at hn hm
 generalize d100/oR=q at *
 have a1:S n≤z'+q:=Rat.le_of_mul_le_mul_left (c:=oR) (by grind) og
 have a2:S m≤-z'+q:=Rat.le_of_mul_le_mul_left (c:=oR) (by grind) og
 have b1:S n≤z+d80:=by grind
 have b2:z≤S (-m)+d80:=by rw[S_neg];grind
 have e3:3*d80≤d39*d39:=by decide +kernel
 have e0:(0:Rat)≤d80:=by decide +kernel
 clear hn hm r1 r2 hq hq2 a1 a2 z1 z2 k1 k2 n2 m2
 have sn:=sin_encA (lo:=n) (hi:=-m) (n:=n) (by omega) hnm ⟨by omega,by omega⟩
 have sM:=sin_encA (lo:=n) (hi:=-m) (n:=-m) hnm (by omega) ⟨by omega,by omega⟩
 refine⟨(Enc.between sn sM e0 dB_nn (by grind) b2).mono (by decide +kernel),?_⟩
 rcases Int.lt_or_le (-m) 0 with hM|hM
 ·have:=cos_encC (n:=m) (M:=-n) (z:=-z) (f:=f) (g:=g) (e:=d80) (by omega) (by omega) (by omega) (by omega) (by rw[S_neg] at b2;grind) (by rw[S_neg];grind) (by rw[Rat.neg_neg];exact b2) e0 e3 hf hg (by grind) (by grind) hfg
  rw[cosE_sym (by omega),Int.neg_neg] at this
  exact this
 ·exact cos_encC (n:=n) (M:=-m) (z:=z) (f:=f) (g:=g) (e:=d80) (by omega) hnm (by omega) hM b1 b2 (by rw[S_neg];grind) e0 e3 hf hg hr1 hr2 hfg
def atY (r K:Int×Int):Int×Int:=mulE (encl r.1 r.2) (encl K.1 K.2)
def atX (P:Int) (r K:Int×Int):Int×Int:=subE (mulE (cosE r.1 r.2) (cosE P P)) (mulE (mulE (encl r.1 r.2) (encl P P)) (cosE K.1 K.2))
def tz (P r k:Int):Rat:=S P*C r+C P*S r*C k
def tx (P r k:Int):Rat:=C r*C P-S r*S P*C k
def ty (r k:Int):Rat:=S r*S k
theorem ring_unit {sp cp sr cr sk ck:Rat} (u1:cp*cp+sp*sp=1) (u2:cr*cr+sr*sr=1) (u3:ck*ck+sk*sk=1) :
  (cr*cp-sr*sp*ck)*(cr*cp-sr*sp*ck)+sr*sk*(sr*sk)=1-(sp*cr+cp*sr*ck)*(sp*cr+cp*sr*ck):=by
 have e:(cr*cp-sr*sp*ck)*(cr*cp-sr*sp*ck)+(sp*cr+cp*sr*ck)*(sp*cr+cp*sr*ck)=(cp*cp+sp*sp)*(cr*cr)+(cp*cp+sp*sp)*(sr*sr*(ck*ck)):=by grind
 rw[u1] at e
 have e2:sr*sr*(ck*ck)+sr*sk*(sr*sk)=sr*sr*(ck*ck+sk*sk):=by grind
 rw[u3] at e2
 grind
theorem ring_back {sp cp sr cr ck:Rat} (u1:cp*cp+sp*sp=1):sp*(sp*cr+cp*sr*ck)+cp*(cr*cp-sr*sp*ck)=cr:=by
 have e:sp*(sp*cr+cp*sr*ck)+cp*(cr*cp-sr*sp*ck)=(cp*cp+sp*sp)*cr:=by grind
 rw[u1] at e
 grind
theorem txy (P r k:Int):tx P r k*tx P r k+ty r k*ty r k=1-tz P r k*tz P r k:=ring_unit (unit P) (unit r) (unit k)
theorem tback (P r k:Int):S P*tz P r k+C P*tx P r k=C r:=ring_back (unit P)
theorem unit3 {x y z:Rat} (h:x*x+y*y=1-z*z):(-1≤x∧x≤1)∧(-1≤y∧y≤1)∧(-1≤z∧z≤1):=by
 have xx:=sq_nn x
 have yy:=sq_nn y
 have zz:=sq_nn z
 refine⟨⟨?_,le_of_sq (by decide +kernel) (by grind)⟩,⟨?_,le_of_sq (by decide +kernel) (by grind)⟩,⟨?_,le_of_sq (by decide +kernel) (by grind)⟩⟩
 ·have:=le_of_sq (x:=-x) (y:=1) (by decide +kernel) (by grind)
  grind
 ·have:=le_of_sq (x:=-y) (y:=1) (by decide +kernel) (by grind)
  grind
 ·have:=le_of_sq (x:=-z) (y:=1) (by decide +kernel) (by grind)
  grind
theorem arch {a:Rat} (ha:0<a):∃M:Nat,0<M∧1≤(M:Rat)*a:=by
 have f1:=Rat.lt_floor_add_one (1/a)
 have hd:1/a*a=1:=Rat.div_mul_cancel (by grind)
 have h0:0≤1/a:=by
  refine Rat.le_of_mul_le_mul_right (c:=a) ?_ ha
  rw[hd];grind
 have f0:0≤(1/a).floor:=Rat.le_floor_iff.2 h0
 generalize (1/a).floor=N at *
 obtain⟨K,rfl⟩:=nat_of f0
 refine⟨K+1,Nat.succ_pos _,?_⟩
 have e4:(((K:Nat):Int):Rat)=(K:Rat):=Rat.intCast_natCast _
 rw[Rat.intCast_add,e4] at f1
 have e3:((K+1:Nat):Rat)=(K:Rat)+1:=by rw[Rat.natCast_add];rfl
 rw[e3]
 have m:=Rat.mul_le_mul_of_nonneg_right (Rat.le_of_lt f1) (Rat.le_of_lt ha)
 rw[hd] at m
 exact m
theorem root_rel {r a:Rat} (ha:0<a) (har:a*a≤r):∃f g:Rat,0<g∧0≤f∧f*f≤r∧r≤g*g∧g-f≤d142*g:=by
 have hd:(0:Rat)<d142:=by decide +kernel
 obtain⟨M,hM,h1⟩:=arch (Rat.mul_pos hd ha)
 have aa:=sq_nn a
 obtain⟨f,g,f0,f1,g1,fg⟩:=root_R (r:=r) (by grind) M hM
 have hMR:(0:Rat)<(M:Rat):=by have:=natRlt hM;exact this
 have gf:0<g-f:=by
  refine Rat.not_le.1 fun h=>?_
  have:=Rat.mul_le_mul_of_nonneg_right h (Rat.le_of_lt hMR)
  grind
 have ag:a≤g:=le_of_sq (by grind) (by grind)
 refine⟨f,g,by grind,f0,f1,g1,?_⟩
 refine Rat.le_of_mul_le_mul_right (c:=(M:Rat)) ?_ hMR
 rw[fg]
 have:=Rat.mul_le_mul_of_nonneg_left (Rat.mul_le_mul_of_nonneg_left ag (Rat.le_of_lt hd)) (Rat.le_of_lt hMR)
 grind
theorem inarc_pos {A:Int×Int} {x y:Rat} (h:InArc A x y):∃a:Rat,0<a∧a*a≤x*x+y*y:=by
 obtain⟨j,n,m,a,b,hq,ha,_⟩:=h
 have bb:=sq_nn b
 refine⟨a,ha,?_⟩
 have:a*a+b*b=x*x+y*y:=by
  rcases hq with ⟨_,rfl,rfl⟩|⟨_,rfl,rfl⟩|⟨_,rfl,rfl⟩|⟨_,rfl,rfl⟩<;>grind
 grind
theorem sq_near {x x' y y' d:Rat} (hx : -1≤x∧x≤1) (hy : -1≤y∧y≤1) (h:Near x x' d) (h':Near y y' d) (hd:0≤d) (hd1:d≤1):Near (x*x+y*y) (x'*x'+y'*y') (6*d):=by
 have a:=sq_sub hx h hd hd1
 have b:=sq_sub hy h' hd hd1
 obtain⟨a1,a2⟩:=a
 obtain⟨b1,b2⟩:=b
 exact⟨by grind,by grind⟩
theorem roots_near {r r' f g F G e t u:Rat} (f0:0≤f) (F0:0≤F) (f1:f*f≤r) (g1:r≤g*g) (F1:F*F≤r') (G1:r'≤G*G) (g0:0≤g) (G0:0≤G) (hr:Near r r' e) (ht:0≤t) (het:e≤t*t) (hfg:g-f≤u) (hFG:G-F≤u):Near g G (t+u):=by
 obtain⟨r1,r2⟩:=hr
 have k1:f≤G+t:=le_of_sq (by grind) (by have:=Rat.mul_nonneg G0 ht;grind)
 have k2:F≤g+t:=le_of_sq (by grind) (by have:=Rat.mul_nonneg g0 ht;grind)
 exact⟨by grind,by grind⟩
theorem enc_le {p q:Int×Int} {v d e:Rat} (hp:Enc p v d) (hq:Enc q v e) (h:oR*(d+e)<1):p.1≤q.2:=by
 obtain⟨x,a1,a2,n1,n2⟩:=hp
 obtain⟨y,b1,b2,k1,k2⟩:=hq
 have og:=oR_pos
 have hxy:x≤y+(d+e):=by grind
 have:=Rat.mul_le_mul_of_nonneg_left hxy (Rat.le_of_lt og)
 have e3:((1:Int):Rat)=1:=rfl
 have:(p.1:Rat)<((q.2+1:Int):Rat):=by
  rw[Rat.intCast_add,e3]
  grind
 have:=Rat.intCast_lt_intCast.1 this
 omega
theorem share {g G q x x' u d:Rat} (G0:0<G) (hq:q*G=x') (hx : -G≤x'∧x'≤G) (hg:Near g G u) (hxx:Near x x' d):(-1≤q∧q≤1)∧Near (g*q) x (u+d):=by
 have q1:q≤1:=Rat.le_of_mul_le_mul_right (c:=G) (by grind) G0
 have q0 : -1≤q:=Rat.le_of_mul_le_mul_right (c:=G) (by grind) G0
 obtain⟨g1,g2⟩:=hg
 obtain⟨x1,x2⟩:=hxx
 have m:=mul_abs (a:=q) (d:=u) q0 q1 (e:=g-G) (by grind) (by grind)
 have e:g*q-x=q*(g-G)+(x'-x):=by grind
 exact⟨⟨q0,q1⟩,by grind,by grind⟩
theorem near_mul {c x y u:Rat} (hc : -1≤c∧c≤1) (h:Near x y u):Near (c*x) (c*y) u:=by
 obtain⟨h1,h2⟩:=h
 have m:=mul_abs (a:=c) (d:=u) hc.1 hc.2 (e:=x-y) (by grind) (by grind)
 exact⟨by grind,by grind⟩
theorem at_cos {P:Int} {x A l w:Int×Int} {X Y x' y' f g dx:Rat} (hP : -5400000≤P∧P≤5400000) (hx:x.1≤P∧P≤x.2) (hA:A.1≤A.2) (hl1:l.1≤l.2) (hw0:0≤w.1) (hw1:w.2≤43200000)
  (hl:(cosE l.1 l.2).1≤(cosE w.1 w.2).1∧(cosE w.1 w.2).2≤(cosE l.1 l.2).2) (hf:0≤f) (hg:0≤g) (hr1:f*f≤X*X+Y*Y) (hr2:X*X+Y*Y≤g*g) (hfg:g-f≤d39) (hg2:g≤2) (hX : -1≤X∧X≤1) (hY : -1≤Y∧Y≤1)
  (ca:Enc (cosE A.1 A.2) g d37) (nx:Near X x' dx) (ny:Near Y y' dx) (hdx:0≤dx) (hdx1:dx≤d80/2) (hb:w=(0,21600000)∨InArc w (oR*x') (oR*y')) :
  Enc (mulE (mulE (cosE x.1 x.2) (cosE A.1 A.2)) (cosE l.1 l.2)) (C P*X) (4*d37):=by
 have cx:=cos_encA (lo:=x.1) (hi:=x.2) (n:=P) hx.1 hx.2 ⟨by omega,by omega⟩
 have o1:=cosE_ord (lo:=x.1) (hi:=x.2) (by omega)
 have o2:=cosE_ord hA
 have o3:=cosE_ord hl1
 have d0:(0:Rat)≤d37:=by decide +kernel
 have og:=oR_pos
 have p1:=mul_enc2 cx ca dB_nn d0 ⟨o1.1,o1.2.2⟩ ⟨by grind,hg2⟩
 have b1:=mulE_bd o1 o2
 have cP:=cLow hP.1 hP.2
 have cP1:=(C_abs P).2
 have cP0:=(C_abs P).1
 have yy:=sq_nn Y
 have Xg:X≤g:=le_of_sq hg (by grind)
 have Xg' : -X≤g:=le_of_sq hg (by grind)
 rcases hb with rfl|hin
 ·have e:cosE l.1 l.2=(-1073741824,1073741824):=by
   rw[cosE_all] at hl
   refine Prod.ext ?_ ?_
   ·have:=hl.1;dsimp only at this ⊢;omega
   ·have:=hl.2;dsimp only at this ⊢;omega
  rw[e]
  have h4:4*d150≤d37:=by decide +kernel
  have h5:(0:Rat)≤2*dB+d37+d37:=by decide +kernel
  have k1:=Rat.mul_nonneg (show 0≤C P+d150 by grind) (show 0≤g-X by grind)
  have k2:=Rat.mul_nonneg (show 0≤C P+d150 by grind) (show 0≤g+X by grind)
  have h6:(0:Rat)≤d150:=by decide +kernel
  have k3:=Rat.mul_nonneg h6 (show 0≤4-(g-X) by grind)
  have k4:=Rat.mul_nonneg h6 (show 0≤4-(g+X) by grind)
  refine(all_enc (e:=d37) p1 ?_ ?_ h5).mono (by decide +kernel)
  ·generalize d37=q at *
   grind
  ·generalize d37=q at *
   grind
 ·obtain⟨a,a0,a1⟩:=inarc_pos hin
  obtain⟨f',g',G0,F0,F1,G1,hGF⟩:=root_rel a0 a1
  have ae:=(arc_enc hw0 hw1 hin G0 F0 F1 G1 hGF).1.wide (q:=cosE l.1 l.2) hl.1 hl.2
  have hq:oR*x'/g'*g'=oR*x':=Rat.div_mul_cancel (by grind)
  generalize oR*x'/g'=q at *
  -- all in units
  have eG:g'/oR*oR=g':=Rat.div_mul_cancel (by grind)
  have eF:f'/oR*oR=f':=Rat.div_mul_cancel (by grind)
  generalize g'/oR=G at *
  generalize f'/oR=F at *
  have oo:=Rat.mul_pos og og
  have G0':0<G:=by
   refine Rat.not_le.1 fun h=>?_
   have:=Rat.mul_le_mul_of_nonneg_right h (Rat.le_of_lt og)
   grind
  have F0':0≤F:=Rat.le_of_mul_le_mul_right (c:=oR) (by grind) og
  have F1':F*F≤x'*x'+y'*y':=Rat.le_of_mul_le_mul_right (c:=oR*oR) (by rw[←eF] at F1;grind) oo
  have G1':x'*x'+y'*y'≤G*G:=Rat.le_of_mul_le_mul_right (c:=oR*oR) (by rw[←eG] at G1;grind) oo
  have hGF':G-F≤d142*G:=Rat.le_of_mul_le_mul_right (c:=oR) (by rw[←eG,←eF] at hGF;grind) og
  have hq':q*G=x':=Rat.le_antisymm (Rat.le_of_mul_le_mul_right (c:=oR) (by rw[←eG] at hq;grind) og) (Rat.le_of_mul_le_mul_right (c:=oR) (by rw[←eG] at hq;grind) og)
  clear F1 G1 hGF hq eG eF F0 G0 a0 a1 hin
  have hd1:dx≤1:=by
   have:d80≤1:=by decide +kernel
   grind
  have sn:=sq_near hX hY nx ny hdx hd1
  have h6:3*d80≤d39*d39:=by decide +kernel
  have h1:X*X+Y*Y≤2:=by
   have:=Rat.mul_nonneg (show 0≤1-X by grind) (show 0≤1+X by grind)
   have:=Rat.mul_nonneg (show 0≤1-Y by grind) (show 0≤1+Y by grind)
   grind
  have h7:d39*d39≤1:=by decide +kernel
  have F2:F≤2:=le_of_sq (by decide +kernel) (by obtain⟨_,s2⟩:=sn;grind)
  have h8:(0:Rat)≤1/2-d142:=by decide +kernel
  have G2:G≤4:=by have:=Rat.mul_nonneg h8 (Rat.le_of_lt G0');grind
  have h9:(0:Rat)≤d142:=by decide +kernel
  have h10:4*d142≤d39:=by decide +kernel
  have hGF2:G-F≤d39:=by have:=Rat.mul_nonneg h9 (show 0≤4-G by grind);grind
  have d39p:(0:Rat)≤d39:=by decide +kernel
  have gn:=roots_near hf F0' hr1 hr2 F1' G1' hg (Rat.le_of_lt G0') sn d39p (by grind) hfg hGF2
  have yy':=sq_nn y'
  have xG:x'≤G:=le_of_sq (Rat.le_of_lt G0') (by grind)
  have xG' : -x'≤G:=le_of_sq (Rat.le_of_lt G0') (by grind)
  obtain⟨hq1,nq⟩:=share G0' hq' ⟨by grind,xG⟩ gn nx
  have p2:=mul_enc p1 ae (by have:=dB_nn;grind) (by decide +kernel) ⟨b1.1,b1.2.2⟩ hq1
  have nn:=near_mul ⟨cP0,cP1⟩ nq
  rw[show C P*(g*q)=C P*g*q by grind] at nn
  refine(p2.near nn.symm).mono ?_
  have h11:d39+d39+d80+(2*dB+d37+dE)≤4*d37:=by decide +kernel
  grind
theorem at_law {P r0 k0:Int} {r K R x l:Int×Int} {n m:Int} (hP : -5400000≤P∧P≤5400000) (hr:r.1≤r0∧r0≤r.2) (hr0:ok8 r0) (hK:K.1≤k0∧k0≤K.2) (hk0:ok8 k0)
  (h1:IsAsin (meetO (gdS P r K)).1 n) (h2:IsAsin (-(meetO (gdS P r K)).2) m) (hnm:n≤-m) (hR:R.1≤r0∧r0≤R.2) (hx:x.1≤P∧P≤x.2) (hl1:l.1≤l.2)
  (hl:(cosE l.1 l.2).1≤(cosE (brgI (atY r K) (atX P r K)).1 (brgI (atY r K) (atX P r K)).2).1∧(cosE (brgI (atY r K) (atX P r K)).1 (brgI (atY r K) (atX P r K)).2).2≤(cosE l.1 l.2).2) :
  (addE (mulE (encl x.1 x.2) (encl n (-m))) (mulE (mulE (cosE x.1 x.2) (cosE n (-m))) (cosE l.1 l.2))).1≤(cosE R.1 R.2).2∧(cosE R.1 R.2).1≤(addE (mulE (encl x.1 x.2) (encl n (-m))) (mulE (mulE (cosE x.1 x.2) (cosE n (-m))) (cosE l.1 l.2))).2:=by
 have hP8:ok8 P:=⟨by omega,by omega⟩
 have sp:=sin_encA (lo:=P) (hi:=P) (n:=P) (Int.le_refl _) (Int.le_refl _) hP8
 have cp:=cos_encA (lo:=P) (hi:=P) (n:=P) (Int.le_refl _) (Int.le_refl _) hP8
 have sr:=sin_encA hr.1 hr.2 hr0
 have cr:=cos_encA hr.1 hr.2 hr0
 have sk:=sin_encA hK.1 hK.2 hk0
 have ck:=cos_encA hK.1 hK.2 hk0
 have sx:=sin_encA hx.1 hx.2 hP8
 have cR:=cos_encA hR.1 hR.2 hr0
 have o1:=encl_ord (lo:=P) (hi:=P) (Int.le_refl _)
 have o2:=cosE_ord (lo:=P) (hi:=P) (Int.le_refl _)
 have o3:=encl_ord (lo:=r.1) (hi:=r.2) (by omega)
 have o4:=cosE_ord (lo:=r.1) (hi:=r.2) (by omega)
 have o5:=encl_ord (lo:=K.1) (hi:=K.2) (by omega)
 have o6:=cosE_ord (lo:=K.1) (hi:=K.2) (by omega)
 have o7:=encl_ord (lo:=x.1) (hi:=x.2) (by omega)
 have b0:=mulE_bd o1 o4
 have b1:=mulE_bd o2 o3
 have b2:=mulE_bd b1 o6
 have b3:=mulE_bd o3 o1
 have b4:=mulE_bd b3 o6
 have b5:=mulE_bd o4 o2
 have b6:=mulE_bd o3 o5
 have n0:=dB_nn
 have n2:(0:Rat)≤dB+dB:=by decide +kernel
 have m1:=mul_enc sp cr n0 n0 ⟨o1.1,o1.2.2⟩ (C_abs r0)
 have m2:=mul_enc cp sr n0 n0 ⟨o2.1,o2.2.2⟩ (S_abs r0)
 have m3:=mul_enc m2 ck n2 n0 ⟨b1.1,b1.2.2⟩ (C_abs k0)
 have hdM:(0:Rat)≤8*dB∧oR*(8*dB)<1∧8*dB≤d80/2:=by decide +kernel
 have s0:Enc (gdS P r K) (tz P r0 k0) (8*dB):=(add_enc m1 m3).mono (by decide +kernel)
 have un:=txy P r0 k0
 obtain⟨uX,uY,uZ⟩:=unit3 un
 have ord:(gdS P r K).1≤(gdS P r K).2:=by unfold gdS addE;dsimp only;omega
 obtain⟨mo,me⟩:=meet_enc ord s0 uZ hdM.1 hdM.2.1
 have zz:0≤1-tz P r0 k0*tz P r0 k0:=by
  rw[←un]
  have:=sq_nn (tx P r0 k0)
  have:=sq_nn (ty r0 k0)
  grind
 obtain⟨f,g,f0,f1,g1,fg⟩:=root_R zz (2^60) (by decide)
 have hgf:g-f=1/((2^60:Nat):Rat):=by
  rw[←fg]
  exact(Rat.mul_div_cancel (by decide +kernel)).symm
 have hgf2:(1:Rat)/((2^60:Nat):Rat)≤d39∧0≤(1:Rat)/((2^60:Nat):Rat)∧(1:Rat)/((2^60:Nat):Rat)≤1:=by decide +kernel
 rw[←hgf] at hgf2
 have f2:f≤1:=le_of_sq (by decide +kernel) (by have:=sq_nn (tz P r0 k0);grind)
 obtain⟨la,lc⟩:=lat_enc h1 h2 hnm me hdM.1 hdM.2.2 f0 (by grind) f1 g1 (by grind)
 have y0:Enc (atY r K) (ty r0 k0) (8*dB):=(mul_enc sr sk n0 n0 ⟨o3.1,o3.2.2⟩ (S_abs k0)).mono (by decide +kernel)
 have x1:=mul_enc cr cp n0 n0 ⟨o4.1,o4.2.2⟩ (C_abs P)
 have x2:=mul_enc sr sp n0 n0 ⟨o3.1,o3.2.2⟩ (S_abs P)
 have x3:=mul_enc x2 ck n2 n0 ⟨b3.1,b3.2.2⟩ (C_abs k0)
 have x0:Enc (atX P r K) (tx P r0 k0) (8*dB):=(sub_enc x1 x3).mono (by decide +kernel)
 obtain⟨x',a1,a2,nx⟩:=x0
 obtain⟨y',c1,c2,ny⟩:=y0
 have hxo:(atX P r K).1≤(atX P r K).2:=by unfold atX subE;dsimp only;omega
 have hyo:(atY r K).1≤(atY r K).2:=by unfold atY;omega
 have hb:=brg_in (vx:=oR*x') (vy:=oR*y') ⟨a1,a2⟩ ⟨c1,c2⟩ hxo hyo
 have wb:=brgI_bd (atY r K) (atX P r K)
 generalize brgI (atY r K) (atX P r K)=w at *
 have pc:=at_cos (A:=(n,-m)) hP hx hnm hl1 wb.1 wb.2.2.2 hl f0 (by grind) (by rw[un];exact f1) (by rw[un];exact g1) (by grind) (by grind) uX uY lc nx ny hdM.1 hdM.2.2 (hb.imp (fun h=>h.1) id)
 have d0:(0:Rat)≤d37:=by decide +kernel
 have p0:=mul_enc sx la n0 d0 ⟨o7.1,o7.2.2⟩ uZ
 have fin:=add_enc p0 pc
 rw[tback] at fin
 exact⟨enc_le fin cR (by decide +kernel),enc_le cR fin (by decide +kernel)⟩
end Go.Proofs.YtjmdeplmenbmmaaGreatDoor.TT
