/- Joined texts: GeI, GeJ, GeK, GeL, GeM. -/
import Derived.Test.YtjmdeplmenbmmaaGreatV03
set_option linter.unusedVariables false
namespace Go.Proofs.YtjmdeplmenbmmaaGreat.TT
abbrev p1100:Rat:=((2^1100:Nat):Rat)
abbrev d200:Rat:=1/((2^200:Nat):Rat)
def Ps (n:Nat):Rat:=(ev pS n:Rat)/p1100
def Pc (n:Nat):Rat:=(ev pC n:Rat)/p1100
theorem d200_pos:0<d200:=by decide +kernel
theorem Ps_mul (n:Nat):Ps n*p1100=(ev pS n:Rat):=Rat.div_mul_cancel (by decide +kernel)
theorem Pc_mul (n:Nat):Pc n*p1100=(ev pC n:Rat):=Rat.div_mul_cancel (by decide +kernel)
theorem p1100_pos:0<p1100:=by decide +kernel
theorem gD_pos:(0:Rat)<((gD:Nat):Rat):=by decide +kernel
theorem c1_mul:c1R*((gD:Nat):Rat)=((gN:Nat):Rat):=Rat.div_mul_cancel (by decide +kernel)
theorem s1_mul:s1R*((gD:Nat):Rat)=((gM:Nat):Rat):=Rat.div_mul_cancel (by decide +kernel)
theorem rest_small {r:Int} {x:Rat} (h : -((gD*p900:Nat):Int)≤r∧r≤((gD*p900:Nat):Int)) (e:x*p1100*((gD:Nat):Rat)=(r:Rat)) : -d200≤x∧x≤d200:=by
 have g1:=Rat.intCast_le_intCast.2 h.1
 have g2:=Rat.intCast_le_intCast.2 h.2
 rw[←e] at g1 g2
 rw[Rat.intCast_neg] at g1
 rw[Rat.intCast_natCast] at g1 g2
 have ed:((gD*p900:Nat):Rat)=d200*p1100*((gD:Nat):Rat):=by decide +kernel
 rw[ed] at g1 g2
 have hp:=p1100_pos
 have hg:=gD_pos
 have hpg:=Rat.mul_pos hp hg
 generalize ((gD:Nat):Rat)=D at *
 generalize p1100=P at *
 generalize d200=d at *
 exact⟨Rat.le_of_mul_le_mul_right (c:=P*D) (by grind) hpg,Rat.le_of_mul_le_mul_right (c:=P*D) (by grind) hpg⟩
theorem abs_up {a b:Nat} {x:Int} (h : -(a:Int)≤x∧x≤a) (hab:a≤b) : -(b:Int)≤x∧x≤b:=by omega
theorem rS_ev (x:Int):ev rS x=gD*ev pS (x+1)-gM*ev pC x-gN*ev pS x:=by
 unfold rS
 rw[ev_addP,ev_addP,ev_sclP,ev_sclP,ev_sclP,ev_shiftP]
 generalize (gD:Int)=a
 generalize (gM:Int)=b
 generalize (gN:Int)=c
 grind
theorem rC_ev (x:Int):ev rC x=gD*ev pC (x+1)-gN*ev pC x+gM*ev pS x:=by
 unfold rC
 rw[ev_addP,ev_addP,ev_sclP,ev_sclP,ev_sclP,ev_shiftP]
 generalize (gD:Int)=a
 generalize (gM:Int)=b
 generalize (gN:Int)=c
 grind
theorem Ps_step {n:Nat} (h:n≤2700000) : -d200≤Ps (n+1)-(s1R*Pc n+c1R*Ps n)∧Ps (n+1)-(s1R*Pc n+c1R*Ps n)≤d200:=by
 have hb:=ev_abs (B:=2700000) (x:=(n:Int)) (by omega) rS
 refine rest_small (r:=ev rS n) (abs_up hb rS_small) ?_
 rw[rS_ev,Rat.intCast_sub,Rat.intCast_sub,Rat.intCast_mul,Rat.intCast_mul,Rat.intCast_mul,show (n:Int)+1=((n+1:Nat):Int) by omega,←Ps_mul,←Ps_mul,←Pc_mul,Rat.intCast_natCast,Rat.intCast_natCast,Rat.intCast_natCast,←c1_mul,←s1_mul]
 generalize ((gD:Nat):Rat)=D
 generalize p1100=P
 grind
theorem Pc_step {n:Nat} (h:n≤2700000) : -d200≤Pc (n+1)-(c1R*Pc n-s1R*Ps n)∧Pc (n+1)-(c1R*Pc n-s1R*Ps n)≤d200:=by
 have hb:=ev_abs (B:=2700000) (x:=(n:Int)) (by omega) rC
 refine rest_small (r:=ev rC n) (abs_up hb rC_small) ?_
 rw[rC_ev,Rat.intCast_add,Rat.intCast_sub,Rat.intCast_mul,Rat.intCast_mul,Rat.intCast_mul,show (n:Int)+1=((n+1:Nat):Int) by omega,←Ps_mul,←Pc_mul,←Pc_mul,Rat.intCast_natCast,Rat.intCast_natCast,Rat.intCast_natCast,←c1_mul,←s1_mul]
 generalize ((gD:Nat):Rat)=D
 generalize p1100=P
 grind
theorem mul_abs {a e d:Rat} (h1 : -1≤a) (h2:a≤1) (h3 : -d≤e) (h4:e≤d) : -d≤a*e∧a*e≤d:=by
 have hd:0≤d:=by grind
 rcases Rat.nonneg_total e with h|h
 ·have b1:=Rat.mul_le_mul_of_nonneg_right h1 h
  have b2:=Rat.mul_le_mul_of_nonneg_right h2 h
  exact⟨by grind,by grind⟩
 ·have b1:=Rat.mul_le_mul_of_nonneg_right h1 h
  have b2:=Rat.mul_le_mul_of_nonneg_right h2 h
  exact⟨by grind,by grind⟩
theorem back (n:Nat) (h:n≤2700000):(-(2*(n:Rat)*d200)≤Cn n*Pc n+Sn n*Ps n-1∧Cn n*Pc n+Sn n*Ps n-1≤2*(n:Rat)*d200)∧(-(2*(n:Rat)*d200)≤Cn n*Ps n-Sn n*Pc n∧Cn n*Ps n-Sn n*Pc n≤2*(n:Rat)*d200):=by
 induction n with
 |zero =>
  have e1:Ps 0=0:=by unfold Ps;decide +kernel
  have e2:Pc 0=1:=by unfold Pc;decide +kernel
  have e3:((0:Nat):Rat)=0:=rfl
  rw[Cn_0,Sn_0,e1,e2,e3]
  exact⟨⟨by grind,by grind⟩,⟨by grind,by grind⟩⟩
 |succ n ih =>
  obtain⟨⟨x1,x2⟩,⟨y1,y2⟩⟩:=ih (by omega)
  obtain⟨s1,s2⟩:=Ps_step (n:=n) (by omega)
  obtain⟨k1,k2⟩:=Pc_step (n:=n) (by omega)
  have cb:=C_abs ((n+1:Nat):Int)
  have sb:=S_abs ((n+1:Nat):Int)
  rw[C_nat] at cb
  rw[S_nat] at sb
  obtain⟨es,hes⟩:∃e,e=Ps (n+1)-(s1R*Pc n+c1R*Ps n):=⟨_,rfl⟩
  obtain⟨ec,hec⟩:∃e,e=Pc (n+1)-(c1R*Pc n-s1R*Ps n):=⟨_,rfl⟩
  rw[←hes] at s1 s2
  rw[←hec] at k1 k2
  have m1:=mul_abs cb.1 cb.2 k1 k2
  have m2:=mul_abs sb.1 sb.2 s1 s2
  have m3:=mul_abs cb.1 cb.2 s1 s2
  have m4:=mul_abs sb.1 sb.2 k1 k2
  have p1:Ps (n+1)=s1R*Pc n+c1R*Ps n+es:=by rw[hes];grind
  have p2:Pc (n+1)=c1R*Pc n-s1R*Ps n+ec:=by rw[hec];grind
  have u:=unit1
  have e1:((n+1:Nat):Rat)=(n:Rat)+1:=by rw[Rat.natCast_add];rfl
  have X:Cn (n+1)*Pc (n+1)+Sn (n+1)*Ps (n+1)=Cn n*Pc n+Sn n*Ps n+(Cn (n+1)*ec+Sn (n+1)*es):=by
   have a:Cn (n+1)*(c1R*Pc n-s1R*Ps n)+Sn (n+1)*(s1R*Pc n+c1R*Ps n)=(Cn n*Pc n+Sn n*Ps n)*(c1R*c1R+s1R*s1R):=by
    rw[Cn_s,Sn_s];grind
   rw[u] at a
   rw[p1,p2];grind
  have Y:Cn (n+1)*Ps (n+1)-Sn (n+1)*Pc (n+1)=Cn n*Ps n-Sn n*Pc n+(Cn (n+1)*es-Sn (n+1)*ec):=by
   have a:Cn (n+1)*(s1R*Pc n+c1R*Ps n)-Sn (n+1)*(c1R*Pc n-s1R*Ps n)=(Cn n*Ps n-Sn n*Pc n)*(c1R*c1R+s1R*s1R):=by
    rw[Cn_s,Sn_s];grind
   rw[u] at a
   rw[p1,p2];grind
  rw[X,Y,e1]
  generalize d200=d at *
  generalize Cn (n+1)*ec=z1 at *
  generalize Sn (n+1)*es=z2 at *
  generalize Cn (n+1)*es=z3 at *
  generalize Sn (n+1)*ec=z4 at *
  exact⟨⟨by grind,by grind⟩,⟨by grind,by grind⟩⟩
abbrev d170:Rat:=1/((2^170:Nat):Rat)
theorem P_near (n:Nat) (h:n≤2700000):(-d170≤Ps n-Sn n∧Ps n-Sn n≤d170)∧(-d170≤Pc n-Cn n∧Pc n-Cn n≤d170):=by
 obtain⟨x,y⟩:=back n h
 have u:=unitN_ n
 have cb:=C_abs (n:Int)
 have sb:=S_abs (n:Int)
 rw[C_nat] at cb
 rw[S_nat] at sb
 obtain⟨X,hX⟩:∃e,e=Cn n*Pc n+Sn n*Ps n-1:=⟨_,rfl⟩
 obtain⟨Y,hY⟩:∃e,e=Cn n*Ps n-Sn n*Pc n:=⟨_,rfl⟩
 rw[←hX] at x
 rw[←hY] at y
 have m1:=mul_abs sb.1 sb.2 x.1 x.2
 have m2:=mul_abs cb.1 cb.2 y.1 y.2
 have m3:=mul_abs cb.1 cb.2 x.1 x.2
 have m4:=mul_abs sb.1 sb.2 y.1 y.2
 have e1:Ps n-Sn n=Sn n*X+Cn n*Y:=by
  rw[hX,hY]
  have:Ps n*(Cn n*Cn n+Sn n*Sn n)=Ps n:=by rw[u];grind
  grind
 have e2:Pc n-Cn n=Cn n*X-Sn n*Y:=by
  rw[hX,hY]
  have:Pc n*(Cn n*Cn n+Sn n*Sn n)=Pc n:=by rw[u];grind
  grind
 have hn:(n:Rat)≤2700000:=natR h
 have hd:=Rat.le_of_lt d200_pos
 have b:=Rat.mul_le_mul_of_nonneg_right hn hd
 have c:4*(2700000*d200)≤d170:=by decide +kernel
 rw[e1,e2]
 generalize d200=d at *
 generalize d170=D at *
 generalize Sn n*X=z1 at *
 generalize Cn n*Y=z2 at *
 generalize Cn n*X=z3 at *
 generalize Sn n*Y=z4 at *
 exact⟨⟨by grind,by grind⟩,⟨by grind,by grind⟩⟩
theorem ev_sg2 {p al:List Int} {n:Int} (h:p++[0]=sg false al):ev p n=ea al (n*n):=by
 rw[←ev_snoc,h,ev_sg];simp
theorem ev_sg3 {p al:List Int} {n:Int} (h:p++[0]=0::sg false al):ev p n=n*ea al (n*n):=by
 rw[←ev_snoc,h]
 show 0+n*ev (sg false al) n=_
 rw[ev_sg];simp
def near2 (o:Nat):Nat→List Int→Bool
 |_,[]=>true
 |k,a::r=>decide ((a:Rat)≤p1100*ka o k)&&decide (p1100*ka o k≤(a:Rat)+1)&&near2 o (k+1) r
theorem near2S:near2 1 0 aS=true:=by decide +kernel
theorem near2C:near2 0 0 aC=true:=by decide +kernel
theorem ea_near2 {o:Nat} {y:Int} (hy:0≤y):∀(al:List Int) (k:Nat),near2 o k al=true→(ea al y:Rat)-p1100*kr o (y:Rat) k al.length≤er (y:Rat) al.length∧p1100*kr o (y:Rat) k al.length-(ea al y:Rat)≤er (y:Rat) al.length
 |[],k,_=>by
  simp only[ea,kr,er,List.length_nil]
  have:((0:Int):Rat)=0:=rfl
  exact⟨by grind,by grind⟩
 |a::r,k,h=>by
  simp only[near2,Bool.and_eq_true,decide_eq_true_eq] at h
  obtain⟨⟨h1,h2⟩,h3⟩:=h
  obtain⟨i1,i2⟩:=ea_near2 (o:=o) hy r (k+1) h3
  have hyR:(0:Rat)≤(y:Rat):=Rat.intCast_nonneg.2 hy
  have b1:=Rat.mul_le_mul_of_nonneg_left i1 hyR
  have b2:=Rat.mul_le_mul_of_nonneg_left i2 hyR
  simp only[ea,kr,er,List.length_cons,Rat.intCast_sub,Rat.intCast_mul]
  generalize p1100=S at *
  exact⟨by grind,by grind⟩
theorem Ps_sa {n:Nat} (h:n≤2700000):Ps n-sa 1 (xi n) 0 21≤d200∧sa 1 (xi n) 0 21-Ps n≤d200:=by
 obtain⟨h1,h2⟩:=ea_near2 (o:=1) (y:=(n:Int)*n) ypos aS 0 near2S
 rw[ycast] at h1 h2
 have hl:aS.length=21:=by decide
 rw[hl] at h1 h2
 have hm:=er_mono (Rat.mul_nonneg (Rat.natCast_nonneg (a:=n)) Rat.natCast_nonneg) (yle h) 21
 have hn:(n:Rat)≤2700000:=natR h
 have hn0:(0:Rat)≤(n:Rat):=Rat.natCast_nonneg
 have k1:=Rat.mul_le_mul_of_nonneg_left h1 hn0
 have k2:=Rat.mul_le_mul_of_nonneg_left h2 hn0
 have k3:=Rat.mul_le_mul_of_nonneg_left hm hn0
 have k4:=Rat.mul_le_mul_of_nonneg_right hn (er_nn (show (0:Rat)≤7290000000000 by decide +kernel) 21)
 have k5:2700000*er 7290000000000 21≤d200*p1100:=by decide +kernel
 have hp:=p1100_pos
 have hev:(ev pS n:Rat)=(n:Rat)*(ea aS ((n:Int)*n):Rat):=by
  rw[ev_sg3 (p:=pS) (al:=aS) (by decide +kernel),Rat.intCast_mul,Rat.intCast_natCast]
 have hP:=Ps_mul n
 rw[hev] at hP
 rw[sa_pr,show pr 1 (n:Rat) 0=(n:Rat) from if_pos rfl]
 clear hm hn hev
 generalize er 7290000000000 21=E at *
 generalize er ((n:Rat)*(n:Rat)) 21=e at *
 generalize kr 1 ((n:Rat)*(n:Rat)) 0 21=K at *
 generalize (ea aS ((n:Int)*n):Rat)=A at *
 generalize p1100=S at *
 generalize d200=d at *
 generalize Ps n=X at *
 exact⟨Rat.le_of_mul_le_mul_right (c:=S) (by grind) hp,Rat.le_of_mul_le_mul_right (c:=S) (by grind) hp⟩
theorem Pc_sa {n:Nat} (h:n≤2700000):Pc n-sa 0 (xi n) 0 21≤d200∧sa 0 (xi n) 0 21-Pc n≤d200:=by
 obtain⟨h1,h2⟩:=ea_near2 (o:=0) (y:=(n:Int)*n) ypos aC 0 near2C
 rw[ycast] at h1 h2
 have hl:aC.length=21:=by decide
 rw[hl] at h1 h2
 have hm:=er_mono (Rat.mul_nonneg (Rat.natCast_nonneg (a:=n)) Rat.natCast_nonneg) (yle h) 21
 have k5:er 7290000000000 21≤d200*p1100:=by decide +kernel
 have hp:=p1100_pos
 have hev:(ev pC n:Rat)=(ea aC ((n:Int)*n):Rat):=by
  rw[ev_sg2 (p:=pC) (al:=aC) (by decide +kernel)]
 have hP:=Pc_mul n
 rw[hev] at hP
 rw[sa_pr,show pr 0 (n:Rat) 0=1 from if_neg (by decide)]
 clear hev
 generalize er 7290000000000 21=E at *
 generalize er ((n:Rat)*(n:Rat)) 21=e at *
 generalize kr 0 ((n:Rat)*(n:Rat)) 0 21=K at *
 generalize (ea aC ((n:Int)*n):Rat)=A at *
 generalize p1100=S at *
 generalize d200=d at *
 generalize Pc n=X at *
 exact⟨Rat.le_of_mul_le_mul_right (c:=S) (by grind) hp,Rat.le_of_mul_le_mul_right (c:=S) (by grind) hp⟩
def cap (o:Nat):Nat→Rat
 |0=>1
 |i+1=>cap o i*(617/1000)/(dd o i:Rat)
theorem tm_cap {o n:Nat} (h:n≤2700000):∀i,tm o (xi n) i≤cap o i
 |0=>tm_le (xi_nn n) (xi_sq h) (Rat.le_trans (xi_le h) (by decide +kernel)) 0
 |i+1=>by
  have hd:=dd_geR o i
  refine tm_step h i _ _ (tm_cap h i) ?_
  rw[show cap o (i+1)=cap o i*(617/1000)/(dd o i:Rat) from rfl,Rat.div_mul_cancel (by grind)]
  exact Rat.le_refl
abbrev d160:Rat:=1/((2^160:Nat):Rat)
theorem cap21 (o:Nat) (ho:o≤1):cap o 21≤d170:=by
 match o,ho with
 |0,_=>decide +kernel
 |1,_=>decide +kernel
theorem T_near {o n:Nat} (ho:o≤1) (h:n≤2700000):TT o n-sa o (xi n) 0 21≤d170∧sa o (xi n) 0 21-TT o n≤d170:=by
 obtain⟨g1,g2⟩:=sa_more (o:=o) (xi_nn n) (xi_sq h) 14 21 0
 have ht:=Rat.le_trans (tm_cap (o:=o) h 21) (cap21 o ho)
 have eT:TT o n=sa o (xi n) 0 (21+14):=rfl
 rw[eT]
 rw[Nat.zero_add] at g1 g2
 exact⟨Rat.le_trans g1 ht,Rat.le_trans g2 ht⟩
theorem d_sum:d170+d200+d170≤d160:=by decide +kernel
theorem S_T {n:Nat} (h:n≤2700000):Sn n-TT 1 n≤d160∧TT 1 n-Sn n≤d160:=by
 obtain⟨⟨a1,a2⟩,_⟩:=P_near n h
 obtain⟨b1,b2⟩:=Ps_sa h
 obtain⟨c1,c2⟩:=T_near (o:=1) (by omega) h
 have e:=d_sum
 generalize TT 1 n=T at *
 generalize sa 1 (xi n) 0 21=A at *
 generalize d170=x at *
 generalize d200=y at *
 generalize d160=z at *
 exact⟨by grind,by grind⟩
theorem C_T {n:Nat} (h:n≤2700000):Cn n-TT 0 n≤d160∧TT 0 n-Cn n≤d160:=by
 obtain⟨_,⟨a1,a2⟩⟩:=P_near n h
 obtain⟨b1,b2⟩:=Pc_sa h
 obtain⟨c1,c2⟩:=T_near (o:=0) (by omega) h
 have e:=d_sum
 generalize TT 0 n=T at *
 generalize sa 0 (xi n) 0 21=A at *
 generalize d170=x at *
 generalize d200=y at *
 generalize d160=z at *
 exact⟨by grind,by grind⟩
/-! the quarter of a turn -/
abbrev d150:Rat:=1/((2^150:Nat):Rat)
theorem half_near:(-d160≤Sn 2700000-Cn 2700000∧Sn 2700000-Cn 2700000≤d160):=by
 obtain⟨⟨a1,a2⟩,⟨b1,b2⟩⟩:=P_near 2700000 (Nat.le_refl _)
 have e1:Ps 2700000-Pc 2700000≤d170:=by unfold Ps Pc;decide +kernel
 have e2 : -d170≤Ps 2700000-Pc 2700000:=by unfold Ps Pc;decide +kernel
 have e:d170+d170+d170≤d160:=by decide +kernel
 generalize d170=x at *
 generalize d160=z at *
 generalize Sn 2700000=s at *
 generalize Cn 2700000=c at *
 generalize Ps 2700000=p at *
 generalize Pc 2700000=q at *
 exact⟨by grind,by grind⟩
theorem quarter:(-d150≤C 5400000∧C 5400000≤d150)∧(1-d150≤S 5400000∧S 5400000≤1):=by
 obtain⟨h1,h2⟩:=half_near
 obtain⟨a1,a2⟩:=addN 2700000 2700000
 have u:=unitN_ 2700000
 have e54:(5400000:Int)=((2700000+2700000:Nat):Int):=by omega
 have ec:C 5400000=Cn (2700000+2700000):=by rw[e54,C_nat]
 have es:S 5400000=Sn (2700000+2700000):=by rw[e54,S_nat]
 have hs:=S_abs 5400000
 have cb:=C_abs ((2700000:Nat):Int)
 have sb:=S_abs ((2700000:Nat):Int)
 rw[C_nat] at cb
 rw[S_nat] at sb
 rw[a1] at ec
 rw[a2] at es
 have e:d160+d160≤d150:=by decide +kernel
 have hd:0≤d160∧d160≤1:=by decide +kernel
 rw[ec,es]
 rw[es] at hs
 generalize Sn 2700000=s at *
 generalize Cn 2700000=c at *
 have m1:=mul_abs cb.1 cb.2 h1 h2
 have m2:=mul_abs sb.1 sb.2 h1 h2
 have dd':=mul_abs (a:=s-c) (e:=s-c) (d:=d160) (by grind) (by grind) h1 h2
 generalize d160=x at *
 generalize d150=z at *
 refine⟨⟨by grind,by grind⟩,by grind,hs.2⟩
abbrev oR:Rat:=1073741824
abbrev d100:Rat:=1/((2^100:Nat):Rat)
abbrev d110:Rat:=1/((2^110:Nat):Rat)
abbrev d140:Rat:=1/((2^140:Nat):Rat)
def Near (x y d:Rat):Prop:=x-y≤d∧y-x≤d
theorem Near.symm {x y d:Rat} (h:Near x y d):Near y x d:=⟨h.2,h.1⟩
theorem Near.trans {x y z d e:Rat} (h:Near x y d) (h':Near y z e):Near x z (d+e):=by
 obtain⟨a,b⟩:=h
 obtain⟨c,f⟩:=h'
 exact⟨by grind,by grind⟩
theorem Near.mono {x y d e:Rat} (h:Near x y d) (hde:d≤e):Near x y e:=⟨Rat.le_trans h.1 hde,Rat.le_trans h.2 hde⟩
theorem Near.neg {x y d:Rat} (h:Near x y d):Near (-x) (-y) d:=by
 obtain⟨a,b⟩:=h
 exact⟨by grind,by grind⟩
theorem near_rot {a b c s k d:Rat} (ha : -1≤a∧a≤1) (hb : -1≤b∧b≤1) (hc:Near c k d) (hs:Near s 0 d):Near (a*c+b*s) (a*k) (d+d):=by
 obtain⟨c1,c2⟩:=hc
 obtain⟨s1,s2⟩:=hs
 have m1:=mul_abs (d:=d) ha.1 ha.2 (e:=c-k) (by grind) (by grind)
 have m2:=mul_abs (d:=d) hb.1 hb.2 (e:=s) (by grind) (by grind)
 exact⟨by grind,by grind⟩
theorem Cq:Near (C 5400000) 0 d150:=by
 obtain⟨⟨h1,h2⟩,_⟩:=quarter
 exact⟨by grind,by grind⟩
theorem Sq:Near (S 5400000) 1 d150:=by
 obtain⟨_,h1,h2⟩:=quarter
 have:(0:Rat)≤d150:=by decide +kernel
 generalize d150=d at *
 exact⟨by grind,by grind⟩
abbrev d148:Rat:=1/((2^148:Nat):Rat)
abbrev d146:Rat:=1/((2^146:Nat):Rat)
theorem e148:d150+d150≤d148:=by decide +kernel
theorem e146:d148+d148≤d146:=by decide +kernel
theorem S_co (k:Int):Near (S (5400000-k)) (C k) d148:=by
 obtain⟨_,h⟩:=sub_i 5400000 k
 have:=near_rot (a:=C k) (b:=-(S k)) (c:=S 5400000) (s:=C 5400000) (k:=1) (C_abs k) (by have:=S_abs k;exact⟨by grind,by grind⟩) Sq Cq
 rw[h]
 have e:S 5400000*C k-C 5400000*S k=C k*S 5400000 + -(S k)*C 5400000:=by grind
 have e1:C k*1=C k:=Rat.mul_one _
 rw[e1] at this
 rw[e]
 exact this.mono e148
theorem C_co (k:Int):Near (C (5400000-k)) (S k) d148:=by
 obtain⟨h,_⟩:=sub_i 5400000 k
 have:=near_rot (a:=S k) (b:=C k) (c:=S 5400000) (s:=C 5400000) (k:=1) (S_abs k) (C_abs k) Sq Cq
 rw[h]
 have e:C 5400000*C k+S 5400000*S k=S k*S 5400000+C k*C 5400000:=by grind
 have e1:S k*1=S k:=Rat.mul_one _
 rw[e1] at this
 rw[e]
 exact this.mono e148
theorem S_half (n:Int):Near (S (n+10800000)) (-(S n)) d146:=by
 have h1:=S_co (5400000-(n+10800000))
 rw[show 5400000-(5400000-(n+10800000))=n+10800000 by omega,show 5400000-(n+10800000) = -(5400000-(-n)) by omega,C_neg] at h1
 have h2:=C_co (-n)
 rw[S_neg] at h2
 exact(h1.trans h2).mono e146
theorem C_half (n:Int):Near (C (n+10800000)) (-(C n)) d146:=by
 have h1:=C_co (5400000-(n+10800000))
 rw[show 5400000-(5400000-(n+10800000))=n+10800000 by omega,show 5400000-(n+10800000) = -(5400000-(-n)) by omega,S_neg] at h1
 have h2:=(S_co (-n)).neg
 rw[C_neg] at h2
 exact(h1.trans h2).mono e146
abbrev d144:Rat:=1/((2^144:Nat):Rat)
theorem e144:d146+d146≤d144:=by decide +kernel
theorem S_turn (n:Int):Near (S (n+21600000)) (S n) d144:=by
 have h1:=S_half (n+10800000)
 rw[show n+10800000+10800000=n+21600000 by omega] at h1
 have h2:=(S_half n).neg
 have e : - -(S n)=S n:=Rat.neg_neg _
 rw[e] at h2
 exact(h1.trans h2).mono e144
theorem S_turns (n:Int):∀k:Nat,Near (S (n+21600000*k)) (S n) ((k:Rat)*d144)
 |0=>by
  rw[show n+21600000*((0:Nat):Int)=n by omega]
  have:((0:Nat):Rat)=0:=rfl
  rw[this]
  exact⟨by grind,by grind⟩
 |k+1=>by
  have h1:=S_turn (n+21600000*k)
  rw[show n+21600000*(k:Int)+21600000=n+21600000*((k+1:Nat):Int) by omega] at h1
  have:=h1.trans (S_turns n k)
  have e:d144+(k:Rat)*d144=((k+1:Nat):Rat)*d144:=by
   rw[Rat.natCast_add,show ((1:Nat):Rat)=1 from rfl];grind
  rwa [e] at this
theorem S_fold {n:Int} (h0 : -108000000≤n) (h1:n≤108000000):Near (S n) (S (turnI n)) d140:=by
 have hd:=Int.emod_add_mul_ediv n 21600000
 have e:(5:Rat)*d144≤d140:=by decide +kernel
 have hd0:(0:Rat)≤d144:=by decide +kernel
 unfold turnI
 generalize hm:n%21600000=m at *
 generalize hq:n/21600000=q at *
 have hm0:0≤m:=by omega
 have hm1:m<21600000:=by omega
 rcases Int.le_total 0 q with hq0|hq0
 ·obtain⟨k,rfl⟩:=nat_of hq0
  have:=S_turns m k
  rw[show m+21600000*(k:Int)=n by omega] at this
  refine this.mono (Rat.le_trans (Rat.mul_le_mul_of_nonneg_right (natR (show k≤5 by omega)) hd0) ?_)
  exact e
 ·obtain⟨k,hk⟩:=nat_of (show 0≤-q by omega)
  have:=S_turns n k
  rw[show n+21600000*(k:Int)=m by omega] at this
  refine this.symm.mono (Rat.le_trans (Rat.mul_le_mul_of_nonneg_right (natR (show k≤5 by omega)) hd0) ?_)
  exact e
def Holds (lo hi:Int) (x d:Rat):Prop:=(lo:Rat)≤oR*x+d∧oR*x≤(hi:Rat)+d
theorem Holds.near {lo hi:Int} {x y d e f:Rat} (h:Holds lo hi x d) (hn:Near x y e) (hf:d+oR*e≤f):Holds lo hi y f:=by
 obtain⟨h1,h2⟩:=h
 obtain⟨n1,n2⟩:=hn
 exact⟨by grind,by grind⟩
theorem Holds.neg {lo hi:Int} {x d:Rat} (h:Holds lo hi x d):Holds (-hi) (-lo) (-x) d:=by
 obtain⟨h1,h2⟩:=h
 unfold Holds
 rw[Rat.intCast_neg,Rat.intCast_neg]
 exact⟨by grind,by grind⟩
theorem fl_holds {o n:Nat} (ho:o≤1) (h0:n≠0) (h:n≤2700000) (h1:o=1→n≠1800000):Holds (flS o n) (flS o n+1) (TT o n) 0:=by
 obtain⟨m1,m2⟩:=margin_fl ho h0 h h1
 unfold Holds
 generalize TT o n=T at *
 generalize flS o n=f at *
 rw[Rat.intCast_add,Rat.intCast_mul] at m1
 rw[Rat.intCast_sub,Rat.intCast_add,Rat.intCast_mul] at m2
 rw[Rat.intCast_add]
 have e1:((4294967296:Int):Rat)=4294967296:=rfl
 have e2:((1040:Int):Rat)=1040:=rfl
 have e3:((1:Int):Rat)=1:=rfl
 have e4:oR*(4294967296*q62)=1:=by decide +kernel
 have e5:(0:Rat)≤q62:=Rat.le_of_lt q62_pos
 rw[e1,e2] at m1 m2
 rw[e3]
 generalize q62=q at *
 generalize (f:Rat)=F at *
 have a1:F*(oR*(4294967296*q))=F:=by rw[e4];exact Rat.mul_one _
 exact⟨by grind,by grind⟩
theorem S30:Near (S 1800000) (1/2) d160:=by
 obtain⟨⟨a1,a2⟩,_⟩:=P_near 1800000 (by omega)
 have e1:Ps 1800000-1/2≤d170:=by unfold Ps;decide +kernel
 have e2 : -d170≤Ps 1800000-1/2:=by unfold Ps;decide +kernel
 have e:d170+d170≤d160:=by decide +kernel
 have es:S 1800000=Sn 1800000:=S_nat 1800000
 rw[es]
 generalize Sn 1800000=s at *
 generalize Ps 1800000=p at *
 generalize d170=x at *
 generalize d160=y at *
 exact⟨by grind,by grind⟩
theorem base_holds {r:Int} (h0:0≤r) (h1:r≤5400000):Holds (sinB r).1 (hiB (sinB r)) (S r) d110:=by
 have hd:∀f:Int,hiB (f,false)=f+1:=fun f=>if_neg (fun h=>Bool.noConfusion h)
 have ht:∀f:Int,hiB (f,true)=f:=fun f=>if_pos rfl
 by_cases e0:r=0
 ·subst e0
  rw[show sinB 0=(0,true) from rfl,ht,show S 0=0 from Sn_0]
  exact⟨by decide +kernel,by decide +kernel⟩
 by_cases e1:r=1800000
 ·subst e1
  rw[show sinB 1800000=(536870912,true) from rfl,ht]
  have:Holds 536870912 536870912 (1/2) 0:=⟨by decide +kernel,by decide +kernel⟩
  exact this.near S30.symm (by decide +kernel)
 by_cases e2:r=5400000
 ·subst e2
  rw[show sinB 5400000=(1073741824,true) from rfl,ht]
  have:Holds 1073741824 1073741824 1 0:=⟨by decide +kernel,by decide +kernel⟩
  exact this.near Sq.symm (by decide +kernel)
 by_cases hg:r≤2700000
 ·rw[sinB_lo (by omega) hg e1,hd]
  obtain⟨k,rfl⟩:=nat_of h0
  have hf:=fl_holds (o:=1) (n:=k) (by omega) (by omega) (by omega) (by omega)
  have hn:Near (TT 1 k) (S k) d160:=by
   rw[S_nat]
   exact⟨(S_T (n:=k) (by omega)).2,(S_T (n:=k) (by omega)).1⟩
  exact hf.near hn (by decide +kernel)
 ·rw[sinB_hi (by omega) (by omega),hd]
  obtain⟨k,hk⟩:=nat_of (show 0≤5400000-r by omega)
  have hf:=fl_holds (o:=0) (n:=k) (by omega) (by omega) (by omega) (by omega)
  have hn:Near (TT 0 k) (C k) d160:=by
   rw[C_nat]
   exact⟨(C_T (n:=k) (by omega)).2,(C_T (n:=k) (by omega)).1⟩
  have h2:=S_co k
  rw[show 5400000-(k:Int)=r by omega] at h2
  rw[hk,Int.toNat_natCast]
  exact hf.near (hn.trans h2.symm) (by decide +kernel)
theorem fold_eq {m:Int} (h0:0≤m) (h1:m<21600000):(m≤5400000∧foldI m=m)∨(5400000<m∧m≤10800000∧foldI m=10800000-m)∨(10800000<m∧m≤16200000∧foldI m=m-10800000)∨(16200000<m∧foldI m=21600000-m):=by
 unfold foldI;omega
theorem bnd_holds {n:Int} (h0 : -108000000≤n) (h1:n≤108000000):Holds (bnd n).1 (bnd n).2 (S n) d100:=by
 obtain⟨m0,m1⟩:=turnI_bd n
 have hf:=S_fold h0 h1
 have key:Holds (bnd n).1 (bnd n).2 (S (turnI n)) d100→True:=fun _=>trivial
 have e1:d110+oR*(d148+d148+d140)≤d100:=by decide +kernel
 have e2:d110+oR*(d146+d140)≤d100:=by decide +kernel
 have e3:d110+oR*d140≤d100:=by decide +kernel
 have e4:d110+oR*(d148+d148+d146+d140)≤d100:=by decide +kernel
 unfold bnd
 rcases fold_eq m0 m1 with ⟨g1,g⟩|⟨g1,g2,g⟩|⟨g1,g2,g⟩|⟨g1,g⟩
 ·rw[if_neg (by omega),g]
  exact(base_holds m0 g1).near hf.symm e3
 ·rw[if_neg (by omega),g]
  have hb:=base_holds (r:=10800000-turnI n) (by omega) (by omega)
  -- the sine of half a turn less m
  have a1:=S_co (5400000-(10800000-turnI n))
  rw[show 5400000-(5400000-(10800000-turnI n))=10800000-turnI n by omega,show 5400000-(10800000-turnI n) = -(5400000-turnI n) by omega,C_neg] at a1
  have a2:=C_co (turnI n)
  exact hb.near ((a1.trans a2).trans hf.symm) e1
 ·rw[if_pos (by omega),g]
  have hb:=(base_holds (r:=turnI n-10800000) (by omega) (by omega)).neg
  have a1:=S_half (turnI n-10800000)
  rw[show turnI n-10800000+10800000=turnI n by omega] at a1
  exact hb.near (a1.symm.trans hf.symm) e2
 ·rw[if_pos (by omega),g]
  have hb:=(base_holds (r:=21600000-turnI n) (by omega) (by omega)).neg
  have a1:=S_turn (-(21600000-turnI n))
  rw[show -(21600000-turnI n)+21600000=turnI n by omega,S_neg] at a1
  have e5:d110+oR*(d144+d140)≤d100:=by decide +kernel
  exact hb.near (a1.symm.trans hf.symm) e5
abbrev g45:Rat:=1/((2^45:Nat):Rat)
def dot (d e w:Int):Rat:=S d*S e+C d*C e*C w
theorem gram (d1 d2 d3 s1 s2 s3:Int) (p q r:Rat):0≤p*p+q*q+r*r+2*(p*q)*dot d1 d2 (s1-s2)+2*(q*r)*dot d2 d3 (s2-s3)+2*(p*r)*dot d1 d3 (s1-s3):=by
 have u1:=unit d1;have u2:=unit d2;have u3:=unit d3
 have v1:=unit s1;have v2:=unit s2;have v3:=unit s3
 unfold dot
 rw[(sub_i s1 s2).1,(sub_i s2 s3).1,(sub_i s1 s3).1]
 have h1:=sq_nn (p*(C d1*C s1)+q*(C d2*C s2)+r*(C d3*C s3))
 have h2:=sq_nn (p*(C d1*S s1)+q*(C d2*S s2)+r*(C d3*S s3))
 have h3:=sq_nn (p*S d1+q*S d2+r*S d3)
 generalize C d1=a1 at *;generalize S d1=b1 at *;generalize C s1=c1 at *;generalize S s1=e1 at *
 generalize C d2=a2 at *;generalize S d2=b2 at *;generalize C s2=c2 at *;generalize S s2=e2 at *
 generalize C d3=a3 at *;generalize S d3=b3 at *;generalize C s3=c3 at *;generalize S s3=e3 at *
 have f1:a1*a1*(c1*c1+e1*e1)+b1*b1=1:=by rw[v1];grind
 have f2:a2*a2*(c2*c2+e2*e2)+b2*b2=1:=by rw[v2];grind
 have f3:a3*a3*(c3*c3+e3*e3)+b3*b3=1:=by rw[v3];grind
 have e:(p*(a1*c1)+q*(a2*c2)+r*(a3*c3))*(p*(a1*c1)+q*(a2*c2)+r*(a3*c3))+(p*(a1*e1)+q*(a2*e2)+r*(a3*e3))*(p*(a1*e1)+q*(a2*e2)+r*(a3*e3))+(p*b1+q*b2+r*b3)*(p*b1+q*b2+r*b3)
  = p*p*(a1*a1*(c1*c1+e1*e1)+b1*b1)+q*q*(a2*a2*(c2*c2+e2*e2)+b2*b2)+r*r*(a3*a3*(c3*c3+e3*e3)+b3*b3)+2*(p*q)*(b1*b2+a1*a2*(c1*c2+e1*e2))+2*(q*r)*(b2*b3+a2*a3*(c2*c3+e2*e3))+2*(p*r)*(b1*b3+a1*a3*(c1*c3+e1*e3)):=by grind
 rw[f1,f2,f3] at e
 have h:=Rat.add_nonneg (Rat.add_nonneg h1 h2) h3
 rw[e] at h
 grind
theorem sin1:(311:Int)≤(sinB 1).1:=by
 have e:sinB 1=(flS 1 1,false):=sinB_lo (r:=1) (by omega) (by omega) (by omega)
 rw[e]
 have h:=(flS_q (o:=1) (n:=1) (by omega) (by omega) (by omega) (by omega)).1
 show 311≤flS 1 1
 rw[←h]
 decide +kernel
abbrev m30:Rat:=310/1073741824
theorem S_pos {x:Int} (h0:1≤x) (h1:x≤10799999):m30≤S x:=by
 have hb:=(bnd_holds (n:=x) (by omega) (by omega)).1
 have hlo:(311:Int)≤(bnd x).1:=by
  have s1:=sin1
  by_cases hq:x≤5400000
  ·rw[bnd_pos (by omega) hq]
   have:=(sinB_mono (r:=1) (s:=x) (by omega) (by omega) hq).1
   dsimp only;omega
  ·have e:turnI x=x:=Int.emod_eq_of_lt (by omega) (by omega)
   have f:foldI x=10800000-x:=by unfold foldI;omega
   unfold bnd
   rw[e,if_neg (by omega),f]
   have:=(sinB_mono (r:=1) (s:=10800000-x) (by omega) (by omega) (by omega)).1
   dsimp only;omega
 have h2:=Rat.intCast_le_intCast.2 hlo
 have e3:((311:Int):Rat)=311:=rfl
 rw[e3] at h2
 have hd:d100≤1:=by decide +kernel
 have em:oR*m30=310:=by decide +kernel
 have ho:(0:Rat)<oR:=by decide +kernel
 refine Rat.le_of_mul_le_mul_left (c:=oR) ?_ ho
 rw[em]
 generalize oR*S x=z at *
 generalize d100=d at *
 generalize ((bnd x).1:Rat)=b at *
 grind
theorem S_0:S 0=0:=Sn_0
theorem C_0:C 0=1:=Cn_0
theorem C_step {m:Int} (h0:0≤m) (h1:m≤10799999):g45≤C m-C (m+1):=by
 have e1:C 1=c1R:=by
  show Cn 1=c1R
  rw[show (1:Nat)=0+1 from rfl,Cn_s,Cn_0,Sn_0];grind
 have e2:S 1=s1R:=by
  rw[show (1:Int)=((0+1:Nat):Int) from rfl,S_nat,Sn_s,Cn_0,Sn_0];grind
 have hc:=(add_i m 1).1
 rw[hc,e1,e2]
 have k1:g45≤1-c1R:=by decide +kernel
 have k2:g45+(1-c1R)≤m30*s1R:=by decide +kernel
 have k3:(0:Rat)≤1-c1R:=by decide +kernel
 have k4:(0:Rat)≤s1R:=by decide +kernel
 by_cases h:m=0
 ·subst h
  rw[C_0,S_0]
  generalize c1R=c at *
  generalize s1R=s at *
  generalize g45=g at *
  grind
 ·have hs:=S_pos (x:=m) (by omega) h1
  obtain⟨c1,c2⟩:=C_abs m
  have b1:=Rat.mul_le_mul_of_nonneg_right hs k4
  have b2:=Rat.mul_le_mul_of_nonneg_right c1 k3
  generalize c1R=c at *
  generalize s1R=s at *
  generalize g45=g at *
  generalize C m=x at *
  generalize S m=y at *
  generalize m30=z at *
  grind
theorem C_fall {m:Int} (h0:0≤m):∀k:Nat,m+(k+1)≤10800000→g45≤C m-C (m+(k+1))
 |0,h=>by
  have:=C_step h0 (by omega)
  rw[show m+(((0:Nat):Int)+1)=m+1 by omega];exact this
 |k+1,h=>by
  have ih:=C_fall h0 k (by omega)
  have:=C_step (m:=m+(k+1)) (by omega) (by omega)
  rw[show m+(((k+1:Nat):Int)+1)=m+(k+1)+1 by omega]
  have hg:(0:Rat)≤g45:=by decide +kernel
  generalize g45=g at *
  grind
theorem C_lt {m n:Int} (h0:0≤m) (h:m<n) (h1:n≤10800000):g45≤C m-C n:=by
 obtain⟨k,hk⟩:=nat_of (show 0≤n-m-1 by omega)
 have:=C_fall h0 k (by omega)
 rwa [show m+((k:Int)+1)=n by omega] at this
def meetsI (lo hi n:Int):Bool:=decide (turnI (n-lo)≤hi-lo)
def encl (lo hi:Int):Int×Int:=(if meetsI lo hi 16200000=true then -1073741824 else min (bnd lo).1 (bnd hi).1,if meetsI lo hi 5400000=true then 1073741824 else max (bnd lo).2 (bnd hi).2)
def cosE (lo hi:Int):Int×Int:=encl (lo+5400000) (hi+5400000)
def havE (lo hi:Int):Int×Int:=((1073741824-(cosE lo hi).2)/2,(1073741824-(cosE lo hi).1+1)/2)
def mulE (x y:Int×Int):Int×Int:=(min (min (x.1*y.1) (x.1*y.2)) (min (x.2*y.1) (x.2*y.2))/1073741824,-(-(max (max (x.1*y.1) (x.1*y.2)) (max (x.2*y.1) (x.2*y.2)))/1073741824))
def addE (x y:Int×Int):Int×Int:=(x.1+y.1,x.2+y.2)
def IsAsin (v n:Int):Prop:=-5400000≤n∧n≤5400000∧(bnd n).2≤v∧∀m,n<m→m≤5400000→v<(bnd m).2
def clamp (p:Int×Int):Int×Int:=(max p.1 0,min p.2 1073741824)
theorem turn_add (n:Int) (k:Int):turnI (n+21600000*k)=turnI n:=by unfold turnI;omega
theorem bnd_turn (n k:Int):bnd (n+21600000*k)=bnd n:=by unfold bnd;rw[turn_add]
theorem bnd_half {n:Int} (h0:5400000≤n) (h1:n≤16200000):bnd n=bnd (10800000-n):=by
 have e1:turnI n=n:=Int.emod_eq_of_lt (by omega) (by omega)
 by_cases hn:n≤10800000
 ·rw[bnd_pos (n:=10800000-n) (by omega) (by omega)]
  unfold bnd
  have f:foldI n=10800000-n:=by unfold foldI;omega
  rw[e1,if_neg (by omega),f]
 ·rw[bnd_neg (n:=10800000-n) (by omega) (by omega)]
  unfold bnd
  have f:foldI n = -(10800000-n):=by unfold foldI;omega
  rw[e1,if_pos (by omega),f]
theorem bnd_dec {n m:Int} (h0:5400000≤n) (h:n≤m) (h1:m≤16200000):(bnd m).2≤(bnd n).2∧(bnd m).1≤(bnd n).1:=by
 rw[bnd_half h0 (by omega),bnd_half (n:=m) (by omega) h1]
 exact bnd_mono (by omega) (by omega) (by omega)
theorem bnd_inc2 {n m:Int} (h0:16200000≤n) (h:n≤m) (h1:m≤27000000):(bnd n).2≤(bnd m).2∧(bnd n).1≤(bnd m).1:=by
 have e:∀x,bnd x=bnd (x-21600000):=fun x=>by
  have:=bnd_turn (x-21600000) 1
  rwa [show x-21600000+21600000*1=x by omega] at this
 rw[e n,e m]
 exact bnd_mono (by omega) (by omega) (by omega)
theorem meets_turn (lo hi n k:Int):meetsI (lo+21600000*k) (hi+21600000*k) n=meetsI lo hi n:=by
 unfold meetsI
 have:=turn_add (n-lo) (-k)
 rw[show n-(lo+21600000*k)=n-lo+21600000 * -k by omega,this,show hi+21600000*k-(lo+21600000*k)=hi-lo by omega]
theorem encl_turn (lo hi k:Int):encl (lo+21600000*k) (hi+21600000*k)=encl lo hi:=by
 unfold encl
 rw[meets_turn,meets_turn,bnd_turn,bnd_turn]
theorem encl_bd (lo hi:Int) : -1073741824≤(encl lo hi).1∧(encl lo hi).2≤1073741824:=by
 have a:=bnd_bd lo
 have b:=bnd_bd hi
 unfold encl
 dsimp only
 constructor
 ·split<;>omega
 ·split<;>omega
/-! ### what is enclosed, up to a little -/
def Enc (p:Int×Int) (x d:Rat):Prop:=∃x':Rat,(p.1:Rat)≤oR*x'∧oR*x'≤(p.2:Rat)∧Near x x' d
theorem oR_pos:(0:Rat)<oR:=by decide +kernel
theorem Enc.wide {p q:Int×Int} {x d:Rat} (h:Enc p x d) (h1:q.1≤p.1) (h2:p.2≤q.2):Enc q x d:=by
 obtain⟨y,a,b,c⟩:=h
 exact⟨y,Rat.le_trans (Rat.intCast_le_intCast.2 h1) a,Rat.le_trans b (Rat.intCast_le_intCast.2 h2),c⟩
theorem Enc.near {p:Int×Int} {x y d e:Rat} (h:Enc p x d) (hn:Near y x e):Enc p y (e+d):=by
 obtain⟨z,a,b,c⟩:=h
 exact⟨z,a,b,hn.trans c⟩
theorem Enc.mono {p:Int×Int} {x d e:Rat} (h:Enc p x d) (hde:d≤e):Enc p x e:=by
 obtain⟨z,a,b,c⟩:=h
 exact⟨z,a,b,c.mono hde⟩
theorem floor_le_R {m:Int} {x:Rat} (h:(m:Rat)≤oR*x):((m/1073741824:Int):Rat)≤x:=by
 have h1:m/1073741824*1073741824≤m:=Int.ediv_mul_le m (by decide)
 have g:=Rat.le_trans (Rat.intCast_le_intCast.2 h1) h
 rw[Rat.intCast_mul] at g
 have e2:((1073741824:Int):Rat)=1073741824:=rfl
 rw[e2] at g
 refine Rat.le_of_mul_le_mul_left (c:=oR) ?_ oR_pos
 grind
theorem corner {a b c e x y:Rat} (ha:a≤x) (hb:x≤b) (hc:c≤y) (he:y≤e) (m M:Rat) (h1:m≤a*c∧m≤a*e∧m≤b*c∧m≤b*e) (h2:a*c≤M∧a*e≤M∧b*c≤M∧b*e≤M):m≤x*y∧x*y≤M:=by
 obtain⟨m1,m2,m3,m4⟩:=h1
 obtain⟨M1,M2,M3,M4⟩:=h2
 -- between a y and b y
 have ay:m≤a*y∧a*y≤M:=by
  rcases Rat.nonneg_total a with g|g
  ·have p1:=Rat.mul_le_mul_of_nonneg_left hc g
   have p2:=Rat.mul_le_mul_of_nonneg_left he g
   exact⟨by grind,by grind⟩
  ·have p1:=Rat.mul_le_mul_of_nonneg_left hc g
   have p2:=Rat.mul_le_mul_of_nonneg_left he g
   exact⟨by grind,by grind⟩
 have bY:m≤b*y∧b*y≤M:=by
  rcases Rat.nonneg_total b with g|g
  ·have p1:=Rat.mul_le_mul_of_nonneg_left hc g
   have p2:=Rat.mul_le_mul_of_nonneg_left he g
   exact⟨by grind,by grind⟩
  ·have p1:=Rat.mul_le_mul_of_nonneg_left hc g
   have p2:=Rat.mul_le_mul_of_nonneg_left he g
   exact⟨by grind,by grind⟩
 rcases Rat.nonneg_total y with g|g
 ·have p1:=Rat.mul_le_mul_of_nonneg_right ha g
  have p2:=Rat.mul_le_mul_of_nonneg_right hb g
  exact⟨by grind,by grind⟩
 ·have p1:=Rat.mul_le_mul_of_nonneg_right ha g
  have p2:=Rat.mul_le_mul_of_nonneg_right hb g
  exact⟨by grind,by grind⟩
theorem mul_enc {p q:Int×Int} {x y d e:Rat} (hp:Enc p x d) (hq:Enc q y e) (hd:0≤d) (he:0≤e) (bp : -1073741824≤p.1∧p.2≤1073741824) (hy : -1≤y∧y≤1):Enc (mulE p q) (x*y) (d+e):=by
 obtain⟨x',a1,a2,n1,n2⟩:=hp
 obtain⟨y',b1,b2,k1,k2⟩:=hq
 have e2:((1073741824:Int):Rat)=1073741824:=rfl
 refine⟨x'*y',?_,?_,?_⟩
 ·have h:=(corner a1 a2 b1 b2 ((min (min (p.1*q.1) (p.1*q.2)) (min (p.2*q.1) (p.2*q.2)):Int):Rat) ((max (max (p.1*q.1) (p.1*q.2)) (max (p.2*q.1) (p.2*q.2)):Int):Rat)
   (by rw[←Rat.intCast_mul,←Rat.intCast_mul,←Rat.intCast_mul,←Rat.intCast_mul];exact⟨Rat.intCast_le_intCast.2 (by omega),Rat.intCast_le_intCast.2 (by omega),Rat.intCast_le_intCast.2 (by omega),Rat.intCast_le_intCast.2 (by omega)⟩)
   (by rw[←Rat.intCast_mul,←Rat.intCast_mul,←Rat.intCast_mul,←Rat.intCast_mul];exact⟨Rat.intCast_le_intCast.2 (by omega),Rat.intCast_le_intCast.2 (by omega),Rat.intCast_le_intCast.2 (by omega),Rat.intCast_le_intCast.2 (by omega)⟩)).1
  have e:oR*x'*(oR*y')=oR*(oR*(x'*y')):=by grind
  rw[e] at h
  exact floor_le_R h
 ·have h:=(corner a1 a2 b1 b2 ((min (min (p.1*q.1) (p.1*q.2)) (min (p.2*q.1) (p.2*q.2)):Int):Rat) ((max (max (p.1*q.1) (p.1*q.2)) (max (p.2*q.1) (p.2*q.2)):Int):Rat)
   (by rw[←Rat.intCast_mul,←Rat.intCast_mul,←Rat.intCast_mul,←Rat.intCast_mul];exact⟨Rat.intCast_le_intCast.2 (by omega),Rat.intCast_le_intCast.2 (by omega),Rat.intCast_le_intCast.2 (by omega),Rat.intCast_le_intCast.2 (by omega)⟩)
   (by rw[←Rat.intCast_mul,←Rat.intCast_mul,←Rat.intCast_mul,←Rat.intCast_mul];exact⟨Rat.intCast_le_intCast.2 (by omega),Rat.intCast_le_intCast.2 (by omega),Rat.intCast_le_intCast.2 (by omega),Rat.intCast_le_intCast.2 (by omega)⟩)).2
  have e:oR*x'*(oR*y')=oR*(oR*(x'*y')):=by grind
  rw[e] at h
  have h2:=floor_le_R (m:=-(max (max (p.1*q.1) (p.1*q.2)) (max (p.2*q.1) (p.2*q.2)))) (x:=-(oR*(x'*y'))) (by rw[Rat.intCast_neg];grind)
  show oR*(x'*y')≤((-(-(max (max (p.1*q.1) (p.1*q.2)) (max (p.2*q.1) (p.2*q.2)))/1073741824):Int):Rat)
  rw[Rat.intCast_neg]
  grind
 ·have l1:=Rat.intCast_le_intCast.2 bp.1
  have l2:=Rat.intCast_le_intCast.2 bp.2
  rw[Rat.intCast_neg,e2] at l1
  rw[e2] at l2
  have x1 : -1≤x':=by refine Rat.le_of_mul_le_mul_left (c:=oR) ?_ oR_pos;grind
  have x2:x'≤1:=by refine Rat.le_of_mul_le_mul_left (c:=oR) ?_ oR_pos;grind
  have m1:=mul_abs (d:=d) hy.1 hy.2 (e:=x-x') (by grind) (by grind)
  have m2:=mul_abs (d:=e) x1 x2 (e:=y-y') (by grind) (by grind)
  exact⟨by grind,by grind⟩
theorem add_enc {p q:Int×Int} {x y d e:Rat} (hp:Enc p x d) (hq:Enc q y e):Enc (addE p q) (x+y) (d+e):=by
 obtain⟨x',a1,a2,n1,n2⟩:=hp
 obtain⟨y',b1,b2,k1,k2⟩:=hq
 refine⟨x'+y',?_,?_,by grind,by grind⟩
 ·show ((p.1+q.1:Int):Rat)≤_
  rw[Rat.intCast_add];grind
 ·show _≤((p.2+q.2:Int):Rat)
  rw[Rat.intCast_add];grind
end Go.Proofs.YtjmdeplmenbmmaaGreat.TT
