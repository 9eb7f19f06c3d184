/- Joined texts: Crc, Brg, Brg2. -/
import Derived.Test.YtjmdeplmenbmmaaGreatDoorV04
set_option linter.unusedVariables false
namespace Go.Proofs.YtjmdeplmenbmmaaGreatDoor.TT
abbrev W192:Nat:=6277101735386680763835789423207666416102355444464034512896
abbrev pi4:Nat:=3*W192+0x243F6A8885A308D313198A2E03707344A4093822299F31D0
def rad4 (k:Nat):Nat:=pi4*k/10800000
def mul4 (a b:Nat):Nat:=a*b/W192
def nx4 (o k q t:Nat):Nat:=mul4 t q/dd o k
def alt4 (o q:Nat):Nat→Nat→Nat→Int
 |0,_,_=>0
 |f+1,k,t=>if t=0 then 0 else (nx4 o k q t:Int)-alt4 o q f (k+1) (nx4 o k q t)
theorem nx4_half {o k q t:Nat} (hq:q<W192):2*nx4 o k q t≤t:=by
 have h1:mul4 t q≤t:=by
  unfold mul4
  refine Nat.div_le_of_le_mul ?_
  rw[Nat.mul_comm W192]
  exact Nat.mul_le_mul_left t (Nat.le_of_lt hq)
 have h2:=dd_ge o k
 have h3:nx4 o k q t*dd o k≤mul4 t q:=Nat.div_mul_le_self _ _
 have h4:nx4 o k q t*2≤nx4 o k q t*dd o k:=Nat.mul_le_mul_left _ h2
 omega
theorem alt4_bd {o q:Nat} (hq:q<W192):∀(f k t:Nat),0≤alt4 o q f k t∧2*alt4 o q f k t≤t
 |0,k,t=>by unfold alt4;omega
 |f+1,k,t=>by
  obtain⟨h1,h2⟩:=alt4_bd (o:=o) hq f (k+1) (nx4 o k q t)
  have h3:=nx4_half (o:=o) (k:=k) (t:=t) hq
  unfold alt4
  split<;>omega
abbrev wQ:Rat:=((W192:Nat):Rat)
theorem wQ_pos:0<wQ:=by decide +kernel
theorem nx4_R (o k q t:Nat):(nx4 o k q t:Rat)≤(t:Rat)*((q:Rat)/wQ/(dd o k:Rat))∧(t:Rat)*((q:Rat)/wQ/(dd o k:Rat))≤(nx4 o k q t:Rat)+1:=by
 have hd:=dd_geR o k
 have hw:=wQ_pos
 have e:nx4 o k q t=t*q/(W192*dd o k):=by unfold nx4 mul4;rw[Nat.div_div_eq_div_mul]
 have hp:0<W192*dd o k:=Nat.mul_pos (by decide) (by have:=dd_ge o k;omega)
 have h1:nx4 o k q t*(W192*dd o k)≤t*q:=by rw[e];exact Nat.div_mul_le_self _ _
 have h2:t*q≤(nx4 o k q t+1)*(W192*dd o k):=by
  have:=Nat.lt_div_mul_add (a:=t*q) (b:=W192*dd o k) hp
  rw[←e] at this
  rw[Nat.succ_mul]
  exact Nat.le_of_lt this
 have g1:=natR h1
 have g2:=natR h2
 rw[Rat.natCast_mul,Rat.natCast_mul,Rat.natCast_mul] at g1 g2
 rw[Rat.natCast_add,show ((1:Nat):Rat)=1 from rfl] at g2
 have e1:(q:Rat)/wQ*wQ=(q:Rat):=Rat.div_mul_cancel (by grind)
 have e2:(q:Rat)/wQ/(dd o k:Rat)*(dd o k:Rat)=(q:Rat)/wQ:=Rat.div_mul_cancel (by grind)
 generalize (q:Rat)/wQ/(dd o k:Rat)=z at *
 generalize (q:Rat)/wQ=y at *
 rw[←e1,←e2] at g1 g2
 change _*(wQ*_)≤_ at g1
 change _≤_*(wQ*_) at g2
 have hpR:0<wQ*(dd o k:Rat):=Rat.mul_pos hw (by grind)
 generalize wQ=w at *
 generalize (dd o k:Rat)=d at *
 generalize (nx4 o k q t:Rat)=n at *
 generalize (t:Rat)=T at *
 exact⟨Rat.le_of_mul_le_mul_right (c:=w*d) (by grind) hpR,Rat.le_of_mul_le_mul_right (c:=w*d) (by grind) hpR⟩
theorem alt4_err {o q:Nat} (hq:q<W192) (hy:(q:Rat)/wQ≤617/1000):∀(f m k t:Nat),t<2^f→f≤m→(alt4 o q f k t:Rat)-(t:Rat)*hv o ((q:Rat)/wQ) k m≤(f:Rat)∧(t:Rat)*hv o ((q:Rat)/wQ) k m-(alt4 o q f k t:Rat)≤(f:Rat)
 |0,m,k,t,h,_=>by
  have h0:t=0:=by have:2^0=1:=rfl;omega
  subst h0
  have e1:((alt4 o q 0 k 0:Int):Rat)=0:=rfl
  have e2:((0:Nat):Rat)=0:=rfl
  rw[e1,e2]
  exact⟨by grind,by grind⟩
 |f+1,0,k,t,_,h=>by omega
 |f+1,m+1,k,t,h,hm=>by
  have e:2^(f+1)=2*2^f:=by rw[Nat.pow_succ,Nat.mul_comm]
  rw[e] at h
  have h3:=nx4_half (o:=o) (k:=k) (t:=t) hq
  obtain⟨i1,i2⟩:=alt4_err (o:=o) hq hy f m (k+1) (nx4 o k q t) (by omega) (by omega)
  obtain⟨r1,r2⟩:=nx4_R o k q t
  have hy0:0≤(q:Rat)/wQ:=by
   rw[Rat.div_def]
   exact Rat.mul_nonneg Rat.natCast_nonneg (Rat.le_of_lt (Rat.inv_pos.2 wQ_pos))
  obtain⟨v1,v2⟩:=hv_bd (o:=o) hy0 hy m (k+1)
  have ef:((f+1:Nat):Rat)=(f:Rat)+1:=by rw[Rat.natCast_add];rfl
  have hf:(0:Rat)≤(f:Rat):=Rat.natCast_nonneg
  have eh:hv o ((q:Rat)/wQ) k (m+1)=(q:Rat)/wQ/(dd o k:Rat)*(1-hv o ((q:Rat)/wQ) (k+1) m):=rfl
  rw[ef,eh]
  unfold alt4
  by_cases h0:t=0
  ·subst h0
   rw[if_pos rfl]
   have e1:((0:Int):Rat)=0:=rfl
   have e2:((0:Nat):Rat)=0:=rfl
   rw[e1,e2]
   exact⟨by grind,by grind⟩
  rw[if_neg h0,Rat.intCast_sub,Rat.intCast_natCast]
  generalize (alt4 o q f (k+1) (nx4 o k q t):Rat)=A at *
  generalize (nx4 o k q t:Rat)=N at *
  generalize hv o ((q:Rat)/wQ) (k+1) m=H at *
  generalize (q:Rat)/wQ/(dd o k:Rat)=z at *
  generalize (t:Rat)=T at *
  have b1:=Rat.mul_le_mul_of_nonneg_right r1 (show 0≤1-H by grind)
  have b2:=Rat.mul_le_mul_of_nonneg_right r2 (show 0≤1-H by grind)
  exact⟨by grind,by grind⟩
/-! ### sines and cosines of the first eighth -/
def sq4 (n:Nat):Nat:=mul4 (rad4 n) (rad4 n)
def ser4 (o first q:Nat):Int:=(first:Int)-alt4 o q 200 0 first
theorem div_up (p d:Nat) (hd:0<d):p≤(p/d+1)*d:=by
 have h:=Nat.lt_div_mul_add (a:=p) (b:=d) hd
 rw[Nat.succ_mul]
 exact Nat.le_of_lt h
theorem rad_lo {r h p P n c:Nat} (h1:r*h≤p*n) (h2:p*c≤P):r*(h*c)≤n*P:=by
 have a:=Nat.mul_le_mul_right c h1
 have b:=Nat.mul_le_mul_left n h2
 have e:n*(p*c)=p*n*c:=by rw[Nat.mul_comm p n,Nat.mul_assoc]
 rw[←Nat.mul_assoc]
 rw[e] at b
 exact Nat.le_trans a b
theorem rad_hi {r h p P n c:Nat} (h1:p*n≤(r+1)*h) (h2:P≤(p+1)*c) (hn:n≤h):n*P≤(r+2)*(h*c):=by
 have a:=Nat.mul_le_mul_right c h1
 have b:=Nat.mul_le_mul_left n h2
 have d:=Nat.mul_le_mul_right c hn
 have e:n*((p+1)*c)=p*n*c+n*c:=by grind
 have f:(r+2)*(h*c)=(r+1)*h*c+h*c:=by grind
 rw[e] at b
 rw[f]
 exact Nat.le_trans b (Nat.add_le_add a d)
theorem rad_fin {r c m:Nat} {x w:Rat} (k1:r*c≤m) (k2:m≤(r+2)*c) (hx:x*(w*(c:Rat))=(m:Rat)) (hc:(0:Rat)<(c:Rat)):(r:Rat)≤x*w∧x*w≤(r:Rat)+2:=by
 have g1:=natR k1
 have g2:=natR k2
 have m1:((r*c:Nat):Rat)=(r:Rat)*(c:Rat):=Rat.natCast_mul _ _
 have m2:(((r+2)*c:Nat):Rat)=((r:Rat)+2)*(c:Rat):=by rw[Rat.natCast_mul,Rat.natCast_add];rfl
 rw[←hx,m1] at g1
 rw[←hx,m2] at g2
 generalize (c:Rat)=cR at *
 generalize (r:Rat)=r at *
 exact⟨Rat.le_of_mul_le_mul_right (c:=cR) (by grind) hc,Rat.le_of_mul_le_mul_right (c:=cR) (by grind) hc⟩
theorem rad_e:((halfN*W256:Nat):Rat)=wQ*((10800000*18446744073709551616:Nat):Rat):=by decide +kernel
theorem rad_c:(0:Rat)<((10800000*18446744073709551616:Nat):Rat):=by decide +kernel
theorem rad4_R {n:Nat} (hn:n≤10800000):(rad4 n:Rat)≤xi n*wQ∧xi n*wQ≤(rad4 n:Rat)+2:=by
 have h1:rad4 n*10800000≤pi4*n:=Nat.div_mul_le_self _ _
 have h2:pi4*n≤(rad4 n+1)*10800000:=div_up _ _ (by decide)
 exact rad_fin (rad_lo h1 (by decide)) (rad_hi h2 (by decide) hn) ((congrArg (xi n * ·) rad_e).symm.trans (xi_mul n)) rad_c
theorem rad4_lt {n:Nat} (h:n≤2700000):rad4 n<W192:=by
 obtain⟨h1,_⟩:=rad4_R (n:=n) (by omega)
 have h2:=xi_le h
 have h3:=Rat.mul_le_mul_of_nonneg_right h2 (Rat.le_of_lt wQ_pos)
 have h4:(7853982/10000000:Rat)*wQ<wQ:=by decide +kernel
 have:(rad4 n:Rat)<((W192:Nat):Rat):=by
  have:=Rat.le_trans h1 h3
  change (rad4 n:Rat)<wQ
  grind
 exact Rat.natCast_lt_natCast.1 this
theorem sq4_R {n:Nat} (hn:n≤2700000):(sq4 n:Rat)≤xi n*xi n*wQ∧xi n*xi n*wQ≤(sq4 n:Rat)+5:=by
 obtain⟨r1,r2⟩:=rad4_R (n:=n) (by omega)
 have hx0:=xi_nn n
 have hx1:=xi_le hn
 have hw:=wQ_pos
 have h1:sq4 n*W192≤rad4 n*rad4 n:=Nat.div_mul_le_self _ _
 have h2:rad4 n*rad4 n≤(sq4 n+1)*W192:=div_up _ _ (by decide)
 have g1:=natR h1
 have g2:=natR h2
 rw[Rat.natCast_mul,Rat.natCast_mul] at g1 g2
 rw[Rat.natCast_add,show ((1:Nat):Rat)=1 from rfl] at g2
 change _*wQ≤_ at g1
 change _≤_*wQ at g2
 have hr0:(0:Rat)≤(rad4 n:Rat):=Rat.natCast_nonneg
 have hw3:(3:Rat)≤wQ:=by decide +kernel
 have hxw:xi n*wQ≤7853982/10000000*wQ:=Rat.mul_le_mul_of_nonneg_right hx1 (Rat.le_of_lt hw)
 generalize (sq4 n:Rat)=s at *
 generalize (rad4 n:Rat)=r at *
 generalize wQ=w at *
 have a1:=Rat.mul_le_mul_of_nonneg_left r1 hr0
 have a2:=Rat.mul_le_mul_of_nonneg_right r1 (show 0≤xi n*w by exact Rat.mul_nonneg hx0 (Rat.le_of_lt hw))
 have b1:=Rat.mul_le_mul_of_nonneg_left r2 (show 0≤xi n*w by exact Rat.mul_nonneg hx0 (Rat.le_of_lt hw))
 have b2:=Rat.mul_le_mul_of_nonneg_left r2 hr0
 generalize xi n=x at *
 refine⟨Rat.le_of_mul_le_mul_right (c:=w) (by grind) hw,Rat.le_of_mul_le_mul_right (c:=w) ?_ hw⟩
 -- x x w w <= (r+2)^2 <= (s+1) w+4 r+4
 have c1:x*w*(x*w)≤r*r+4*r+4:=by grind
 have c2:r≤7853982/10000000*w:=by grind
 grind
theorem y4 {n:Nat} (hn:n≤2700000):0≤(sq4 n:Rat)/wQ∧(sq4 n:Rat)/wQ≤xi n*xi n∧xi n*xi n≤(sq4 n:Rat)/wQ+5/wQ:=by
 obtain⟨h1,h2⟩:=sq4_R hn
 have hw:=wQ_pos
 have e1:(sq4 n:Rat)/wQ*wQ=(sq4 n:Rat):=Rat.div_mul_cancel (by grind)
 have e2:5/wQ*wQ=5:=Rat.div_mul_cancel (by grind)
 have h0:0≤(sq4 n:Rat)/wQ:=by
  rw[Rat.div_def]
  exact Rat.mul_nonneg Rat.natCast_nonneg (Rat.le_of_lt (Rat.inv_pos.2 hw))
 refine⟨h0,Rat.le_of_mul_le_mul_right (c:=wQ) (by rw[e1];exact h1) hw,Rat.le_of_mul_le_mul_right (c:=wQ) ?_ hw⟩
 generalize 5/wQ=f at *
 generalize (sq4 n:Rat)/wQ=y at *
 grind
theorem sq4_lt {n:Nat} (hn:n≤2700000):sq4 n<W192:=by
 obtain⟨h1,_⟩:=sq4_R hn
 have h2:=xi_sq hn
 have h3:=Rat.mul_le_mul_of_nonneg_right h2 (Rat.le_of_lt wQ_pos)
 have h4:(617/1000:Rat)*wQ<wQ:=by decide +kernel
 have:(sq4 n:Rat)<((W192:Nat):Rat):=by
  have:=Rat.le_trans h1 h3
  change (sq4 n:Rat)<wQ
  grind
 exact Rat.natCast_lt_natCast.1 this
theorem sa_long {o n:Nat} (ho:o≤1) (h:n≤2700000):sa o (xi n) 0 201-sa o (xi n) 0 21≤d170∧sa o (xi n) 0 21-sa o (xi n) 0 201≤d170:=by
 obtain⟨g1,g2⟩:=sa_more (o:=o) (xi_nn n) (xi_sq h) 180 21 0
 have ht:=Rat.le_trans (tm_cap (o:=o) h 21) (cap21 o ho)
 rw[Nat.zero_add] at g1 g2
 exact⟨Rat.le_trans g1 ht,Rat.le_trans g2 ht⟩
theorem ser4_err {o n first:Nat} (ho:o≤1) (h:n≤2700000) (hf:first<2^200) (hle:(first:Rat)≤wQ) (h1:(first:Rat)≤tm o (xi n) 0*wQ) (h2:tm o (xi n) 0*wQ≤(first:Rat)+2):(ser4 o first (sq4 n):Rat)-sa o (xi n) 0 201*wQ≤220∧sa o (xi n) 0 201*wQ-(ser4 o first (sq4 n):Rat)≤220:=by
 obtain⟨y0,y1,y2⟩:=y4 h
 have yx:=xi_sq h
 obtain⟨a1,a2⟩:=alt4_err (o:=o) (sq4_lt h) (Rat.le_trans y1 yx) 200 200 0 first hf (Nat.le_refl _)
 obtain⟨m1,m2⟩:=hv_mono (o:=o) y0 y1 yx 200 0
 have e:=sa_hv o (xi n) 200 0
 have hw:=wQ_pos
 have e5:5/wQ*wQ=5:=Rat.div_mul_cancel (by grind)
 obtain⟨b1,b2⟩:=hv_bd (o:=o) y0 (Rat.le_trans y1 yx) 200 0
 obtain⟨c1,c2⟩:=hv_bd (o:=o) (Rat.mul_nonneg (xi_nn n) (xi_nn n)) yx 200 0
 have hf0:(0:Rat)≤(first:Rat):=Rat.natCast_nonneg
 rw[show (201:Nat)=200+1 from rfl,e]
 unfold ser4
 rw[Rat.intCast_sub,Rat.intCast_natCast]
 have e200:((200:Nat):Rat)=200:=rfl
 rw[e200] at a1 a2
 generalize (alt4 o (sq4 n) 200 0 first:Rat)=A at *
 generalize hv o ((sq4 n:Rat)/wQ) 0 200=H at *
 generalize hv o (xi n*xi n) 0 200=K at *
 generalize (sq4 n:Rat)/wQ=y at *
 generalize xi n*xi n=z at *
 generalize tm o (xi n) 0=t at *
 generalize (first:Rat)=F at *
 generalize 5/wQ=f at *
 generalize wQ=w at *
 -- F H against t K w
 have k1:2*(K-H)≤f:=by grind
 have k2:=Rat.mul_le_mul_of_nonneg_left k1 hf0
 have k3:=Rat.mul_le_mul_of_nonneg_right hle (show 0≤f by grind)
 have k4:=Rat.mul_nonneg hf0 m1
 have k5:=Rat.mul_le_mul_of_nonneg_right h1 (show 0≤1-K by grind)
 have k6:=Rat.mul_le_mul_of_nonneg_right h2 (show 0≤1-K by grind)
 exact⟨by grind,by grind⟩
def sin4 (k:Nat):Int:=if 2700000<k then ser4 0 W192 (sq4 (5400000-k)) else ser4 1 (rad4 k) (sq4 k)
def cos4 (k:Nat):Int:=if 2700000<k then ser4 1 (rad4 (5400000-k)) (sq4 (5400000-k)) else ser4 0 W192 (sq4 k)
theorem d4:220+(d170+d170+d200)*wQ≤d160*wQ:=by decide +kernel
theorem sin_base {n:Nat} (h:n≤2700000):Near ((ser4 1 (rad4 n) (sq4 n):Rat)) (S n*wQ) (d160*wQ):=by
 obtain⟨r1,r2⟩:=rad4_R (n:=n) (by omega)
 have hl:=rad4_lt h
 obtain⟨a1,a2⟩:=ser4_err (o:=1) (by omega) h (Nat.lt_trans hl (by decide)) (Rat.le_of_lt (natRlt hl)) (by rw[show tm 1 (xi n) 0=xi n from if_pos rfl];exact r1) (by rw[show tm 1 (xi n) 0=xi n from if_pos rfl];exact r2)
 obtain⟨b1,b2⟩:=sa_long (o:=1) (by omega) h
 obtain⟨c1,c2⟩:=Ps_sa h
 obtain⟨⟨p1,p2⟩,_⟩:=P_near n h
 have hd:=d4
 have hw:=Rat.le_of_lt wQ_pos
 rw[S_nat]
 generalize sa 1 (xi n) 0 201=A at *
 generalize sa 1 (xi n) 0 21=B at *
 generalize Ps n=P at *
 generalize Sn n=Z at *
 generalize d170=x at *
 generalize d200=y at *
 generalize d160=z at *
 have q1:=Rat.mul_le_mul_of_nonneg_right (show A-Z≤x+x+y by grind) hw
 have q2:=Rat.mul_le_mul_of_nonneg_right (show Z-A≤x+x+y by grind) hw
 generalize wQ=w at *
 exact⟨by grind,by grind⟩
theorem cos_base {n:Nat} (h:n≤2700000):Near ((ser4 0 W192 (sq4 n):Rat)) (C n*wQ) (d160*wQ):=by
 obtain⟨a1,a2⟩:=ser4_err (o:=0) (first:=W192) (by omega) h (by decide) Rat.le_refl (by rw[show tm 0 (xi n) 0=1 from if_neg (by decide)];show wQ≤_;grind) (by rw[show tm 0 (xi n) 0=1 from if_neg (by decide)];show _≤wQ+2;grind)
 obtain⟨b1,b2⟩:=sa_long (o:=0) (by omega) h
 obtain⟨c1,c2⟩:=Pc_sa h
 obtain⟨_,⟨p1,p2⟩⟩:=P_near n h
 have hd:=d4
 have hw:=Rat.le_of_lt wQ_pos
 rw[C_nat]
 generalize sa 0 (xi n) 0 201=A at *
 generalize sa 0 (xi n) 0 21=B at *
 generalize Pc n=P at *
 generalize Cn n=Z at *
 generalize d170=x at *
 generalize d200=y at *
 generalize d160=z at *
 have q1:=Rat.mul_le_mul_of_nonneg_right (show A-Z≤x+x+y by grind) hw
 have q2:=Rat.mul_le_mul_of_nonneg_right (show Z-A≤x+x+y by grind) hw
 generalize wQ=w at *
 exact⟨by grind,by grind⟩
theorem d4b:d160*wQ+d148*wQ≤d146*wQ:=by decide +kernel
theorem circ_near {k:Nat} (h:k≤5400000):Near (sin4 k:Rat) (S k*wQ) (d146*wQ)∧Near (cos4 k:Rat) (C k*wQ) (d146*wQ):=by
 have hw:=Rat.le_of_lt wQ_pos
 have e1:d160*wQ≤d146*wQ:=by decide +kernel
 unfold sin4 cos4
 by_cases g:2700000<k
 ·rw[if_pos g,if_pos g]
  have a:=S_co ((5400000-k:Nat):Int)
  have b:=C_co ((5400000-k:Nat):Int)
  rw[show 5400000-((5400000-k:Nat):Int)=k by omega] at a b
  have ca:=cos_base (n:=5400000-k) (by omega)
  have sa':=sin_base (n:=5400000-k) (by omega)
  have hd:=d4b
  obtain⟨a1,a2⟩:=a
  obtain⟨b1,b2⟩:=b
  have a3:=Rat.mul_le_mul_of_nonneg_right a1 hw
  have a4:=Rat.mul_le_mul_of_nonneg_right a2 hw
  have b3:=Rat.mul_le_mul_of_nonneg_right b1 hw
  have b4:=Rat.mul_le_mul_of_nonneg_right b2 hw
  exact⟨(ca.trans (z:=S k*wQ) (e:=d148*wQ) ⟨by grind,by grind⟩).mono hd,(sa'.trans (z:=C k*wQ) (e:=d148*wQ) ⟨by grind,by grind⟩).mono hd⟩
 ·rw[if_neg g,if_neg g]
  exact⟨(sin_base (by omega)).mono e1,(cos_base (by omega)).mono e1⟩
def reachB (x y k:Int):Bool:=if k=0 then true else if k=2700000 then decide (x≤y) else !decide (cos4 k.toNat*y<sin4 k.toNat*x)
def flA (x y:Int):Nat→Int→Int→Int
 |0,lo,_=>lo
 |f+1,lo,hi=>if hi-lo≤1 then lo else if reachB x y ((lo+hi)/2)=true then flA x y f ((lo+hi)/2) hi else flA x y f lo ((lo+hi)/2)
def flI (x y:Int):Int:=flA x y 23 0 5400000
structure IsFl (x y k:Int):Prop where
 lo:0≤k
 hi:k<5400000
 at_:reachB x y k=true
 up:k+1<5400000→reachB x y (k+1)=false
theorem flA_is {x y:Int} : ∀(f:Nat) (lo hi:Int),0≤lo→lo<hi→hi≤5400000→reachB x y lo=true→(hi<5400000→reachB x y hi=false)→hi-lo≤2^f→IsFl x y (flA x y f lo hi)
 |0,lo,hi,h0,h1,h2,h3,h4,h5=>by
  have e:(2:Int)^0=1:=rfl
  obtain rfl:hi=lo+1:=by omega
  exact⟨h0,by show lo<_;omega,h3,fun h=>h4 h⟩
 |f+1,lo,hi,h0,h1,h2,h3,h4,h5=>by
  unfold flA
  have e:(2:Int)^(f+1)=2*2^f:=by rw[Int.pow_succ,Int.mul_comm]
  rw[e] at h5
  generalize hp:(2:Int)^f=p at *
  split
  ·obtain rfl:hi=lo+1:=by omega
   exact⟨h0,by omega,h3,fun h=>h4 h⟩
  ·split
   ·exact flA_is f _ hi (by omega) (by omega) h2 (by assumption) h4 (by rw[hp];omega)
   ·refine flA_is f lo _ h0 (by omega) (by omega) h3 (fun _=>?_) (by rw[hp];omega)
    cases h:reachB x y ((lo+hi)/2) with
    |true=>contradiction
    |false=>rfl
theorem flI_is (x y:Int):IsFl x y (flI x y):=flA_is 23 0 5400000 (by decide) (by decide) (by decide) rfl (fun h=>absurd h (by decide)) (by decide)
/-! ### at or beyond an angle, at or before it, in the first quarter -/
abbrev e6:Rat:=d146
theorem e6_nn:(0:Rat)≤e6:=by decide +kernel
def GE (k:Int) (a b:Rat):Prop:=S k*a-C k*b≤e6*(a+b)
def LE (k:Int) (a b:Rat):Prop:=C k*b-S k*a≤e6*(a+b)
theorem sin4_nn {n:Nat} (h:n≤2700000) (o first:Nat):0≤ser4 o first (sq4 n):=by
 obtain⟨h1,h2⟩:=alt4_bd (o:=o) (sq4_lt h) 200 0 first
 unfold ser4
 omega
theorem circ_nn {k:Nat} (h:k≤5400000):0≤sin4 k∧0≤cos4 k:=by
 unfold sin4 cos4
 split
 ·exact⟨sin4_nn (by omega) _ _,sin4_nn (by omega) _ _⟩
 ·exact⟨sin4_nn (by omega) _ _,sin4_nn (by omega) _ _⟩
theorem circ_int {k:Int} (h0:0≤k) (h1:k≤5400000):Near (sin4 k.toNat:Rat) (S k*wQ) (e6*wQ)∧Near (cos4 k.toNat:Rat) (C k*wQ) (e6*wQ):=by
 have:=circ_near (k:=k.toNat) (by omega)
 rw[show ((k.toNat:Nat):Int)=k by omega] at this
 exact this
theorem SC_q {k:Int} (h0:0≤k) (h1:k≤5400000) : -e6≤S k∧-e6≤C k:=by
 obtain⟨⟨a1,a2⟩,⟨b1,b2⟩⟩:=circ_int h0 h1
 obtain⟨n1,n2⟩:=circ_nn (k:=k.toNat) (by omega)
 have g1:(0:Rat)≤(sin4 k.toNat:Rat):=Rat.intCast_nonneg.2 n1
 have g2:(0:Rat)≤(cos4 k.toNat:Rat):=Rat.intCast_nonneg.2 n2
 have hw:=wQ_pos
 generalize wQ=w at *
 generalize (sin4 k.toNat:Rat)=s at *
 generalize (cos4 k.toNat:Rat)=c at *
 generalize e6=d at *
 exact⟨Rat.le_of_mul_le_mul_right (c:=w) (by grind) hw,Rat.le_of_mul_le_mul_right (c:=w) (by grind) hw⟩
theorem b312:(bnd 1).1=312:=by decide +kernel
abbrev u7:Rat:=1/10000000
theorem S_low {k:Int} (h0:1≤k) (h1:k≤5400000):u7≤S k:=by
 have h:=(bnd_holds (n:=k) (by omega) (by omega)).1
 have m:=(bnd_mono (n:=1) (m:=k) (by omega) h0 h1).2
 rw[b312] at m
 have g:=Rat.intCast_le_intCast.2 m
 have e:((312:Int):Rat)=312:=rfl
 rw[e] at g
 have h100:d100≤1:=by decide +kernel
 refine Rat.le_of_mul_le_mul_left (c:=oR) ?_ oR_pos
 generalize S k=s at *
 grind
theorem C_low {k:Int} (h0:0≤k) (h1:k≤5399999):u7/2≤C k:=by
 have h:=S_low (k:=5400000-k) (by omega) (by omega)
 have g:=S_co k
 have e:d148≤u7/2:=by decide +kernel
 obtain⟨g1,g2⟩:=g
 generalize d148=d at *
 generalize S (5400000-k)=s at *
 grind
theorem reach_GE {x y k:Int} (hx:0<x) (hy:0≤y) (h0:0≤k) (h1:k<5400000) (h:reachB x y k=true):GE k x y:=by
 have hxR:(0:Rat)<(x:Rat):=Rat.intCast_pos.2 hx
 have hyR:(0:Rat)≤(y:Rat):=Rat.intCast_nonneg.2 hy
 have he:=e6_nn
 have hh:=half_near
 have e160:d160≤e6:=by decide +kernel
 unfold reachB at h
 unfold GE
 split at h
 ·rename_i hk
  subst hk
  rw[show S 0=0 from Sn_0,show C 0=1 from Cn_0]
  have:=Rat.mul_nonneg he (show 0≤(x:Rat)+y by grind)
  generalize e6=e at *
  grind
 split at h
 ·rename_i _ hk
  subst hk
  have hxy:=Rat.intCast_le_intCast.2 (of_decide_eq_true h)
  have eS:S 2700000=Sn 2700000:=S_nat 2700000
  have eC:C 2700000=Cn 2700000:=C_nat 2700000
  have hS:=S_low (k:=2700000) (by omega) (by omega)
  have h7:(0:Rat)≤u7:=by decide +kernel
  have sb:=S_abs 2700000
  rw[eS,eC]
  rw[eS] at hS sb
  have p1:=Rat.mul_le_mul_of_nonneg_right hh.2 hyR
  have p2:=Rat.mul_le_mul_of_nonneg_right e160 hyR
  have p7:=Rat.mul_nonneg he (show 0≤(x:Rat) by grind)
  have p4:=Rat.mul_nonneg he (show 0≤(y:Rat)-x by grind)
  have p5:=Rat.mul_nonneg (Rat.le_trans h7 hS) (show 0≤(y:Rat)-x by grind)
  have p6:=Rat.mul_nonneg he (show 0≤(x:Rat) by grind)
  generalize e6=e at *
  generalize Sn 2700000=s at *
  generalize Cn 2700000=c at *
  grind
 ·obtain⟨⟨a1,a2⟩,⟨b1,b2⟩⟩:=circ_int h0 (by omega)
  have h2:sin4 k.toNat*x≤cos4 k.toNat*y:=by
   cases hd:decide (cos4 k.toNat*y<sin4 k.toNat*x) with
   |true=>rw[hd] at h;exact absurd h (by decide)
   |false=>have:=of_decide_eq_false hd;omega
  have g:=Rat.intCast_le_intCast.2 h2
  rw[Rat.intCast_mul,Rat.intCast_mul] at g
  have hw:=wQ_pos
  have p1:=Rat.mul_le_mul_of_nonneg_right a2 (Rat.le_of_lt hxR)
  have p2:=Rat.mul_le_mul_of_nonneg_right b1 hyR
  refine Rat.le_of_mul_le_mul_right (c:=wQ) ?_ hw
  generalize wQ=w at *
  generalize (sin4 k.toNat:Rat)=s at *
  generalize (cos4 k.toNat:Rat)=c at *
  generalize e6=d at *
  grind
theorem unreach_LE {x y k:Int} (hx:0<x) (hy:0≤y) (h0:0≤k) (h1:k<5400000) (h:reachB x y k=false):LE k x y:=by
 have hxR:(0:Rat)<(x:Rat):=Rat.intCast_pos.2 hx
 have hyR:(0:Rat)≤(y:Rat):=Rat.intCast_nonneg.2 hy
 have he:=e6_nn
 have hh:=half_near
 have e160:d160≤e6:=by decide +kernel
 unfold reachB at h
 unfold LE
 split at h
 ·exact absurd h (by decide)
 split at h
 ·rename_i _ hk
  subst hk
  have hxy:=Rat.intCast_le_intCast.2 (show y≤x by have:=of_decide_eq_false h;omega)
  have eS:S 2700000=Sn 2700000:=S_nat 2700000
  have eC:C 2700000=Cn 2700000:=C_nat 2700000
  have hS:=S_low (k:=2700000) (by omega) (by omega)
  have h7:(0:Rat)≤u7:=by decide +kernel
  rw[eS,eC]
  rw[eS] at hS
  generalize Sn 2700000=s at *
  generalize Cn 2700000=c at *
  have p7:=Rat.mul_nonneg he (show 0≤(x:Rat) by grind)
  have p1:=Rat.mul_le_mul_of_nonneg_right (show c-s≤e6 by obtain⟨q1,q2⟩:=hh;generalize e6=e at *;generalize d160=z at *;grind) hyR
  have p5:=Rat.mul_nonneg (Rat.le_trans h7 hS) (show 0≤(x:Rat)-y by grind)
  generalize e6=e at *
  grind
 ·obtain⟨⟨a1,a2⟩,⟨b1,b2⟩⟩:=circ_int h0 (by omega)
  have h2:cos4 k.toNat*y≤sin4 k.toNat*x:=by
   cases hd:decide (cos4 k.toNat*y<sin4 k.toNat*x) with
   |true=>have:=of_decide_eq_true hd;omega
   |false=>rw[hd] at h;exact absurd h (by decide)
  have g:=Rat.intCast_le_intCast.2 h2
  rw[Rat.intCast_mul,Rat.intCast_mul] at g
  have hw:=wQ_pos
  have p1:=Rat.mul_le_mul_of_nonneg_right a1 (Rat.le_of_lt hxR)
  have p2:=Rat.mul_le_mul_of_nonneg_right b2 hyR
  refine Rat.le_of_mul_le_mul_right (c:=wQ) ?_ hw
  generalize wQ=w at *
  generalize (sin4 k.toNat:Rat)=s at *
  generalize (cos4 k.toNat:Rat)=c at *
  generalize e6=d at *
  grind
theorem GE.go {k:Int} {a b c d:Rat} (h0:0≤k) (h1:k≤5400000) (h:GE k a b) (ha:0<a) (hc:0≤c) (hd:0≤d) (hx:b*c≤a*d):GE k c d:=by
 obtain⟨s1,c1⟩:=SC_q h0 h1
 unfold GE at *
 generalize e6=e at *
 generalize S k=s at *
 generalize C k=t at *
 rcases Rat.le_total (a:=s-e) (b:=0) with g|g
 ·have p1:=Rat.mul_nonneg (show 0≤e-s by grind) hc
  have p2:=Rat.mul_nonneg (show 0≤t+e by grind) hd
  grind
 ·have p1:=Rat.mul_le_mul_of_nonneg_right (show (s-e)*a≤(t+e)*b by grind) hc
  have p2:=Rat.mul_le_mul_of_nonneg_left hx (show 0≤t+e by grind)
  have:(s-e)*c≤(t+e)*d:=Rat.le_of_mul_le_mul_right (c:=a) (by grind) ha
  grind
theorem LE.go {k:Int} {a b c d:Rat} (h0:0≤k) (h1:k≤5400000) (h:LE k a b) (ha:0<a) (hc:0≤c) (hd:0≤d) (hx:d*a≤c*b):LE k c d:=by
 obtain⟨s1,c1⟩:=SC_q h0 h1
 unfold LE at *
 generalize e6=e at *
 generalize S k=s at *
 generalize C k=t at *
 rcases Rat.le_total (a:=t-e) (b:=0) with g|g
 ·have p1:=Rat.mul_nonneg (show 0≤e-t by grind) hd
  have p2:=Rat.mul_nonneg (show 0≤s+e by grind) hc
  grind
 ·have p1:=Rat.mul_le_mul_of_nonneg_left hx (show 0≤t-e by grind)
  have p2:=Rat.mul_le_mul_of_nonneg_right (show (t-e)*b≤(s+e)*a by grind) hc
  have:(t-e)*d≤(s+e)*c:=Rat.le_of_mul_le_mul_right (c:=a) (by grind) ha
  grind
theorem GE.zero {a b:Rat} (ha:0≤a) (hb:0≤b):GE 0 a b:=by
 unfold GE
 rw[show S 0=0 from Sn_0,show C 0=1 from Cn_0]
 have:=Rat.mul_nonneg e6_nn (show 0≤a+b by grind)
 generalize e6=e at *
 grind
theorem LE.top {a b:Rat} (ha:0≤a) (hb:0≤b):LE 5400000 a b:=by
 unfold LE
 obtain⟨⟨c1,c2⟩,s1,s2⟩:=quarter
 have e1:d150≤e6:=by decide +kernel
 have e2:d150≤1:=by decide +kernel
 generalize S 5400000=s at *
 generalize C 5400000=t at *
 have p1:=Rat.mul_le_mul_of_nonneg_right (Rat.le_trans c2 e1) hb
 have p2:=Rat.mul_nonneg (show 0≤s by grind) ha
 have p3:=Rat.mul_nonneg e6_nn ha
 generalize e6=e at *
 grind
theorem GE.le {n m:Int} {a b:Rat} (hn0:0≤n) (hn:n≤5400000) (hm0:0≤m) (hm:m≤5400000) (hg:GE n a b) (hl:LE m a b) (ha:0<a) (hb:0≤b):n≤m:=by
 refine Int.not_lt.1 fun hlt=>?_
 have h1:=S_low (k:=n-m) (by omega) (by omega)
 have h2:=C_low (k:=m) hm0 (by omega)
 have h3:=(sub_i n m).2
 obtain⟨s1,c1⟩:=SC_q hn0 hn
 obtain⟨s2,c2⟩:=SC_q hm0 hm
 have a1:=S_abs n
 have a2:=C_abs n
 have a3:=S_abs m
 have a4:=C_abs m
 have he:e6≤u7/100:=by decide +kernel
 have he0:=e6_nn
 rw[h3] at h1
 unfold GE at hg
 unfold LE at hl
 generalize e6=e at *
 generalize S n=sn at *
 generalize C n=cn at *
 generalize S m=sm at *
 generalize C m=cm at *
 have p1:=Rat.mul_le_mul_of_nonneg_left (show (sn-e)*a≤(cn+e)*b by grind) (show 0≤cm-e by grind)
 have p2:=Rat.mul_le_mul_of_nonneg_left (show (cm-e)*b≤(sm+e)*a by grind) (show 0≤cn+e by grind)
 have p3:(cm-e)*(sn-e)≤(cn+e)*(sm+e):=Rat.le_of_mul_le_mul_right (c:=a) (by grind) ha
 have q1:=Rat.mul_le_mul_of_nonneg_left (show sn+cm+cn+sm≤4 by grind) he0
 grind
def qd (x y:Int):Int:=if 0<x∧0≤y then 0 else if 0<y then 1 else if x<0 then 2 else 3
def rX (x y:Int):Int:=if 0<x∧0≤y then x else if 0<y then y else if x<0 then -x else -y
def rY (x y:Int):Int:=if 0<x∧0≤y then y else if 0<y then -x else if x<0 then -y else x
def exF (x y:Int):Bool:=(decide (flI x y=0)&&decide (y=0))||(decide (flI x y=2700000)&&decide (x=y))
def angI (p:Int×Int):Int:=5400000*qd p.1 p.2+flI (rX p.1 p.2) (rY p.1 p.2)
def exI (p:Int×Int):Bool:=exF (rX p.1 p.2) (rY p.1 p.2)
def befI (p q:Int×Int):Bool:=decide (p.2*q.1≤p.1*q.2)
def fstI (c:Int×Int) (l:List (Int×Int)):Int×Int:=l.foldl (fun f c=>if befI c f=true then c else f) c
def lstI (c:Int×Int) (l:List (Int×Int)):Int×Int:=l.foldl (fun f c=>if befI f c=true then c else f) c
def corners (y x:Int×Int):List (Int×Int):=[(x.1,y.1),(x.1,y.2),(x.2,y.1),(x.2,y.2)]
def arcI (f l:Int×Int):Int×Int:=(angI f,(if angI l<angI f then angI l+21600000 else angI l)+if exI l=true then 0 else 1)
def brgI (y x:Int×Int):Int×Int:=if x.1≤0∧0≤x.2∧y.1≤0∧0≤y.2 then (0,21600000) else arcI (fstI (x.1,y.1) (corners y x)) (lstI (x.1,y.1) (corners y x))
theorem fl_GE {x y:Int} (hx:0<x) (hy:0≤y):GE (flI x y) x y:=by
 obtain⟨h1,h2,h3,_⟩:=flI_is x y
 exact reach_GE hx hy h1 h2 h3
theorem LE_axis {x:Int} (hx:0<x):LE 0 x 0:=by
 have hxR:(0:Rat)<(x:Rat):=Rat.intCast_pos.2 hx
 unfold LE
 rw[show S 0=0 from Sn_0,show C 0=1 from Cn_0]
 have:=Rat.mul_nonneg e6_nn (Rat.le_of_lt hxR)
 generalize e6=e at *
 grind
theorem LE_half {x:Int} (hx:0<x):LE 2700000 x x:=by
 have hxR:(0:Rat)<(x:Rat):=Rat.intCast_pos.2 hx
 have hh:=half_near
 have e160:d160≤e6:=by decide +kernel
 have eS:S 2700000=Sn 2700000:=S_nat 2700000
 have eC:C 2700000=Cn 2700000:=C_nat 2700000
 unfold LE
 rw[eS,eC]
 generalize Sn 2700000=s at *
 generalize Cn 2700000=c at *
 obtain⟨q1,q2⟩:=hh
 have p1:=Rat.mul_le_mul_of_nonneg_right (show c-s≤e6 by generalize e6=e at *;generalize d160=z at *;grind) (Rat.le_of_lt hxR)
 have p2:=Rat.mul_nonneg e6_nn (Rat.le_of_lt hxR)
 generalize e6=e at *
 grind
def upF (x y:Int):Int:=flI x y+if exF x y=true then 0 else 1
theorem fl_LE {x y:Int} (hx:0<x) (hy:0≤y):LE (upF x y) x y∧0≤upF x y∧upF x y≤5400000:=by
 obtain⟨h1,h2,h3,h4⟩:=flI_is x y
 have hxR:(0:Rat)<(x:Rat):=Rat.intCast_pos.2 hx
 have hyR:(0:Rat)≤(y:Rat):=Rat.intCast_nonneg.2 hy
 unfold upF
 split
 ·rename_i he
  refine⟨?_,by omega,by omega⟩
  unfold exF at he
  simp only[Bool.or_eq_true,Bool.and_eq_true,decide_eq_true_eq] at he
  rcases he with ⟨e1,e2⟩|⟨e1,e2⟩
  ·rw[e1,e2]
   exact LE_axis hx
  ·rw[e1,←e2]
   exact LE_half hx
 ·refine⟨?_,by omega,by omega⟩
  by_cases hk:flI x y+1=5400000
  ·rw[hk]
   exact LE.top (Rat.le_of_lt hxR) hyR
  ·exact unreach_LE hx hy (by omega) (by omega) (h4 (by omega))
/-! ### an upper half plane -/
def al (X Y:Int):Int:=if 0<X then flI X Y else 5400000+flI Y (-X)
def up (X Y:Int):Int:=if 0<X then upF X Y else 5400000+upF Y (-X)
theorem half_plane {X Y:Rat} {Xf Yf Xl Yl:Int} (hf:0<Yf) (hl:0<Yl) (hY:0<Y) (cf:(Yf:Rat)*X≤(Xf:Rat)*Y) (cl:Y*(Xl:Rat)≤X*(Yl:Rat)) :
  (0<X∧0<Xf∧∃n m:Int,al Xf Yf≤n∧m≤up Xl Yl∧0≤n∧n≤m∧m≤5400000∧GE n X Y∧LE m X Y) ∨
  (X≤0∧Xl≤0∧∃n m:Int,al Xf Yf≤5400000+n∧5400000+m≤up Xl Yl∧0≤n∧n≤m∧m≤5400000∧GE n Y (-X)∧LE m Y (-X)):=by
 have hfR:(0:Rat)<(Yf:Rat):=Rat.intCast_pos.2 hf
 have hlR:(0:Rat)<(Yl:Rat):=Rat.intCast_pos.2 hl
 have fi:=flI_is
 rcases Rat.le_total (a:=X) (b:=0) with hX|hX
 ·right
  -- the last one is in the second quarter,too
  have hXl:Xl≤0:=by
   refine Int.not_lt.1 fun h=>?_
   have h':(0:Rat)<(Xl:Rat):=Rat.intCast_pos.2 h
   have a1:=Rat.mul_pos hY h'
   have a2:=Rat.mul_nonneg (show 0≤-X by grind) (Rat.le_of_lt hlR)
   grind
  have hXlR:(0:Rat)≤((-Xl:Int):Rat):=Rat.intCast_nonneg.2 (by omega)
  refine⟨hX,hXl,?_⟩
  obtain⟨l1,l2,l3⟩:=fl_LE (x:=Yl) (y:=-Xl) hl (by omega)
  have lv:LE (upF Yl (-Xl)) Y (-X):=l1.go l2 l3 hlR (Rat.le_of_lt hY) (by grind) (by rw[Rat.intCast_neg];grind)
  have eu:up Xl Yl=5400000+upF Yl (-Xl):=if_neg (by omega)
  rw[eu]
  by_cases hXf:0<Xf
  ·refine⟨0,upF Yl (-Xl),?_,Int.le_refl _,Int.le_refl _,l2,l3,GE.zero (Rat.le_of_lt hY) (by grind),lv⟩
   have ea:al Xf Yf=flI Xf Yf:=if_pos hXf
   have:=(fi Xf Yf).hi
   omega
  ·have ea:al Xf Yf=5400000+flI Yf (-Xf):=if_neg hXf
   have g1:=fl_GE (x:=Yf) (y:=-Xf) hf (by omega)
   have f1:=(fi Yf (-Xf)).lo
   have f2:=(fi Yf (-Xf)).hi
   have gv:GE (flI Yf (-Xf)) Y (-X):=g1.go f1 (by omega) hfR (Rat.le_of_lt hY) (by grind) (by rw[Rat.intCast_neg];grind)
   exact⟨flI Yf (-Xf),upF Yl (-Xl),by omega,Int.le_refl _,f1,GE.le f1 (by omega) l2 l3 gv lv hY (by grind),l3,gv,lv⟩
 ·by_cases hX0:X=0
  ·-- as above: on the axis
   subst hX0
   right
   have hXl:Xl≤0:=by
    refine Int.not_lt.1 fun h=>?_
    have h':(0:Rat)<(Xl:Rat):=Rat.intCast_pos.2 h
    have a1:=Rat.mul_pos hY h'
    grind
   refine⟨Rat.le_refl,hXl,?_⟩
   obtain⟨l1,l2,l3⟩:=fl_LE (x:=Yl) (y:=-Xl) hl (by omega)
   have hXlR:(0:Rat)≤((-Xl:Int):Rat):=Rat.intCast_nonneg.2 (by omega)
   have lv:LE (upF Yl (-Xl)) Y (-0):=l1.go l2 l3 hlR (Rat.le_of_lt hY) (by grind) (by
    have:=Rat.mul_nonneg (Rat.le_of_lt hY) hXlR
    grind)
   have eu:up Xl Yl=5400000+upF Yl (-Xl):=if_neg (by omega)
   rw[eu]
   by_cases hXf:0<Xf
   ·refine⟨0,upF Yl (-Xl),?_,Int.le_refl _,Int.le_refl _,l2,l3,GE.zero (Rat.le_of_lt hY) (by grind),lv⟩
    have ea:al Xf Yf=flI Xf Yf:=if_pos hXf
    have:=(fi Xf Yf).hi
    omega
   ·have ea:al Xf Yf=5400000+flI Yf (-Xf):=if_neg hXf
    have g1:=fl_GE (x:=Yf) (y:=-Xf) hf (by omega)
    have f1:=(fi Yf (-Xf)).lo
    have f2:=(fi Yf (-Xf)).hi
    have gv:GE (flI Yf (-Xf)) Y (-0):=g1.go f1 (by omega) hfR (Rat.le_of_lt hY) (by grind) (by rw[Rat.intCast_neg];grind)
    exact⟨flI Yf (-Xf),upF Yl (-Xl),by omega,Int.le_refl _,f1,GE.le f1 (by omega) l2 l3 gv lv hY (by grind),l3,gv,lv⟩
  have hXp:0<X:=by grind
  left
  have hXf:0<Xf:=by
   refine Int.not_le.1 fun h=>?_
   have h':(Xf:Rat)≤0:=by have:=Rat.intCast_le_intCast.2 h;exact this
   have a1:=Rat.mul_pos hfR hXp
   have a2:=Rat.mul_nonneg (show 0≤-(Xf:Rat) by grind) (Rat.le_of_lt hY)
   grind
  have hXfR:(0:Rat)<(Xf:Rat):=Rat.intCast_pos.2 hXf
  refine⟨hXp,hXf,?_⟩
  have ea:al Xf Yf=flI Xf Yf:=if_pos hXf
  have g1:=fl_GE (x:=Xf) (y:=Yf) hXf (by omega)
  have f1:=(fi Xf Yf).lo
  have f2:=(fi Xf Yf).hi
  have gv:GE (flI Xf Yf) X Y:=g1.go f1 (by omega) hXfR (Rat.le_of_lt hXp) (Rat.le_of_lt hY) (by grind)
  rw[ea]
  by_cases hXl:0<Xl
  ·have eu:up Xl Yl=upF Xl Yl:=if_pos hXl
   obtain⟨l1,l2,l3⟩:=fl_LE (x:=Xl) (y:=Yl) hXl (by omega)
   have hXlR:(0:Rat)<(Xl:Rat):=Rat.intCast_pos.2 hXl
   have lv:LE (upF Xl Yl) X Y:=l1.go l2 l3 hXlR (Rat.le_of_lt hXp) (Rat.le_of_lt hY) (by grind)
   exact⟨flI Xf Yf,upF Xl Yl,Int.le_refl _,by omega,f1,GE.le f1 (by omega) l2 l3 gv lv hXp (Rat.le_of_lt hY),l3,gv,lv⟩
  ·have eu:up Xl Yl=5400000+upF Yl (-Xl):=if_neg hXl
   obtain⟨l1,l2,l3⟩:=fl_LE (x:=Yl) (y:=-Xl) hl (by omega)
   exact⟨flI Xf Yf,5400000,Int.le_refl _,by omega,f1,by omega,Int.le_refl _,gv,LE.top (Rat.le_of_lt hXp) (Rat.le_of_lt hY)⟩
end Go.Proofs.YtjmdeplmenbmmaaGreatDoor.TT
