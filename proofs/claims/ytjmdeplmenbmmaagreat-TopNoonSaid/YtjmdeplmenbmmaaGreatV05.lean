/- Joined texts: CalPlain, Crc, GeN, Brg, Brg2, Brg3, ArcE, ArcF, ArcG, Gca, Gcb, Gcc, Gcd, Gce, Gcf, Atc, Atd, Ate, Atf. -/
import Derived.Test.YtjmdeplmenbmmaaGreatV04
set_option linter.unusedVariables false
namespace Go.Proofs.YtjmdeplmenbmmaaGreat
def leapB (y:Int):Bool:=decide (y.tmod 4=0)&&(!decide (y.tmod 100=0)||decide (y.tmod 400=0))
def leapR (y:Int):Bool:=(decide (y.tmod 4=0)&&!decide (y.tmod 100=0))||decide (y.tmod 400=0)
theorem leap_same (y:Int):leapR y=leapB y:=by
 unfold leapR leapB
 have h:y.tmod 400=0→y.tmod 4=0:=fun h=>by
  have h1:(400:Int) ∣ y:=Int.dvd_of_tmod_eq_zero h
  exact Int.tmod_eq_zero_of_dvd (Int.dvd_trans (by decide) h1)
 by_cases h1:y.tmod 4=0<;>by_cases h2:y.tmod 100=0<;>by_cases h3:y.tmod 400=0<;>simp_all
def rightB (y m:Int):Bool:=((decide (1≤y)&&decide (y≤9999))&&decide (1≤m))&&decide (m≤12)
theorem right_of {y m:Int} (h:rightB y m=true):(1≤y∧y≤9999)∧1≤m∧m≤12:=by
 simpa [rightB,and_assoc] using h
def before (y:Int):Int:=365*(y-1)+(y-1)/4-(y-1)/100+(y-1)/400
theorem before_bd {y:Int} (h1:1≤y) (h2:y≤10000):0≤before y∧before y≤3652059:=by unfold before;omega
def monthLen (m:Int):Int:=if m=2 then 28 else if m=4∨m=6∨m=9∨m=11 then 30 else 31
def dim (y m:Int):Int:=if m=2 then (if leapB y then 29 else 28) else if m=4∨m=6∨m=9∨m=11 then 30 else 31
theorem dim_bd (y m:Int):28≤dim y m∧dim y m≤31:=by
 unfold dim;split
 ·split<;>omega
 ·split<;>omega
def cum (y:Int):Nat→Int
 |0=>0
 |k+1=>cum y k+dim y (k+1)
theorem cum_bd (y:Int):∀k:Nat,0≤cum y k∧cum y k≤31*k
 |0=>by simp[cum]
 |k+1=>by have:=cum_bd y k;have:=dim_bd y (k+1);simp only[cum];omega
def validB (y m d:Int):Bool:=(rightB y m&&decide (1≤d))&&decide (d≤dim y m)
theorem valid_of {y m d:Int} (h:validB y m d=true):(1≤y∧y≤9999)∧(1≤m∧m≤12)∧1≤d∧d≤dim y m:=by
 simp only[validB,Bool.and_eq_true,decide_eq_true_eq] at h
 exact⟨(right_of h.1.1).1,(right_of h.1.1).2,h.1.2,h.2⟩
def doy (y m d:Int):Int:=d+cum y (m-1).toNat
def num (y m d:Int):Int:=before y-730119+doy y m d-1
theorem before2000:before 2000=730119:=by decide
theorem before_mono {a b:Int} (h1:1≤a) (h:a≤b):before a≤before b:=by unfold before;omega
theorem before_1:before 1=0:=by decide
theorem before_10000:before 10000=3652059:=by decide
theorem leap_iff {y:Int} (h:0≤y):leapB y=true↔(y%4=0∧(y%100≠0∨y%400=0)):=by
 simp[leapB,Int.tmod_eq_emod_of_nonneg h]
theorem cum12 (y:Int):cum y 12=if leapB y then 366 else 365:=by
 cases h:leapB y<;>simp[cum,dim,h]
theorem year_len {y:Int} (h:1≤y):before (y+1)=before y+cum y 12:=by
 rw[cum12]
 have hl:=leap_iff (y:=y) (by omega)
 unfold before
 split
 ·rename_i hb
  have:=hl.1 hb
  omega
 ·rename_i hb
  have:¬(y%4=0∧(y%100≠0∨y%400=0)):=fun h=>hb (hl.2 h)
  omega
theorem cum_mono (y:Int) {a b:Nat} (h:a≤b):cum y a≤cum y b:=by
 induction b with
 |zero =>
  have:a=0:=by omega
  subst this;exact Int.le_refl _
 |succ b ih =>
  by_cases e:a=b+1
  ·subst e;exact Int.le_refl _
  ·have:=ih (by omega);have:=dim_bd y (b+1);simp only[cum];omega
theorem num_in {y m d:Int} (hv:validB y m d=true):before y≤num y m d+730119∧num y m d+730119<before (y+1):=by
 obtain⟨hy,hm,hd⟩:=valid_of hv
 have hl:=year_len hy.1
 unfold num doy
 obtain⟨k,hk⟩:∃k:Nat,m=(k:Int)+1:=⟨(m-1).toNat,by omega⟩
 subst hk
 have e:((k:Int)+1-1).toNat=k:=by omega
 rw[e]
 have h0:=cum_bd y k
 have h1:=cum_mono y (a:=k+1) (b:=12) (by omega)
 simp only[cum] at h1 hl
 omega
theorem num_bd {y m d:Int} (hv:validB y m d=true) : -730119≤num y m d∧num y m d≤2921939:=by
 have h:=num_in hv
 obtain⟨hy,hm,hd⟩:=valid_of hv
 have h1:=before_mono (a:=1) (b:=y) (by omega) hy.1
 have h2:=before_mono (a:=y+1) (b:=10000) (by omega) (by omega)
 rw[before_1] at h1
 rw[before_10000] at h2
 omega
end Go.Proofs.YtjmdeplmenbmmaaGreat
namespace Go.Proofs.YtjmdeplmenbmmaaGreat.TT
abbrev W192:Nat:=6277101735386680763835789423207666416102355444464034512896
abbrev pi4:Nat:=3*W192+0x243F6A8885A308D313198A2E03707344A4093822299F31D0
def rad4 (k:Nat):Nat:=pi4*k/10800000
def mul4 (a b:Nat):Nat:=a*b/W192
def nx4 (o k q t:Nat):Nat:=mul4 t q/dd o k
def alt4 (o q:Nat):Nat→Nat→Nat→Int
 |0,_,_=>0
 |f+1,k,t=>if t=0 then 0 else (nx4 o k q t:Int)-alt4 o q f (k+1) (nx4 o k q t)
theorem nx4_half {o k q t:Nat} (hq:q<W192):2*nx4 o k q t≤t:=by
 have h1:mul4 t q≤t:=by
  unfold mul4
  refine Nat.div_le_of_le_mul ?_
  rw[Nat.mul_comm W192]
  exact Nat.mul_le_mul_left t (Nat.le_of_lt hq)
 have h2:=dd_ge o k
 have h3:nx4 o k q t*dd o k≤mul4 t q:=Nat.div_mul_le_self _ _
 have h4:nx4 o k q t*2≤nx4 o k q t*dd o k:=Nat.mul_le_mul_left _ h2
 omega
theorem alt4_bd {o q:Nat} (hq:q<W192):∀(f k t:Nat),0≤alt4 o q f k t∧2*alt4 o q f k t≤t
 |0,k,t=>by unfold alt4;omega
 |f+1,k,t=>by
  obtain⟨h1,h2⟩:=alt4_bd (o:=o) hq f (k+1) (nx4 o k q t)
  have h3:=nx4_half (o:=o) (k:=k) (t:=t) hq
  unfold alt4
  split<;>omega
abbrev wQ:Rat:=((W192:Nat):Rat)
theorem wQ_pos:0<wQ:=by decide +kernel
def sq4 (n:Nat):Nat:=mul4 (rad4 n) (rad4 n)
def ser4 (o first q:Nat):Int:=(first:Int)-alt4 o q 200 0 first
theorem div_up (p d:Nat) (hd:0<d):p≤(p/d+1)*d:=by
 have h:=Nat.lt_div_mul_add (a:=p) (b:=d) hd
 rw[Nat.succ_mul]
 exact Nat.le_of_lt h
theorem rad_lo {r h p P n c:Nat} (h1:r*h≤p*n) (h2:p*c≤P):r*(h*c)≤n*P:=by
 have a:=Nat.mul_le_mul_right c h1
 have b:=Nat.mul_le_mul_left n h2
 have e:n*(p*c)=p*n*c:=by rw[Nat.mul_comm p n,Nat.mul_assoc]
 rw[←Nat.mul_assoc]
 rw[e] at b
 exact Nat.le_trans a b
theorem rad_hi {r h p P n c:Nat} (h1:p*n≤(r+1)*h) (h2:P≤(p+1)*c) (hn:n≤h):n*P≤(r+2)*(h*c):=by
 have a:=Nat.mul_le_mul_right c h1
 have b:=Nat.mul_le_mul_left n h2
 have d:=Nat.mul_le_mul_right c hn
 have e:n*((p+1)*c)=p*n*c+n*c:=by grind
 have f:(r+2)*(h*c)=(r+1)*h*c+h*c:=by grind
 rw[e] at b
 rw[f]
 exact Nat.le_trans b (Nat.add_le_add a d)
theorem rad_fin {r c m:Nat} {x w:Rat} (k1:r*c≤m) (k2:m≤(r+2)*c) (hx:x*(w*(c:Rat))=(m:Rat)) (hc:(0:Rat)<(c:Rat)):(r:Rat)≤x*w∧x*w≤(r:Rat)+2:=by
 have g1:=natR k1
 have g2:=natR k2
 have m1:((r*c:Nat):Rat)=(r:Rat)*(c:Rat):=Rat.natCast_mul _ _
 have m2:(((r+2)*c:Nat):Rat)=((r:Rat)+2)*(c:Rat):=by rw[Rat.natCast_mul,Rat.natCast_add];rfl
 rw[←hx,m1] at g1
 rw[←hx,m2] at g2
 generalize (c:Rat)=cR at *
 generalize (r:Rat)=r at *
 exact⟨Rat.le_of_mul_le_mul_right (c:=cR) (by grind) hc,Rat.le_of_mul_le_mul_right (c:=cR) (by grind) hc⟩
theorem rad_e:((halfN*W256:Nat):Rat)=wQ*((10800000*18446744073709551616:Nat):Rat):=by decide +kernel
theorem rad_c:(0:Rat)<((10800000*18446744073709551616:Nat):Rat):=by decide +kernel
theorem rad4_R {n:Nat} (hn:n≤10800000):(rad4 n:Rat)≤xi n*wQ∧xi n*wQ≤(rad4 n:Rat)+2:=by
 have h1:rad4 n*10800000≤pi4*n:=Nat.div_mul_le_self _ _
 have h2:pi4*n≤(rad4 n+1)*10800000:=div_up _ _ (by decide)
 exact rad_fin (rad_lo h1 (by decide)) (rad_hi h2 (by decide) hn) ((congrArg (xi n * ·) rad_e).symm.trans (xi_mul n)) rad_c
theorem rad4_lt {n:Nat} (h:n≤2700000):rad4 n<W192:=by
 obtain⟨h1,_⟩:=rad4_R (n:=n) (by omega)
 have h2:=xi_le h
 have h3:=Rat.mul_le_mul_of_nonneg_right h2 (Rat.le_of_lt wQ_pos)
 have h4:(7853982/10000000:Rat)*wQ<wQ:=by decide +kernel
 have:(rad4 n:Rat)<((W192:Nat):Rat):=by
  have:=Rat.le_trans h1 h3
  change (rad4 n:Rat)<wQ
  grind
 exact Rat.natCast_lt_natCast.1 this
theorem sq4_R {n:Nat} (hn:n≤2700000):(sq4 n:Rat)≤xi n*xi n*wQ∧xi n*xi n*wQ≤(sq4 n:Rat)+5:=by
 obtain⟨r1,r2⟩:=rad4_R (n:=n) (by omega)
 have hx0:=xi_nn n
 have hx1:=xi_le hn
 have hw:=wQ_pos
 have h1:sq4 n*W192≤rad4 n*rad4 n:=Nat.div_mul_le_self _ _
 have h2:rad4 n*rad4 n≤(sq4 n+1)*W192:=div_up _ _ (by decide)
 have g1:=natR h1
 have g2:=natR h2
 rw[Rat.natCast_mul,Rat.natCast_mul] at g1 g2
 rw[Rat.natCast_add,show ((1:Nat):Rat)=1 from rfl] at g2
 change _*wQ≤_ at g1
 change _≤_*wQ at g2
 have hr0:(0:Rat)≤(rad4 n:Rat):=Rat.natCast_nonneg
 have hw3:(3:Rat)≤wQ:=by decide +kernel
 have hxw:xi n*wQ≤7853982/10000000*wQ:=Rat.mul_le_mul_of_nonneg_right hx1 (Rat.le_of_lt hw)
 generalize (sq4 n:Rat)=s at *
 generalize (rad4 n:Rat)=r at *
 generalize wQ=w at *
 have a1:=Rat.mul_le_mul_of_nonneg_left r1 hr0
 have a2:=Rat.mul_le_mul_of_nonneg_right r1 (show 0≤xi n*w by exact Rat.mul_nonneg hx0 (Rat.le_of_lt hw))
 have b1:=Rat.mul_le_mul_of_nonneg_left r2 (show 0≤xi n*w by exact Rat.mul_nonneg hx0 (Rat.le_of_lt hw))
 have b2:=Rat.mul_le_mul_of_nonneg_left r2 hr0
 generalize xi n=x at *
 refine⟨Rat.le_of_mul_le_mul_right (c:=w) (by grind) hw,Rat.le_of_mul_le_mul_right (c:=w) ?_ hw⟩
 -- x x w w <= (r+2)^2 <= (s+1) w+4 r+4
 have c1:x*w*(x*w)≤r*r+4*r+4:=by grind
 have c2:r≤7853982/10000000*w:=by grind
 grind
theorem y4 {n:Nat} (hn:n≤2700000):0≤(sq4 n:Rat)/wQ∧(sq4 n:Rat)/wQ≤xi n*xi n∧xi n*xi n≤(sq4 n:Rat)/wQ+5/wQ:=by
 obtain⟨h1,h2⟩:=sq4_R hn
 have hw:=wQ_pos
 have e1:(sq4 n:Rat)/wQ*wQ=(sq4 n:Rat):=Rat.div_mul_cancel (by grind)
 have e2:5/wQ*wQ=5:=Rat.div_mul_cancel (by grind)
 have h0:0≤(sq4 n:Rat)/wQ:=by
  rw[Rat.div_def]
  exact Rat.mul_nonneg Rat.natCast_nonneg (Rat.le_of_lt (Rat.inv_pos.2 hw))
 refine⟨h0,Rat.le_of_mul_le_mul_right (c:=wQ) (by rw[e1];exact h1) hw,Rat.le_of_mul_le_mul_right (c:=wQ) ?_ hw⟩
 generalize 5/wQ=f at *
 generalize (sq4 n:Rat)/wQ=y at *
 grind
theorem sq4_lt {n:Nat} (hn:n≤2700000):sq4 n<W192:=by
 obtain⟨h1,_⟩:=sq4_R hn
 have h2:=xi_sq hn
 have h3:=Rat.mul_le_mul_of_nonneg_right h2 (Rat.le_of_lt wQ_pos)
 have h4:(617/1000:Rat)*wQ<wQ:=by decide +kernel
 have:(sq4 n:Rat)<((W192:Nat):Rat):=by
  have:=Rat.le_trans h1 h3
  change (sq4 n:Rat)<wQ
  grind
 exact Rat.natCast_lt_natCast.1 this
def sin4 (k:Nat):Int:=if 2700000<k then ser4 0 W192 (sq4 (5400000-k)) else ser4 1 (rad4 k) (sq4 k)
def cos4 (k:Nat):Int:=if 2700000<k then ser4 1 (rad4 (5400000-k)) (sq4 (5400000-k)) else ser4 0 W192 (sq4 k)
theorem d4:220+(d170+d170+d200)*wQ≤d160*wQ:=by decide +kernel
theorem dot_abs (d e w:Int) : -1≤dot d e w∧dot d e w≤1:=by
 have h1:=gram d e 0 w 0 0 1 1 0
 have h2:=gram d e 0 w 0 0 1 (-1) 0
 rw[show w-0=w by omega] at h1 h2
 generalize dot d e w=x at *
 exact⟨by grind,by grind⟩
theorem hav_abs (n:Int) : -1≤(1-C n)/2∧(1-C n)/2≤1:=by
 have:=C_abs n
 exact⟨by grind,by grind⟩
theorem mulE_bd {p q:Int×Int} (hp : -1073741824≤p.1∧p.1≤p.2∧p.2≤1073741824) (hq : -1073741824≤q.1∧q.1≤q.2∧q.2≤1073741824) : -1073741824≤(mulE p q).1∧(mulE p q).1≤(mulE p q).2∧(mulE p q).2≤1073741824:=by
 have h1:=abs_mul_le (A:=1073741824) (u:=1073741824) (a:=p.1) (t:=q.1) (by omega) (by omega)
 have h2:=abs_mul_le (A:=1073741824) (u:=1073741824) (a:=p.1) (t:=q.2) (by omega) (by omega)
 have h3:=abs_mul_le (A:=1073741824) (u:=1073741824) (a:=p.2) (t:=q.1) (by omega) (by omega)
 have h4:=abs_mul_le (A:=1073741824) (u:=1073741824) (a:=p.2) (t:=q.2) (by omega) (by omega)
 unfold mulE
 dsimp only
 generalize p.1*q.1=a at *
 generalize p.1*q.2=b at *
 generalize p.2*q.1=c at *
 generalize p.2*q.2=e at *
 omega
def reachB (x y k:Int):Bool:=if k=0 then true else if k=2700000 then decide (x≤y) else !decide (cos4 k.toNat*y<sin4 k.toNat*x)
def flA (x y:Int):Nat→Int→Int→Int
 |0,lo,_=>lo
 |f+1,lo,hi=>if hi-lo≤1 then lo else if reachB x y ((lo+hi)/2)=true then flA x y f ((lo+hi)/2) hi else flA x y f lo ((lo+hi)/2)
def flI (x y:Int):Int:=flA x y 23 0 5400000
structure IsFl (x y k:Int):Prop where
 lo:0≤k
 hi:k<5400000
 at_:reachB x y k=true
 up:k+1<5400000→reachB x y (k+1)=false
theorem flA_is {x y:Int} : ∀(f:Nat) (lo hi:Int),0≤lo→lo<hi→hi≤5400000→reachB x y lo=true→(hi<5400000→reachB x y hi=false)→hi-lo≤2^f→IsFl x y (flA x y f lo hi)
 |0,lo,hi,h0,h1,h2,h3,h4,h5=>by
  have e:(2:Int)^0=1:=rfl
  obtain rfl:hi=lo+1:=by omega
  exact⟨h0,by show lo<_;omega,h3,fun h=>h4 h⟩
 |f+1,lo,hi,h0,h1,h2,h3,h4,h5=>by
  unfold flA
  have e:(2:Int)^(f+1)=2*2^f:=by rw[Int.pow_succ,Int.mul_comm]
  rw[e] at h5
  generalize hp:(2:Int)^f=p at *
  split
  ·obtain rfl:hi=lo+1:=by omega
   exact⟨h0,by omega,h3,fun h=>h4 h⟩
  ·split
   ·exact flA_is f _ hi (by omega) (by omega) h2 (by assumption) h4 (by rw[hp];omega)
   ·refine flA_is f lo _ h0 (by omega) (by omega) h3 (fun _=>?_) (by rw[hp];omega)
    cases h:reachB x y ((lo+hi)/2) with
    |true=>contradiction
    |false=>rfl
theorem flI_is (x y:Int):IsFl x y (flI x y):=flA_is 23 0 5400000 (by decide) (by decide) (by decide) rfl (fun h=>absurd h (by decide)) (by decide)
/-! ### at or beyond an angle, at or before it, in the first quarter -/
abbrev e6:Rat:=d146
theorem sin4_nn {n:Nat} (h:n≤2700000) (o first:Nat):0≤ser4 o first (sq4 n):=by
 obtain⟨h1,h2⟩:=alt4_bd (o:=o) (sq4_lt h) 200 0 first
 unfold ser4
 omega
theorem circ_nn {k:Nat} (h:k≤5400000):0≤sin4 k∧0≤cos4 k:=by
 unfold sin4 cos4
 split
 ·exact⟨sin4_nn (by omega) _ _,sin4_nn (by omega) _ _⟩
 ·exact⟨sin4_nn (by omega) _ _,sin4_nn (by omega) _ _⟩
def qd (x y:Int):Int:=if 0<x∧0≤y then 0 else if 0<y then 1 else if x<0 then 2 else 3
def rX (x y:Int):Int:=if 0<x∧0≤y then x else if 0<y then y else if x<0 then -x else -y
def rY (x y:Int):Int:=if 0<x∧0≤y then y else if 0<y then -x else if x<0 then -y else x
def exF (x y:Int):Bool:=(decide (flI x y=0)&&decide (y=0))||(decide (flI x y=2700000)&&decide (x=y))
def angI (p:Int×Int):Int:=5400000*qd p.1 p.2+flI (rX p.1 p.2) (rY p.1 p.2)
def exI (p:Int×Int):Bool:=exF (rX p.1 p.2) (rY p.1 p.2)
def befI (p q:Int×Int):Bool:=decide (p.2*q.1≤p.1*q.2)
def fstI (c:Int×Int) (l:List (Int×Int)):Int×Int:=l.foldl (fun f c=>if befI c f=true then c else f) c
def lstI (c:Int×Int) (l:List (Int×Int)):Int×Int:=l.foldl (fun f c=>if befI f c=true then c else f) c
def corners (y x:Int×Int):List (Int×Int):=[(x.1,y.1),(x.1,y.2),(x.2,y.1),(x.2,y.2)]
def arcI (f l:Int×Int):Int×Int:=(angI f,(if angI l<angI f then angI l+21600000 else angI l)+if exI l=true then 0 else 1)
def brgI (y x:Int×Int):Int×Int:=if x.1≤0∧0≤x.2∧y.1≤0∧0≤y.2 then (0,21600000) else arcI (fstI (x.1,y.1) (corners y x)) (lstI (x.1,y.1) (corners y x))
def upF (x y:Int):Int:=flI x y+if exF x y=true then 0 else 1
def al (X Y:Int):Int:=if 0<X then flI X Y else 5400000+flI Y (-X)
def up (X Y:Int):Int:=if 0<X then upF X Y else 5400000+upF Y (-X)
theorem corners_P {y x:Int×Int} {P:Int×Int→Prop} (h1:P (x.1,y.1)) (h2:P (x.1,y.2)) (h3:P (x.2,y.1)) (h4:P (x.2,y.2)):∀s∈corners y x,P s:=fun s hs=>by
 simp only[corners,List.mem_cons,List.not_mem_nil,or_false] at hs
 rcases hs with rfl|rfl|rfl|rfl<;>assumption
theorem angI_bd (p:Int×Int):0≤angI p∧angI p<21600000:=by
 have h:=flI_is (rX p.1 p.2) (rY p.1 p.2)
 have h1:=h.lo
 have h2:=h.hi
 unfold angI qd
 split
 ·omega
 split
 ·omega
 split<;>omega
theorem encl_any {lo hi n:Int} (h0:lo≤n) (h1:n≤hi):(encl lo hi).1≤(bnd n).1∧(bnd n).2≤(encl lo hi).2:=by
 obtain⟨k,hk⟩:∃k,-5400000≤lo+21600000*k∧lo+21600000*k<16200000:=⟨-((lo+5400000)/21600000),by omega⟩
 rw[←encl_turn lo hi k,←bnd_turn n k]
 generalize hl:lo+21600000*k=l at *
 generalize hh:hi+21600000*k=h at *
 generalize hn:n+21600000*k=m at *
 have g0:l≤m:=by omega
 have g1:m≤h:=by omega
 clear hl hh hn h0 h1
 have bb:=bnd_bd m
 unfold encl
 dsimp only
 have mt:∀x:Int,l≤x→x≤h→x-l<21600000→meetsI l h x=true:=fun x a b c=>by
  unfold meetsI
  have:turnI (x-l)=x-l:=Int.emod_eq_of_lt (by omega) (by omega)
  rw[this]
  exact decide_eq_true (by omega)
 have mt2:27000000≤h→5400000<l→meetsI l h 5400000=true:=fun b c=>by
  unfold meetsI
  have:turnI (5400000-l)=27000000-l:=by unfold turnI;omega
  rw[this]
  exact decide_eq_true (by omega)
 constructor
 ·split
  ·omega
  ·rename_i hm
   have hl3:h<16200000:=by
    refine Int.not_le.1 fun hle=>hm ?_
    by_cases e:l = -5400000
    ·unfold meetsI
     have:turnI (16200000-l)=0:=by unfold turnI;omega
     rw[this]
     exact decide_eq_true (by omega)
    ·exact mt 16200000 (by omega) hle (by omega)
   by_cases hq:m≤5400000
   ·have:=bnd_mono hk.1 g0 hq
    omega
   ·have:=bnd_dec (n:=m) (m:=h) (by omega) g1 (by omega)
    omega
 ·split
  ·omega
  ·rename_i hm
   by_cases hq:l≤5400000
   ·have hh:h<5400000:=Int.not_le.1 fun hle=>hm (mt 5400000 hq hle (by omega))
    have:=bnd_mono (n:=m) (m:=h) (by omega) g1 (by omega)
    omega
   ·have hh:h<27000000:=Int.not_le.1 fun hle=>hm (mt2 hle (by omega))
    by_cases hq2:m≤16200000
    ·have:=bnd_dec (n:=l) (m:=m) (by omega) g0 hq2
     omega
    ·have:=bnd_inc2 (n:=m) (m:=h) (by omega) g1 (by omega)
     omega
theorem encl_ord {lo hi:Int} (h:lo≤hi) : -1073741824≤(encl lo hi).1∧(encl lo hi).1≤(encl lo hi).2∧(encl lo hi).2≤1073741824:=by
 have a:=encl_any (lo:=lo) (hi:=hi) (n:=lo) (by omega) h
 have b:=bnd_bd lo
 have c:=encl_bd lo hi
 omega
theorem cosE_ord {lo hi:Int} (h:lo≤hi) : -1073741824≤(cosE lo hi).1∧(cosE lo hi).1≤(cosE lo hi).2∧(cosE lo hi).2≤1073741824:=encl_ord (by omega)
abbrev dB:Rat:=1/((2^126:Nat):Rat)
theorem Enc.of2 {lo hi:Int} {x d e:Rat} (h:Holds lo hi x d) (hle:lo≤hi) (he0:0≤e) (he:d≤oR*e):Enc (lo,hi) x e:=by
 obtain⟨h1,h2⟩:=h
 have hleR:(lo:Rat)≤(hi:Rat):=Rat.intCast_le_intCast.2 hle
 have inv:∀q:Rat,oR*(q/oR)=q:=fun q=>by rw[Rat.mul_comm];exact Rat.div_mul_cancel (by decide +kernel)
 rcases Rat.le_total (a:=oR*x) (b:=(lo:Rat)) with g|g
 ·refine⟨(lo:Rat)/oR,by rw[inv];exact Rat.le_refl,by rw[inv];exact hleR,?_⟩
  have e:=inv (lo:Rat)
  generalize (lo:Rat)/oR=y at *
  exact⟨by grind,by grind⟩
 rcases Rat.le_total (a:=oR*x) (b:=(hi:Rat)) with g'|g'
 ·exact⟨x,g,g',by exact⟨by grind,by grind⟩⟩
 ·refine⟨(hi:Rat)/oR,by rw[inv];exact hleR,by rw[inv];exact Rat.le_refl,?_⟩
  have e:=inv (hi:Rat)
  generalize (hi:Rat)/oR=y at *
  exact⟨by grind,by grind⟩
abbrev dB':Rat:=1/((2^130:Nat):Rat)
theorem sin_encA {lo hi n:Int} (h0:lo≤n) (h1:n≤hi) (hb : -100000000≤n∧n≤100000000):Enc (encl lo hi) (S n) dB:=by
 have hh:=bnd_holds (n:=n) (by omega) (by omega)
 have he:=Enc.of2 (e:=dB') hh (bnd_bd _).2.1 (by decide +kernel) (by decide +kernel)
 obtain⟨e1,e2⟩:=encl_any h0 h1
 exact(he.wide (q:=encl lo hi) e1 e2).mono (by decide +kernel)
theorem cos_encA {lo hi n:Int} (h0:lo≤n) (h1:n≤hi) (hb : -100000000≤n∧n≤100000000):Enc (cosE lo hi) (C n) dB:=by
 have hh:=bnd_holds (n:=n+5400000) (by omega) (by omega)
 have he:=Enc.of2 (e:=dB') hh (bnd_bd _).2.1 (by decide +kernel) (by decide +kernel)
 obtain⟨e1,e2⟩:=encl_any (lo:=lo+5400000) (hi:=hi+5400000) (n:=n+5400000) (by omega) (by omega)
 have h3:=S_co (-n)
 rw[C_neg,show 5400000 - -n=n+5400000 by omega] at h3
 exact((he.wide (q:=cosE lo hi) e1 e2).near h3.symm).mono (by decide +kernel)
theorem hav_encA {lo hi n:Int} (h0:lo≤n) (h1:n≤hi) (hb : -100000000≤n∧n≤100000000):Enc (havE lo hi) ((1-C n)/2) dB:=by
 obtain⟨y,a,b,c1,c2⟩:=cos_encA h0 h1 hb
 have f1:(havE lo hi).1*2≤1073741824-(cosE lo hi).2:=by unfold havE;dsimp only;omega
 have f2:1073741824-(cosE lo hi).1≤(havE lo hi).2*2:=by unfold havE;dsimp only;omega
 have g1:=Rat.intCast_le_intCast.2 f1
 have g2:=Rat.intCast_le_intCast.2 f2
 rw[Rat.intCast_mul,Rat.intCast_sub] at g1 g2
 have e1:((2:Int):Rat)=2:=rfl
 have e2:((1073741824:Int):Rat)=1073741824:=rfl
 rw[e1,e2] at g1 g2
 generalize dB=d at *
 exact⟨(1-y)/2,by grind,by grind,by grind,by grind⟩
theorem Enc.between {p:Int×Int} {x y z d e:Rat} (hx:Enc p x d) (hy:Enc p y d) (he:0≤e) (hd:0≤d) (h1:x-e≤z) (h2:z≤y+e):Enc p z (d+e):=by
 obtain⟨x',a1,a2,n1,n2⟩:=hx
 obtain⟨y',b1,b2,k1,k2⟩:=hy
 have ho:=oR_pos
 rcases Rat.le_total (a:=z) (b:=x') with g|g
 ·exact⟨x',a1,a2,by grind,by grind⟩
 rcases Rat.le_total (a:=y') (b:=z) with g'|g'
 ·exact⟨y',b1,b2,by grind,by grind⟩
 ·have p1:=Rat.mul_le_mul_of_nonneg_left g (Rat.le_of_lt ho)
  have p2:=Rat.mul_le_mul_of_nonneg_left g' (Rat.le_of_lt ho)
  exact⟨z,Rat.le_trans a1 p1,Rat.le_trans p2 b2,by grind,by grind⟩
/-! ### a point of the first quarter -/
theorem C_turn (n:Int):Near (C (n+21600000)) (C n) d144:=by
 have h1:=C_half (n+10800000)
 rw[show n+10800000+10800000=n+21600000 by omega] at h1
 have h2:=(C_half n).neg
 have e : - -(C n)=C n:=Rat.neg_neg _
 rw[e] at h2
 exact(h1.trans h2).mono e144
end Go.Proofs.YtjmdeplmenbmmaaGreat.TT
set_option linter.unusedVariables false
namespace Go.Proofs.YtjmdeplmenbmmaaGreat.TT
/-! ### roots -/
def subE (p q:Int×Int):Int×Int:=(p.1-q.2,p.2-q.1)
def gcY (a b w:Int):Int×Int:=mulE (encl w w) (cosE b b)
def gcX (a b w:Int):Int×Int:=subE (mulE (cosE a a) (encl b b)) (mulE (mulE (encl a a) (cosE b b)) (cosE w w))
def gcK (a b w:Int):Int×Int:=brgI (gcY a b w) (gcX a b w)
def gcH (a b w:Int):Int×Int:=addE (havE (b-a) (b-a)) (mulE (mulE (cosE a a) (cosE b b)) (havE w w))
def IsGc (a b w:Int) (D:Int×Int):Prop:=∃n0 n1,IsAsin (1073741824-2*(clamp (gcH a b w)).2) n1∧IsAsin (-(1073741824-2*(clamp (gcH a b w)).1)) n0∧D=(5400000+n0,5400000-n1)
def meetO (p:Int×Int):Int×Int:=(max p.1 (-1073741824),min p.2 1073741824)
abbrev dF:Rat:=1/((2^122:Nat):Rat)
theorem sub_enc {p q:Int×Int} {x y d e:Rat} (hp:Enc p x d) (hq:Enc q y e):Enc (subE p q) (x-y) (d+e):=by
 obtain⟨x',a1,a2,n1,n2⟩:=hp
 obtain⟨y',b1,b2,k1,k2⟩:=hq
 refine⟨x'-y',?_,?_,by grind,by grind⟩
 ·show ((p.1-q.2:Int):Rat)≤_
  rw[Rat.intCast_sub];grind
 ·show _≤((p.2-q.1:Int):Rat)
  rw[Rat.intCast_sub];grind
abbrev ok8 (n:Int):Prop:=-100000000≤n∧n≤100000000
theorem dB_nn:(0:Rat)≤dB:=by decide +kernel
theorem gcH_enc {a b w:Int} (ha:ok8 a) (hb:ok8 b) (hw:ok8 w) (hab:ok8 (b-a)):Enc (gcH a b w) ((1-dot a b w)/2) dF:=by
 have h0:=hav_encA (lo:=b-a) (hi:=b-a) (n:=b-a) (Int.le_refl _) (Int.le_refl _) hab
 have c1:=cos_encA (lo:=a) (hi:=a) (n:=a) (Int.le_refl _) (Int.le_refl _) ha
 have c2:=cos_encA (lo:=b) (hi:=b) (n:=b) (Int.le_refl _) (Int.le_refl _) hb
 have h3:=hav_encA (lo:=w) (hi:=w) (n:=w) (Int.le_refl _) (Int.le_refl _) hw
 have o1:=cosE_ord (lo:=a) (hi:=a) (Int.le_refl _)
 have o3:=cosE_ord (lo:=b) (hi:=b) (Int.le_refl _)
 have m1:=mul_enc c1 c2 dB_nn dB_nn ⟨o1.1,o1.2.2⟩ (C_abs b)
 have b2:=mulE_bd o1 o3
 have m3:=mul_enc m1 h3 (by decide +kernel) dB_nn ⟨b2.1,b2.2.2⟩ (hav_abs w)
 have e:(1-C (b-a))/2+C a*C b*((1-C w)/2)=(1-dot a b w)/2:=by
  rw[(sub_i b a).1]
  unfold dot;grind
 have:=add_enc h0 m3
 rw[e] at this
 exact this.mono (by decide +kernel)
abbrev lat8 (a:Int):Prop:=-5400000≤a∧a≤5400000
abbrev lon8 (w:Int):Prop:=-21600000≤w∧w≤21600000
theorem clamp_of {p:Int×Int} {h d:Rat} (hp:p.1≤p.2) (he:Enc p h d) (t0:0≤h∧h≤1) (hd:0≤oR*d∧oR*d<1):(((clamp p).1:Rat)≤oR*h+oR*d∧oR*h-oR*d≤((clamp p).2:Rat))∧0≤(clamp p).1∧(clamp p).2≤1073741824∧(clamp p).1≤(clamp p).2:=by
 obtain⟨y,a,b,n1,n2⟩:=he
 have e2:((1073741824:Int):Rat)=1073741824:=rfl
 have lo1:p.1≤1073741824:=by
  have:(p.1:Rat)<((1073741825:Int):Rat):=by
   have e3:((1073741825:Int):Rat)=1073741825:=rfl
   rw[e3];grind
  have:=Rat.intCast_lt_intCast.1 this
  omega
 have hi0:0≤p.2:=by
  have:((-1:Int):Rat)<(p.2:Rat):=by
   have e3:((-1:Int):Rat) = -1:=rfl
   rw[e3];grind
  have:=Rat.intCast_lt_intCast.1 this
  omega
 refine⟨⟨?_,?_⟩,?_⟩
 ·unfold clamp
  dsimp only
  rcases Int.le_total p.1 0 with g|g
  ·rw[Int.max_eq_right g]
   have:((0:Int):Rat)=0:=rfl
   rw[this];grind
  ·rw[Int.max_eq_left g];grind
 ·unfold clamp
  dsimp only
  rcases Int.le_total p.2 1073741824 with g|g
  ·rw[Int.min_eq_left g];grind
  ·rw[Int.min_eq_right g,e2];grind
 ·unfold clamp
  dsimp only
  omega
theorem havE_ord {lo hi:Int} (h:lo≤hi):0≤(havE lo hi).1∧(havE lo hi).1≤(havE lo hi).2∧(havE lo hi).2≤1073741824:=by
 have:=cosE_ord h
 unfold havE
 dsimp only
 omega
theorem gcH_ord (a b w:Int):(gcH a b w).1≤(gcH a b w).2∧-1073741824≤(gcH a b w).1∧(gcH a b w).2≤2147483648:=by
 have c1:=cosE_ord (lo:=a) (hi:=a) (Int.le_refl _)
 have c2:=cosE_ord (lo:=b) (hi:=b) (Int.le_refl _)
 have c3:=havE_ord (lo:=w) (hi:=w) (Int.le_refl _)
 have c4:=havE_ord (lo:=b-a) (hi:=b-a) (Int.le_refl _)
 have m1:=mulE_bd c1 c2
 have m2:=mulE_bd m1 ⟨by omega,c3.2⟩
 unfold gcH addE
 dsimp only
 omega
theorem gc_clamp {a b w:Int} (ha:lat8 a) (hb:lat8 b) (hw:lon8 w):(((clamp (gcH a b w)).1:Rat)≤oR*((1-dot a b w)/2)+oR*dF∧oR*((1-dot a b w)/2)-oR*dF≤((clamp (gcH a b w)).2:Rat))∧0≤(clamp (gcH a b w)).1∧(clamp (gcH a b w)).2≤1073741824∧(clamp (gcH a b w)).1≤(clamp (gcH a b w)).2:=by
 have hd:=dot_abs a b w
 exact clamp_of (gcH_ord a b w).1 (gcH_enc ⟨by omega,by omega⟩ ⟨by omega,by omega⟩ ⟨by omega,by omega⟩ ⟨by omega,by omega⟩) ⟨by grind,by grind⟩ (by decide +kernel)
end Go.Proofs.YtjmdeplmenbmmaaGreat.TT
set_option linter.unusedVariables false
namespace Go.Proofs.YtjmdeplmenbmmaaGreat.TT
theorem gcX_ord (a b w:Int):(gcX a b w).1≤(gcX a b w).2∧-2147483648≤(gcX a b w).1∧(gcX a b w).2≤2147483648:=by
 have c1:=cosE_ord (lo:=a) (hi:=a) (Int.le_refl _)
 have c2:=encl_ord (lo:=b) (hi:=b) (Int.le_refl _)
 have c3:=encl_ord (lo:=a) (hi:=a) (Int.le_refl _)
 have c4:=cosE_ord (lo:=b) (hi:=b) (Int.le_refl _)
 have c5:=cosE_ord (lo:=w) (hi:=w) (Int.le_refl _)
 have m1:=mulE_bd c1 c2
 have m2:=mulE_bd (mulE_bd c3 c4) c5
 unfold gcX subE
 dsimp only
 omega
theorem gcY_ord (a b w:Int):(gcY a b w).1≤(gcY a b w).2∧-1073741824≤(gcY a b w).1∧(gcY a b w).2≤1073741824:=by
 have c1:=encl_ord (lo:=w) (hi:=w) (Int.le_refl _)
 have c2:=cosE_ord (lo:=b) (hi:=b) (Int.le_refl _)
 have m1:=mulE_bd c1 c2
 unfold gcY
 omega
end Go.Proofs.YtjmdeplmenbmmaaGreat.TT
set_option linter.unusedVariables false
namespace Go.Proofs.YtjmdeplmenbmmaaGreat.TT
theorem meet_enc {p:Int×Int} {x d:Rat} (hp:p.1≤p.2) (he:Enc p x d) (hx : -1≤x∧x≤1) (hd0:0≤d) (hd:oR*d<1):((meetO p).1≤(meetO p).2∧-1073741824≤(meetO p).1∧(meetO p).2≤1073741824)∧Enc (meetO p) x d:=by
 obtain⟨y,a,b,n1,n2⟩:=he
 have e2:((1073741824:Int):Rat)=1073741824:=rfl
 have e4:((-1073741824:Int):Rat) = -1073741824:=rfl
 have g:=oR_pos
 have y1:oR*y≤oR*x+oR*d:=by have:=Rat.mul_le_mul_of_nonneg_left n2 (Rat.le_of_lt g);grind
 have y2:oR*x-oR*d≤oR*y:=by have:=Rat.mul_le_mul_of_nonneg_left n1 (Rat.le_of_lt g);grind
 have lo1:p.1≤1073741824:=by
  have:(p.1:Rat)<((1073741825:Int):Rat):=by
   have e3:((1073741825:Int):Rat)=1073741825:=rfl
   rw[e3];grind
  have:=Rat.intCast_lt_intCast.1 this
  omega
 have hi0 : -1073741824≤p.2:=by
  have:((-1073741825:Int):Rat)<(p.2:Rat):=by
   have e3:((-1073741825:Int):Rat) = -1073741825:=rfl
   rw[e3];grind
  have:=Rat.intCast_lt_intCast.1 this
  omega
 refine⟨by unfold meetO;dsimp only;omega,?_⟩
 have l1:=Rat.intCast_le_intCast.2 lo1
 have h1:=Rat.intCast_le_intCast.2 hi0
 rw[e2] at l1
 rw[e4] at h1
 have m1:((meetO p).1:Rat)≤oR*y∨((meetO p).1:Rat) = -1073741824:=by
  unfold meetO
  dsimp only
  rcases Int.le_total p.1 (-1073741824) with h|h
  ·rw[Int.max_eq_right h];exact Or.inr e4
  ·rw[Int.max_eq_left h];exact Or.inl a
 have m2:oR*y≤((meetO p).2:Rat)∨((meetO p).2:Rat)=1073741824:=by
  unfold meetO
  dsimp only
  rcases Int.le_total p.2 1073741824 with h|h
  ·rw[Int.min_eq_left h];exact Or.inl b
  ·rw[Int.min_eq_right h];exact Or.inr e2
 have m3:((meetO p).1:Rat)≤1073741824:=by
  have:(meetO p).1≤1073741824:=by unfold meetO;dsimp only;omega
  have:=Rat.intCast_le_intCast.2 this
  rwa [e2] at this
 have m4 : -1073741824≤((meetO p).2:Rat):=by
  have : -1073741824≤(meetO p).2:=by unfold meetO;dsimp only;omega
  have:=Rat.intCast_le_intCast.2 this
  rwa [e4] at this
 have m5 : -1073741824≤((meetO p).1:Rat):=by
  have : -1073741824≤(meetO p).1:=by unfold meetO;dsimp only;omega
  have:=Rat.intCast_le_intCast.2 this
  rwa [e4] at this
 have m6:((meetO p).2:Rat)≤1073741824:=by
  have:(meetO p).2≤1073741824:=by unfold meetO;dsimp only;omega
  have:=Rat.intCast_le_intCast.2 this
  rwa [e2] at this
 rcases Rat.le_total (a:=y) (b:=-1) with k|k
 ·have:=Rat.mul_le_mul_of_nonneg_left k (Rat.le_of_lt g)
  exact⟨-1,by grind,by grind,by grind,by grind⟩
 rcases Rat.le_total (a:=1) (b:=y) with k'|k'
 ·have:=Rat.mul_le_mul_of_nonneg_left k' (Rat.le_of_lt g)
  exact⟨1,by grind,by grind,by grind,by grind⟩
 ·have q1:=Rat.mul_le_mul_of_nonneg_left k (Rat.le_of_lt g)
  have q2:=Rat.mul_le_mul_of_nonneg_left k' (Rat.le_of_lt g)
  exact⟨y,by rcases m1 with m|m<;>grind,by rcases m2 with m|m<;>grind,by grind,by grind⟩
theorem asin_le {v n b:Int} {d:Rat} (hb:lat8 b) (h:IsAsin v n) (hv:(v:Rat)≤oR*S b+oR*d) (hd:d≤1/((2^60:Nat):Rat)):n≤b:=by
 obtain⟨n0,n1,n2,n3⟩:=h
 refine Int.not_lt.1 fun hlt=>?_
 have hh:=(bnd_holds (n:=n) (by omega) (by omega)).2
 have g:=Rat.intCast_le_intCast.2 n2
 have cl:=C_lt (m:=5400000-n) (n:=5400000-b) (by omega) (by omega) (by omega)
 obtain⟨k1,k2⟩:=C_co n
 obtain⟨l1,l2⟩:=C_co b
 have hs:d100+oR*(1/((2^60:Nat):Rat))+oR*(d148+d148)<oR*g45:=by decide +kernel
 have hd':=Rat.mul_le_mul_of_nonneg_left hd (Rat.le_of_lt oR_pos)
 have cl':=Rat.mul_le_mul_of_nonneg_left cl (Rat.le_of_lt oR_pos)
 generalize (1/((2^60:Nat):Rat))=q at *
 generalize d100=x at *
 generalize d148=z at *
 generalize g45=w at *
 generalize C (5400000-n)=c1 at *
 generalize C (5400000-b)=c2 at *
 generalize S n=s1 at *
 generalize S b=s2 at *
 clear n3
 grind
end Go.Proofs.YtjmdeplmenbmmaaGreat.TT
set_option linter.unusedVariables false
namespace Go.Proofs.YtjmdeplmenbmmaaGreat.TT
def ty (r k:Int):Rat:=S r*S k
end Go.Proofs.YtjmdeplmenbmmaaGreat.TT
set_option linter.unusedVariables false
namespace Go.Proofs.YtjmdeplmenbmmaaGreat.TT
end Go.Proofs.YtjmdeplmenbmmaaGreat.TT
