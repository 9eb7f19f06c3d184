/- Joined texts: Rg1, Rg2, Rg3, Rg4. -/
set_option linter.unusedVariables false
namespace Go.Proofs.YtjmdeplmenbmmaaGreatDoor.RR
def mc:Nat→Nat→Nat→Nat
 |0,_,c=>c
 |L+1,r,c=>4*mc L (r/2) (c/2)+2*(r%2)+c%2
structure CellT where
 lv:Nat
 r:Nat
 c:Nat
deriving DecidableEq
def okC (x:CellT):Prop:=x.lv≤16∧x.r<2^x.lv∧x.c<2*2^x.lv
def sz (L:Nat):Nat:=4^(16-L)
def fr (x:CellT):Nat:=mc x.lv x.r x.c*sz x.lv
def to (x:CellT):Nat:=(mc x.lv x.r x.c+1)*sz x.lv
theorem sz_pos (L:Nat):0<sz L:=Nat.pow_pos (by decide)
theorem to_fr (x:CellT):to x=fr x+sz x.lv:=by unfold to fr;rw[Nat.succ_mul]
theorem mc_lt:∀(L r c:Nat),r<2^L→c<2*2^L→mc L r c<2*4^L
 |0,r,c,hr,hc=>by unfold mc;simpa using hc
 |L+1,r,c,hr,hc=>by
  unfold mc
  rw[Nat.pow_succ] at hr hc ⊢
  have:=mc_lt L (r/2) (c/2) (by omega) (by omega)
  omega
theorem mc_inj:∀(L r c r' c':Nat),r<2^L→r'<2^L→mc L r c=mc L r' c'→r=r'∧c=c'
 |0,r,c,r',c',hr,hr',h=>by
  simp only[Nat.pow_zero] at hr hr'
  exact⟨by omega,h⟩
 |L+1,r,c,r',c',hr,hr',h=>by
  unfold mc at h
  rw[Nat.pow_succ] at hr hr'
  have h1:=mc_inj L (r/2) (c/2) (r'/2) (c'/2) (by omega) (by omega) (by omega)
  omega
theorem mc_anc (L:Nat):∀(d r c:Nat),mc (L+d) r c/4^d=mc L (r/2^d) (c/2^d)
 |0,r,c=>by simp
 |d+1,r,c=>by
  have ih:=mc_anc L d (r/2) (c/2)
  rw[Nat.pow_succ,Nat.pow_succ,Nat.mul_comm (4^d) 4,Nat.mul_comm (2^d) 2,←Nat.div_div_eq_div_mul,←Nat.div_div_eq_div_mul,←Nat.div_div_eq_div_mul,←ih]
  congr 1
  show (4*mc (L+d) (r/2) (c/2)+2*(r%2)+c%2)/4=_
  omega
def cd (x:CellT) (k:Nat):Nat:=mc k (x.r/2^(x.lv-k)) (x.c/2^(x.lv-k))
theorem cd_eq {x:CellT} {k:Nat} (h:k≤x.lv):cd x k=mc x.lv x.r x.c/4^(x.lv-k):=by
 have:=mc_anc k (x.lv-k) x.r x.c
 rw[show k+(x.lv-k)=x.lv by omega] at this
 exact this.symm
theorem cd_self (x:CellT):cd x x.lv=mc x.lv x.r x.c:=by unfold cd;simp
theorem cd_up {x:CellT} {k j:Nat} (h:k≤j) (hj:j≤x.lv):cd x k=cd x j/4^(j-k):=by
 rw[cd_eq (by omega),cd_eq hj,Nat.div_div_eq_div_mul,←Nat.pow_add]
 congr 2;omega
theorem span_in {x:CellT} {k:Nat} (h:k≤x.lv) (h16:x.lv≤16):cd x k*sz k≤fr x∧to x≤(cd x k+1)*sz k:=by
 rw[cd_eq h]
 unfold fr to sz
 generalize mc x.lv x.r x.c=m
 have e:4^(16-k)=4^(x.lv-k)*4^(16-x.lv):=by rw[←Nat.pow_add];congr 1;omega
 rw[e,←Nat.mul_assoc,←Nat.mul_assoc]
 have hp:0<4^(x.lv-k):=Nat.pow_pos (by decide)
 have h1:=Nat.div_mul_le_self m (4^(x.lv-k))
 have h2:=Nat.lt_div_mul_add hp (a:=m)
 refine⟨Nat.mul_le_mul_right _ h1,Nat.mul_le_mul_right _ ?_⟩
 rw[Nat.succ_mul];omega
theorem sep_iff {a b:CellT} (ha:a.lv≤16) (hb:b.lv≤16):cd a (min a.lv b.lv)<cd b (min a.lv b.lv)↔to a≤fr b:=by
 rcases Nat.le_total a.lv b.lv with h|h
 ·rw[Nat.min_eq_left h,cd_self]
  obtain⟨h1,h2⟩:=span_in h hb
  have hs:=sz_pos a.lv
  have hsb:=sz_pos b.lv
  have hto:=to_fr b
  constructor
  ·intro hlt
   unfold to
   exact Nat.le_trans (Nat.mul_le_mul_right _ hlt) h1
  ·intro hle
   refine Nat.lt_of_not_le fun hge=>?_
   have h3:(cd b a.lv+1)*sz a.lv≤to a:=Nat.mul_le_mul_right _ (by omega)
   omega
 ·rw[Nat.min_eq_right h,cd_self]
  obtain⟨h1,h2⟩:=span_in h ha
  have hs:=sz_pos b.lv
  have hsa:=sz_pos a.lv
  have hto:=to_fr a
  constructor
  ·intro hlt
   refine Nat.le_trans h2 ?_
   unfold fr
   exact Nat.mul_le_mul_right _ hlt
  ·intro hle
   refine Nat.lt_of_not_le fun hge=>?_
   have h3:fr b≤cd a b.lv*sz b.lv:=Nat.mul_le_mul_right _ hge
   omega
/-! ### the reference's words -/
def within (a b:CellT):Bool:=decide (b.lv≤a.lv)&&decide (a.r/2^(a.lv-b.lv)=b.r)&&decide (a.c/2^(a.lv-b.lv)=b.c)
def befL (a b:CellT):Nat→Nat→Bool
 |_,0=>false
 |k,n+1 =>
  if a.r/2^(a.lv-k)≠b.r/2^(b.lv-k) then decide (a.r/2^(a.lv-k)<b.r/2^(b.lv-k))
  else if a.c/2^(a.lv-k)≠b.c/2^(b.lv-k) then decide (a.c/2^(a.lv-k)<b.c/2^(b.lv-k))
  else befL a b (k+1) n
def before (a b:CellT):Bool:=befL a b 0 (min a.lv b.lv+1)
theorem div_succ (n l k:Nat) (h:k+1≤l):n/2^(l-k)=n/2^(l-(k+1))/2:=by
 rw[Nat.div_div_eq_div_mul,←Nat.pow_succ];congr 2;omega
theorem div_lt_of {a b d:Nat} (h:a/d<b/d):a<b:=Nat.lt_of_not_le fun hge=>by have:=Nat.div_le_div_right (c:=d) hge;omega
theorem befL_spec {a b:CellT} (m:Nat) (hm:m≤a.lv∧m≤b.lv):∀(n k:Nat),k+n=m+1→(k=0→a.r/2^a.lv=b.r/2^b.lv)→(∀j,k=j+1→a.r/2^(a.lv-j)=b.r/2^(b.lv-j)∧a.c/2^(a.lv-j)=b.c/2^(b.lv-j))→befL a b k n=decide (cd a m<cd b m)
 |0,k,hk,h0,hj=>by
  obtain⟨e1,e2⟩:=hj m (by omega)
  unfold befL cd
  rw[e1,e2]
  simp
 |n+1,k,hk,h0,hj=>by
  have up:∀x:CellT,m≤x.lv→cd x k=cd x m/4^(m-k):=fun x hx=>cd_up (by omega) hx
  -- the order at level k decides,if it differs there
  have lt:cd a k<cd b k→cd a m<cd b m:=fun h=>by rw[up a hm.1,up b hm.2] at h;exact div_lt_of h
  have gt:cd b k<cd a k→¬cd a m<cd b m:=fun h=>by rw[up a hm.1,up b hm.2] at h;have:=div_lt_of h;omega
  have hk0:k=0→cd a k=a.c/2^(a.lv-k)∧cd b k=b.c/2^(b.lv-k):=fun h=>by subst h;exact⟨rfl,rfl⟩
  have hks:∀j,k=j+1→∀x:CellT,cd x k=4*mc j (x.r/2^(x.lv-k)/2) (x.c/2^(x.lv-k)/2)+2*(x.r/2^(x.lv-k)%2)+x.c/2^(x.lv-k)%2:=fun j h x=>by subst h;rfl
  unfold befL
  by_cases hr:a.r/2^(a.lv-k)=b.r/2^(b.lv-k)
  ·rw[if_neg (by simpa using hr)]
   by_cases hc:a.c/2^(a.lv-k)=b.c/2^(b.lv-k)
   ·rw[if_neg (by simpa using hc)]
    exact befL_spec m hm n (k+1) (by omega) (by omega) (fun j h=>by
     obtain rfl:k=j:=by omega
     exact⟨hr,hc⟩)
   ·rw[if_pos (by simpa using hc)]
    have key:(a.c/2^(a.lv-k)<b.c/2^(b.lv-k)→cd a k<cd b k)∧(b.c/2^(b.lv-k)<a.c/2^(a.lv-k)→cd b k<cd a k):=by
     rcases Nat.eq_zero_or_pos k with h|h
     ·obtain⟨e1,e2⟩:=hk0 h
      rw[e1,e2];exact⟨id,id⟩
     ·obtain⟨j,rfl⟩:∃j,k=j+1:=⟨k-1,by omega⟩
      obtain⟨g1,g2⟩:=hj j rfl
      rw[div_succ _ _ _ (show j+1≤a.lv by omega),div_succ _ _ _ (show j+1≤b.lv by omega)] at g1 g2
      rw[hks j rfl a,hks j rfl b,g1,g2]
      omega
    rcases Nat.lt_or_ge (a.c/2^(a.lv-k)) (b.c/2^(b.lv-k)) with h|h
    ·rw[decide_eq_true h,decide_eq_true (lt (key.1 h))]
    ·rw[decide_eq_false (by omega),decide_eq_false (gt (key.2 (by omega)))]
  ·rw[if_pos (by simpa using hr)]
   have key:(a.r/2^(a.lv-k)<b.r/2^(b.lv-k)→cd a k<cd b k)∧(b.r/2^(b.lv-k)<a.r/2^(a.lv-k)→cd b k<cd a k):=by
    rcases Nat.eq_zero_or_pos k with h|h
    ·subst h
     exact absurd (h0 rfl) (by simpa using hr)
    ·obtain⟨j,rfl⟩:∃j,k=j+1:=⟨k-1,by omega⟩
     obtain⟨g1,g2⟩:=hj j rfl
     rw[div_succ _ _ _ (show j+1≤a.lv by omega),div_succ _ _ _ (show j+1≤b.lv by omega)] at g1 g2
     rw[hks j rfl a,hks j rfl b,g1,g2]
     omega
   rcases Nat.lt_or_ge (a.r/2^(a.lv-k)) (b.r/2^(b.lv-k)) with h|h
   ·rw[decide_eq_true h,decide_eq_true (lt (key.1 h))]
   ·rw[decide_eq_false (by omega),decide_eq_false (gt (key.2 (by omega)))]
theorem row0 {x:CellT} (h:okC x):x.r/2^x.lv=0:=Nat.div_eq_of_lt h.2.1
theorem before_iff {a b:CellT} (ha:okC a) (hb:okC b):before a b=decide (to a≤fr b):=by
 unfold before
 rw[befL_spec (min a.lv b.lv) ⟨Nat.min_le_left _ _,Nat.min_le_right _ _⟩ _ 0 (by omega) (fun _=>by rw[row0 ha,row0 hb]) (fun j h=>by omega)]
 exact decide_eq_decide.2 (sep_iff ha.1 hb.1)
theorem within_no {a b:CellT} (ha:okC a) (hb:okC b) (h:to a≤fr b):within a b=false∧within b a=false:=by
 have hlt:=(sep_iff ha.1 hb.1).2 h
 constructor
 ·cases hw:within a b with
  |false=>rfl
  |true =>
   simp only[within,Bool.and_eq_true,decide_eq_true_eq] at hw
   obtain⟨⟨h1,h2⟩,h3⟩:=hw
   rw[Nat.min_eq_right h1] at hlt
   unfold cd at hlt
   rw[h2,h3] at hlt
   simp at hlt
 ·cases hw:within b a with
  |false=>rfl
  |true =>
   simp only[within,Bool.and_eq_true,decide_eq_true_eq] at hw
   obtain⟨⟨h1,h2⟩,h3⟩:=hw
   rw[Nat.min_eq_left h1] at hlt
   unfold cd at hlt
   rw[h2,h3] at hlt
   simp at hlt
def drow:Nat→Nat→Nat
 |0,_=>0
 |L+1,n=>2*drow L (n/4)+n%4/2
def dcol:Nat→Nat→Nat
 |0,n=>n
 |L+1,n=>2*dcol L (n/4)+n%2
def cellAt (n L:Nat):CellT:=⟨L,drow L n,dcol L n⟩
theorem drow_mc:∀(L r c:Nat),r<2^L→drow L (mc L r c)=r∧dcol L (mc L r c)=c
 |0,r,c,h=>by
  simp only[Nat.pow_zero] at h
  exact⟨by unfold drow;omega,rfl⟩
 |L+1,r,c,h=>by
  rw[Nat.pow_succ] at h
  obtain⟨h1,h2⟩:=drow_mc L (r/2) (c/2) (by omega)
  have e:mc (L+1) r c=4*mc L (r/2) (c/2)+2*(r%2)+c%2:=rfl
  have e4:mc (L+1) r c/4=mc L (r/2) (c/2):=by rw[e];omega
  unfold drow dcol
  rw[e4,h1,h2,e]
  omega
theorem mc_drow:∀(L n:Nat),n<2*4^L→mc L (drow L n) (dcol L n)=n∧drow L n<2^L∧dcol L n<2*2^L
 |0,n,h=>⟨rfl,by unfold drow;simp,by simpa [dcol] using h⟩
 |L+1,n,h=>by
  rw[Nat.pow_succ] at h
  obtain⟨h1,h2,h3⟩:=mc_drow L (n/4) (by omega)
  unfold mc
  have d1:drow (L+1) n=2*drow L (n/4)+n%4/2:=rfl
  have d2:dcol (L+1) n=2*dcol L (n/4)+n%2:=rfl
  have e1:drow (L+1) n/2=drow L (n/4):=by rw[d1];omega
  have e2:dcol (L+1) n/2=dcol L (n/4):=by rw[d2];omega
  rw[e1,e2,h1]
  rw[Nat.pow_succ,d1,d2]
  omega
theorem cellAt_of {x:CellT} (h:okC x):cellAt (fr x/sz x.lv) x.lv=x:=by
 have e:fr x/sz x.lv=mc x.lv x.r x.c:=Nat.mul_div_cancel _ (sz_pos _)
 rw[e]
 obtain⟨h1,h2⟩:=drow_mc x.lv x.r x.c h.2.1
 unfold cellAt
 rw[h1,h2]
def lvlF (f t:Nat):Nat→Nat
 |0=>0
 |L+1=>if f%sz L=0∧f+sz L≤t then lvlF f t L else L+1
def greedy (f t:Nat):List CellT :=
 if h:f<t then cellAt (f/sz (lvlF f t 16)) (lvlF f t 16)::greedy (f+sz (lvlF f t 16)) t else []
termination_by t-f
decreasing_by have:=sz_pos (lvlF f t 16);omega
theorem greedy_no {f t:Nat} (h:¬f<t):greedy f t=[]:=by rw[greedy,dif_neg h]
theorem greedy_yes {f t:Nat} (h:f<t):greedy f t=cellAt (f/sz (lvlF f t 16)) (lvlF f t 16)::greedy (f+sz (lvlF f t 16)) t:=by rw[greedy,dif_pos h]
def Run:Nat→Nat→List CellT→Prop
 |f,t,[]=>f=t
 |f,t,x::r=>okC x∧fr x=f∧Run (to x) t r
def bro (a b c d:CellT):Prop:=0<a.lv∧b.lv=a.lv∧c.lv=a.lv∧d.lv=a.lv∧∃p,mc a.lv a.r a.c=4*p∧mc b.lv b.r b.c=4*p+1∧mc c.lv c.r c.c=4*p+2∧mc d.lv d.r d.c=4*p+3
def noB:List CellT→Prop
 |a::b::c::d::r=>¬bro a b c d∧noB (b::c::d::r)
 |_=>True
theorem noB_tail {a:CellT} {r:List CellT} (h:noB (a::r)):noB r:=by
 match r,h with
 |[],_=>trivial
 |[_],_=>trivial
 |[_,_],_=>trivial
 |b::c::d::r,h=>exact h.2
theorem noB_front:∀(r s:List CellT),noB (r++s)→noB r
 |[],s,h=>trivial
 |a::r,s,h=>by
  have ht:=noB_front r s (noB_tail h)
  match r,h,ht with
  |[],_,_=>trivial
  |[_],_,_=>trivial
  |[_,_],_,_=>trivial
  |b::c::d::r,h,ht=>exact⟨h.1,ht⟩
theorem noB_back:∀(r s:List CellT),noB (r++s)→noB s
 |[],s,h=>h
 |a::r,s,h=>noB_back r s (noB_tail h)
theorem Run.le:∀{r:List CellT} {f t:Nat},Run f t r→f≤t
 |[],f,t,h=>Nat.le_of_eq h
 |x::r,f,t,⟨h1,h2,h3⟩=>by
  have:=Run.le h3
  have:=to_fr x
  omega
theorem Run.ne {r:List CellT} {f t:Nat} (h:Run f t r) (hlt:f<t):∃x r',r=x::r'∧okC x∧fr x=f∧Run (to x) t r':=by
 cases r with
 |nil=>have:f=t:=h;omega
 |cons x r=>exact⟨x,r,rfl,h⟩
theorem fr_mod (x:CellT):fr x%sz x.lv=0:=Nat.mul_mod_left _ _
theorem pow4_le {a b:Nat} (h:a≤b):4^a≤4^b:=Nat.pow_le_pow_right (by decide) h
theorem pow4_lt {a b:Nat} (h:4^a<4^b):a<b:=Nat.lt_of_not_le fun hge=>by have:=pow4_le hge;omega
theorem mod_pow {f a b:Nat} (h:f%4^b=0) (hab:a≤b):f%4^a=0:=by
 have:4^a ∣ 4^b:=Nat.pow_dvd_pow 4 hab
 exact Nat.mod_eq_zero_of_dvd (Nat.dvd_trans this (Nat.dvd_of_mod_eq_zero h))
theorem small_at {x:CellT} {f e k:Nat} (hk:k=1∨k=2∨k=3) (hf:f%4^(e+1)=0) (hx:fr x=f+k*4^e):sz x.lv≤4^e:=by
 unfold sz
 refine Nat.le_of_not_lt fun hlt=>?_
 have h1:=pow4_lt hlt
 have h2:=mod_pow (fr_mod x) (show e+1≤16-x.lv by omega)
 rw[hx] at h2
 rw[Nat.pow_succ] at hf h2
 have hp:0<4^e:=Nat.pow_pos (by decide)
 obtain⟨q,hq⟩:=Nat.dvd_of_mod_eq_zero hf
 rw[hq,Nat.add_comm,Nat.mul_assoc,Nat.mul_comm (4^e) (4*q),Nat.mul_comm (4^e) 4] at h2
 have h3:=Nat.dvd_of_mod_eq_zero h2
 obtain⟨z,hz⟩:=h3
 have h4:k+4*q=4*z:=by
  refine Nat.eq_of_mul_eq_mul_right hp ?_
  rw[Nat.add_mul,hz]
  simp only[Nat.mul_comm,Nat.mul_assoc]
 omega
theorem sz_lt_succ {a e:Nat} (h:4^a<4^(e+1)):4^a≤4^e:=pow4_le (by have:=pow4_lt h;omega)
theorem full:∀(e:Nat) (f t:Nat) (r:List CellT),e≤16→Run f t r→f%4^e=0→f+4^e≤t→(∀x r',r=x::r'→sz x.lv<4^e)→¬noB r
 |0,f,t,r,he,hr,h0,h1,hs,hb=>by
  simp only[Nat.pow_zero] at h1 hs
  obtain⟨x,r',rfl,_,_,_⟩:=hr.ne (by omega)
  have:=hs x r' rfl
  have:=sz_pos x.lv
  omega
 |e+1,f,t,r,he,hr,h0,h1,hs,hb=>by
  have hp:0<4^e:=Nat.pow_pos (by decide)
  have hpe:4^(e+1)=4*4^e:=by rw[Nat.pow_succ,Nat.mul_comm]
  have h0e:f%4^e=0:=mod_pow h0 (by omega)
  obtain⟨x,r1,rfl,okx,fx,rx⟩:=hr.ne (by omega)
  have sx:=sz_lt_succ (hs x r1 rfl)
  rcases Nat.lt_or_ge (sz x.lv) (4^e) with g|g
  ·refine full e f t (x::r1) (by omega) ⟨okx,fx,rx⟩ h0e (by omega) (fun y r' hy=>?_) hb
   simp only[List.cons.injEq] at hy
   rw[←hy.1];exact g
  have ex:sz x.lv=4^e:=Nat.le_antisymm sx g
  have tx:to x=f+4^e:=by rw[to_fr,fx,ex]
  -- the second
  rw[tx] at rx
  obtain⟨y,r2,rfl,oky,fy,ry⟩:=rx.ne (by omega)
  have sy:=small_at (k:=1) (by omega) h0 (by rw[fy,Nat.one_mul])
  have m1:(f+4^e)%4^e=0:=by rw[Nat.add_mod_right];exact h0e
  rcases Nat.lt_or_ge (sz y.lv) (4^e) with g|g
  ·refine full e (f+4^e) t (y::r2) (by omega) ⟨oky,fy,ry⟩ m1 (by omega) (fun z r' hz=>?_) (noB_tail hb)
   simp only[List.cons.injEq] at hz
   rw[←hz.1];exact g
  have ey:sz y.lv=4^e:=Nat.le_antisymm sy g
  have ty:to y=f+4^e+4^e:=by rw[to_fr,fy,ey]
  rw[ty] at ry
  obtain⟨z,r3,rfl,okz,fz,rz⟩:=ry.ne (by omega)
  have sz':=small_at (k:=2) (by omega) h0 (by rw[fz];omega)
  have m2:(f+4^e+4^e)%4^e=0:=by rw[Nat.add_mod_right];exact m1
  rcases Nat.lt_or_ge (sz z.lv) (4^e) with g|g
  ·refine full e (f+4^e+4^e) t (z::r3) (by omega) ⟨okz,fz,rz⟩ m2 (by omega) (fun u r' hu=>?_) (noB_tail (noB_tail hb))
   simp only[List.cons.injEq] at hu
   rw[←hu.1];exact g
  have ez:sz z.lv=4^e:=Nat.le_antisymm sz' g
  have tz:to z=f+4^e+4^e+4^e:=by rw[to_fr,fz,ez]
  rw[tz] at rz
  obtain⟨u,r4,rfl,oku,fu,ru⟩:=rz.ne (by omega)
  have su:=small_at (k:=3) (by omega) h0 (by rw[fu];omega)
  have m3:(f+4^e+4^e+4^e)%4^e=0:=by rw[Nat.add_mod_right];exact m2
  rcases Nat.lt_or_ge (sz u.lv) (4^e) with g|g
  ·refine full e (f+4^e+4^e+4^e) t (u::r4) (by omega) ⟨oku,fu,ru⟩ m3 (by omega) (fun v r' hv=>?_) (noB_tail (noB_tail (noB_tail hb)))
   simp only[List.cons.injEq] at hv
   rw[←hv.1];exact g
  have eu:sz u.lv=4^e:=Nat.le_antisymm su g
  -- the four
  have lv:∀w:CellT,okC w→sz w.lv=4^e→w.lv=16-e:=fun w hw h=>by
   have h16:=hw.1
   unfold sz at h
   have a1:¬(16-w.lv<e):=fun hl=>by have:=Nat.pow_lt_pow_right (show 1<4 by decide) hl;omega
   have a2:¬(e<16-w.lv):=fun hl=>by have:=Nat.pow_lt_pow_right (show 1<4 by decide) hl;omega
   omega
  obtain⟨p,hp4⟩:=Nat.dvd_of_mod_eq_zero h0
  have code:∀(w:CellT) (k:Nat),sz w.lv=4^e→fr w=f+k*4^e→mc w.lv w.r w.c=4*p+k:=fun w k h h2=>by
   unfold fr at h2
   rw[h,hp4,hpe] at h2
   refine Nat.eq_of_mul_eq_mul_right hp ?_
   rw[h2,Nat.add_mul]
   congr 1
   simp only[Nat.mul_comm,Nat.mul_assoc]
  refine hb.1 ⟨?_,?_,?_,?_,p,?_,?_,?_,?_⟩
  ·rw[lv x okx ex];omega
  ·rw[lv x okx ex,lv y oky ey]
  ·rw[lv x okx ex,lv z okz ez]
  ·rw[lv x okx ex,lv u oku eu]
  ·have:=code x 0 ex (by rw[fx];omega);omega
  ·exact code y 1 ey (by rw[fy];omega)
  ·exact code z 2 ez (by rw[fz];omega)
  ·exact code u 3 eu (by rw[fu];omega)
theorem sz_dvd {a b:Nat} (h:a≤b):sz b ∣ sz a:=Nat.pow_dvd_pow 4 (by omega)
theorem sz_le {a b:Nat} (h:a≤b):sz b≤sz a:=pow4_le (by omega)
theorem lvlF_of {x:CellT} {f t:Nat} {r:List CellT} (hr:Run f t (x::r)) (hb:noB (x::r)):lvlF f t 16=x.lv:=by
 obtain⟨okx,fx,rx⟩:=hr
 have htx:=rx.le
 have hto:=to_fr x
 have down:∀L,x.lv≤L→lvlF f t L=lvlF f t x.lv:=by
  intro L hL
  induction L with
  |zero=>rw[show x.lv=0 by omega]
  |succ L ih =>
   by_cases h:x.lv=L+1
   ·rw[h]
   ·have hle:x.lv≤L:=by omega
    rw[←ih hle]
    show (if f%sz L=0∧f+sz L≤t then lvlF f t L else L+1)=_
    rw[if_pos]
    refine⟨?_,?_⟩
    ·rw[←fx]
     exact Nat.mod_eq_zero_of_dvd (Nat.dvd_trans (sz_dvd hle) (Nat.dvd_of_mod_eq_zero (fr_mod x)))
    ·have:=sz_le hle
     omega
 rw[down 16 okx.1]
 cases hx:x.lv with
 |zero=>rfl
 |succ K =>
  show (if f%sz K=0∧f+sz K≤t then lvlF f t K else K+1)=K+1
  refine if_neg fun h=>?_
  refine full (16-K) f t (x::r) (by omega) ⟨okx,fx,rx⟩ h.1 h.2 (fun y r' hy=>?_) hb
  simp only[List.cons.injEq] at hy
  rw[←hy.1,hx]
  have h16:=okx.1
  exact Nat.pow_lt_pow_right (by decide) (by omega)
theorem greedy_run:∀(r:List CellT) (f t:Nat),Run f t r→noB r→greedy f t=r
 |[],f,t,h,_=>greedy_no (by have:f=t:=h;omega)
 |x::r,f,t,h,hb=>by
  have hl:=lvlF_of h hb
  obtain⟨okx,fx,rx⟩:=h
  have hto:=to_fr x
  have:=rx.le
  have:=sz_pos x.lv
  rw[greedy_yes (by omega),hl,←fx,cellAt_of okx,←to_fr,greedy_run r (to x) t rx (noB_tail hb)]
/-! ### spans put together -/
def mergeL:Nat→Nat→List (Nat×Nat)→List (Nat×Nat)
 |f,t,[]=>[(f,t)]
 |f,t,s::r=>if s.1≤t then mergeL f (max t s.2) r else (f,t)::mergeL s.1 s.2 r
def spanC (x:CellT):Nat×Nat:=(fr x,to x)
def merge:List (Nat×Nat)→List (Nat×Nat)
 |[]=>[]
 |s::r=>mergeL s.1 s.2 r
def tidyL (l:List (Nat×Nat)):List CellT:=l.flatMap fun s=>greedy s.1 s.2
def Chain:List CellT→Prop
 |a::b::r=>to a≤fr b∧Chain (b::r)
 |_=>True
theorem Run.snoc:∀{r:List CellT} {f t:Nat} {x:CellT},Run f t r→okC x→fr x=t→Run f (to x) (r++[x])
 |[],f,t,x,h,hx,e=>⟨hx,by rw[e];exact(show f=t from h).symm,rfl⟩
 |y::r,f,t,x,⟨h1,h2,h3⟩,hx,e=>⟨h1,h2,Run.snoc h3 hx e⟩
theorem Run.last:∀{r:List CellT} {f t:Nat} {l:List CellT} {x:CellT},Run f t r→r≠[]→Chain (r++x::l)→t≤fr x
 |[y],f,t,l,x,⟨h1,h2,h3⟩,_,hc=>by
  have e:to y=t:=h3
  rw[←e];exact hc.1
 |y::z::r,f,t,l,x,⟨h1,h2,h3⟩,_,hc=>Run.last (r:=z::r) h3 (by simp) hc.2
theorem tidy_merge:∀(l g:List CellT) (f t:Nat),g≠[]→Run f t g→(∀x∈l,okC x)→Chain (g++l)→noB (g++l)→tidyL (mergeL f t (l.map spanC))=g++l
 |[],g,f,t,hg,hr,ho,hc,hb=>by
  simp only[List.map_nil,mergeL,tidyL,List.flatMap_cons,List.flatMap_nil,List.append_nil] at hb ⊢
  exact greedy_run g f t hr hb
 |x::l,g,f,t,hg,hr,ho,hc,hb=>by
  have hx:=ho x List.mem_cons_self
  have hle:=hr.last hg hc
  simp only[List.map_cons,mergeL]
  by_cases h:fr x≤t
  ·have e:fr x=t:=by omega
   have hto:=to_fr x
   have hmax:max t (to x)=to x:=Nat.max_eq_right (by omega)
   rw[if_pos (show (spanC x).1≤t from h),show max t (spanC x).2=to x from hmax]
   rw[tidy_merge l (g++[x]) f (to x) (by simp) (hr.snoc hx e) (fun y hy=>ho y (List.mem_cons_of_mem _ hy)) (by simpa using hc) (by simpa using hb)]
   simp
  ·rw[if_neg (show ¬(spanC x).1≤t from h)]
   simp only[tidyL,List.flatMap_cons]
   have h2:=tidy_merge l [x] (fr x) (to x) (by simp) ⟨hx,rfl,rfl⟩ (fun y hy=>ho y (List.mem_cons_of_mem _ hy)) ?_ (noB_back g _ hb)
   ·rw[greedy_run g f t hr (noB_front g _ hb)]
    exact congrArg (g++·) h2
   ·clear hb hr hle hg
    induction g with
    |nil=>exact hc
    |cons a g ih =>
     cases g with
     |nil=>exact hc.2
     |cons b g=>exact ih hc.2
theorem tidy_back {l:List CellT} (ho:∀x∈l,okC x) (hc:Chain l) (hb:noB l):tidyL (merge (l.map spanC))=l:=by
 cases l with
 |nil=>rfl
 |cons x l=>exact tidy_merge l [x] (fr x) (to x) (by simp) ⟨ho x List.mem_cons_self,rfl,rfl⟩ (fun y hy=>ho y (List.mem_cons_of_mem _ hy)) hc hb
theorem lvlF_spec (f t:Nat) (hft:f<t):∀L,L≤16→f%sz L=0→f+sz L≤t→f%sz (lvlF f t L)=0∧f+sz (lvlF f t L)≤t∧lvlF f t L≤L∧(∀K,lvlF f t L=K+1→¬(f%sz K=0∧f+sz K≤t))
 |0,_,h1,h2=>⟨h1,h2,Nat.le_refl _,fun K h=>by simp[lvlF] at h⟩
 |L+1,h16,h1,h2=>by
  by_cases h:f%sz L=0∧f+sz L≤t
  ·have e:lvlF f t (L+1)=lvlF f t L:=if_pos h
   obtain⟨a1,a2,a3,a4⟩:=lvlF_spec f t hft L (by omega) h.1 h.2
   rw[e];exact⟨a1,a2,by omega,a4⟩
  ·have e:lvlF f t (L+1)=L+1:=if_neg h
   rw[e]
   exact⟨h1,h2,Nat.le_refl _,fun K hK=>by
    obtain rfl:K=L:=by omega
    exact h⟩
theorem lvlF_16 (f t:Nat) (h:f<t):f%sz (lvlF f t 16)=0∧f+sz (lvlF f t 16)≤t∧lvlF f t 16≤16∧(∀K,lvlF f t 16=K+1→¬(f%sz K=0∧f+sz K≤t)) :=
 lvlF_spec f t h 16 (Nat.le_refl _) (by rw[show sz 16=1 from rfl];omega) (by rw[show sz 16=1 from rfl];omega)
theorem cell_spec {f t:Nat} (h:f<t) (ht:t≤2*4^16):okC (cellAt (f/sz (lvlF f t 16)) (lvlF f t 16))∧fr (cellAt (f/sz (lvlF f t 16)) (lvlF f t 16))=f∧to (cellAt (f/sz (lvlF f t 16)) (lvlF f t 16))=f+sz (lvlF f t 16):=by
 obtain⟨h1,h2,h3,_⟩:=lvlF_16 f t h
 generalize lvlF f t 16=L at *
 have hs:=sz_pos L
 have e:f/sz L*sz L=f:=Nat.div_mul_cancel (Nat.dvd_of_mod_eq_zero h1)
 have hlt:f/sz L<2*4^L:=by
  refine(Nat.div_lt_iff_lt_mul hs).2 ?_
  have:2*4^L*sz L=2*4^16:=by
   unfold sz
   rw[Nat.mul_assoc,←Nat.pow_add]
   congr 2;omega
  rw[this];omega
 obtain⟨m1,m2,m3⟩:=mc_drow L (f/sz L) hlt
 have hfr:fr (cellAt (f/sz L) L)=f:=by
  show mc L (drow L (f/sz L)) (dcol L (f/sz L))*sz L=f
  rw[m1,e]
 exact⟨⟨h3,m2,m3⟩,hfr,by rw[to_fr,hfr];rfl⟩
def Gaps:List (Nat×Nat)→Prop
 |[]=>True
 |[s]=>s.1<s.2∧s.2≤2*4^16
 |s::u::r=>s.1<s.2∧s.2<u.1∧Gaps (u::r)
theorem Gaps.head {s:Nat×Nat} {r:List (Nat×Nat)} (h:Gaps (s::r)):s.1<s.2∧s.2≤2*4^16:=by
 induction r generalizing s with
 |nil=>exact h
 |cons u r ih =>
  have:=ih h.2.2
  have h1:=h.1;have h2:=h.2.1
  exact⟨h1,by omega⟩
theorem Gaps.tail {s:Nat×Nat} {r:List (Nat×Nat)} (h:Gaps (s::r)):Gaps r:=by
 cases r with
 |nil=>trivial
 |cons u r=>exact h.2.2
theorem tidy_next {s:Nat×Nat} {r:List (Nat×Nat)} (hg:Gaps (s::r)) {f:Nat} (hf:f≤s.2) {x:CellT} {q:List CellT} (h:greedy f s.2++tidyL r=x::q) :
  okC x∧((f<s.2∧fr x=f∧x.lv=lvlF f s.2 16∧to x≤s.2∧q=greedy (to x) s.2++tidyL r)∨(f=s.2∧∃u r',r=u::r'∧s.2<fr x∧fr x=u.1∧x.lv=lvlF u.1 u.2 16∧to x≤u.2∧q=greedy (to x) u.2++tidyL r')):=by
 have hs:=hg.head
 by_cases hlt:f<s.2
 ·obtain⟨c1,c2,c3⟩:=cell_spec hlt hs.2
  obtain⟨h1,h2,h3,_⟩:=lvlF_16 f s.2 hlt
  rw[greedy_yes hlt] at h
  simp only[List.cons_append,List.cons.injEq] at h
  obtain⟨e1,e2⟩:=h
  rw[e1] at c1 c2 c3
  have el:x.lv=lvlF f s.2 16:=by rw[←e1];rfl
  exact⟨c1,.inl ⟨hlt,c2,el,by omega,by rw[←e2,c3]⟩⟩
 ·rw[greedy_no hlt,List.nil_append] at h
  cases r with
  |nil=>simp[tidyL] at h
  |cons u r' =>
   have hu:=hg.tail.head
   have hgap:s.2<u.1:=hg.2.1
   obtain⟨c1,c2,c3⟩:=cell_spec hu.1 hu.2
   obtain⟨h1,h2,h3,_⟩:=lvlF_16 u.1 u.2 hu.1
   have h':greedy u.1 u.2++tidyL r'=x::q:=h
   rw[greedy_yes hu.1] at h'
   simp only[List.cons_append,List.cons.injEq] at h'
   obtain⟨e1,e2⟩:=h'
   rw[e1] at c1 c2 c3
   have el:x.lv=lvlF u.1 u.2 16:=by rw[←e1];rfl
   exact⟨c1,.inr ⟨by omega,u,r',rfl,by omega,c2,el,by omega,by rw[←e2,c3]⟩⟩
theorem bro_no {a b c d:CellT} {s:Nat×Nat} {r:List (Nat×Nat)} {f:Nat} {q:List CellT} (hg:Gaps (s::r)) (hf:f<s.2) (ha:fr a=f) (hl:a.lv=lvlF f s.2 16) (hta:to a≤s.2) (h:greedy (to a) s.2++tidyL r=b::c::d::q) (hb:bro a b c d):False:=by
 obtain⟨l0,lb,lc,ld,p,pa,pb,pc,pd⟩:=hb
 obtain⟨_,_,h3,h4⟩:=lvlF_16 f s.2 hf
 obtain⟨K,hK⟩:∃K,a.lv=K+1:=⟨a.lv-1,by omega⟩
 have no:=h4 K (by rw[←hl,hK])
 have h16:K+1≤16:=by omega
 have eK:sz K=4*sz a.lv:=by
  unfold sz
  rw[hK,show 16-K=(16-(K+1))+1 by omega,Nat.pow_succ,Nat.mul_comm]
 have fa:fr a=p*sz K:=by
  show mc a.lv a.r a.c*sz a.lv=_
  rw[pa,eK,Nat.mul_comm 4 p,Nat.mul_assoc]
 have hsp:=sz_pos a.lv
 have ta:=to_fr a
 have fb:fr b=fr a+sz a.lv:=by
  show mc b.lv b.r b.c*sz b.lv=mc a.lv a.r a.c*sz a.lv+_
  rw[pb,pa,lb,Nat.succ_mul]
 have fc:fr c=fr a+2*sz a.lv:=by
  show mc c.lv c.r c.c*sz c.lv=mc a.lv a.r a.c*sz a.lv+_
  rw[pc,pa,lc,Nat.add_mul]
 have fd:fr d=fr a+3*sz a.lv:=by
  show mc d.lv d.r d.c*sz d.lv=mc a.lv a.r a.c*sz a.lv+_
  rw[pd,pa,ld,Nat.add_mul]
 have tb:=to_fr b
 have tc:=to_fr c
 have td:=to_fr d
 rw[lb] at tb;rw[lc] at tc;rw[ld] at td
 obtain⟨_,hB⟩:=tidy_next hg hta h
 rcases hB with ⟨_,b1,_,b2,b3⟩|⟨_,u,r',_,b1,_⟩
 rotate_left
 ·omega
 obtain⟨_,hC⟩:=tidy_next hg b2 b3.symm
 rcases hC with ⟨_,c1,_,c2,c3⟩|⟨_,u,r',_,c1,_⟩
 rotate_left
 ·omega
 obtain⟨_,hD⟩:=tidy_next hg c2 c3.symm
 rcases hD with ⟨_,d1,_,d2,d3⟩|⟨_,u,r',_,d1,_⟩
 rotate_left
 ·omega
 refine no ⟨?_,by omega⟩
 rw[←ha,fa]
 exact Nat.mul_mod_left _ _
theorem tidy_fine:∀(l:List CellT) (s:Nat×Nat) (r:List (Nat×Nat)) (f:Nat),Gaps (s::r)→f≤s.2→greedy f s.2++tidyL r=l→Chain l∧noB l
 |[],s,r,f,hg,hf,h=>⟨trivial,trivial⟩
 |a::q,s,r,f,hg,hf,h=>by
  obtain⟨oka,hA⟩:=tidy_next hg hf h
  have main:∀(s':Nat×Nat) (r':List (Nat×Nat)) (f':Nat),Gaps (s'::r')→f'<s'.2→fr a=f'→a.lv=lvlF f' s'.2 16→to a≤s'.2→q=greedy (to a) s'.2++tidyL r'→Chain (a::q)∧noB (a::q):=fun s' r' f' hg' hlt e1 e2 e3 e4=>by
   obtain⟨i1,i2⟩:=tidy_fine q s' r' (to a) hg' e3 e4.symm
   refine⟨?_,?_⟩
   ·cases q with
    |nil=>trivial
    |cons b q =>
     refine⟨?_,i1⟩
     obtain⟨_,hB⟩:=tidy_next hg' e3 e4.symm
     rcases hB with ⟨_,b1,_⟩|⟨_,u,r'',_,b1,_⟩<;>omega
   ·match q,e4,i2 with
    |[],_,_=>trivial
    |[_],_,_=>trivial
    |[_,_],_,_=>trivial
    |b::c::d::q,e4,i2=>exact⟨fun hb=>bro_no hg' hlt e1 e2 e3 e4.symm hb,i2⟩
  rcases hA with ⟨hlt,e1,e2,e3,e4⟩|⟨_,u,r',rfl,_,e1,e2,e3,e4⟩
  ·exact main s r f hg hlt e1 e2 e3 e4
  ·exact main u r' u.1 hg.tail hg.tail.head.1 e1 e2 e3 e4
def Asc:List (Nat×Nat)→Prop
 |s::u::r=>s.1≤u.1∧Asc (u::r)
 |_=>True
theorem merge_gaps:∀(r:List (Nat×Nat)) (f t:Nat),f<t→t≤2*4^16→(∀s∈r,s.1<s.2∧s.2≤2*4^16)→(∀s u,r=s::u→f≤s.1)→Asc r→∃t' q,mergeL f t r=(f,t')::q∧Gaps ((f,t')::q)
 |[],f,t,h1,h2,_,_,_=>⟨t,[],rfl,h1,h2⟩
 |s::r,f,t,h1,h2,hs,hf,ha=>by
  have h3:=hs s List.mem_cons_self
  have h4:=hf s r rfl
  have ha':Asc r:=by
   cases r with
   |nil=>trivial
   |cons u r=>exact ha.2
  have hn:∀u v,r=u::v→s.1≤u.1:=fun u v e=>by subst e;exact ha.1
  by_cases h:s.1≤t
  ·have e:mergeL f t (s::r)=mergeL f (max t s.2) r:=if_pos h
   rw[e]
   exact merge_gaps r f (max t s.2) (by omega) (by omega) (fun u hu=>hs u (List.mem_cons_of_mem _ hu)) (fun u v e=>Nat.le_trans h4 (hn u v e)) ha'
  ·have e:mergeL f t (s::r)=(f,t)::mergeL s.1 s.2 r:=if_neg h
   obtain⟨t',q,e2,g2⟩:=merge_gaps r s.1 s.2 h3.1 h3.2 (fun u hu=>hs u (List.mem_cons_of_mem _ hu)) hn ha'
   rw[e,e2]
   exact⟨t,(s.1,t')::q,rfl,h1,by dsimp only;omega,g2⟩
theorem tidy_is {S:List (Nat×Nat)} (hs:∀s∈S,s.1<s.2∧s.2≤2*4^16) (ha:Asc S):Chain (tidyL (merge S))∧noB (tidyL (merge S)):=by
 cases S with
 |nil=>exact⟨trivial,trivial⟩
 |cons s r =>
  have h:=hs s List.mem_cons_self
  obtain⟨t',q,e,hg⟩:=merge_gaps r s.1 s.2 h.1 h.2 (fun u hu=>hs u (List.mem_cons_of_mem _ hu)) (fun u v e=>by subst e;exact ha.1) (by cases r with
   |nil=>trivial
   |cons u r=>exact ha.2)
  have e2:tidyL (merge (s::r))=greedy s.1 t'++tidyL q:=by
   show tidyL (mergeL s.1 s.2 r)=_
   rw[e]
   rfl
  exact tidy_fine _ (s.1,t') q s.1 hg (Nat.le_of_lt hg.head.1) e2.symm
theorem okC_span {x:CellT} (h:okC x):(spanC x).1<(spanC x).2∧(spanC x).2≤2*4^16:=by
 have h1:=to_fr x
 have h2:=sz_pos x.lv
 have h3:=mc_lt x.lv x.r x.c h.2.1 h.2.2
 refine⟨by show fr x<to x;omega,?_⟩
 show (mc x.lv x.r x.c+1)*sz x.lv≤_
 have e:2*4^16=2*4^x.lv*sz x.lv:=by
  unfold sz
  rw[Nat.mul_assoc,←Nat.pow_add]
  congr 2;have:=h.1;omega
 rw[e]
 exact Nat.mul_le_mul_right _ h3
def dlow:Nat→Nat→Nat
 |0,_=>0
 |L+1,n=>2*dlow L (n/4)+n%2
theorem drow_step:∀(k n:Nat),drow (k+1) n=drow k n+n/4^k%4/2*2^k
 |0,n=>by simp[drow]
 |k+1,n=>by
  have ih:=drow_step k (n/4)
  have e1:drow (k+2) n=2*drow (k+1) (n/4)+n%4/2:=rfl
  have e2:drow (k+1) n=2*drow k (n/4)+n%4/2:=rfl
  have e3:n/4^(k+1)=n/4/4^k:=by rw[Nat.pow_succ,Nat.mul_comm,Nat.div_div_eq_div_mul]
  have e4:∀x,x*2^(k+1)=2*(x*2^k):=fun x=>by rw[Nat.pow_succ,←Nat.mul_assoc,Nat.mul_comm]
  rw[e1,e2,ih,e3,e4];omega
theorem dlow_step:∀(k n:Nat),dlow (k+1) n=dlow k n+n/4^k%2*2^k
 |0,n=>by simp[dlow]
 |k+1,n=>by
  have ih:=dlow_step k (n/4)
  have e1:dlow (k+2) n=2*dlow (k+1) (n/4)+n%2:=rfl
  have e2:dlow (k+1) n=2*dlow k (n/4)+n%2:=rfl
  have e3:n/4^(k+1)=n/4/4^k:=by rw[Nat.pow_succ,Nat.mul_comm,Nat.div_div_eq_div_mul]
  have e4:∀x,x*2^(k+1)=2*(x*2^k):=fun x=>by rw[Nat.pow_succ,←Nat.mul_assoc,Nat.mul_comm]
  rw[e1,e2,ih,e3,e4];omega
theorem dcol_low:∀(L n:Nat),dcol L n=dlow L n+n/4^L*2^L
 |0,n=>by simp[dcol,dlow]
 |L+1,n=>by
  have ih:=dcol_low L (n/4)
  have e1:dcol (L+1) n=2*dcol L (n/4)+n%2:=rfl
  have e2:dlow (L+1) n=2*dlow L (n/4)+n%2:=rfl
  have e3:n/4^(L+1)=n/4/4^L:=by rw[Nat.pow_succ,Nat.mul_comm,Nat.div_div_eq_div_mul]
  have e4:∀x,x*2^(L+1)=2*(x*2^L):=fun x=>by rw[Nat.pow_succ,←Nat.mul_assoc,Nat.mul_comm]
  rw[e1,e2,ih,e3,e4];omega
theorem drow_lt:∀(k n:Nat),drow k n<2^k
 |0,n=>by simp[drow]
 |k+1,n=>by
  have ih:=drow_lt k (n/4)
  have e1:drow (k+1) n=2*drow k (n/4)+n%4/2:=rfl
  rw[e1,Nat.pow_succ];omega
theorem dlow_lt:∀(k n:Nat),dlow k n<2^k
 |0,n=>by simp[dlow]
 |k+1,n=>by
  have ih:=dlow_lt k (n/4)
  have e1:dlow (k+1) n=2*dlow k (n/4)+n%2:=rfl
  rw[e1,Nat.pow_succ];omega
theorem or_up {a b k:Nat} (h:a<2^k):a ||| b*2^k=a+b*2^k:=by
 have:=Nat.shiftLeft_add_eq_or_of_lt h b
 rw[Nat.shiftLeft_eq] at this
 rw[Nat.or_comm,←this,Nat.add_comm]
theorem mc_down {lv r c j:Nat} (h:j+1≤lv):mc (lv-j) (r/2^j) (c/2^j)=4*mc (lv-(j+1)) (r/2^(j+1)) (c/2^(j+1))+2*(r/2^j%2)+c/2^j%2:=by
 have e:lv-j=(lv-(j+1))+1:=by omega
 rw[e,mc,Nat.pow_succ,←Nat.div_div_eq_div_mul,←Nat.div_div_eq_div_mul]
theorem mc_top (lv r c:Nat):mc (lv-lv) (r/2^lv) (c/2^lv)=c/2^lv:=by rw[Nat.sub_self,mc]
def mergeS (out:List (Nat×Nat)) (s:Nat×Nat):List (Nat×Nat) :=
 match out.getLast? with
 |none=>[s]
 |some l=>if s.1≤l.2 then out.dropLast++[(l.1,max l.2 s.2)] else out++[s]
theorem mergeS_nil (s:Nat×Nat):mergeS [] s=[s]:=rfl
theorem mergeS_snoc (p:List (Nat×Nat)) (l s:Nat×Nat):mergeS (p++[l]) s=if s.1≤l.2 then p++[(l.1,max l.2 s.2)] else p++[l]++[s]:=by
 unfold mergeS
 rw[List.getLast?_concat,List.dropLast_concat]
theorem mergeS_foldl:∀(r p:List (Nat×Nat)) (f t:Nat),r.foldl mergeS (p++[(f,t)])=p++mergeL f t r
 |[],p,f,t=>rfl
 |s::r,p,f,t=>by
  rw[List.foldl_cons,mergeS_snoc]
  unfold mergeL
  split
  ·exact mergeS_foldl r p f _
  ·rw[mergeS_foldl r (p++[(f,t)]) s.1 s.2,List.append_assoc];rfl
theorem merge_foldl (l:List (Nat×Nat)):l.foldl mergeS []=merge l:=by
 cases l with
 |nil=>rfl
 |cons s r=>exact mergeS_foldl r [] s.1 s.2
theorem mergeS_len (out:List (Nat×Nat)) (s:Nat×Nat):(mergeS out s).length≤out.length+1:=by
 rcases List.eq_nil_or_concat out with rfl|⟨p,l,rfl⟩
 ·simp[mergeS]
 ·rw[List.concat_eq_append,mergeS_snoc]
  split<;>simp
theorem greedy_pre {l:List (Nat×Nat)} {i:Nat} (h:i<l.length):tidyL (l.take (i+1))=tidyL (l.take i)++greedy l[i].1 l[i].2:=by
 unfold tidyL
 rw[List.take_add_one,List.getElem?_eq_getElem h,List.flatMap_append]
 simp
theorem tidyL_le {l:List (Nat×Nat)} {i:Nat} : (tidyL (l.take i)).length≤(tidyL l).length:=by
 have:tidyL l=tidyL (l.take i)++tidyL (l.drop i):=by
  unfold tidyL
  rw[←List.flatMap_append,List.take_append_drop]
 rw[this,List.length_append];omega
theorem Chain.tail {a:CellT} {l:List CellT} (h:Chain (a::l)):Chain l:=by
 cases l with
 |nil=>trivial
 |cons b r=>exact h.2
theorem Chain.after:∀{l:List CellT} {a:CellT},Chain (a::l)→∀x∈l,to a≤fr x
 |[],a,_,x,hx=>by cases hx
 |b::r,a,h,x,hx=>by
  rcases List.mem_cons.1 hx with rfl|hx
  ·exact h.1
  ·have h1:=Chain.after h.2 x hx
   have h2:=sz_pos b.lv
   have h3:=to_fr b
   have h4:=h.1
   omega
theorem chain_pairs:∀{l:List CellT},Chain l→l.Pairwise fun x y=>to x≤fr y
 |[],_=>List.Pairwise.nil
 |a::r,h=>List.Pairwise.cons (Chain.after h) (chain_pairs h.tail)
end Go.Proofs.YtjmdeplmenbmmaaGreatDoor.RR
