/- Joined texts: TrD, TrE, TrF, TrWs, TrWc, TrG. -/
import Derived.Test.YtjmdeplmenbmmaaGreatV01
set_option linter.unusedVariables false
namespace Go.Proofs.YtjmdeplmenbmmaaGreat.TT
def ev:List Int→Int→Int
 |[],_=>0
 |c::p,x=>c+x*ev p x
def jetK {α:Type} (a:Int):List Int→(Int→Int→Int→Int→α)→α
 |[],k=>k 0 0 0 0
 |c::p,k=>jetK a p fun t0 t1 t2 t3=>k (c+a*t0) (t0+a*t1) (t1+a*t2) (t2+a*t3)
def stp (M C d3:Nat) (k:Nat):Nat→Nat→Nat→Bool :=
 Nat.rec (motive:=fun _=>Nat→Nat→Nat→Bool) (fun _ _ _=>true) (fun _ ih a d1 d2=>cond (Nat.ble C (Nat.mod a M)) (ih (Nat.add a d1) (Nat.add d1 d2) (Nat.add d2 d3)) false) k
abbrev swM:Nat:=36028797018963968
abbrev swC:Nat:=10066329600
abbrev swU:Nat:=80695308690215893426747474125094121072803306025913234775958104891895238188026287332176417290004307232371974124148359168
def md (x:Int):Nat:=(x%(swM:Int)).toNat
def cub (c0 c1 c2 c3 j:Int):Int:=c0+j*(c1+j*(c2+j*c3))
def dif1 (c1 c2 c3 j:Int):Int:=c1+c2*(2*j+1)+c3*(3*j*j+3*j+1)
def dif2 (c2 c3 j:Int):Int:=2*c2+c3*(6*j+6)
def chk (j:Int) (k:Nat) (c0 c1 c2 c3:Int):Bool:=stp swM (2*swC) (md (6*c3)) k (md (cub c0 c1 c2 c3 j+(swC:Int))) (md (dif1 c1 c2 c3 j)) (md (dif2 c2 c3 j))
def blk (p:List Int) (m:Nat) (j:Int) (k:Nat):Bool:=jetK (m:Int) p fun t0 t1 t2 t3=>chk j k (t0/(swU:Int)) (t1/(swU:Int)) (t2/(swU:Int)) (t3/(swU:Int))
def skp (o b:Nat):Bool:=cond (Nat.beq b 0) true (cond (Nat.beq b 1800) (Nat.beq o 1) false)
def one (o:Nat) (p:List Int) (b:Nat):Bool:=cond (skp o b) (blk p (1000*b+500) (-499) 999) (blk p (1000*b+500) (-500) 1000)
def sweep (o:Nat) (p:List Int) (b0 k:Nat):Bool:=Nat.rec (motive:=fun _=>Bool) true (fun i ih=>cond (one o p (b0+i)) ih false) k
def alS:List Int:=[908079843706232241636151221196188472962800217479563426105535905810448258767613046787478403452770203862554525131730444383402116473970921401,12806339766208800074024466879945226853297738862316647812037749107514801883029245620076408953129557126068975030814160997303410,54181030229089523803735699952973495709263627215660445336510162733123662927519687520571277164194009269944096632,109156650990548358887060995540257266640672893754010882717067857248926753946400143144402979992989,128283246054394716392815814898180898897138570300972816669035011925004505592896281,98680079330689860954351204206582935831496076672427523062350526140,53525055466635434343048254665184950973077790560071,21567016256861042380472012483522019,6709241058683628393]
def alC:List Int:=[3121748550315992231381597229793166305748598142664971150859156959625371738819765620120306103063491971159826931121406622895447975679288285306290176,132074859530577169094351997289892643644518782963920226697159943521775698003587052487215809240870116850358712392573367201073209849632,931303308539268439353387519187429745101081743256784085740374174110090405848311149920312601093856510836876491469266748,2626770471167193829369471853347412517216576807293777986556356198269474221620935261909631608991655164735,3969047833823747122780672530757534352235670542904856594736844623912792629192826192826176,3731608364658687689931577823615052641872865074367948282757167562941198744,2392072625624639414783791999590897470239600606593400587278,1112129107387355046059152149594233585478139,392099420326425300616452872,108424395170]
def sg:Bool→List Int→List Int
 |_,[]=>[]
 |s,a::r=>cond s (-a) a::0::sg (!s) r
def polS:List Int:=[0,908079843706232241636151221196188472962800217479563426105535905810448258767613046787478403452770203862554525131730444383402116473970921401,0,-12806339766208800074024466879945226853297738862316647812037749107514801883029245620076408953129557126068975030814160997303410,0,54181030229089523803735699952973495709263627215660445336510162733123662927519687520571277164194009269944096632,0,-109156650990548358887060995540257266640672893754010882717067857248926753946400143144402979992989,0,128283246054394716392815814898180898897138570300972816669035011925004505592896281,0,-98680079330689860954351204206582935831496076672427523062350526140,0,53525055466635434343048254665184950973077790560071,0,-21567016256861042380472012483522019,0,6709241058683628393]
def polC:List Int:=[3121748550315992231381597229793166305748598142664971150859156959625371738819765620120306103063491971159826931121406622895447975679288285306290176,0,-132074859530577169094351997289892643644518782963920226697159943521775698003587052487215809240870116850358712392573367201073209849632,0,931303308539268439353387519187429745101081743256784085740374174110090405848311149920312601093856510836876491469266748,0,-2626770471167193829369471853347412517216576807293777986556356198269474221620935261909631608991655164735,0,3969047833823747122780672530757534352235670542904856594736844623912792629192826192826176,0,-3731608364658687689931577823615052641872865074367948282757167562941198744,0,2392072625624639414783791999590897470239600606593400587278,0,-1112129107387355046059152149594233585478139,0,392099420326425300616452872,0,-108424395170]
/-! ### the jet of a polynomial -/
structure Jet where
 t0:Int
 t1:Int
 t2:Int
 t3:Int
def jt (a:Int):List Int→Jet
 |[]=>⟨0,0,0,0⟩
 |c::p=>⟨c+a*(jt a p).t0,(jt a p).t0+a*(jt a p).t1,(jt a p).t1+a*(jt a p).t2,(jt a p).t2+a*(jt a p).t3⟩
theorem jetK_eq {α:Type} (a:Int):∀(p:List Int) (k:Int→Int→Int→Int→α),jetK a p k=k (jt a p).t0 (jt a p).t1 (jt a p).t2 (jt a p).t3
 |[],k=>rfl
 |c::p,k=>by unfold jetK;rw[jetK_eq a p];rfl
structure Bd where
 u0:Nat
 u1:Nat
 u2:Nat
 u3:Nat
 r:Nat
def bd (A B:Nat):List Int→Bd
 |[]=>⟨0,0,0,0,0⟩
 |c::p=>⟨c.natAbs+A*(bd A B p).u0,(bd A B p).u0+A*(bd A B p).u1,(bd A B p).u1+A*(bd A B p).u2,(bd A B p).u2+A*(bd A B p).u3,(bd A B p).u3+B*(bd A B p).r⟩
theorem abs_mul_le {a t:Int} {A u:Nat} (ha : -(A:Int)≤a∧a≤A) (ht : -(u:Int)≤t∧t≤u) : -((A*u:Nat):Int)≤a*t∧a*t≤((A*u:Nat):Int):=by
 have h1:a.natAbs≤A:=by omega
 have h2:t.natAbs≤u:=by omega
 have h3:=Nat.mul_le_mul h1 h2
 rw[←Int.natAbs_mul] at h3
 omega
theorem abs_add_le {c x:Int} {k u:Nat} (hc : -(k:Int)≤c∧c≤k) (hx : -(u:Int)≤x∧x≤u) : -((k+u:Nat):Int)≤c+x∧c+x≤((k+u:Nat):Int):=by omega
theorem abs_self (c:Int) : -(c.natAbs:Int)≤c∧c≤(c.natAbs:Int):=by omega
theorem jet_spec {a h:Int} {A B:Nat} (ha : -(A:Int)≤a∧a≤A) (hb : -(B:Int)≤a+h∧a+h≤B):∀p:List Int,((-((bd A B p).u0:Int)≤(jt a p).t0∧(jt a p).t0≤(bd A B p).u0)∧(-((bd A B p).u1:Int)≤(jt a p).t1∧(jt a p).t1≤(bd A B p).u1)∧(-((bd A B p).u2:Int)≤(jt a p).t2∧(jt a p).t2≤(bd A B p).u2)∧(-((bd A B p).u3:Int)≤(jt a p).t3∧(jt a p).t3≤(bd A B p).u3)) ∧
  ∃r:Int,ev p (a+h)=cub (jt a p).t0 (jt a p).t1 (jt a p).t2 (jt a p).t3 h+r*(h*h*h*h)∧(-((bd A B p).r:Int)≤r∧r≤(bd A B p).r)
 |[]=>⟨⟨⟨by simp[bd,jt],by simp[bd,jt]⟩,⟨by simp[bd,jt],by simp[bd,jt]⟩,⟨by simp[bd,jt],by simp[bd,jt]⟩,⟨by simp[bd,jt],by simp[bd,jt]⟩⟩,0,by unfold cub ev jt;grind,by simp[bd],by simp[bd]⟩
 |c::p=>by
  obtain⟨⟨h0,h1,h2,h3⟩,r,hr,hrb⟩:=jet_spec ha hb p
  refine⟨⟨?_,?_,?_,?_⟩,(jt a p).t3+(a+h)*r,?_,?_⟩
  ·exact abs_add_le (abs_self c) (abs_mul_le ha h0)
  ·exact abs_add_le h0 (abs_mul_le ha h1)
  ·exact abs_add_le h1 (abs_mul_le ha h2)
  ·exact abs_add_le h2 (abs_mul_le ha h3)
  ·show c+(a+h)*ev p (a+h)=cub (c+a*(jt a p).t0) ((jt a p).t0+a*(jt a p).t1) ((jt a p).t1+a*(jt a p).t2) ((jt a p).t2+a*(jt a p).t3) h+_
   rw[hr]
   unfold cub
   grind
  ·exact abs_add_le h3 (abs_mul_le hb hrb)
/-! ### differences -/
def it (d3:Nat):Nat→Nat→Nat→Nat→Nat
 |0,a,_,_=>a
 |i+1,a,d1,d2=>it d3 i (a+d1) (d1+d2) (d2+d3)
theorem stp_spec {M C d3:Nat} : ∀(k a d1 d2:Nat),stp M C d3 k a d1 d2=true→∀i,i<k→C≤it d3 i a d1 d2%M
 |0,_,_,_,_,i,hi=>by omega
 |k+1,a,d1,d2,h,i,hi=>by
  have h':cond (Nat.ble C (Nat.mod a M)) (stp M C d3 k (Nat.add a d1) (Nat.add d1 d2) (Nat.add d2 d3)) false=true:=h
  cases hb:Nat.ble C (Nat.mod a M) with
  |false=>rw[hb] at h';cases h'
  |true =>
   rw[hb] at h'
   cases i with
   |zero=>exact Nat.le_of_ble_eq_true hb
   |succ i=>exact stp_spec k _ _ _ h' i (by omega)
theorem it_spec {d3:Nat} {c0 c1 c2 c3 K M:Int} : ∀(i:Nat) (a d1 d2:Nat) (j x y z v:Int),(a:Int)=cub c0 c1 c2 c3 j+K+M*x→(d1:Int)=dif1 c1 c2 c3 j+M*y→(d2:Int)=dif2 c2 c3 j+M*z→(d3:Int)=6*c3+M*v→∃x':Int,(it d3 i a d1 d2:Int)=cub c0 c1 c2 c3 (j+i)+K+M*x'
 |0,a,d1,d2,j,x,y,z,v,h0,h1,h2,h3=>⟨x,by
  show (a:Int)=_
  rw[h0]
  simp⟩
 |i+1,a,d1,d2,j,x,y,z,v,h0,h1,h2,h3=>by
  obtain⟨x',hx'⟩:=it_spec (c0:=c0) (c1:=c1) (c2:=c2) (c3:=c3) (K:=K) (M:=M) i (a+d1) (d1+d2) (d2+d3) (j+1) (x+y) (y+z) (z+v) v (by
   rw[Int.natCast_add,h0,h1];unfold cub dif1;grind) (by
   rw[Int.natCast_add,h1,h2];unfold dif1 dif2;grind) (by
   rw[Int.natCast_add,h2,h3];unfold dif2;grind) h3
  refine⟨x',?_⟩
  show (it d3 i (a+d1) (d1+d2) (d2+d3):Int)=_
  rw[hx']
  have:j+1+(i:Int)=j+((i+1:Nat):Int):=by omega
  rw[this]
theorem md_eq (x:Int):∃z:Int,(md x:Int)=x+(swM:Int)*z:=by
 refine⟨-(x/(swM:Int)),?_⟩
 unfold md
 have h1:0≤x%(swM:Int):=Int.emod_nonneg x (by decide)
 have h2:=Int.emod_add_mul_ediv x (swM:Int)
 rw[Int.mul_neg]
 omega
theorem chk_spec {j:Int} {k:Nat} {c0 c1 c2 c3:Int} (h:chk j k c0 c1 c2 c3=true) {i:Nat} (hi:i<k):∃q:Int,q*(swM:Int)+(swC:Int)≤cub c0 c1 c2 c3 (j+i)∧cub c0 c1 c2 c3 (j+i)≤q*(swM:Int)+(swM:Int)-(swC:Int):=by
 have h1:=stp_spec k _ _ _ h i hi
 obtain⟨x,hx⟩:=md_eq (cub c0 c1 c2 c3 j+(swC:Int))
 obtain⟨y,hy⟩:=md_eq (dif1 c1 c2 c3 j)
 obtain⟨z,hz⟩:=md_eq (dif2 c2 c3 j)
 obtain⟨v,hv⟩:=md_eq (6*c3)
 obtain⟨x',hx'⟩:=it_spec (K:=(swC:Int)) (M:=(swM:Int)) i _ _ _ j x y z v hx hy hz hv
 generalize it (md (6*c3)) i (md (cub c0 c1 c2 c3 j+(swC:Int))) (md (dif1 c1 c2 c3 j)) (md (dif2 c2 c3 j))=n at *
 generalize cub c0 c1 c2 c3 (j+i)=f at *
 have h2:n%swM<swM:=Nat.mod_lt _ (by decide)
 have h3:=Nat.mod_add_div n swM
 generalize n%swM=r at *
 generalize n/swM=d at *
 refine⟨(d:Int)-x',?_⟩
 subst h3
 simp only[Int.natCast_add,Int.natCast_mul,swM,swC] at *
 omega
theorem cub_round {t0 t1 t2 t3 j U:Int} (hU:0<U) (hj : -500≤j∧j≤500) : -(125250501*U)≤cub t0 t1 t2 t3 j-U*cub (t0/U) (t1/U) (t2/U) (t3/U) j∧cub t0 t1 t2 t3 j-U*cub (t0/U) (t1/U) (t2/U) (t3/U) j≤125250501*U:=by
 have e0:=Int.emod_add_mul_ediv t0 U
 have e1:=Int.emod_add_mul_ediv t1 U
 have e2:=Int.emod_add_mul_ediv t2 U
 have e3:=Int.emod_add_mul_ediv t3 U
 have l0:=Int.emod_nonneg t0 (show U≠0 by omega)
 have l1:=Int.emod_nonneg t1 (show U≠0 by omega)
 have l2:=Int.emod_nonneg t2 (show U≠0 by omega)
 have l3:=Int.emod_nonneg t3 (show U≠0 by omega)
 have g0:=Int.emod_lt_of_pos t0 hU
 have g1:=Int.emod_lt_of_pos t1 hU
 have g2:=Int.emod_lt_of_pos t2 hU
 have g3:=Int.emod_lt_of_pos t3 hU
 generalize t0/U=q0 at *
 generalize t1/U=q1 at *
 generalize t2/U=q2 at *
 generalize t3/U=q3 at *
 generalize t0%U=r0 at *
 generalize t1%U=r1 at *
 generalize t2%U=r2 at *
 generalize t3%U=r3 at *
 subst e0 e1 e2 e3
 have e:cub (r0+U*q0) (r1+U*q1) (r2+U*q2) (r3+U*q3) j-U*cub q0 q1 q2 q3 j=r0+(j*r1+(j*j*r2+j*j*j*r3)):=by unfold cub;grind
 rw[e]
 obtain⟨V,rfl⟩:∃V:Nat,U=(V:Int):=⟨U.toNat,by omega⟩
 have b1:=abs_mul_le (A:=500) (u:=V) (a:=j) (t:=r1) (by omega) (by omega)
 have b2:=abs_mul_le (A:=500) (u:=500) (a:=j) (t:=j) (by omega) (by omega)
 have b3:=abs_mul_le (A:=500*500) (u:=V) (a:=j*j) (t:=r2) b2 (by omega)
 have b4:=abs_mul_le (A:=500*500) (u:=500) (a:=j*j) (t:=j) b2 (by omega)
 have b5:=abs_mul_le (A:=500*500*500) (u:=V) (a:=j*j*j) (t:=r3) b4 (by omega)
 omega
def tailOk (p:List Int):Bool:=Nat.ble ((bd 2701000 2701500 p).r*62500000000) (swU*1006632960)
theorem tailS:tailOk polS=true:=by decide +kernel
theorem tailC:tailOk polC=true:=by decide +kernel
theorem blk_spec {p:List Int} {m:Nat} {j:Int} {k:Nat} (hp:tailOk p=true) (hm:m≤2701000) (h:blk p m j k=true) {i:Nat} (hi:i<k) (hj : -500≤j+i∧j+i≤500) :
  ∃q:Int,(swU:Int)*(q*(swM:Int)+8803909632)≤ev p (m+(j+i))∧ev p (m+(j+i))≤(swU:Int)*(q*(swM:Int)+(swM:Int)-8803909632):=by
 unfold blk at h
 rw[jetK_eq] at h
 obtain⟨q,q1,q2⟩:=chk_spec h hi
 obtain⟨_,r,hr,hrb⟩:=jet_spec (a:=(m:Int)) (h:=j+i) (A:=2701000) (B:=2701500) (by omega) (by omega) p
 have hU:(0:Int)<(swU:Int):=by decide
 obtain⟨c1,c2⟩:=cub_round (t0:=(jt m p).t0) (t1:=(jt m p).t1) (t2:=(jt m p).t2) (t3:=(jt m p).t3) hU hj
 have ht:=Nat.le_of_ble_eq_true hp
 refine⟨q,?_⟩
 rw[hr]
 generalize j+(i:Int)=x at *
 generalize (bd 2701000 2701500 p).r=R at *
 have b2:=abs_mul_le (A:=500) (u:=500) (a:=x) (t:=x) (by omega) (by omega)
 have b3:=abs_mul_le (A:=500*500) (u:=500) (a:=x*x) (t:=x) b2 (by omega)
 have b4:=abs_mul_le (A:=500*500*500) (u:=500) (a:=x*x*x) (t:=x) b3 (by omega)
 have b5:=abs_mul_le (A:=R) (u:=500*500*500*500) hrb b4
 generalize r*(x*x*x*x)=e at *
 generalize cub (jt m p).t0 (jt m p).t1 (jt m p).t2 (jt m p).t3 x=f at *
 generalize cub ((jt m p).t0/(swU:Int)) ((jt m p).t1/(swU:Int)) ((jt m p).t2/(swU:Int)) ((jt m p).t3/(swU:Int)) x=g at *
 have d1:=Int.mul_le_mul_of_nonneg_left q1 (Int.le_of_lt hU)
 have d2:=Int.mul_le_mul_of_nonneg_left q2 (Int.le_of_lt hU)
 generalize swU=U at *
 have e1:(U:Int)*(q*(swM:Int)+(swC:Int))=(U:Int)*(q*(swM:Int))+U*(swC:Int):=Int.mul_add _ _ _
 have e2:(U:Int)*(q*(swM:Int)+(swM:Int)-(swC:Int))=(U:Int)*(q*(swM:Int))+U*(swM:Int)-U*(swC:Int):=by rw[Int.mul_sub,Int.mul_add]
 have e3:(U:Int)*(q*(swM:Int)+8803909632)=(U:Int)*(q*(swM:Int))+U*8803909632:=Int.mul_add _ _ _
 have e4:(U:Int)*(q*(swM:Int)+(swM:Int)-8803909632)=(U:Int)*(q*(swM:Int))+U*(swM:Int)-U*8803909632:=by rw[Int.mul_sub,Int.mul_add]
 rw[e1] at d1;rw[e2] at d2;rw[e3,e4]
 generalize (U:Int)*(q*(swM:Int))=z at *
 generalize (U:Int)*g=y at *
 simp only[swM,swC,Nat.reduceMul] at *
 omega
theorem sweep_spec {o:Nat} {p:List Int} {b0:Nat} : ∀k,sweep o p b0 k=true→∀b,b0≤b→b<b0+k→one o p b=true
 |0,_,b,h1,h2=>by omega
 |k+1,h,b,h1,h2=>by
  have h':cond (one o p (b0+k)) (sweep o p b0 k) false=true:=h
  cases hb:one o p (b0+k) with
  |false=>rw[hb] at h';cases h'
  |true =>
   rw[hb] at h'
   rcases Nat.lt_or_ge b (b0+k) with g|g
   ·exact sweep_spec k h' b h1 g
   ·rw[show b=b0+k by omega];exact hb
theorem one_spec {o:Nat} {p:List Int} (hp:tailOk p=true) {n:Nat} (hn:n<2701000) (h:one o p (n/1000)=true) (h0:n≠0) (h1:o=1→n≠1800000) :
  ∃q:Int,(swU:Int)*(q*(swM:Int)+8803909632)≤ev p n∧ev p n≤(swU:Int)*(q*(swM:Int)+(swM:Int)-8803909632):=by
 have hd:=Nat.div_add_mod n 1000
 have hr:=Nat.mod_lt n (show 0<1000 by decide)
 unfold one at h
 cases hs:skp o (n/1000) with
 |false =>
  rw[hs] at h
  have:=blk_spec hp (by omega) h (i:=n%1000) hr (by omega)
  rwa [show ((1000*(n/1000)+500:Nat):Int)+(-500+((n%1000:Nat):Int))=(n:Int) by omega] at this
 |true =>
  rw[hs] at h
  have hne:n%1000≠0:=by
   intro h2
   unfold skp at hs
   cases g0:Nat.beq (n/1000) 0 with
   |true=>have:=Nat.eq_of_beq_eq_true g0;omega
   |false =>
    rw[g0] at hs
    cases g1:Nat.beq (n/1000) 1800 with
    |false=>rw[g1] at hs;cases hs
    |true =>
     rw[g1] at hs
     have e1:=Nat.eq_of_beq_eq_true g1
     have e2:=Nat.eq_of_beq_eq_true (show Nat.beq o 1=true from hs)
     exact h1 e2 (by omega)
  have:=blk_spec hp (by omega) h (i:=n%1000-1) (by omega) (by omega)
  rwa [show ((1000*(n/1000)+500:Nat):Int)+(-499+((n%1000-1:Nat):Int))=(n:Int) by omega] at this
def rho:Rat:=((piN:Nat):Rat)/((halfN*W256:Nat):Rat)
def ka (o:Nat):Nat→Rat
 |0=>if o=1 then rho else 1
 |i+1=>ka o i*(rho*rho/(dd o i:Rat))
def pr (o:Nat) (n:Rat):Nat→Rat
 |0=>if o=1 then n else 1
 |i+1=>pr o n i*(n*n)
def kr (o:Nat) (y:Rat):Nat→Nat→Rat
 |_,0=>0
 |k,m+1=>ka o k-y*kr o y (k+1) m
theorem xi_rho (n:Nat):xi n=(n:Rat)*rho:=by
 unfold xi rho
 rw[Rat.natCast_mul]
 generalize ((halfN*W256:Nat):Rat)=H
 grind
theorem tm_pr (o n:Nat):∀i,tm o (xi n) i=ka o i*pr o (n:Rat) i
 |0=>by
  unfold tm ka pr
  rw[xi_rho]
  split<;>grind
 |i+1=>by
  unfold tm ka pr
  rw[tm_pr o n i,xi_rho]
  grind
theorem sa_pr (o n:Nat):∀m k,sa o (xi n) k m=pr o (n:Rat) k*kr o ((n:Rat)*(n:Rat)) k m
 |0,k=>by simp only[sa,kr];grind
 |m+1,k=>by
  simp only[sa,kr]
  rw[sa_pr o n m (k+1),tm_pr]
  simp only[pr]
  grind
def ea:List Int→Int→Int
 |[],_=>0
 |a::r,y=>a-y*ea r y
theorem ev_sg:∀(al:List Int) (s:Bool) (x:Int),ev (sg s al) x=cond s (-1) 1*ea al (x*x)
 |[],s,x=>by simp[sg,ev,ea]
 |a::r,s,x=>by
  have ih:=ev_sg r (!s) x
  cases s
  ·simp only[sg,ev,ea,cond_false,Bool.not_false,cond_true] at ih ⊢
   rw[ih];grind
  ·simp only[sg,ev,ea,cond_false,Bool.not_true,cond_true] at ih ⊢
   rw[ih];grind
theorem ev_snoc:∀(p:List Int) (x:Int),ev (p++[0]) x=ev p x
 |[],x=>by simp[ev]
 |c::p,x=>by
  show c+x*ev (p++[0]) x=c+x*ev p x
  rw[ev_snoc p x]
theorem evS (n:Int):ev polS n=n*ea alS (n*n):=by
 have h:polS++[0]=0::sg false alS:=by decide +kernel
 rw[←ev_snoc,h]
 show 0+n*ev (sg false alS) n=_
 rw[ev_sg]
 simp
theorem evC (n:Int):ev polC n=ea alC (n*n):=by
 have h:polC++[0]=sg false alC:=by decide +kernel
 rw[←ev_snoc,h,ev_sg]
 simp
abbrev p480:Rat:=((2^480:Nat):Rat)
def near (o:Nat):Nat→List Int→Bool
 |_,[]=>true
 |k,a::r=>decide ((a:Rat)≤p480*ka o k)&&decide (p480*ka o k≤(a:Rat)+1)&&near o (k+1) r
theorem nearS:near 1 0 alS=true:=by decide +kernel
theorem nearC:near 0 0 alC=true:=by decide +kernel
def er (y:Rat):Nat→Rat
 |0=>0
 |m+1=>1+y*er y m
theorem ea_near {o:Nat} {y:Int} (hy:0≤y):∀(al:List Int) (k:Nat),near o k al=true→(ea al y:Rat)-p480*kr o (y:Rat) k al.length≤er (y:Rat) al.length∧p480*kr o (y:Rat) k al.length-(ea al y:Rat)≤er (y:Rat) al.length
 |[],k,_=>by
  simp only[ea,kr,er,List.length_nil]
  have:((0:Int):Rat)=0:=rfl
  exact⟨by grind,by grind⟩
 |a::r,k,h=>by
  simp only[near,Bool.and_eq_true,decide_eq_true_eq] at h
  obtain⟨⟨h1,h2⟩,h3⟩:=h
  obtain⟨i1,i2⟩:=ea_near (o:=o) hy r (k+1) h3
  have hyR:(0:Rat)≤(y:Rat):=Rat.intCast_nonneg.2 hy
  have b1:=Rat.mul_le_mul_of_nonneg_left i1 hyR
  have b2:=Rat.mul_le_mul_of_nonneg_left i2 hyR
  simp only[ea,kr,er,List.length_cons,Rat.intCast_sub,Rat.intCast_mul]
  generalize p480=S at *
  exact⟨by grind,by grind⟩
theorem er_nn {y:Rat} (hy:0≤y):∀m,0≤er y m
 |0=>by unfold er;grind
 |m+1=>by
  have:=Rat.mul_nonneg hy (er_nn hy m)
  unfold er;grind
theorem er_mono {y z:Rat} (hy:0≤y) (h:y≤z):∀m,er y m≤er z m
 |0=>by unfold er;grind
 |m+1=>by
  have ih:=er_mono hy h m
  have a1:=Rat.mul_le_mul_of_nonneg_left ih hy
  have a2:=Rat.mul_le_mul_of_nonneg_right h (er_nn (Rat.le_trans hy h) m)
  unfold er;grind
theorem ypos {n:Nat} : (0:Int)≤(n:Int)*n:=Int.mul_nonneg (by omega) (by omega)
theorem ycast (n:Nat):(((n:Int)*(n:Int):Int):Rat)=(n:Rat)*(n:Rat):=by
 rw[Rat.intCast_mul,Rat.intCast_natCast]
theorem yle {n:Nat} (h:n≤2700000):(n:Rat)*(n:Rat)≤7290000000000:=by
 have h1:(n:Rat)≤((2700000:Nat):Rat):=natR h
 have:=sq_le Rat.natCast_nonneg h1
 exact Rat.le_trans this (by decide +kernel)
abbrev uR:Rat:=((swU:Nat):Rat)
theorem polS_near {n:Nat} (h:n≤2700000):(ev polS n:Rat)-p480*sa 1 (xi n) 0 9≤uR∧p480*sa 1 (xi n) 0 9-(ev polS n:Rat)≤uR:=by
 obtain⟨h1,h2⟩:=ea_near (o:=1) (y:=(n:Int)*n) ypos alS 0 nearS
 rw[ycast] at h1 h2
 have hl:alS.length=9:=by decide
 rw[hl] at h1 h2
 have hm:=er_mono (Rat.mul_nonneg (Rat.natCast_nonneg (a:=n)) Rat.natCast_nonneg) (yle h) 9
 have hn:(n:Rat)≤2700000:=natR h
 have hn0:(0:Rat)≤(n:Rat):=Rat.natCast_nonneg
 have k1:=Rat.mul_le_mul_of_nonneg_left h1 hn0
 have k2:=Rat.mul_le_mul_of_nonneg_left h2 hn0
 have k3:=Rat.mul_le_mul_of_nonneg_left hm hn0
 have k4:=Rat.mul_le_mul_of_nonneg_right hn (er_nn (show (0:Rat)≤7290000000000 by decide +kernel) 9)
 have k5:2700000*er 7290000000000 9≤uR:=by decide +kernel
 rw[evS,sa_pr,Rat.intCast_mul,Rat.intCast_natCast,show pr 1 (n:Rat) 0=(n:Rat) from if_pos rfl]
 clear hm hn
 generalize er 7290000000000 9=E at *
 generalize er ((n:Rat)*(n:Rat)) 9=e at *
 generalize kr 1 ((n:Rat)*(n:Rat)) 0 9=K at *
 generalize (ea alS ((n:Int)*n):Rat)=A at *
 generalize p480=S at *
 generalize uR=u at *
 exact⟨by grind,by grind⟩
theorem polC_near {n:Nat} (h:n≤2700000):(ev polC n:Rat)-p480*sa 0 (xi n) 0 10≤uR∧p480*sa 0 (xi n) 0 10-(ev polC n:Rat)≤uR:=by
 obtain⟨h1,h2⟩:=ea_near (o:=0) (y:=(n:Int)*n) ypos alC 0 nearC
 rw[ycast] at h1 h2
 have hl:alC.length=10:=by decide
 rw[hl] at h1 h2
 have hm:=er_mono (Rat.mul_nonneg (Rat.natCast_nonneg (a:=n)) Rat.natCast_nonneg) (yle h) 10
 have k5:er 7290000000000 10≤uR:=by decide +kernel
 rw[evC,sa_pr,show pr 0 (n:Rat) 0=1 from if_neg (by decide)]
 generalize er 7290000000000 10=E at *
 generalize er ((n:Rat)*(n:Rat)) 10=e at *
 generalize kr 0 ((n:Rat)*(n:Rat)) 0 10=K at *
 generalize (ea alC ((n:Int)*n):Rat)=A at *
 generalize p480=S at *
 generalize uR=u at *
 exact⟨by grind,by grind⟩
theorem tm_step {o n:Nat} (h:n≤2700000) (i:Nat) (b c:Rat) (hb:tm o (xi n) i≤b) (hc:b*(617/1000)≤c*(dd o i:Rat)):tm o (xi n) (i+1)≤c:=by
 have x0:=xi_nn n
 have x2:=xi_sq h
 have xx:=Rat.mul_nonneg x0 x0
 obtain⟨r1,r2,r3⟩:=quo_bd xx (dd_geR o i)
 have hd0:(0:Rat)<(dd o i:Rat):=by have:=dd_geR o i;grind
 have ht:=tm_nn (o:=o) x0 i
 refine Rat.le_of_mul_le_mul_right (c:=(dd o i:Rat)) ?_ hd0
 have e:tm o (xi n) (i+1)*(dd o i:Rat)=tm o (xi n) i*(xi n*xi n):=by
  show tm o (xi n) i*(xi n*xi n/(dd o i:Rat))*(dd o i:Rat)=_
  grind
 rw[e]
 have a1:=Rat.mul_le_mul_of_nonneg_left x2 ht
 have a2:=Rat.mul_le_mul_of_nonneg_right hb (show (0:Rat)≤617/1000 by decide +kernel)
 grind
theorem tmS9 {n:Nat} (h:n≤2700000):tm 1 (xi n) 9≤q62:=by
 have t0:tm 1 (xi n) 0≤7854/10000:=by
  rw[show tm 1 (xi n) 0=xi n from if_pos rfl]
  exact Rat.le_trans (xi_le h) (by decide +kernel)
 have t1:=tm_step h 0 _ (81/1000) t0 (by decide +kernel)
 have t2:=tm_step h 1 _ (25/10000) t1 (by decide +kernel)
 have t3:=tm_step h 2 _ (37/1000000) t2 (by decide +kernel)
 have t4:=tm_step h 3 _ (32/100000000) t3 (by decide +kernel)
 have t5:=tm_step h 4 _ (18/10000000000) t4 (by decide +kernel)
 have t6:=tm_step h 5 _ (72/10000000000000) t5 (by decide +kernel)
 have t7:=tm_step h 6 _ (22/1000000000000000) t6 (by decide +kernel)
 have t8:=tm_step h 7 _ (50/1000000000000000000) t7 (by decide +kernel)
 exact tm_step h 8 _ _ t8 (by decide +kernel)
theorem tmC10 {n:Nat} (h:n≤2700000):tm 0 (xi n) 10≤q62:=by
 have t0:tm 0 (xi n) 0≤1:=by
  rw[show tm 0 (xi n) 0=1 from if_neg (by decide)]
  decide +kernel
 have t1:=tm_step h 0 _ (31/100) t0 (by decide +kernel)
 have t2:=tm_step h 1 _ (16/1000) t1 (by decide +kernel)
 have t3:=tm_step h 2 _ (33/100000) t2 (by decide +kernel)
 have t4:=tm_step h 3 _ (37/10000000) t3 (by decide +kernel)
 have t5:=tm_step h 4 _ (26/1000000000) t4 (by decide +kernel)
 have t6:=tm_step h 5 _ (13/100000000000) t5 (by decide +kernel)
 have t7:=tm_step h 6 _ (5/10000000000000) t6 (by decide +kernel)
 have t8:=tm_step h 7 _ (2/1000000000000000) t7 (by decide +kernel)
 have t9:=tm_step h 8 _ (5/1000000000000000000) t8 (by decide +kernel)
 exact tm_step h 9 _ _ t9 (by decide +kernel)
theorem margin_of {P T A:Rat} {p q:Int} (h1:(swU:Int)*(q*(swM:Int)+8803909632)≤p) (h2:p≤(swU:Int)*(q*(swM:Int)+(swM:Int)-8803909632)) (hP:P=(p:Rat)) (n1:P-p480*A≤uR) (n2:p480*A-P≤uR) (t1:T-A≤q62) (t2:A-T≤q62) :
  ((q*4294967296+1040:Int):Rat)*q62≤T∧T≤((q*4294967296+4294967296-1040:Int):Rat)*q62:=by
 have g1:=Rat.intCast_le_intCast.2 h1
 have g2:=Rat.intCast_le_intCast.2 h2
 subst hP
 simp only[Rat.intCast_mul,Rat.intCast_add,Rat.intCast_sub,Rat.intCast_natCast] at g1 g2 ⊢
 have e1:((swM:Nat):Rat)=36028797018963968:=by decide +kernel
 have e2:((8803909632:Int):Rat)=8803909632:=rfl
 have e3:((4294967296:Int):Rat)=4294967296:=rfl
 have e4:((1040:Int):Rat)=1040:=rfl
 have e5:p480=uR*38685626227668133590597632:=by decide +kernel
 have e6:(1:Rat)=4611686018427387904*q62:=by decide +kernel
 have hu:(0:Rat)<uR:=by decide +kernel
 rw[e1,e2] at g1 g2
 rw[e3,e4]
 rw[e5] at n1 n2
 have f1:uR*((q:Rat)*36028797018963968+8803909631)≤uR*(38685626227668133590597632*A):=by grind
 have f2:uR*(38685626227668133590597632*A)≤uR*((q:Rat)*36028797018963968+36028797018963968-8803909631):=by grind
 have k1:=Rat.le_of_mul_le_mul_left f1 hu
 have k2:=Rat.le_of_mul_le_mul_left f2 hu
 have he:(0:Rat)≤q62:=Rat.le_of_lt q62_pos
 have m1:=Rat.mul_le_mul_of_nonneg_right k1 he
 have m2:=Rat.mul_le_mul_of_nonneg_right k2 he
 clear g1 g2 f1 f2 n1 n2 e5 h1 h2 e1 e2 e3 e4 k1 k2 hu he
 generalize q62=e at *
 generalize (q:Rat)=Q at *
 have m3:38685626227668133590597632*A*e=8388608*A*(4611686018427387904*e):=by grind
 rw[m3,←e6] at m1 m2
 exact⟨by grind,by grind⟩
theorem swS0:sweep 1 polS 0 100=true:=by decide +kernel
theorem swS1:sweep 1 polS 100 100=true:=by decide +kernel
theorem swS2:sweep 1 polS 200 100=true:=by decide +kernel
theorem swS3:sweep 1 polS 300 100=true:=by decide +kernel
theorem swS4:sweep 1 polS 400 100=true:=by decide +kernel
theorem swS5:sweep 1 polS 500 100=true:=by decide +kernel
theorem swS6:sweep 1 polS 600 100=true:=by decide +kernel
theorem swS7:sweep 1 polS 700 100=true:=by decide +kernel
theorem swS8:sweep 1 polS 800 100=true:=by decide +kernel
theorem swS9:sweep 1 polS 900 100=true:=by decide +kernel
theorem swS10:sweep 1 polS 1000 100=true:=by decide +kernel
theorem swS11:sweep 1 polS 1100 100=true:=by decide +kernel
theorem swS12:sweep 1 polS 1200 100=true:=by decide +kernel
theorem swS13:sweep 1 polS 1300 100=true:=by decide +kernel
theorem swS14:sweep 1 polS 1400 100=true:=by decide +kernel
theorem swS15:sweep 1 polS 1500 100=true:=by decide +kernel
theorem swS16:sweep 1 polS 1600 100=true:=by decide +kernel
theorem swS17:sweep 1 polS 1700 100=true:=by decide +kernel
theorem swS18:sweep 1 polS 1800 100=true:=by decide +kernel
theorem swS19:sweep 1 polS 1900 100=true:=by decide +kernel
theorem swS20:sweep 1 polS 2000 100=true:=by decide +kernel
theorem swS21:sweep 1 polS 2100 100=true:=by decide +kernel
theorem swS22:sweep 1 polS 2200 100=true:=by decide +kernel
theorem swS23:sweep 1 polS 2300 100=true:=by decide +kernel
theorem swS24:sweep 1 polS 2400 100=true:=by decide +kernel
theorem swS25:sweep 1 polS 2500 100=true:=by decide +kernel
theorem swS26:sweep 1 polS 2600 100=true:=by decide +kernel
theorem swS27:sweep 1 polS 2700 1=true:=by decide +kernel
theorem swC0:sweep 0 polC 0 100=true:=by decide +kernel
theorem swC1:sweep 0 polC 100 100=true:=by decide +kernel
theorem swC2:sweep 0 polC 200 100=true:=by decide +kernel
theorem swC3:sweep 0 polC 300 100=true:=by decide +kernel
theorem swC4:sweep 0 polC 400 100=true:=by decide +kernel
theorem swC5:sweep 0 polC 500 100=true:=by decide +kernel
theorem swC6:sweep 0 polC 600 100=true:=by decide +kernel
theorem swC7:sweep 0 polC 700 100=true:=by decide +kernel
theorem swC8:sweep 0 polC 800 100=true:=by decide +kernel
theorem swC9:sweep 0 polC 900 100=true:=by decide +kernel
theorem swC10:sweep 0 polC 1000 100=true:=by decide +kernel
theorem swC11:sweep 0 polC 1100 100=true:=by decide +kernel
theorem swC12:sweep 0 polC 1200 100=true:=by decide +kernel
theorem swC13:sweep 0 polC 1300 100=true:=by decide +kernel
theorem swC14:sweep 0 polC 1400 100=true:=by decide +kernel
theorem swC15:sweep 0 polC 1500 100=true:=by decide +kernel
theorem swC16:sweep 0 polC 1600 100=true:=by decide +kernel
theorem swC17:sweep 0 polC 1700 100=true:=by decide +kernel
theorem swC18:sweep 0 polC 1800 100=true:=by decide +kernel
theorem swC19:sweep 0 polC 1900 100=true:=by decide +kernel
theorem swC20:sweep 0 polC 2000 100=true:=by decide +kernel
theorem swC21:sweep 0 polC 2100 100=true:=by decide +kernel
theorem swC22:sweep 0 polC 2200 100=true:=by decide +kernel
theorem swC23:sweep 0 polC 2300 100=true:=by decide +kernel
theorem swC24:sweep 0 polC 2400 100=true:=by decide +kernel
theorem swC25:sweep 0 polC 2500 100=true:=by decide +kernel
theorem swC26:sweep 0 polC 2600 100=true:=by decide +kernel
theorem swC27:sweep 0 polC 2700 1=true:=by decide +kernel
theorem allS {b:Nat} (h:b<2701):one 1 polS b=true:=by
 rcases Nat.lt_or_ge b 100 with g|g
 ·exact sweep_spec 100 swS0 b (by omega) (by omega)
 rcases Nat.lt_or_ge b 200 with g|g
 ·exact sweep_spec 100 swS1 b (by omega) (by omega)
 rcases Nat.lt_or_ge b 300 with g|g
 ·exact sweep_spec 100 swS2 b (by omega) (by omega)
 rcases Nat.lt_or_ge b 400 with g|g
 ·exact sweep_spec 100 swS3 b (by omega) (by omega)
 rcases Nat.lt_or_ge b 500 with g|g
 ·exact sweep_spec 100 swS4 b (by omega) (by omega)
 rcases Nat.lt_or_ge b 600 with g|g
 ·exact sweep_spec 100 swS5 b (by omega) (by omega)
 rcases Nat.lt_or_ge b 700 with g|g
 ·exact sweep_spec 100 swS6 b (by omega) (by omega)
 rcases Nat.lt_or_ge b 800 with g|g
 ·exact sweep_spec 100 swS7 b (by omega) (by omega)
 rcases Nat.lt_or_ge b 900 with g|g
 ·exact sweep_spec 100 swS8 b (by omega) (by omega)
 rcases Nat.lt_or_ge b 1000 with g|g
 ·exact sweep_spec 100 swS9 b (by omega) (by omega)
 rcases Nat.lt_or_ge b 1100 with g|g
 ·exact sweep_spec 100 swS10 b (by omega) (by omega)
 rcases Nat.lt_or_ge b 1200 with g|g
 ·exact sweep_spec 100 swS11 b (by omega) (by omega)
 rcases Nat.lt_or_ge b 1300 with g|g
 ·exact sweep_spec 100 swS12 b (by omega) (by omega)
 rcases Nat.lt_or_ge b 1400 with g|g
 ·exact sweep_spec 100 swS13 b (by omega) (by omega)
 rcases Nat.lt_or_ge b 1500 with g|g
 ·exact sweep_spec 100 swS14 b (by omega) (by omega)
 rcases Nat.lt_or_ge b 1600 with g|g
 ·exact sweep_spec 100 swS15 b (by omega) (by omega)
 rcases Nat.lt_or_ge b 1700 with g|g
 ·exact sweep_spec 100 swS16 b (by omega) (by omega)
 rcases Nat.lt_or_ge b 1800 with g|g
 ·exact sweep_spec 100 swS17 b (by omega) (by omega)
 rcases Nat.lt_or_ge b 1900 with g|g
 ·exact sweep_spec 100 swS18 b (by omega) (by omega)
 rcases Nat.lt_or_ge b 2000 with g|g
 ·exact sweep_spec 100 swS19 b (by omega) (by omega)
 rcases Nat.lt_or_ge b 2100 with g|g
 ·exact sweep_spec 100 swS20 b (by omega) (by omega)
 rcases Nat.lt_or_ge b 2200 with g|g
 ·exact sweep_spec 100 swS21 b (by omega) (by omega)
 rcases Nat.lt_or_ge b 2300 with g|g
 ·exact sweep_spec 100 swS22 b (by omega) (by omega)
 rcases Nat.lt_or_ge b 2400 with g|g
 ·exact sweep_spec 100 swS23 b (by omega) (by omega)
 rcases Nat.lt_or_ge b 2500 with g|g
 ·exact sweep_spec 100 swS24 b (by omega) (by omega)
 rcases Nat.lt_or_ge b 2600 with g|g
 ·exact sweep_spec 100 swS25 b (by omega) (by omega)
 rcases Nat.lt_or_ge b 2700 with g|g
 ·exact sweep_spec 100 swS26 b (by omega) (by omega)
 exact sweep_spec 1 swS27 b (by omega) (by omega)
theorem allC {b:Nat} (h:b<2701):one 0 polC b=true:=by
 rcases Nat.lt_or_ge b 100 with g|g
 ·exact sweep_spec 100 swC0 b (by omega) (by omega)
 rcases Nat.lt_or_ge b 200 with g|g
 ·exact sweep_spec 100 swC1 b (by omega) (by omega)
 rcases Nat.lt_or_ge b 300 with g|g
 ·exact sweep_spec 100 swC2 b (by omega) (by omega)
 rcases Nat.lt_or_ge b 400 with g|g
 ·exact sweep_spec 100 swC3 b (by omega) (by omega)
 rcases Nat.lt_or_ge b 500 with g|g
 ·exact sweep_spec 100 swC4 b (by omega) (by omega)
 rcases Nat.lt_or_ge b 600 with g|g
 ·exact sweep_spec 100 swC5 b (by omega) (by omega)
 rcases Nat.lt_or_ge b 700 with g|g
 ·exact sweep_spec 100 swC6 b (by omega) (by omega)
 rcases Nat.lt_or_ge b 800 with g|g
 ·exact sweep_spec 100 swC7 b (by omega) (by omega)
 rcases Nat.lt_or_ge b 900 with g|g
 ·exact sweep_spec 100 swC8 b (by omega) (by omega)
 rcases Nat.lt_or_ge b 1000 with g|g
 ·exact sweep_spec 100 swC9 b (by omega) (by omega)
 rcases Nat.lt_or_ge b 1100 with g|g
 ·exact sweep_spec 100 swC10 b (by omega) (by omega)
 rcases Nat.lt_or_ge b 1200 with g|g
 ·exact sweep_spec 100 swC11 b (by omega) (by omega)
 rcases Nat.lt_or_ge b 1300 with g|g
 ·exact sweep_spec 100 swC12 b (by omega) (by omega)
 rcases Nat.lt_or_ge b 1400 with g|g
 ·exact sweep_spec 100 swC13 b (by omega) (by omega)
 rcases Nat.lt_or_ge b 1500 with g|g
 ·exact sweep_spec 100 swC14 b (by omega) (by omega)
 rcases Nat.lt_or_ge b 1600 with g|g
 ·exact sweep_spec 100 swC15 b (by omega) (by omega)
 rcases Nat.lt_or_ge b 1700 with g|g
 ·exact sweep_spec 100 swC16 b (by omega) (by omega)
 rcases Nat.lt_or_ge b 1800 with g|g
 ·exact sweep_spec 100 swC17 b (by omega) (by omega)
 rcases Nat.lt_or_ge b 1900 with g|g
 ·exact sweep_spec 100 swC18 b (by omega) (by omega)
 rcases Nat.lt_or_ge b 2000 with g|g
 ·exact sweep_spec 100 swC19 b (by omega) (by omega)
 rcases Nat.lt_or_ge b 2100 with g|g
 ·exact sweep_spec 100 swC20 b (by omega) (by omega)
 rcases Nat.lt_or_ge b 2200 with g|g
 ·exact sweep_spec 100 swC21 b (by omega) (by omega)
 rcases Nat.lt_or_ge b 2300 with g|g
 ·exact sweep_spec 100 swC22 b (by omega) (by omega)
 rcases Nat.lt_or_ge b 2400 with g|g
 ·exact sweep_spec 100 swC23 b (by omega) (by omega)
 rcases Nat.lt_or_ge b 2500 with g|g
 ·exact sweep_spec 100 swC24 b (by omega) (by omega)
 rcases Nat.lt_or_ge b 2600 with g|g
 ·exact sweep_spec 100 swC25 b (by omega) (by omega)
 rcases Nat.lt_or_ge b 2700 with g|g
 ·exact sweep_spec 100 swC26 b (by omega) (by omega)
 exact sweep_spec 1 swC27 b (by omega) (by omega)
theorem margin {o n:Nat} (ho:o≤1) (h0:n≠0) (h:n≤2700000) (h1:o=1→n≠1800000):∃q:Int,((q*4294967296+1040:Int):Rat)*q62≤TT o n∧TT o n≤((q*4294967296+4294967296-1040:Int):Rat)*q62:=by
 match o,ho with
 |0,_ =>
  obtain⟨q,a1,a2⟩:=one_spec tailC (n:=n) (by omega) (allC (by omega)) h0 h1
  obtain⟨n1,n2⟩:=polC_near h
  obtain⟨g1,g2⟩:=sa_more (o:=0) (xi_nn n) (xi_sq h) 25 10 0
  have ht:=tmC10 h
  rw[Nat.zero_add] at g1 g2
  have eT:TT 0 n=sa 0 (xi n) 0 (10+25):=rfl
  have t1:TT 0 n-sa 0 (xi n) 0 10≤q62:=by rw[eT];exact Rat.le_trans g1 ht
  have t2:sa 0 (xi n) 0 10-TT 0 n≤q62:=by rw[eT];exact Rat.le_trans g2 ht
  exact⟨q,margin_of (P:=(ev polC n:Rat)) (A:=sa 0 (xi n) 0 10) (T:=TT 0 n) (p:=ev polC n) (q:=q) a1 a2 (Eq.refl _) n1 n2 t1 t2⟩
 |1,_ =>
  obtain⟨q,a1,a2⟩:=one_spec tailS (n:=n) (by omega) (allS (by omega)) h0 h1
  obtain⟨n1,n2⟩:=polS_near h
  obtain⟨g1,g2⟩:=sa_more (o:=1) (xi_nn n) (xi_sq h) 26 9 0
  have ht:=tmS9 h
  rw[Nat.zero_add] at g1 g2
  have eT:TT 1 n=sa 1 (xi n) 0 (9+26):=rfl
  have t1:TT 1 n-sa 1 (xi n) 0 9≤q62:=by rw[eT];exact Rat.le_trans g1 ht
  have t2:sa 1 (xi n) 0 9-TT 1 n≤q62:=by rw[eT];exact Rat.le_trans g2 ht
  exact⟨q,margin_of (P:=(ev polS n:Rat)) (A:=sa 1 (xi n) 0 9) (T:=TT 1 n) (p:=ev polS n) (q:=q) a1 a2 (Eq.refl _) n1 n2 t1 t2⟩
theorem lt_of_q {a b:Int} (h:(a:Rat)*q62≤(b:Rat)*q62):a≤b:=Rat.intCast_le_intCast.1 (Rat.le_of_mul_le_mul_right h q62_pos)
theorem sines {o n:Nat} (ho:o≤1) (h0:n≠0) (h:n≤2700000) (h1:o=1→n≠1800000) :
  (quickF o n-256)/4294967296=(sinF o n/2^226:Nat)∧(quickF o n+256)/4294967296=(sinF o n/2^226:Nat)∧quickF o n/4294967296=(sinF o n/2^226:Nat)∧sinF o n/2^226<1073741824∧600≤quickF o n%4294967296∧quickF o n%4294967296≤4294966696:=by
 obtain⟨q,m1,m2⟩:=margin ho h0 h h1
 obtain⟨a1,a2⟩:=quickF_R ho h
 obtain⟨b1,b2⟩:=sinF_R ho h
 have k1:q*4294967296+1040≤quickF o n+110:=lt_of_q (by
  rw[Rat.intCast_add (quickF o n)]
  have e:((110:Int):Rat)=110:=rfl
  rw[e];grind)
 have k2:quickF o n-110≤q*4294967296+4294967296-1040:=lt_of_q (by
  rw[Rat.intCast_sub (quickF o n)]
  have e:((110:Int):Rat)=110:=rfl
  rw[e];grind)
 -- the program's digits
 have eE:q62=eR*25108406941546723055343157692830665664409421777856138051584:=by decide +kernel
 have he:=eR_pos
 have s1:(q*4294967296+1040)*25108406941546723055343157692830665664409421777856138051584≤(sinF o n:Int)+11:=by
  refine Rat.intCast_le_intCast.1 (Rat.le_of_mul_le_mul_right (c:=eR) ?_ he)
  rw[Rat.intCast_mul,Rat.intCast_add (sinF o n:Int),Rat.intCast_natCast]
  have e:((11:Int):Rat)=11:=rfl
  have e2:((25108406941546723055343157692830665664409421777856138051584:Int):Rat)=25108406941546723055343157692830665664409421777856138051584:=rfl
  rw[e,e2]
  rw[eE] at m1
  grind
 have s2:(sinF o n:Int)-11≤(q*4294967296+4294967296-1040)*25108406941546723055343157692830665664409421777856138051584:=by
  refine Rat.intCast_le_intCast.1 (Rat.le_of_mul_le_mul_right (c:=eR) ?_ he)
  rw[Rat.intCast_mul,Rat.intCast_sub (sinF o n:Int),Rat.intCast_natCast]
  have e:((11:Int):Rat)=11:=rfl
  have e2:((25108406941546723055343157692830665664409421777856138051584:Int):Rat)=25108406941546723055343157692830665664409421777856138051584:=rfl
  rw[e,e2]
  rw[eE] at m2
  grind
 have hs:(sinF o n:Int)/(2^226:Nat)=q:=by
  generalize (sinF o n:Int)=s at *
  omega
 have hS:((sinF o n/2^226:Nat):Int)=q:=by rw[Int.natCast_ediv];exact hs
 -- at most 1
 have hq:q≤1073741823:=by
  have t1:TT o n≤1:=Rat.le_trans (sa_bd (xi_nn n) (xi_sq h) 0 35).2 (tm_le (xi_nn n) (xi_sq h) (Rat.le_trans (xi_le h) (by decide +kernel)) 0)
  have e6:(1:Rat)=((4611686018427387904:Int):Rat)*q62:=by decide +kernel
  have:=lt_of_q (Rat.le_trans m1 (by rw[←e6];exact t1))
  omega
 refine⟨?_,?_,?_,?_,?_,?_⟩
 ·rw[hS];omega
 ·rw[hS];omega
 ·rw[hS];omega
 ·omega
 ·omega
 ·omega
end Go.Proofs.YtjmdeplmenbmmaaGreat.TT
