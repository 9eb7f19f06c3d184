/- Joined texts: Noa, Nob, Noc, Nod, Noe, AsnP, TriQ, Gcg, RgA. -/
import Derived.Test.YtjmdeplmenbmmaaGreatV05
import Derived.Test.YtjmdeplmenbmmaaGreatU01
set_option linter.unusedVariables false
namespace Go.Proofs.YtjmdeplmenbmmaaGreat.TT
def nooS (l t k:Int×Int):Int×Int:=addE (mulE (encl l.1 l.2) (encl t.1 t.2)) (mulE (mulE (cosE l.1 l.2) (cosE t.1 t.2)) (cosE k.1 k.2))
def alt3 (P D k:Int):Rat:=S P*S D+C P*C D*C k
theorem conv1 {x y k:Rat} (hx : -1≤x∧x≤1) (hy : -1≤y∧y≤1) (hk : -1≤k∧k≤1) : -2≤(1+k)*x+(1-k)*y∧(1+k)*x+(1-k)*y≤2:=by
 have a:0≤1+k:=by grind
 have b:0≤1-k:=by grind
 have a1:=Rat.mul_le_mul_of_nonneg_left hx.1 a
 have a2:=Rat.mul_le_mul_of_nonneg_left hx.2 a
 have b1:=Rat.mul_le_mul_of_nonneg_left hy.1 b
 have b2:=Rat.mul_le_mul_of_nonneg_left hy.2 b
 grind
theorem alt3_abs (P D k:Int) : -1≤alt3 P D k∧alt3 P D k≤1:=by
 have h1:=C_abs (P-D)
 have h2:=C_abs (P+D)
 rw[(sub_i P D).1] at h1
 rw[(add_i P D).1] at h2
 have h3 : -1≤-(C P*C D-S P*S D)∧-(C P*C D-S P*S D)≤1:=by grind
 have:=conv1 h1 h3 (C_abs k)
 unfold alt3
 generalize C P=a at *
 generalize C D=b at *
 generalize S P=c at *
 generalize S D=d at *
 generalize C k=e at *
 grind
theorem noo_ord (l t k:Int×Int) (hl:l.1≤l.2) (ht:t.1≤t.2) (hk:k.1≤k.2):(nooS l t k).1≤(nooS l t k).2:=by
 have o1:=encl_ord hl
 have o2:=cosE_ord hl
 have o3:=encl_ord ht
 have o4:=cosE_ord ht
 have o6:=cosE_ord hk
 have b0:=mulE_bd o1 o3
 have b2:=mulE_bd (mulE_bd o2 o4) o6
 unfold nooS addE
 dsimp only
 omega
theorem noo_enc {P D k0:Int} {l t k:Int×Int} (hl:l.1≤P∧P≤l.2) (hP:ok8 P) (ht:t.1≤D∧D≤t.2) (hD:ok8 D) (hk:k.1≤k0∧k0≤k.2) (hk0:ok8 k0):Enc (nooS l t k) (alt3 P D k0) (8*dB):=by
 have sp:=sin_encA hl.1 hl.2 hP
 have cp:=cos_encA hl.1 hl.2 hP
 have sr:=sin_encA ht.1 ht.2 hD
 have cr:=cos_encA ht.1 ht.2 hD
 have ck:=cos_encA hk.1 hk.2 hk0
 have o1:=encl_ord (lo:=l.1) (hi:=l.2) (by omega)
 have o2:=cosE_ord (lo:=l.1) (hi:=l.2) (by omega)
 have o4:=cosE_ord (lo:=t.1) (hi:=t.2) (by omega)
 have b1:=mulE_bd o2 o4
 have n0:=dB_nn
 have n2:(0:Rat)≤dB+dB:=by decide +kernel
 have m1:=mul_enc sp sr n0 n0 ⟨o1.1,o1.2.2⟩ (S_abs D)
 have m2:=mul_enc cp cr n0 n0 ⟨o2.1,o2.2.2⟩ (C_abs D)
 have m3:=mul_enc m2 ck n2 n0 ⟨b1.1,b1.2.2⟩ (C_abs k0)
 exact(add_enc m1 m3).mono (by decide +kernel)
theorem noo_meet {P D k0:Int} {l t k:Int×Int} (hl:l.1≤P∧P≤l.2) (hP:ok8 P) (ht:t.1≤D∧D≤t.2) (hD:ok8 D) (hk:k.1≤k0∧k0≤k.2) (hk0:ok8 k0) :
  ((meetO (nooS l t k)).1≤(meetO (nooS l t k)).2∧-1073741824≤(meetO (nooS l t k)).1∧(meetO (nooS l t k)).2≤1073741824)∧Enc (meetO (nooS l t k)) (alt3 P D k0) (8*dB) :=
 meet_enc (noo_ord l t k (by omega) (by omega) (by omega)) (noo_enc hl hP ht hD hk hk0) (alt3_abs P D k0) (by decide +kernel) (by decide +kernel)
theorem C_mer {j:Int} (h0:0≤j) (h1:j≤2):Near (C (21600000*j)) 1 (d144+d144):=by
 have c0:C 0=1:=rfl
 have t1:=C_turn 0
 have t2:=C_turn 21600000
 rw[c0] at t1
 have n0:(0:Rat)≤d144:=by decide +kernel
 rcases(by omega:j=0∨j=1∨j=2) with rfl|rfl|rfl
 ·rw[show (21600000:Int)*0=0 by omega,c0]
  exact⟨by grind,by grind⟩
 ·rw[show (21600000:Int)*1=0+21600000 by omega]
  exact t1.mono (by grind)
 ·rw[show (21600000:Int)*2=21600000+21600000 by omega]
  exact t2.trans t1
theorem alt3_mer {P D j:Int} (h0:0≤j) (h1:j≤2):Near (alt3 P D (21600000*j)) (C (P-D)) (d144+d144):=by
 have hn:=C_mer h0 h1
 rw[(sub_i P D).1]
 unfold alt3
 have a:=C_abs P
 have b:=C_abs D
 have n0:(0:Rat)≤d144+d144:=by decide +kernel
 have e : -(d144+d144)≤C (21600000*j)-1∧C (21600000*j)-1≤d144+d144:=⟨by have:=hn.2;grind,hn.1⟩
 have m1:=mul_abs b.1 b.2 e.1 e.2
 have m2:=mul_abs a.1 a.2 m1.1 m1.2
 generalize d144+d144=q at *
 generalize C (21600000*j)=c at *
 exact⟨by grind,by grind⟩
theorem noon_q {P D j z n m:Int} {t k:Int×Int} (hP:ok8 P) (ht:t.1≤D∧D≤t.2) (hD:ok8 D) (hk:k.1≤21600000*j∧21600000*j≤k.2) (h0:0≤j) (h1:j≤2) (hz:C z=C (P-D)) (hq:lat8 (5400000-z))
  (i1:IsAsin (meetO (nooS (P,P) t k)).1 n) (i2:IsAsin (-(meetO (nooS (P,P) t k)).2) m):n≤5400000-z∧5400000-z≤-m:=by
 obtain⟨_,x,a1,a2,n1,n2⟩:=noo_meet (l:=(P,P)) ⟨Int.le_refl _,Int.le_refl _⟩ hP ht hD hk (by unfold ok8;omega)
 have e:=alt3_mer (P:=P) (D:=D) h0 h1
 rw[←hz] at e
 have s:=S_co z
 obtain⟨e1,e2⟩:=e
 obtain⟨s1,s2⟩:=s
 have g:=oR_pos
 have hd:8*dB+(d144+d144)+d148≤1/((2^60:Nat):Rat):=by decide +kernel
 have u1:x≤S (5400000-z)+(8*dB+(d144+d144)+d148):=by grind
 have u2 : -x≤S (-(5400000-z))+(8*dB+(d144+d144)+d148):=by rw[S_neg];grind
 have v1:=Rat.mul_le_mul_of_nonneg_left u1 (Rat.le_of_lt g)
 have v2:=Rat.mul_le_mul_of_nonneg_left u2 (Rat.le_of_lt g)
 constructor
 ·exact asin_le hq i1 (by rw[←Rat.mul_add];exact Rat.le_trans a1 v1) hd
 ·have:=asin_le (b:=-(5400000-z)) (by unfold lat8 at *;omega) i2 (by rw[←Rat.mul_add,Rat.intCast_neg];refine Rat.le_trans ?_ v2;grind) hd
  omega
theorem noon_south {P j n m:Int} {t k:Int×Int} (hP : -5400000≤P∧P≤5400000) (ht : -5400000≤t.1∧t.1≤t.2∧t.2≤5400000) (hk:k.1≤21600000*j∧21600000*j≤k.2) (h0:0≤j) (h1:j≤2) (hs:t.2≤P)
  (i1:IsAsin (meetO (nooS (P,P) t k)).1 n) (i2:IsAsin (-(meetO (nooS (P,P) t k)).2) m):5400000+m+t.1≤P∧P≤5400000-n+t.2:=by
 have a:=noon_q (D:=t.1) (z:=P-t.1) (by unfold ok8;omega) ⟨Int.le_refl _,ht.2.1⟩ (by unfold ok8;omega) hk h0 h1 rfl (by unfold lat8;omega) i1 i2
 have b:=noon_q (D:=t.2) (z:=P-t.2) (by unfold ok8;omega) ⟨ht.2.1,Int.le_refl _⟩ (by unfold ok8;omega) hk h0 h1 rfl (by unfold lat8;omega) i1 i2
 omega
theorem noon_north {P j n m:Int} {t k:Int×Int} (hP : -5400000≤P∧P≤5400000) (ht : -5400000≤t.1∧t.1≤t.2∧t.2≤5400000) (hk:k.1≤21600000*j∧21600000*j≤k.2) (h0:0≤j) (h1:j≤2) (hs:P≤t.1)
  (i1:IsAsin (meetO (nooS (P,P) t k)).1 n) (i2:IsAsin (-(meetO (nooS (P,P) t k)).2) m):t.1-(5400000-n)≤P∧P≤t.2-(5400000+m):=by
 have e:∀D,C (D-P)=C (P-D):=fun D=>by rw[←C_neg,show -(D-P)=P-D by omega]
 have a:=noon_q (D:=t.1) (z:=t.1-P) (by unfold ok8;omega) ⟨Int.le_refl _,ht.2.1⟩ (by unfold ok8;omega) hk h0 h1 (e _) (by unfold lat8;omega) i1 i2
 have b:=noon_q (D:=t.2) (z:=t.2-P) (by unfold ok8;omega) ⟨ht.2.1,Int.le_refl _⟩ (by unfold ok8;omega) hk h0 h1 (e _) (by unfold lat8;omega) i1 i2
 omega
def exS (h l t k:Int×Int):Int×Int:=subE (havE (5400000-h.2) (5400000-h.1)) (mulE (mulE (cosE l.1 l.2) (cosE t.1 t.2)) (havE k.1 k.2))
theorem asin_val {v n:Int} {x d:Rat} (h:IsAsin v n) (hv:(v:Rat)≤oR*x+oR*d):S n≤x+(d+d100):=by
 obtain⟨n0,n1,n2,_⟩:=h
 have hh:=(bnd_holds (n:=n) (by omega) (by omega)).2
 have g:=Rat.intCast_le_intCast.2 n2
 have p:(0:Rat)≤d100:=by decide +kernel
 have o1:(1:Rat)≤oR:=by decide +kernel
 have q:=Rat.mul_le_mul_of_nonneg_right o1 p
 refine Rat.le_of_mul_le_mul_left (c:=oR) ?_ oR_pos
 generalize d100=y at *
 generalize hw:oR*y=z at *
 grind
theorem noo_n {a b n m:Int} (h1:IsAsin a n) (h2:IsAsin (-b) m) (h:S n≤-(S m)+1/((2^58:Nat):Rat)):n≤-m:=by
 refine Int.not_lt.1 fun hlt=>?_
 have a0:=h1.1;have a1:=h1.2.1;have b0:=h2.1;have b1:=h2.2.1
 have cl:=C_lt (m:=5400000-n) (n:=5400000 - -m) (by omega) (by omega) (by omega)
 obtain⟨k1,k2⟩:=C_co n
 obtain⟨l1,l2⟩:=C_co (-m)
 rw[S_neg] at l1 l2
 have hs:1/((2^58:Nat):Rat)+(d148+d148)<g45:=by decide +kernel
 generalize (1/((2^58:Nat):Rat))=q at *
 generalize d148=z at *
 generalize g45=w at *
 grind
theorem noo_ends {P D k0 n m:Int} {l t k:Int×Int} (hl:l.1≤P∧P≤l.2) (hP:ok8 P) (ht:t.1≤D∧D≤t.2) (hD:ok8 D) (hk:k.1≤k0∧k0≤k.2) (hk0:ok8 k0)
  (i1:IsAsin (meetO (nooS l t k)).1 n) (i2:IsAsin (-(meetO (nooS l t k)).2) m):S n≤alt3 P D k0+(8*dB+d100)∧S m≤-(alt3 P D k0)+(8*dB+d100)∧n≤-m:=by
 obtain⟨_,x,a1,a2,n1,n2⟩:=noo_meet hl hP ht hD hk hk0
 have g:=oR_pos
 have u1:x≤alt3 P D k0+8*dB:=by grind
 have u2 : -x≤-(alt3 P D k0)+8*dB:=by grind
 have v1:=Rat.mul_le_mul_of_nonneg_left u1 (Rat.le_of_lt g)
 have v2:=Rat.mul_le_mul_of_nonneg_left u2 (Rat.le_of_lt g)
 have r1:=asin_val i1 (x:=alt3 P D k0) (d:=8*dB) (by rw[←Rat.mul_add];exact Rat.le_trans a1 v1)
 have r2:=asin_val i2 (x:=-(alt3 P D k0)) (d:=8*dB) (by rw[←Rat.mul_add,Rat.intCast_neg];refine Rat.le_trans ?_ v2;grind)
 refine⟨r1,r2,noo_n i1 i2 ?_⟩
 have hs:(8*dB+d100)+(8*dB+d100)≤1/((2^58:Nat):Rat):=by decide +kernel
 grind
abbrev dX:Rat:=1/((2^62:Nat):Rat)
theorem hav_mid {V:Rat} {n m:Int} (h0 : -5400000≤n) (h1:n≤-m) (h2 : -5400000≤m) (s1:S n≤V+(8*dB+d100)) (s2:S m≤-V+(8*dB+d100)):Enc (havE (5400000+m) (5400000-n)) ((1-V)/2) (dX/4):=by
 have e1:=hav_encA (lo:=5400000+m) (hi:=5400000-n) (n:=5400000+m) (Int.le_refl _) (by omega) (by omega)
 have e2:=hav_encA (lo:=5400000+m) (hi:=5400000-n) (n:=5400000-n) (by omega) (Int.le_refl _) (by omega)
 obtain⟨k1,k2⟩:=C_co n
 obtain⟨l1,l2⟩:=C_co (-m)
 rw[S_neg,show 5400000 - -m=5400000+m by omega] at l1 l2
 have c0:(0:Rat)≤8*dB+d100+d148:=by decide +kernel
 refine(Enc.between e1 e2 c0 dB_nn ?_ ?_).mono (by decide +kernel)
 ·generalize 8*dB+d100=q at *
  generalize d148=z at *
  grind
 ·generalize 8*dB+d100=q at *
  generalize d148=z at *
  grind
theorem C_le1 (z:Int):0≤(1-C z)/2∧(1-C z)/2≤1:=by
 have:=C_abs z
 exact⟨by grind,by grind⟩
theorem ex_enc {P D k0 n m:Int} {l t k:Int×Int} (hl:l.1≤P∧P≤l.2) (hP:ok8 P) (ht:t.1≤D∧D≤t.2) (hD:ok8 D) (hk:k.1≤k0∧k0≤k.2) (hk0:ok8 k0)
  (i1:IsAsin (meetO (nooS (P,P) t k)).1 n) (i2:IsAsin (-(meetO (nooS (P,P) t k)).2) m):(exS (n,-m) l t k).1≤(exS (n,-m) l t k).2∧Enc (exS (n,-m) l t k) ((1-C (P-D))/2) dX:=by
 obtain⟨s1,s2,hnm⟩:=noo_ends (l:=(P,P)) ⟨Int.le_refl _,Int.le_refl _⟩ hP ht hD hk hk0 i1 i2
 have a0:=i1.1;have b0:=i2.1
 have e1:=hav_mid a0 hnm b0 s1 s2
 have cp:=cos_encA hl.1 hl.2 hP
 have cr:=cos_encA ht.1 ht.2 hD
 have hv:=hav_encA hk.1 hk.2 hk0
 have o2:=cosE_ord (lo:=l.1) (hi:=l.2) (by omega)
 have o4:=cosE_ord (lo:=t.1) (hi:=t.2) (by omega)
 have o5:=havE_ord (lo:=k.1) (hi:=k.2) (by omega)
 have o6:=havE_ord (lo:=5400000+m) (hi:=5400000-n) (by omega)
 have b1:=mulE_bd o2 o4
 have b2:=mulE_bd b1 ⟨by omega,o5.2.1,o5.2.2⟩
 have n0:=dB_nn
 have n2:(0:Rat)≤dB+dB:=by decide +kernel
 have m2:=mul_enc cp cr n0 n0 ⟨o2.1,o2.2.2⟩ (C_abs D)
 have hb:=C_le1 k0
 have m3:=mul_enc m2 hv n2 n0 ⟨b1.1,b1.2.2⟩ ⟨by grind,hb.2⟩
 have hq:5400000 - -m=5400000+m:=by omega
 unfold exS
 dsimp only
 rw[hq]
 refine⟨by unfold subE;dsimp only;omega,?_⟩
 have:=(sub_enc e1 m3).mono (e:=dX) (by decide +kernel)
 rw[(sub_i P D).1]
 refine Eq.mp (congrArg (fun x=>Enc _ x dX) ?_) this
 unfold alt3
 grind
theorem ex_arc {E:Int×Int} {z n0 n1:Int} (hz:0≤z∧z≤10800000) (hE:E.1≤E.2) (he:Enc E ((1-C z)/2) dX) (h1:IsAsin (1073741824-2*(clamp E).2) n1) (h0:IsAsin (-(1073741824-2*(clamp E).1)) n0) :
  (5400000+n0≤z∧z≤5400000-n1)∧0≤(clamp E).1∧(clamp E).2≤1073741824∧(clamp E).1≤(clamp E).2:=by
 obtain⟨⟨c1,c2⟩,c3⟩:=clamp_of hE he (C_le1 z) (by decide +kernel)
 refine⟨?_,c3⟩
 have e1:((2:Int):Rat)=2:=rfl
 have e2:((1073741824:Int):Rat)=oR:=rfl
 have s:=S_co z
 obtain⟨k1,k2⟩:=s
 have hd:dX+dX+d148≤1/((2^60:Nat):Rat):=by decide +kernel
 have r1:=Rat.mul_le_mul_of_nonneg_left k1 (Rat.le_of_lt oR_pos)
 have r2:=Rat.mul_le_mul_of_nonneg_left k2 (Rat.le_of_lt oR_pos)
 rw[show oR*(S (5400000-z)-C z)=oR*S (5400000-z)-oR*C z by grind] at r1
 rw[show oR*(C z-S (5400000-z))=oR*C z-oR*S (5400000-z) by grind] at r2
 rw[show oR*((1-C z)/2)=(oR-oR*C z)/2 by grind] at c1 c2
 have hm:oR*(dX+dX+d148)=oR*dX+oR*dX+oR*d148:=by grind
 have x0:n0≤-(5400000-z):=by
  refine asin_le (by unfold lat8;omega) h0 (d:=dX+dX+d148) ?_ hd
  rw[Rat.intCast_neg,Rat.intCast_sub,Rat.intCast_mul,e1,e2,S_neg,hm]
  generalize oR*dX=x at *
  generalize oR*d148=y at *
  generalize hc:oR*C z=c at *
  generalize hs:oR*S (5400000-z)=s at *
  grind
 have x1:n1≤5400000-z:=by
  refine asin_le (by unfold lat8;omega) h1 (d:=dX+dX+d148) ?_ hd
  rw[Rat.intCast_sub,Rat.intCast_mul,e1,e2,hm]
  generalize oR*dX=x at *
  generalize oR*d148=y at *
  generalize hc:oR*C z=c at *
  generalize hs:oR*S (5400000-z)=s at *
  grind
 omega
theorem ex_holds {P D k0 n m n0 n1:Int} {l t k:Int×Int} (hl:l.1≤P∧P≤l.2) (hP : -5400000≤P∧P≤5400000) (ht:t.1≤D∧D≤t.2) (hD : -5400000≤D∧D≤5400000) (hk:k.1≤k0∧k0≤k.2) (hk0:ok8 k0)
  (i1:IsAsin (meetO (nooS (P,P) t k)).1 n) (i2:IsAsin (-(meetO (nooS (P,P) t k)).2) m) (h1:IsAsin (1073741824-2*(clamp (exS (n,-m) l t k)).2) n1) (h0:IsAsin (-(1073741824-2*(clamp (exS (n,-m) l t k)).1)) n0) :
  (t.2≤l.1→t.1+(5400000+n0)≤P∧P≤t.2+(5400000-n1))∧(l.2≤t.1→t.1-(5400000-n1)≤P∧P≤t.2-(5400000+n0)) ∧
  (min (t.1+(5400000+n0)) (t.1-(5400000-n1))≤P∧P≤max (t.2+(5400000-n1)) (t.2-(5400000+n0))):=by
 obtain⟨hE,he⟩:=ex_enc hl (by unfold ok8;omega) ht (by unfold ok8;omega) hk hk0 i1 i2
 rcases Int.le_total D P with h|h
 ·obtain⟨a,_⟩:=ex_arc (z:=P-D) (by omega) hE he h1 h0
  omega
 ·rw[show C (P-D)=C (D-P) by rw[←C_neg,show -(P-D)=D-P by omega]] at he
  obtain⟨a,_⟩:=ex_arc (z:=D-P) (by omega) hE he h1 h0
  omega
theorem ex_clamp {P D k0 n m:Int} {l t k:Int×Int} (hl:l.1≤P∧P≤l.2) (hP : -5400000≤P∧P≤5400000) (ht:t.1≤D∧D≤t.2) (hD : -5400000≤D∧D≤5400000) (hk:k.1≤k0∧k0≤k.2) (hk0:ok8 k0)
  (i1:IsAsin (meetO (nooS (P,P) t k)).1 n) (i2:IsAsin (-(meetO (nooS (P,P) t k)).2) m):(exS (n,-m) l t k).1≤(exS (n,-m) l t k).2∧0≤(clamp (exS (n,-m) l t k)).1∧(clamp (exS (n,-m) l t k)).2≤1073741824∧(clamp (exS (n,-m) l t k)).1≤(clamp (exS (n,-m) l t k)).2:=by
 obtain⟨hE,he⟩:=ex_enc hl (by unfold ok8;omega) ht (by unfold ok8;omega) hk hk0 i1 i2
 exact⟨hE,(clamp_of hE he (C_le1 _) (by decide +kernel)).2⟩
end Go.Proofs.YtjmdeplmenbmmaaGreat.TT
set_option linter.unusedVariables false
namespace Go.Proofs.YtjmdeplmenbmmaaGreat.NO
def hullA (a b:Int×Int):Int×Int:=(min a.1 b.1,max a.2 b.2)
def linA (a b:Int×Int) (num den:Int):Int×Int:=((a.1*(den-num)+b.1*num)/den,-(-(a.2*(den-num)+b.2*num)/den))
def insA (at_:Int→Int×Int) (ms:Int):Int×Int:=if ms%3600000=0 then at_ (ms/3600000) else linA (at_ (ms/3600000)) (at_ (ms/3600000+1)) (ms%3600000) 3600000
def hoursL (lo hi:Int):List Int:=(List.range ((hi-1)/3600000-lo/3600000).toNat).map fun(i:Nat)=>lo/3600000+1+(i:Int)
def spanA (at_:Int→Int×Int) (lo hi:Int):Int×Int:=((hoursL lo hi).map at_).foldl hullA (hullA (insA at_ lo) (insA at_ hi))
def margA (lo hi bend:Int):Int:=if lo=hi∧lo%3600000=0 then 0 else -(-(100*bend)/8)
def overA (at_:Int→Int×Int) (lo hi bend:Int):Int×Int:=((spanA at_ lo hi).1-margA lo hi bend,(spanA at_ lo hi).2+margA lo hi bend)
theorem fold_le:∀(l:List (Int×Int)) (a:Int×Int),((l.foldl hullA a).1≤a.1∧a.2≤(l.foldl hullA a).2)∧∀x∈l,(l.foldl hullA a).1≤x.1∧x.2≤(l.foldl hullA a).2
 |[],a=>⟨⟨Int.le_refl _,Int.le_refl _⟩,fun x h=>by cases h⟩
 |y::l,a=>by
  obtain⟨h1,h2⟩:=fold_le l (hullA a y)
  rw[List.foldl_cons]
  unfold hullA at h1
  dsimp only at h1
  unfold hullA at h2 ⊢
  refine⟨by omega,fun x hx=>?_⟩
  rcases List.mem_cons.1 hx with rfl|hx
  ·omega
  ·exact h2 x hx
theorem le_fold {p q:Int} : ∀(l:List (Int×Int)) (a:Int×Int),p≤a.1→a.2≤q→(∀x∈l,p≤x.1∧x.2≤q)→p≤(l.foldl hullA a).1∧(l.foldl hullA a).2≤q
 |[],a,h1,h2,_=>⟨h1,h2⟩
 |y::l,a,h1,h2,h=>by
  rw[List.foldl_cons]
  have:=h y (List.mem_cons_self ..)
  exact le_fold l _ (by unfold hullA;dsimp only;omega) (by unfold hullA;dsimp only;omega) fun x hx=>h x (List.mem_cons_of_mem _ hx)
theorem lin0 (a b:Int×Int):linA a b 0 3600000=a:=by
 unfold linA
 rw[Int.sub_zero,Int.mul_zero,Int.mul_zero,Int.add_zero,Int.add_zero,Int.mul_ediv_cancel _ (by decide),←Int.neg_mul,Int.mul_ediv_cancel _ (by decide),Int.neg_neg]
theorem lin1 (a b:Int×Int):linA a b 3600000 3600000=b:=by
 unfold linA
 rw[Int.sub_self,Int.mul_zero,Int.mul_zero,Int.zero_add,Int.zero_add,Int.mul_ediv_cancel _ (by decide),←Int.neg_mul,Int.mul_ediv_cancel _ (by decide),Int.neg_neg]
theorem ins_seg (at_:Int→Int×Int) {h x:Int} (h0:h*3600000≤x) (h1:x≤(h+1)*3600000):insA at_ x=linA (at_ h) (at_ (h+1)) (x-h*3600000) 3600000:=by
 unfold insA
 by_cases e:x=(h+1)*3600000
 ·rw[e,if_pos (Int.mul_emod_left _ _),Int.mul_ediv_cancel _ (by decide),show (h+1)*3600000-h*3600000=3600000 by omega,lin1]
 ·have q:x/3600000=h:=by omega
  have r:x%3600000=x-h*3600000:=by omega
  split
  ·rename_i z
   rw[q,show x-h*3600000=0 by omega,lin0]
  ·rw[q,r]
theorem lin_lo {a b r s t:Int} (h1:r≤s) (h2:s≤t):(a*(3600000-r)+b*r)/3600000≤(a*(3600000-s)+b*s)/3600000∨(a*(3600000-t)+b*t)/3600000≤(a*(3600000-s)+b*s)/3600000:=by
 rcases Int.le_total a b with h|h
 ·have:=Int.mul_nonneg (show 0≤b-a by omega) (show 0≤s-r by omega)
  exact .inl (Int.ediv_le_ediv (by decide) (by grind))
 ·have:=Int.mul_nonneg (show 0≤a-b by omega) (show 0≤t-s by omega)
  exact .inr (Int.ediv_le_ediv (by decide) (by grind))
theorem lin_hi {a b r s t:Int} (h1:r≤s) (h2:s≤t) : -(-(a*(3600000-s)+b*s)/3600000)≤-(-(a*(3600000-r)+b*r)/3600000)∨-(-(a*(3600000-s)+b*s)/3600000)≤-(-(a*(3600000-t)+b*t)/3600000):=by
 have:=lin_lo (a:=-a) (b:=-b) h1 h2
 rw[show ∀y,-a*(3600000-y) + -b*y = -(a*(3600000-y)+b*y) by intro y;grind] at this
 rw[show -a*(3600000-s) + -b*s = -(a*(3600000-s)+b*s) by grind,show -a*(3600000-t) + -b*t = -(a*(3600000-t)+b*t) by grind] at this
 omega
theorem mem_hours {lo hi h:Int} : h∈hoursL lo hi↔lo<h*3600000∧h*3600000<hi:=by
 unfold hoursL
 rw[List.mem_map]
 constructor
 ·rintro⟨i,hi,rfl⟩
  have:=List.mem_range.1 hi
  omega
 ·intro hh
  refine⟨(h-lo/3600000-1).toNat,List.mem_range.2 (by omega),by omega⟩
theorem span_pt (at_:Int→Int×Int) {lo hi x:Int} (h:x=lo∨x=hi∨∃k,x=k*3600000∧lo<x∧x<hi):(spanA at_ lo hi).1≤(insA at_ x).1∧(insA at_ x).2≤(spanA at_ lo hi).2:=by
 obtain⟨h1,h2⟩:=fold_le ((hoursL lo hi).map at_) (hullA (insA at_ lo) (insA at_ hi))
 unfold spanA
 rcases h with rfl|rfl|⟨k,rfl,ha,hb⟩
 ·generalize List.foldl hullA (hullA (insA at_ x) (insA at_ hi)) ((hoursL x hi).map at_)=z at *
  unfold hullA at h1;dsimp only at h1;omega
 ·generalize List.foldl hullA (hullA (insA at_ lo) (insA at_ x)) ((hoursL lo x).map at_)=z at *
  unfold hullA at h1;dsimp only at h1;omega
 ·rw[show insA at_ (k*3600000)=at_ k by unfold insA;rw[if_pos (Int.mul_emod_left _ _),Int.mul_ediv_cancel _ (by decide)]]
  exact h2 _ (List.mem_map.2 ⟨k,mem_hours.2 ⟨ha,hb⟩,rfl⟩)
theorem span_in (at_:Int→Int×Int) {lo hi x:Int} (h0:lo≤x) (h1:x≤hi):(spanA at_ lo hi).1≤(insA at_ x).1∧(insA at_ x).2≤(spanA at_ lo hi).2:=by
 obtain⟨h,e0,e1⟩:∃h,h*3600000≤x∧x<(h+1)*3600000:=⟨x/3600000,by omega⟩
 obtain⟨L,l0,l1,l2⟩:∃L,h*3600000≤L∧L≤x∧(L=lo∨L=hi∨∃k,L=k*3600000∧lo<L∧L<hi):=by
  by_cases c:h*3600000≤lo
  ·exact⟨lo,c,h0,.inl rfl⟩
  ·by_cases d:h*3600000=hi
   ·exact⟨hi,by omega,by omega,.inr (.inl rfl)⟩
   ·exact⟨h*3600000,Int.le_refl _,e0,.inr (.inr ⟨h,rfl,by omega,by omega⟩)⟩
 obtain⟨R,r0,r1,r2⟩:∃R,x≤R∧R≤(h+1)*3600000∧(R=lo∨R=hi∨∃k,R=k*3600000∧lo<R∧R<hi):=by
  by_cases c:hi≤(h+1)*3600000
  ·exact⟨hi,h1,c,.inr (.inl rfl)⟩
  ·exact⟨(h+1)*3600000,by omega,Int.le_refl _,.inr (.inr ⟨h+1,rfl,by omega,by omega⟩)⟩
 have a:=span_pt at_ l2
 have b:=span_pt at_ r2
 rw[ins_seg at_ l0 (by omega)] at a
 rw[ins_seg at_ (by omega) r1] at b
 rw[ins_seg at_ e0 (by omega)]
 have u:=lin_lo (a:=(at_ h).1) (b:=(at_ (h+1)).1) (show L-h*3600000≤x-h*3600000 by omega) (show x-h*3600000≤R-h*3600000 by omega)
 have v:=lin_hi (a:=(at_ h).2) (b:=(at_ (h+1)).2) (show L-h*3600000≤x-h*3600000 by omega) (show x-h*3600000≤R-h*3600000 by omega)
 unfold linA at a b ⊢
 dsimp only at a b ⊢
 omega
theorem span_sub (at_:Int→Int×Int) {lo hi l h:Int} (h0:lo≤l) (hh:l≤h) (h1:h≤hi):(spanA at_ lo hi).1≤(spanA at_ l h).1∧(spanA at_ l h).2≤(spanA at_ lo hi).2:=by
 have a:=span_in at_ (lo:=lo) (hi:=hi) (x:=l) h0 (by omega)
 have b:=span_in at_ (lo:=lo) (hi:=hi) (x:=h) (by omega) h1
 refine le_fold _ _ (by unfold hullA;dsimp only;omega) (by unfold hullA;dsimp only;omega) fun y hy=>?_
 obtain⟨k,hk,rfl⟩:=List.mem_map.1 hy
 have g:=mem_hours.1 hk
 have c:=span_in at_ (lo:=lo) (hi:=hi) (x:=k*3600000) (by omega) (by omega)
 rwa [show insA at_ (k*3600000)=at_ k by unfold insA;rw[if_pos (Int.mul_emod_left _ _),Int.mul_ediv_cancel _ (by decide)]] at c
theorem over_sub (at_:Int→Int×Int) {lo hi l h bend:Int} (hb:0≤bend) (h0:lo≤l) (hh:l≤h) (h1:h≤hi):(overA at_ lo hi bend).1≤(overA at_ l h bend).1∧(overA at_ l h bend).2≤(overA at_ lo hi bend).2:=by
 have a:=span_sub at_ h0 hh h1
 have m:margA l h bend≤margA lo hi bend:=by
  unfold margA
  split
  ·split<;>omega
  ·split
   ·rename_i c d
    exact absurd ⟨by omega,by omega⟩ c
   ·exact Int.le_refl _
 unfold overA
 dsimp only
 omega
end Go.Proofs.YtjmdeplmenbmmaaGreat.NO
set_option linter.unusedVariables false
namespace Go.Proofs.YtjmdeplmenbmmaaGreat.NO
def HasD (a:Int×Int) (x:Int):Prop:=∃k:Int,a.1≤x+21600000*k∧x+21600000*k≤a.2
def turnA (a:Int×Int):Int×Int:=if 21600000≤a.2-a.1 then (0,21600000) else (a.1%21600000,a.1%21600000+(a.2-a.1))
def signA (n:Int):Int:=if 10800000≤n%21600000 then n%21600000-21600000 else n%21600000
def joinL (a b:Int×Int):Int:=a.1+signA (b.1-a.1)
def joinA (a b:Int×Int):Int×Int:=turnA (hullA a (joinL a b,joinL a b+b.2-b.1))
theorem HasD.wide {a b:Int×Int} {x:Int} (h:HasD a x) (h1:b.1≤a.1) (h2:a.2≤b.2):HasD b x:=by
 obtain⟨k,k1,k2⟩:=h
 exact⟨k,by omega,by omega⟩
theorem has_full {a:Int×Int} {x:Int} (h:21600000≤a.2-a.1):HasD a x:=⟨-((x-a.1)/21600000),by omega,by omega⟩
theorem has_turn {a:Int×Int} {x:Int} : HasD (turnA a) x↔HasD a x:=by
 unfold turnA
 split
 ·rename_i h
  exact⟨fun _=>has_full h,fun _=>has_full (by dsimp only;omega)⟩
 ·constructor
  ·rintro⟨k,k1,k2⟩
   dsimp only at k1 k2
   exact⟨k+a.1/21600000,by omega,by omega⟩
  ·rintro⟨k,k1,k2⟩
   refine⟨k-a.1/21600000,?_,?_⟩<;>dsimp only<;>omega
theorem sign_eq (n:Int):∃k:Int,signA n=n+21600000*k:=by
 unfold signA
 split
 ·exact⟨-(n/21600000)-1,by omega⟩
 ·exact⟨-(n/21600000),by omega⟩
theorem has_join1 {a b:Int×Int} {x:Int} (h:HasD a x):HasD (joinA a b) x:=has_turn.2 (h.wide (by unfold hullA;dsimp only;omega) (by unfold hullA;dsimp only;omega))
theorem has_join2 {a b:Int×Int} {x:Int} (h:HasD b x):HasD (joinA a b) x:=by
 obtain⟨k,k1,k2⟩:=h
 obtain⟨j,hj⟩:=sign_eq (b.1-a.1)
 refine has_turn.2 ⟨k+j,?_,?_⟩<;>unfold hullA joinL<;>rw[hj]<;>dsimp only<;>omega
def ghaA (g:Int→Int→Int×Int) (bd:Int→Int) (lo hi:Int):Int×Int :=
 if lo/86400000=hi/86400000 then turnA (overA (g (lo/86400000)) (lo-lo/86400000*86400000) (hi-lo/86400000*86400000) (bd (lo/86400000)))
 else joinA (turnA (overA (g (lo/86400000)) (lo-lo/86400000*86400000) 86400000 (bd (lo/86400000)))) (turnA (overA (g (hi/86400000)) 0 (hi-hi/86400000*86400000) (bd (hi/86400000))))
theorem gha_one {g:Int→Int→Int×Int} {bd:Int→Int} {lo hi l h x:Int} (hb:∀n,0≤bd n) (h0:lo≤l) (hh:l≤h) (h1:h≤hi) (hw:hi-lo<86400000) (he:l/86400000=h/86400000) (hd:HasD (ghaA g bd l h) x):HasD (ghaA g bd lo hi) x:=by
 unfold ghaA at hd ⊢
 rw[if_pos he,has_turn] at hd
 split
 ·rename_i e
  have q:l/86400000=lo/86400000:=by omega
  rw[q] at hd
  have:=over_sub (g (lo/86400000)) (lo:=lo-lo/86400000*86400000) (hi:=hi-lo/86400000*86400000) (l:=l-lo/86400000*86400000) (h:=h-lo/86400000*86400000) (hb (lo/86400000)) (by omega) (by omega) (by omega)
  exact has_turn.2 (hd.wide this.1 this.2)
 ·rename_i e
  rcases(by omega:l/86400000=lo/86400000∨l/86400000=hi/86400000) with q|q
  ·rw[q] at hd
   have:=over_sub (g (lo/86400000)) (lo:=lo-lo/86400000*86400000) (hi:=86400000) (l:=l-lo/86400000*86400000) (h:=h-lo/86400000*86400000) (hb (lo/86400000)) (by omega) (by omega) (by omega)
   exact has_join1 (has_turn.2 (hd.wide this.1 this.2))
  ·rw[q] at hd
   have:=over_sub (g (hi/86400000)) (lo:=0) (hi:=hi-hi/86400000*86400000) (l:=l-hi/86400000*86400000) (h:=h-hi/86400000*86400000) (hb (hi/86400000)) (by omega) (by omega) (by omega)
   exact has_join2 (has_turn.2 (hd.wide this.1 this.2))
theorem gha_transit {g:Int→Int→Int×Int} {bd:Int→Int} {l0 h0 l1 h1 x:Int} (hb:∀n,0≤bd n) (e0:l0≤h0) (e1:l1≤h1) (hc:(l0=l1∧h0=h1)∨h0≤l1) (hw:h1-l0<86400000)
  (hd0:HasD (ghaA g bd l0 h0) x) (hd1:HasD (ghaA g bd l1 h1) x):HasD (ghaA g bd l0 h1) x:=by
 rcases hc with ⟨rfl,rfl⟩|hc
 ·exact hd0
 ·by_cases he:l0/86400000=h0/86400000
  ·exact gha_one hb (Int.le_refl _) e0 (by omega) hw he hd0
  ·exact gha_one hb (by omega) e1 (Int.le_refl _) hw (by omega) hd1
theorem agree0 {a:Int×Int} (h:(0-a.1)%21600000≤a.2-a.1∨(a.1-0)%21600000≤0-0) (ha:a.1≤a.2):HasD a 0:=by
 rcases h with h|h
 ·exact⟨(a.1+(0-a.1)%21600000)/21600000,by omega,by omega⟩
 ·exact⟨a.1/21600000,by omega,by omega⟩
theorem lha_has {a L:Int×Int} {lon x k:Int} (hL:L=(lon+21600000*k,lon+21600000*k)):HasD (turnA (a.1+L.1,a.2+L.2)) 0↔HasD a (-lon):=by
 subst hL
 rw[has_turn]
 constructor
 ·rintro⟨j,j1,j2⟩
  dsimp only at j1 j2
  exact⟨j-k,by omega,by omega⟩
 ·rintro⟨j,j1,j2⟩
  refine⟨j+k,?_,?_⟩<;>dsimp only<;>omega
theorem has_form {a:Int×Int} (h:HasD a 0) (h0:0≤a.1) (h1:a.2≤43200000):∃j:Int,(a.1≤21600000*j∧21600000*j≤a.2)∧0≤j∧j≤2:=by
 obtain⟨k,k1,k2⟩:=h
 exact⟨k,by omega,by omega,by omega⟩
end Go.Proofs.YtjmdeplmenbmmaaGreat.NO
set_option linter.unusedVariables false
namespace Go.Proofs.YtjmdeplmenbmmaaGreat.NO
def sidN (t:Int):Int:=21659138841977*t+58838400000000
def flS (t:Int):Int:=5998067+sidN t/86400000000000
def upS (t:Int):Int:=flS t+(if 0<sidN t%86400000000000 then 1 else 0)
def betA (lo hi:Int):Int×Int:=turnA (flS lo,upS hi)
theorem fl_mono {a b:Int} (h:a≤b):flS a≤flS b:=by unfold flS sidN;omega
theorem ceil_mono {p q:Int} (h:p≤q):p/86400000000000+(if 0<p%86400000000000 then 1 else 0)≤q/86400000000000+(if 0<q%86400000000000 then 1 else 0):=by split<;>split<;>omega
theorem sid_mono {a b:Int} (h:a≤b):sidN a≤sidN b:=by unfold sidN;omega
theorem up_mono {a b:Int} (h:a≤b):upS a≤upS b:=by
 have:=ceil_mono (sid_mono h)
 unfold upS flS
 generalize sidN a/86400000000000=x at *
 generalize sidN b/86400000000000=y at *
 omega
theorem fl_up (a:Int):flS a≤upS a:=by unfold upS;split<;>omega
theorem bet_sub {lo hi l h x:Int} (h0:lo≤l) (h1:h≤hi) (hd:HasD (betA l h) x):HasD (betA lo hi) x :=
 has_turn.2 ((has_turn.1 hd).wide (fl_mono h0) (up_mono h1))
theorem fl_step (f:Int→Int) (a x w:Int) (h0:f a≤x) (m:Nat):x<f (a+m*w)→∃k:Nat,k<m∧f (a+k*w)≤x∧x<f (a+(k+1)*w):=by
 induction m with
 |zero =>
  intro h
  rw[Int.natCast_zero,Int.zero_mul,Int.add_zero] at h
  omega
 |succ m ih =>
  intro h
  by_cases c:x<f (a+m*w)
  ·obtain⟨k,k1,k2⟩:=ih c
   exact⟨k,by omega,k2⟩
  ·rw[Int.natCast_add,Int.natCast_one] at h
   exact⟨m,by omega,by omega,h⟩
theorem fl_day (a:Int):flS a+21600000≤flS (a+24*3600000):=by unfold flS sidN;omega
theorem bet_day (a x:Int):∃k:Nat,k<24∧HasD (betA (a+k*3600000) (a+(k+1)*3600000)) x:=by
 have hx:∃j:Int,flS a≤x+21600000*j∧x+21600000*j<flS a+21600000:=⟨-((x-flS a)/21600000),by omega,by omega⟩
 obtain⟨j,j1,j2⟩:=hx
 obtain⟨k,k1,k2,k3⟩:=fl_step flS a (x+21600000*j) 3600000 j1 24 (Int.lt_of_lt_of_le j2 (fl_day a))
 have:=fl_up (a+(k+1)*3600000)
 exact⟨k,k1,has_turn.2 ⟨j,k2,by dsimp only;omega⟩⟩
end Go.Proofs.YtjmdeplmenbmmaaGreat.NO
set_option linter.unusedVariables false
namespace Go.Proofs.YtjmdeplmenbmmaaGreat.TT
theorem bnd_south:(bnd (-5400000)).2 = -1073741824:=by decide +kernel
theorem asin_upto {v:Int} (h : -1073741824≤v):∀k:Nat,k≤10800000→∃n:Int,-5400000≤n∧n≤-5400000+k∧(bnd n).2≤v∧∀m:Int,n<m→m≤-5400000+k→v<(bnd m).2
 |0,_=>⟨-5400000,by omega,by omega,by rw[bnd_south];exact h,fun m a b=>by omega⟩
 |k+1,hk=>by
  obtain⟨n,a,b,c,d⟩:=asin_upto h k (by omega)
  by_cases hc:(bnd (-5400000+(k+1:Nat))).2≤v
  ·exact⟨-5400000+(k+1:Nat),by omega,by omega,hc,fun m x y=>by omega⟩
  ·refine⟨n,a,by omega,c,fun m x y=>?_⟩
   by_cases hm:m≤-5400000+(k:Int)
   ·exact d m x hm
   ·rw[show m = -5400000+((k+1:Nat):Int) by omega];omega
theorem asin_ex {v:Int} (h : -1073741824≤v):∃n,IsAsin v n:=by
 obtain⟨n,a,b,c,d⟩:=asin_upto h 10800000 (by omega)
 exact⟨n,a,by omega,c,fun m x y=>d m x (by omega)⟩
theorem asin_iff {v n m:Int} (h:IsAsin v n) (h0 : -5400000≤m) (h1:m≤5400000):(bnd m).2≤v↔m≤n:=by
 obtain⟨a,b,c,d⟩:=h
 constructor
 ·intro g
  exact Int.not_lt.1 fun hlt=>by have:=d m hlt h1;omega
 ·intro g
  have:=(bnd_mono h0 g b).1
  omega
end Go.Proofs.YtjmdeplmenbmmaaGreat.TT
set_option linter.unusedVariables false
namespace Go.Proofs.YtjmdeplmenbmmaaGreat.TT
end Go.Proofs.YtjmdeplmenbmmaaGreat.TT
set_option linter.unusedVariables false
namespace Go.Proofs.YtjmdeplmenbmmaaGreat.RR
def covS (M:CellT→Bool) (m:Nat):Nat→CellT→List CellT→Bool×List CellT
 |d,c,o =>
  if M c=false then (true,o)
  else if c.lv=m then (decide ((push o c).length≤4064),push o c)
  else match d with
   |0=>(true,o)
   |d+1=>lookL (covS M m d) (kids c) o
theorem lookL_inv {σ:Type} {f:CellT→σ→Bool×σ} {I:σ→Prop} : ∀(l:List CellT) (s:σ),(∀x∈l,∀s,I s→(f x s).1=true→I (f x s).2)→I s→(lookL f l s).1=true→I (lookL f l s).2
 |[],s,_,h,_=>h
 |c::r,s,hf,h,ht=>by
  unfold lookL at ht ⊢
  split at ht
  ·rename_i h1
   rw[if_pos h1]
   exact lookL_inv r _ (fun x hx=>hf x (List.mem_cons_of_mem _ hx)) (hf c List.mem_cons_self s h h1) ht
  ·cases ht
def CvI (o:List CellT):Prop:=(∀x∈o,okC x)∧o.length≤4064
theorem covS_inv {M:CellT→Bool} {m:Nat} (hm:m≤16):∀(d:Nat) {c:CellT} {o:List CellT},okC c→c.lv+d=m→CvI o→(covS M m d c o).1=true→CvI (covS M m d c o).2
 |d,c,o,hc,hd,h=>by
  unfold covS
  split
  ·exact fun _=>h
  split
  ·exact fun ht=>⟨push_ok h.1 hc,of_decide_eq_true ht⟩
  ·cases d with
   |zero=>exact fun _=>h
   |succ d =>
    refine lookL_inv (I:=CvI) (kids c) o (fun x hx s hs=>?_) h
    refine covS_inv hm d (okC_kid hc (by omega) hx) ?_ hs
    simp only[kids,List.mem_cons,List.not_mem_nil,or_false] at hx
    rcases hx with rfl|rfl|rfl|rfl<;>(dsimp only;omega)
theorem covS_eq {M:CellT→Bool} {m:Nat} : ∀(d:Nat) (c:CellT) (o:List CellT),o.length+4^d≤4064→covS M m d c o=(true,covF M m d c o)
 |d,c,o,h=>by
  have hp:1≤4^d:=Nat.pow_pos (by decide)
  unfold covS covF
  split
  ·rfl
  split
  ·have:=push_len o c
   rw[decide_eq_true (by omega)]
  ·cases d with
   |zero=>rfl
   |succ d =>
    have go:∀(cs:List CellT) (o:List CellT),o.length+cs.length*4^d≤4064→lookL (covS M m d) cs o=(true,cs.foldl (fun o x=>covF M m d x o) o):=fun cs=>by
     induction cs with
     |nil=>exact fun o _=>rfl
     |cons y r ih =>
      intro o ho
      have e:(y::r).length*4^d=r.length*4^d+4^d:=by rw[List.length_cons,Nat.succ_mul]
      have h1:=covS_eq (M:=M) (m:=m) d y o (by omega)
      have h2:=covF_len (M:=M) (m:=m) d y o
      unfold lookL
      rw[h1,if_pos rfl]
      exact ih _ (by dsimp only;omega)
    refine go (kids c) o ?_
    have e:4^(d+1)=4*4^d:=by rw[Nat.pow_succ,Nat.mul_comm]
    show o.length+4*4^d≤4064
    omega
end Go.Proofs.YtjmdeplmenbmmaaGreat.RR
