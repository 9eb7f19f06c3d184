/- Joined texts: See, Prd, Prw, Pln, Leg, Lgs, Dln, Hlp, Tcp, Tcm, Cis, Ci2. -/
import Derived.Test.YtjmdeplmenbmmaaGreatDoorW13
import Derived.Test.YtjmdeplmenbmmaaGreatDoorV07
import Derived.Test.YtjmdeplmenbmmaaGreatDoorW10
import Derived.Test.YtjmdeplmenbmmaaGreatDoorW03
set_option linter.unusedVariables false
set_option maxHeartbeats 8000000
namespace Go.Proofs.YtjmdeplmenbmmaaGreatDoor
open Go.RowKit
def fitsB (n:Int):Bool:=decide (-1099511627776≤n)&&decide (n≤1099511627776)
def avalB (lo hi:Int):Bool:=decide (lo≤hi)&&fitsB lo&&fitsB hi
theorem afits_c {n:Int} : Cont Tryz.prog 91 [.int .i64 n] (.bool (fitsB n)):=fun w=>by
 refine enter0 Tryz.func91 rfl rfl rfl ?_
 repeat' (first|(refine nxV ?_)|(refine nSS ?_)|(refine nxG ?_)|(refine nxX ?_)|done)
 exact X.ret1
theorem aval_c {lo hi:Int} : Cont Tryz.prog 39 [arcV lo hi] (.bool (avalB lo hi)):=fun w=>by
 have q1:=afits_c (n:=lo)
 have q2:=afits_c (n:=hi)
 refine enter0 Tryz.func39 rfl rfl rfl ?_
 repeat' (first|(refine nxV ?_)|(refine nSS ?_)|(refine nS1 fun _=>?_)|(show YG _ _ _ _ _ _ _ _;refine YG.mk (fun hb=>by(try(have hc:=And.left hb;have hb:=And.right hb;rw[hc]));(try rw[hb]);first|exact(zcA (q1) ⟨rfl,rfl⟩)|exact(zcA (q2) ⟨rfl,rfl⟩)|exact V.y vAuto) ?_)|(refine nxX ?_)|done)
 exact X.ret1
def svalB (x:SeenT):Bool:=avalB x.h1 x.h2&&decide (x.h1≥-5400000)&&decide (x.h2≤5400000)&&avalB x.z1 x.z2
theorem sval_c (x:SeenT):Cont Tryz.prog 116 [snV x] (.bool (svalB x)):=fun w=>by
 have q1:=aval_c (lo:=x.h1) (hi:=x.h2)
 have q2:=aval_c (lo:=x.z1) (hi:=x.z2)
 refine enter0 Tryz.func116 rfl rfl rfl ?_
 repeat' (first|(show YK _ _ _ _ _ ⟨_,.load 34 _,_,_,_,_⟩ _;refine YK.ofV (zlP (k:=2) (by rfl) (by exact memA) (by decide +kernel) (by rfl)) ?_)|(show YG _ _ _ _ _ _ ⟨_,.load 34 _,_,_,_,_⟩ _;refine YG.mk (fun hb=>by(try(have hc:=And.left hb;have hb:=And.right hb;rw[hc]));(try rw[hb]);exact V.y (zlP (k:=2) (by rfl) (by exact memA) (by decide +kernel) (by rfl))) ?_)|(show YK _ _ _ _ _ _ _;refine YK.mk (zcA (q1) ⟨rfl,rfl⟩) ?_)|(refine nxV ?_)|(refine nSS ?_)|(refine nS1 fun _=>?_)|(show YG _ _ _ _ _ _ _ _;refine YG.mk (fun hb=>by(try(have hc:=And.left hb;have hb:=And.right hb;rw[hc]));(try rw[hb]);first|exact(zcA (q2) ⟨rfl,rfl⟩)|exact V.y vAuto) ?_)|(refine nxX ?_)|done)
 all_goals exact X.ret (vs:=[_]) rfl ⟨rfl,rfl⟩ rfl (fun w hw=>⟨ret_bool (by unfold svalB;generalize avalB x.h1 x.h2=a;generalize avalB x.z1 x.z2=b;cases a<;>cases b<;>simp),hw.ext⟩)
theorem rig1_c (x:SeenT):Cont Tryz.prog 115 [snV x] (.bool (!svalB x)):=fun w=>by
 have q1:=sval_c x
 refine enter0 Tryz.func115 rfl rfl rfl ?_
 repeat' (first|(show YK _ _ _ _ _ _ _;refine YK.mk (zcA (q1) ⟨rfl,rfl⟩) ?_)|(refine nxV ?_)|(refine nSS ?_)|(refine nS1 fun _=>?_)|(refine nxX ?_)|done)
 all_goals exact X.ret1
theorem long1_c (x:SeenT):Cont Tryz.prog 16 [snV x] (.bool (decide ((x.body.length:Int)>100))):=fun w=>by
 refine enter0 Tryz.func16 rfl rfl rfl ?_
 repeat' (first|(show YK _ _ _ _ _ ⟨_,.call { callee:=.builtin .len,args:=_,argTypes:=#[9] },_,_,_,_⟩ _;refine YK.ofV (y_lenS (by rfl) StrTy.is) ?_)|(refine nxV ?_)|(refine nSS ?_)|(refine nS1 fun _=>?_)|(refine nxX ?_)|done)
 all_goals exact X.ret1
theorem holds_true:Holds2 (fun _=>True):=fun _ _ _ _=>trivial
abbrev RoS (v:Value) (l:List SeenT) (w:World):Prop:=RO w v 5 l.length (l.flatMap cSn)
theorem right_c {v:Value} {l:List SeenT} (hl:l.length≤1000) {la lo:Int} : ContR Tryz.prog [Hl.rd v cSn 5 l] 50 [v,ptV la lo] (.bool (pointB la lo&&!l.any fun x=>!svalB x)):=fun w hw0=>by
 have q1:=vpoint_c la lo
 have q2:=coSn_c (C:=fun _=>True) holds_true (fid:=115) (cap:=#[]) (p:=fun x=>!svalB x) (by decide +kernel) v l (by omega) (fun x _ w _=>rig1_c x w)
 generalize (l.any fun x=>!svalB x)=b at *
 refine enter Tryz.func50 rfl rfl rfl hw0 ?_
 cases hp:pointB la lo with
 |true =>
  rw[hp] at q1
  repeat' (first|(show YK _ _ _ _ _ ⟨_,.call { callee:=.value (.func 15),args:=_,argTypes:=_ },_,_,_,_⟩ _;refine YK.mk (zcI (q2) (fun w' hw'=>⟨trivial,ro_rd hw' (by exact rdA)⟩) ⟨rfl,rfl,rfl⟩ (by decide +kernel)) ?_)|(show YK _ _ _ _ _ _ _;refine YK.mk (zcA (q1) ⟨rfl,rfl⟩) ?_)|(refine nxV ?_)|(refine nSS ?_)|(refine nS1 fun _=>?_)|(refine nxX ?_)|done)
  all_goals exact X.ret (vs:=[_]) rfl ⟨rfl,rfl⟩ rfl (fun w hw=>⟨ret_bool (by cases b<;>simp),hw.ext⟩)
 |false =>
  rw[hp] at q1
  repeat' (first|(show YK _ _ _ _ _ _ _;refine YK.mk (zcA (q1) ⟨rfl,rfl⟩) ?_)|(refine nxV ?_)|(refine nSS ?_)|(refine nS1 fun _=>?_)|(refine nxX ?_)|done)
  all_goals exact X.ret (vs:=[_]) rfl ⟨rfl,rfl⟩ rfl (fun w hw=>⟨ret_bool (by cases b<;>simp),hw.ext⟩)
theorem longs_c {v:Value} {l:List SeenT} (hl:l.length≤1000):ContIn Tryz.prog (fun w=>True∧RoS v l w) 15 [v,.func (.func 16) #[] #[]] (.bool (l.any fun x=>decide ((x.body.length:Int)>100))) :=
 coSn_c (C:=fun _=>True) holds_true (fid:=16) (cap:=#[]) (by decide +kernel) v l (by omega) (fun x _ w _=>long1_c x w)
end Go.Proofs.YtjmdeplmenbmmaaGreatDoor
namespace Go.Proofs.YtjmdeplmenbmmaaGreatDoor.TT
def Nr (p:Int×Int) (X e:Rat):Prop:=X-e≤(p.1:Rat)∧(p.2:Rat)≤X+e
theorem bnd_nr {n:Int} (h0 : -108000000≤n) (h1:n≤108000000):Nr (bnd n) (oR*S n) 2:=by
 obtain⟨a,b⟩:=bnd_holds h0 h1
 have g:=bnd_gap n
 have d:d100≤1:=by decide +kernel
 have gR:((bnd n).2:Rat)≤((bnd n).1:Rat)+1:=by
  have:=Rat.intCast_le_intCast.2 g
  rwa [Rat.intCast_add] at this
 constructor<;>grind
theorem encl_nr {n:Int} (h0 : -5400000<n) (h1:n<5400000):Nr (encl n n) (oR*S n) 2:=by
 have hb:=bnd_nr (n:=n) (by omega) (by omega)
 have e:encl n n=bnd n:=by
  unfold encl meetsI turnI
  rw[if_neg (by rw[decide_eq_true_eq];omega),if_neg (by rw[decide_eq_true_eq];omega),Int.min_self,Int.max_self]
 rw[e];exact hb
theorem cosE_nr {n:Int} (h0 : -5400000<n) (h1:n<5400000):Nr (cosE n n) (oR*C n) 3:=by
 have hb:=bnd_nr (n:=n+5400000) (by omega) (by omega)
 have hc:=S_co (-n)
 rw[C_neg,show 5400000 - -n=n+5400000 by omega] at hc
 have hd:oR*d148≤1:=by decide +kernel
 have og:=oR_pos
 obtain⟨c1,c2⟩:=hc
 have u1:=Rat.mul_le_mul_of_nonneg_left c1 (Rat.le_of_lt og)
 have u2:=Rat.mul_le_mul_of_nonneg_left c2 (Rat.le_of_lt og)
 obtain⟨b1,b2⟩:=hb
 have e1:(cosE n n).1=(bnd (n+5400000)).1:=by
  unfold cosE encl meetsI turnI
  dsimp only
  rw[if_neg (by rw[decide_eq_true_eq];omega),Int.min_self]
 by_cases hn:n=0
 ·subst hn
  have e2:(cosE 0 0).2=1073741824:=by
   unfold cosE encl
   dsimp only
   rw[if_pos (by unfold meetsI turnI;rw[decide_eq_true_eq];omega)]
  rw[C_0] at *
  unfold Nr
  rw[e1,e2]
  have e3:((1073741824:Int):Rat)=oR:=rfl
  rw[e3]
  clear e1 e2 e3
  generalize S (0+5400000)=s at *
  generalize ((bnd (0+5400000)).1:Rat)=u at *
  generalize ((bnd (0+5400000)).2:Rat)=v at *
  generalize oR=o at *
  clear h0 h1
  constructor<;>grind
 ·have e2:(cosE n n).2=(bnd (n+5400000)).2:=by
   unfold cosE encl meetsI turnI
   dsimp only
   rw[if_neg (by rw[decide_eq_true_eq];omega),Int.max_self]
  unfold Nr
  rw[e1,e2]
  clear e1 e2
  generalize S (n+5400000)=s at *
  generalize ((bnd (n+5400000)).1:Rat)=u at *
  generalize ((bnd (n+5400000)).2:Rat)=v at *
  generalize oR=o at *
  constructor<;>grind
theorem prod_nr {p q x y o:Rat} (ho:0≤o) (hp : -o≤p∧p≤o) (hy : -1≤y∧y≤1) (h1:o*x-3≤p∧p≤o*x+3) (h2:o*y-3≤q∧q≤o*y+3):o*(o*(x*y))-6*o≤p*q∧p*q≤o*(o*(x*y))+6*o:=by
 have e:p*q-o*(o*(x*y))=p*(q-o*y)+o*(y*(p-o*x)):=by grind
 have b1 : -(3*o)≤p*(q-o*y)∧p*(q-o*y)≤3*o:=by
  constructor
  ·have m1:=Rat.mul_nonneg (show 0≤o-p by grind) (show 0≤3-(q-o*y) by grind)
   have m2:=Rat.mul_nonneg (show 0≤o+p by grind) (show 0≤3+(q-o*y) by grind)
   grind
  ·have m1:=Rat.mul_nonneg (show 0≤o-p by grind) (show 0≤3+(q-o*y) by grind)
   have m2:=Rat.mul_nonneg (show 0≤o+p by grind) (show 0≤3-(q-o*y) by grind)
   grind
 have b2 : -3≤y*(p-o*x)∧y*(p-o*x)≤3:=by
  constructor
  ·have m1:=Rat.mul_nonneg (show 0≤1-y by grind) (show 0≤3-(p-o*x) by grind)
   have m2:=Rat.mul_nonneg (show 0≤1+y by grind) (show 0≤3+(p-o*x) by grind)
   grind
  ·have m1:=Rat.mul_nonneg (show 0≤1-y by grind) (show 0≤3+(p-o*x) by grind)
   have m2:=Rat.mul_nonneg (show 0≤1+y by grind) (show 0≤3-(p-o*x) by grind)
   grind
 have b3:=Rat.mul_le_mul_of_nonneg_left b2.1 ho
 have b4:=Rat.mul_le_mul_of_nonneg_left b2.2 ho
 constructor<;>grind
theorem mulE_nr {p q:Int×Int} {x y:Rat} (hp : -1073741824≤p.1∧p.1≤p.2∧p.2≤1073741824) (hq:q.1≤q.2) (hx:Nr p (oR*x) 3) (hy:Nr q (oR*y) 3) (hy1 : -1≤y∧y≤1):Nr (mulE p q) (oR*(x*y)) 7:=by
 have og:=Rat.le_of_lt oR_pos
 have e3:((1073741824:Int):Rat)=oR:=rfl
 have cst:=fun a b:Int=>(Rat.intCast_mul a b).symm
 have pO:∀t:Int,p.1≤t→t≤p.2→(-oR≤(t:Rat)∧(t:Rat)≤oR)∧oR*x-3≤(t:Rat)∧(t:Rat)≤oR*x+3:=fun t h1 h2=>by
  have a1:=Rat.intCast_le_intCast.2 h1
  have a2:=Rat.intCast_le_intCast.2 h2
  have a3:=Rat.intCast_le_intCast.2 (show -1073741824≤t by omega)
  have a4:=Rat.intCast_le_intCast.2 (show t≤1073741824 by omega)
  rw[Rat.intCast_neg] at a3
  rw[e3] at a3 a4
  obtain⟨n1,n2⟩:=hx
  exact⟨⟨a3,a4⟩,by grind,by grind⟩
 have qO:∀t:Int,q.1≤t→t≤q.2→oR*y-3≤(t:Rat)∧(t:Rat)≤oR*y+3:=fun t h1 h2=>by
  have a1:=Rat.intCast_le_intCast.2 h1
  have a2:=Rat.intCast_le_intCast.2 h2
  obtain⟨n1,n2⟩:=hy
  exact⟨by grind,by grind⟩
 have P11:=prod_nr og (pO p.1 (Int.le_refl _) hp.2.1).1 hy1 (pO p.1 (Int.le_refl _) hp.2.1).2 (qO q.1 (Int.le_refl _) hq)
 have P12:=prod_nr og (pO p.1 (Int.le_refl _) hp.2.1).1 hy1 (pO p.1 (Int.le_refl _) hp.2.1).2 (qO q.2 hq (Int.le_refl _))
 have P21:=prod_nr og (pO p.2 hp.2.1 (Int.le_refl _)).1 hy1 (pO p.2 hp.2.1 (Int.le_refl _)).2 (qO q.1 (Int.le_refl _) hq)
 have P22:=prod_nr og (pO p.2 hp.2.1 (Int.le_refl _)).1 hy1 (pO p.2 hp.2.1 (Int.le_refl _)).2 (qO q.2 hq (Int.le_refl _))
 rw[cst] at P11 P12 P21 P22
 have key:∀t:Int,t=p.1*q.1∨t=p.1*q.2∨t=p.2*q.1∨t=p.2*q.2→oR*(oR*(x*y))-6*oR≤(t:Rat)∧(t:Rat)≤oR*(oR*(x*y))+6*oR:=fun t ht=>by
  rcases ht with rfl|rfl|rfl|rfl
  ·exact P11
  ·exact P12
  ·exact P21
  ·exact P22
 have kmin:=key (min (min (p.1*q.1) (p.1*q.2)) (min (p.2*q.1) (p.2*q.2))) (by omega)
 have kmax:=key (max (max (p.1*q.1) (p.1*q.2)) (max (p.2*q.1) (p.2*q.2))) (by omega)
 unfold mulE Nr
 dsimp only
 generalize min (min (p.1*q.1) (p.1*q.2)) (min (p.2*q.1) (p.2*q.2))=a at *
 generalize max (max (p.1*q.1) (p.1*q.2)) (max (p.2*q.1) (p.2*q.2))=b at *
 have f1:a<(a/1073741824+1)*1073741824:=by omega
 have f2:(-(-b/1073741824)-1)*1073741824<b:=by omega
 have g1:=Rat.intCast_lt_intCast.2 f1
 have g2:=Rat.intCast_lt_intCast.2 f2
 rw[Rat.intCast_mul,Rat.intCast_add,e3] at g1
 rw[Rat.intCast_mul,Rat.intCast_sub,e3] at g2
 generalize ((a/1073741824:Int):Rat)=u at *
 generalize ((-(-b/1073741824):Int):Rat)=v at *
 have o1:((1:Int):Rat)=1:=rfl
 rw[o1] at g1 g2
 generalize x*y=z at *
 have op:=oR_pos
 constructor
 ·have:oR*(oR*z-6)<oR*(u+1):=by grind
  have:=(Rat.mul_lt_mul_left op).1 this
  grind
 ·have:oR*(v-1)<oR*(oR*z+6):=by grind
  have:=(Rat.mul_lt_mul_left op).1 this
  grind
theorem quot_in {lat lim:Int} (h1:1≤lim∧lim<5400000) (h2 : -lim<lat∧lat<lim) :
  (mulE (encl lat lat) (cosE lim lim)).2≤(mulE (encl lim lim) (cosE lat lat)).1∧-(mulE (encl lat lat) (cosE lim lim)).1≤(mulE (encl lim lim) (cosE lat lat)).1∧1≤(mulE (encl lim lim) (cosE lat lat)).1:=by
 have o1:=encl_ord (Int.le_refl lat)
 have o2:=encl_ord (Int.le_refl lim)
 have o3:=cosE_ord (Int.le_refl lat)
 have o4:=cosE_ord (Int.le_refl lim)
 have w3:∀{p:Int×Int} {X:Rat},Nr p X 2→Nr p X 3:=fun h=>⟨by have:=h.1;grind,by have:=h.2;grind⟩
 have n1:=mulE_nr o1 o4.2.1 (w3 (encl_nr (n:=lat) (by omega) (by omega))) (cosE_nr (n:=lim) (by omega) (by omega)) (C_abs lim)
 have n2:=mulE_nr o2 o3.2.1 (w3 (encl_nr (n:=lim) (by omega) (by omega))) (cosE_nr (n:=lat) (by omega) (by omega)) (C_abs lat)
 have s1:=S_pos (x:=lim-lat) (by omega) (by omega)
 have s2:=S_pos (x:=lim+lat) (by omega) (by omega)
 rw[(add_i lim lat).2] at s2
 rw[show lim-lat=lim + -lat by omega,(add_i lim (-lat)).2,C_neg,S_neg] at s1
 obtain⟨a1,a2⟩:=n1
 obtain⟨b1,b2⟩:=n2
 have m:=mulE_bd o1 o4
 have hm:oR*m30=310:=by decide +kernel
 have og:=Rat.le_of_lt oR_pos
 have t1:=Rat.mul_le_mul_of_nonneg_left s1 og
 have t2:=Rat.mul_le_mul_of_nonneg_left s2 og
 rw[hm] at t1 t2
 generalize mulE (encl lat lat) (cosE lim lim)=A at *
 generalize mulE (encl lim lim) (cosE lat lat)=B at *
 have r1:((A.2:Int):Rat)≤(B.1:Rat):=by grind
 have r2:((-A.1:Int):Rat)≤(B.1:Rat):=by rw[Rat.intCast_neg];grind
 have r3:((1:Int):Rat)≤(B.1:Rat):=by
  have:((1:Int):Rat)=1:=rfl
  grind
 exact⟨Rat.intCast_le_intCast.1 r1,Rat.intCast_le_intCast.1 r2,Rat.intCast_le_intCast.1 r3⟩
theorem asin_ord {a b n m:Int} (h1:IsAsin a n) (h2:IsAsin (-b) m) (hab:a≤b):n≤-m:=by
 obtain⟨n0,n1,n2,_⟩:=h1
 obtain⟨m0,m1,m2,_⟩:=h2
 refine Int.not_lt.1 fun hlt=>?_
 have hs:=bnd_holds (n:=n) (by omega) (by omega)
 have hm:=bnd_holds (n:=m) (by omega) (by omega)
 have c1:=S_co (5400000-n)
 rw[show 5400000-(5400000-n)=n by omega] at c1
 have c2:=S_co (5400000 - -m)
 rw[show 5400000-(5400000 - -m) = -m by omega,S_neg] at c2
 have cl:=C_lt (m:=5400000-n) (n:=5400000 - -m) (by omega) (by omega) (by omega)
 have f:2*d100<oR*(g45-2*d148):=by decide +kernel
 have i1:=Rat.intCast_le_intCast.2 (show (bnd n).2+(bnd m).2≤0 by omega)
 rw[Rat.intCast_add] at i1
 have e0:((0:Int):Rat)=0:=rfl
 obtain⟨c3,c4⟩:=c1
 obtain⟨c5,c6⟩:=c2
 have g:g45-2*d148≤S n+S m:=by grind
 have g2:=Rat.mul_le_mul_of_nonneg_left g (Rat.le_of_lt oR_pos)
 have h3:=hs.2
 have h4:=hm.2
 grind
end Go.Proofs.YtjmdeplmenbmmaaGreatDoor.TT
set_option linter.unusedVariables false
set_option maxHeartbeats 16000000
namespace Go.Proofs.YtjmdeplmenbmmaaGreatDoor
open Go.RowKit
theorem prod_c {a b:Int} (ha:lat8I a) (hb:lat8I b):Cont Tryz.prog 84 [.int .i64 a,.int .i64 b] (.tuple [arcV (TT.mulE (TT.encl a a) (TT.cosE b b)).1 (TT.mulE (TT.encl a a) (TT.cosE b b)).2,.int .i64 0].toArray):=fun w=>by
 have q1:=Sin_c (lo:=a) (hi:=a) (valI (by omega))
 have q2:=Cos_c (lo:=b) (hi:=b) (valI (by omega))
 have q3:=fmul_c (TT.encl_ord (Int.le_refl a)) (TT.cosE_ord (Int.le_refl b))
 generalize TT.mulE (TT.encl a a) (TT.cosE b b)=m at *
 generalize TT.encl a a=s at *
 generalize TT.cosE b b=c at *
 have q4:=cone_c (n:=a)
 have q5:=cone_c (n:=b)
 refine enter0 Tryz.func84 rfl rfl rfl ?_
 repeat' (first|(show YK _ _ _ _ _ _ _;first|refine YK.mk (zcA (q4) ⟨rfl,rfl⟩) ?_|refine YK.mk (zcA (q5) ⟨rfl,rfl⟩) ?_|refine YK.mk (zcA (q1) ⟨rfl,rfl⟩) ?_|refine YK.mk (zcA (q2) ⟨rfl,rfl⟩) ?_|refine YK.mk (zcA (q3) ⟨rfl,rfl,rfl⟩) ?_)|(refine nxV ?_)|(refine nSS ?_)|(refine nS1 fun _=>?_)|(refine nxX ?_)|(refine G.cN rfl (fun hc=>?_) (fun hc=>?_)<;>(try first|exact hc.elim|(exfalso;omega))))
 all_goals exact X.ret (vs:=[_,_]) rfl ⟨⟨_,_,_,_,rfl,(by exact memA),lenA,by decide +kernel,rfl⟩,rfl,rfl⟩ rfl rE
theorem div_le {x y:Int} (hy:0<y) (h:x≤y) : -(-(x*1073741824)/y)≤1073741824:=by
 have : -1073741824≤-(x*1073741824)/y:=(Int.le_ediv_iff_mul_le hy).2 (by omega)
 omega
theorem div_ge {x y:Int} (hy:0<y) (h : -y≤x) : -1073741824≤x*1073741824/y:=(Int.le_ediv_iff_mul_le hy).2 (by omega)
theorem div_cl (n:Int) {y:Int} (hy:0<y):n/y≤-(-n/y):=by rw[rnd_up hy];split<;>omega
theorem divE_in {A B:Int×Int} (hA:A.1≤A.2) (hB:B.1≤B.2) (h0:1≤B.1) (h1:A.2≤B.1) (h2 : -A.1≤B.1) : -1073741824≤(divE A B).1∧(divE A B).1≤(divE A B).2∧(divE A B).2≤1073741824:=by
 have g1:=div_ge (x:=A.1) (y:=B.1) (by omega) (by omega)
 have g2:=div_ge (x:=A.1) (y:=B.2) (by omega) (by omega)
 have g3:=div_ge (x:=A.2) (y:=B.1) (by omega) (by omega)
 have g4:=div_ge (x:=A.2) (y:=B.2) (by omega) (by omega)
 have l1:=div_le (x:=A.1) (y:=B.1) (by omega) (by omega)
 have l2:=div_le (x:=A.1) (y:=B.2) (by omega) (by omega)
 have l3:=div_le (x:=A.2) (y:=B.1) (by omega) (by omega)
 have l4:=div_le (x:=A.2) (y:=B.2) (by omega) (by omega)
 have c:=div_cl (A.1*1073741824) (y:=B.1) (by omega)
 unfold divE divQ divC
 dsimp only
 omega
theorem cos_low {x:Int} (h : -5400000<x∧x<5400000):1≤(TT.cosE x x).1:=by
 have hn:=(TT.cosE_nr h.1 h.2).1
 have hp:TT.m30-TT.d148≤TT.C x:=by
  rcases Int.le_total 0 x with h0|h0
  ·have h1:=TT.S_pos (x:=5400000-x) (by omega) (by omega)
   have h2:=(TT.S_co x).1
   grind
  ·have h1:=TT.S_pos (x:=5400000 - -x) (by omega) (by omega)
   have h2:=(TT.S_co (-x)).1
   rw[TT.C_neg] at h2
   grind
 have h3:=Rat.mul_le_mul_of_nonneg_left hp (Rat.le_of_lt TT.oR_pos)
 have h4:4≤TT.oR*(TT.m30-TT.d148):=by decide +kernel
 have h5:((1:Int):Rat)≤((TT.cosE x x).1:Rat):=by
  have:((1:Int):Rat)=1:=rfl
  grind
 exact Rat.intCast_le_intCast.1 h5
abbrev LegT:=(Int×Int)×(Int×Int)
def cLg (x:LegT):List Value:=[.int .i64 x.1.1,.int .i64 x.1.2,.int .i64 x.2.1,.int .i64 x.2.2]
theorem RS.lit1L {P:Program} {n:Nat} {L:FL} {w0:World} {H:List Hl} {Q:Exit→Act→World→Prop} {ops:Array Oper} {rest:List Oper} {dd:Nat} {ty:TypeId} {pos:String} {af:Array Edge} {t e:TypeId} {bytes:Nat} {x0:Operand} {a:LegT} (h:∀v':Sl,RS P ops Q n ((dd,v'.v)::L) w0 (Hl.rw v'.v e cLg 4 [a]::H) rest) (hx0:evO L x0=some (v4 a.1.1 a.1.2 a.2.1 a.2.2)) [ht:RowTy P t e 4 bytes] (hd:Nat.blt dd n=true:=by rfl) :
  RS P ops Q n L w0 H (⟨some dd,.buildSlice t 1 #[(0,x0)],ty,pos,af,none⟩::rest):=RS.actX rfl (x_litS (parts:=[(0,x0)]) (vs:=[v4 a.1.1 a.1.2 a.2.1 a.2.2]) (cs:=cLg a) (f:=cLg) (l:=[a]) ⟨hx0,rfl⟩ rfl rfl rfl rfl (fun zs hz=>by
   match zs,hz with
   |[_,_,_,_],_=>rfl) rfl rfl rfl (rowTy_B ht.is) hd) fun v' _=>h v'
section
variable {P:Program} {n:Nat} {L:FL} {w0:World} {H:List Hl} {d:Option Tmp} {ty:TypeId} {pos:String} {af:Array Edge} {g:Option (Nat×Bool)} {t:TypeId} {x:Operand}
theorem y_loadXP {b i k:Nat} {cs:List Value} (hx:evO L x=some (.pointer (some ⟨b,i,none⟩))) (hc:∀k v,cs[k]?=some v→w0.cell? ⟨b,k,none⟩=some v) (hs:rowB P t k=true) (hk:Nat.ble (i+k) cs.length=true) :
  V P n L w0 H ⟨d,.load t x,ty,pos,af,g⟩ (.agg ((cs.drop i).take k).toArray):=by
 unfold V
 intro a w ha hw
 have hk':i+k≤cs.length:=Nat.le_of_ble_eq_true hk
 have hlen:((cs.drop i).take k).length=k:=by simp;omega
 have hl:=run_loadCells_list (P:=P) w ⟨b,i,none⟩ ((cs.drop i).take k) (fun j u hu=>by
  have hj:j<k:=by
   have:=(List.getElem?_eq_some_iff.1 hu).1
   omega
  have e:(⟨b,i,none⟩:Addr).add j=⟨b,i+j,none⟩:=by unfold Addr.add;split<;>simp_all
  rw[e]
  have h0:=hc (i+j) u (by rw[←hu,List.getElem?_take_of_lt hj,List.getElem?_drop])
  exact(hw.ext.cell (World.block_lt_of_cell? w0 _ h0)).trans h0)
 rw[hlen] at hl
 simp[execOp,ha.eval hx,Instr.loadAt,Instr.sureAddr,loadVar,run_isAgg_true hs,run_sizeOf_of (info_of_rowB hs),hl]
end
theorem obsp_c {n:Int} : Cont Tryz.prog 11 [.int .i64 n] (arcV n n):=fun w=>by
 refine enter0 Tryz.func11 rfl rfl rfl ?_
 repeat' (first|(refine nxV ?_)|(refine nSS ?_)|(refine nS1 fun _=>?_)|(refine nxX ?_)|done)
 all_goals exact X.ret (vs:=[_]) rfl ⟨⟨_,_,_,_,rfl,(by exact memA),lenA,by decide +kernel,rfl⟩,rfl⟩ rfl rE
theorem rwrap_c {n:Int} (h : -4611686018427387904≤n∧n≤4611686018427387904):Cont Tryz.prog 99 [.int .i64 n] (.int .i64 (TT.turnI n)):=fun w=>by
 have ht:=tmod_turn n
 have hb : -21600000<n.tmod 21600000∧n.tmod 21600000<21600000:=by omega
 refine enter0 Tryz.func99 rfl rfl rfl ?_
 repeat' (first|(refine nxV ?_)|(refine nSS ?_)|(refine nxX ?_)|(refine G.cN rfl (fun hc=>?_) (fun hc=>?_)<;>(try first|exact hc.elim|(exfalso;omega))))
 all_goals refine X.ret (vs:=[_]) rfl ⟨rfl,rfl⟩ rfl (fun w hw=>⟨congrArg Ending.returned (congrArg (Value.int .i64) ?_),hw.ext⟩)
 all_goals (unfold TT.turnI;omega)
theorem rsigned_c {n:Int} (h : -4611686018427387904≤n∧n≤4611686018427387904):Cont Tryz.prog 45 [.int .i64 n] (.int .i64 (signI n)):=fun w=>by
 have q1:=rwrap_c h
 have hb:=TT.turnI_bd n
 unfold signI
 generalize TT.turnI n=m at *
 by_cases hc:m≥10800000
 ·rw[if_pos hc]
  refine enter0 Tryz.func45 rfl rfl rfl ?_
  repeat' (first|(show YK _ _ _ _ _ _ _;refine YK.mk (zcA (q1) ⟨rfl,rfl⟩) ?_)|(refine nxV ?_)|(refine nSS ?_)|(refine nxX ?_)|(refine G.cN rfl (fun hc=>?_) (fun hc=>?_)<;>(try first|exact hc.elim|(exfalso;omega))))
  exact X.ret1
 ·rw[if_neg hc]
  refine enter0 Tryz.func45 rfl rfl rfl ?_
  repeat' (first|(show YK _ _ _ _ _ _ _;refine YK.mk (zcA (q1) ⟨rfl,rfl⟩) ?_)|(refine nxV ?_)|(refine nSS ?_)|(refine nxX ?_)|(refine G.cN rfl (fun hc=>?_) (fun hc=>?_)<;>(try first|exact hc.elim|(exfalso;omega))))
  exact X.ret1
theorem rall_c:Cont Tryz.prog 44 [] (arcV (-10800000) 10800000):=fun w=>by
 refine enter0 Tryz.func44 rfl rfl rfl ?_
 repeat' (first|(refine nxV ?_)|(refine nSS ?_)|(refine nS1 fun _=>?_)|(refine nxX ?_)|done)
 all_goals exact X.ret (vs:=[_]) rfl ⟨⟨_,_,_,_,rfl,(by exact memA),lenA,by decide +kernel,rfl⟩,rfl⟩ rfl rE
theorem rpoint_c (la lo:Int):Cont Tryz.prog 17 [ptV la lo] (.bool (pointB la lo)):=fun w=>by
 refine enter0 Tryz.func17 rfl rfl rfl ?_
 repeat' (first|(refine nxV ?_)|(refine nSS ?_)|(refine nS1 fun _=>?_)|(refine nxG ?_)|(refine nxX ?_)|done)
 exact X.ret (vs:=[_]) rfl ⟨rfl,rfl⟩ rfl (fun w hw=>⟨ret_bool rfl,hw.ext⟩)
structure ChnW (b:Nat) (w:World):Prop where
 blk:w.heap[b]?=some (.cells #[.int .i64 0] 128 (0,0))
theorem ChnW.keep {b:Nat} {w w':World} (h:ChnW b w) (hw:Below w.heap.size w w'):ChnW b w' :=
 ⟨(hw.block b (Array.getElem?_eq_some_iff.1 h.blk).1).trans h.blk⟩
theorem ChnW.cell {b:Nat} {w:World} (h:ChnW b w):∀k v,[Value.int .i64 0][k]?=some v→w.cell? ⟨b,k,none⟩=some v:=fun k v hk=>by
 have:=cell_of_row w b k #[.int .i64 0] _ (0,0) h.blk
 rw[this]
 simpa using hk
theorem ChnW.ofSt {w0 w:World} {H:List Hl} {b:Nat} (hw:St w0 H w) (hm:Hl.blk b 128 [.int .i64 0]∈H):ChnW b w:=⟨hw.blk hm⟩
theorem ckept_c {b:Nat} {lo hi:Int} : ContIn Tryz.prog (ChnW b) 147 [ptK b,arcV lo hi,.int .i64 0] (arcV lo hi):=fun w hs=>by
 have hcl:=hs.cell
 refine enter0 Tryz.func147 rfl rfl rfl ?_
 repeat' (first|(refine nxN ?_)|(show YK _ _ _ _ _ ⟨_,.load 27 _,_,_,_,_⟩ _;refine YK.ofV (y_loadX (by rfl) (hcl _ _ (by rfl)) (by decide +kernel)) ?_)|(show RS _ _ _ _ _ _ _ (⟨none,.store 27 _ _,_,_,_,_⟩::_);refine RS.storeSame (b:=b) ?_ (by rfl) (by rfl) (fun w' hw'=>(hs.keep hw'.ext).blk) (by rfl) (by decide +kernel))|(refine nxV ?_)|(refine nSS ?_)|(refine nS1 fun _=>?_)|(refine nxX ?_)|(refine G.cN rfl (fun hc=>?_) (fun hc=>?_)<;>(try first|exact hc.elim|(exfalso;omega))))
 all_goals exact X.ret (vs:=[_]) rfl ⟨⟨_,_,_,_,rfl,(by exact memA),lenA,by decide +kernel,rfl⟩,rfl⟩ rfl rE
theorem csin_c {b:Nat} {lo hi:Int} (h:validI lo hi=true):ContIn Tryz.prog (ChnW b) 69 [ptK b,arcV lo hi] (arcV (TT.encl lo hi).1 (TT.encl lo hi).2):=fun w hs=>by
 have q1:=Sin_c h
 generalize TT.encl lo hi=r at *
 refine enter0 Tryz.func69 rfl rfl rfl ?_
 repeat' (first|(show YK _ _ _ _ _ ⟨_,.call { callee:=.value (.func 147),args:=_,argTypes:=_ },_,_,_,_⟩ _;refine YK.mk (zcI (ckept_c) (fun w' hw'=>hs.keep hw'.ext) ⟨rfl,rfl,rfl,rfl⟩ (by decide +kernel)) ?_)|(show YK _ _ _ _ _ _ _;refine YK.mk (zcA (q1) ⟨rfl,rfl⟩) ?_)|(refine nxV ?_)|(refine nSS ?_)|(refine nS1 fun _=>?_)|(refine nxX ?_)|done)
 all_goals exact X.ret (vs:=[_]) rfl ⟨⟨_,_,_,_,rfl,(by exact memA),lenA,by decide +kernel,rfl⟩,rfl⟩ rfl rE
theorem ccos_c {b:Nat} {lo hi:Int} (h:validI lo hi=true):ContIn Tryz.prog (ChnW b) 70 [ptK b,arcV lo hi] (arcV (TT.cosE lo hi).1 (TT.cosE lo hi).2):=fun w hs=>by
 have q1:=Cos_c h
 generalize TT.cosE lo hi=r at *
 refine enter0 Tryz.func70 rfl rfl rfl ?_
 repeat' (first|(show YK _ _ _ _ _ ⟨_,.call { callee:=.value (.func 147),args:=_,argTypes:=_ },_,_,_,_⟩ _;refine YK.mk (zcI (ckept_c) (fun w' hw'=>hs.keep hw'.ext) ⟨rfl,rfl,rfl,rfl⟩ (by decide +kernel)) ?_)|(show YK _ _ _ _ _ _ _;refine YK.mk (zcA (q1) ⟨rfl,rfl⟩) ?_)|(refine nxV ?_)|(refine nSS ?_)|(refine nS1 fun _=>?_)|(refine nxX ?_)|done)
 all_goals exact X.ret (vs:=[_]) rfl ⟨⟨_,_,_,_,rfl,(by exact memA),lenA,by decide +kernel,rfl⟩,rfl⟩ rfl rE
theorem cmul_c {b:Nat} {p q:Int×Int} (hp:one31 p) (hq:one31 q):ContIn Tryz.prog (ChnW b) 68 [ptK b,arcV p.1 p.2,arcV q.1 q.2] (arcV (TT.mulE p q).1 (TT.mulE p q).2):=fun w hs=>by
 have q1:=fmul_c (p:=p) (q:=q) hp hq
 generalize TT.mulE p q=r at *
 refine enter0 Tryz.func68 rfl rfl rfl ?_
 repeat' (first|(show YK _ _ _ _ _ ⟨_,.call { callee:=.value (.func 147),args:=_,argTypes:=_ },_,_,_,_⟩ _;refine YK.mk (zcI (ckept_c) (fun w' hw'=>hs.keep hw'.ext) ⟨rfl,rfl,rfl,rfl⟩ (by decide +kernel)) ?_)|(show YK _ _ _ _ _ _ _;refine YK.mk (zcA (q1) ⟨rfl,rfl,rfl⟩) ?_)|(refine nxV ?_)|(refine nSS ?_)|(refine nS1 fun _=>?_)|(refine nxX ?_)|done)
 all_goals exact X.ret (vs:=[_]) rfl ⟨⟨_,_,_,_,rfl,(by exact memA),lenA,by decide +kernel,rfl⟩,rfl⟩ rfl rE
theorem cplus_c {b:Nat} {p q:Int×Int} (hp:two31 p) (hq:two31 q) (h : -2147483648≤(TT.addE p q).1∧(TT.addE p q).2≤2147483648):ContIn Tryz.prog (ChnW b) 67 [ptK b,arcV p.1 p.2,arcV q.1 q.2] (arcV (TT.addE p q).1 (TT.addE p q).2):=fun w hs=>by
 have q1:=fadd_c (a:=p.1) (b:=p.2) (c:=q.1) (d:=q.2) hp hq h
 change Cont _ _ _ (.tuple [arcV (TT.addE p q).1 (TT.addE p q).2,.int .i64 0].toArray) at q1
 generalize TT.addE p q=r at *
 refine enter0 Tryz.func67 rfl rfl rfl ?_
 repeat' (first|(show YK _ _ _ _ _ ⟨_,.call { callee:=.value (.func 147),args:=_,argTypes:=_ },_,_,_,_⟩ _;refine YK.mk (zcI (ckept_c) (fun w' hw'=>hs.keep hw'.ext) ⟨rfl,rfl,rfl,rfl⟩ (by decide +kernel)) ?_)|(show YK _ _ _ _ _ _ _;refine YK.mk (zcA (q1) ⟨rfl,rfl,rfl⟩) ?_)|(refine nxV ?_)|(refine nSS ?_)|(refine nS1 fun _=>?_)|(refine nxX ?_)|done)
 all_goals exact X.ret (vs:=[_]) rfl ⟨⟨_,_,_,_,rfl,(by exact memA),lenA,by decide +kernel,rfl⟩,rfl⟩ rfl rE
theorem clat_built (a b:Int):Tryz.prog.built 36 [(0,.agg [.int .i64 a,.int .i64 b].toArray)]=some [.int .i64 a,.int .i64 b,.int .i64 0,.int .i64 0].toArray:=by kernel_rfl
theorem clat_c {a b:Int} (h : -5400000≤a∧a≤b∧b≤5400000):Cont Tryz.prog 63 [arcV a b] (.bool true):=fun w=>by
 have q1:=pval2_c h (c:=0) (d:=0) (Or.inr (by omega))
 refine enter0 Tryz.func63 rfl rfl rfl ?_
 repeat' (first|(show YK _ _ _ _ _ ⟨_,.build 36 #[(0,_)],_,_,_,_⟩ _;refine YK.ofV (y_build (parts:=[(0,_)]) (vs:=[_]) ⟨rfl,rfl⟩ (clat_built _ _)) ?_)|(show YK _ _ _ _ _ _ _;refine YK.mk (zcA (q1) ⟨rfl,rfl⟩) ?_)|(refine nxV ?_)|(refine nSS ?_)|(refine nS1 fun _=>?_)|(refine nxX ?_)|done)
 exact X.ret1
theorem clons_c {k:Int×Int} (h : -100000000≤k.1∧k.1≤k.2∧k.2≤100000000):Cont Tryz.prog 64 [arcV k.1 k.2] (arcV (lonsI k).1 (lonsI k).2):=fun w=>by
 obtain⟨k1,k2⟩:=k
 unfold lonsI
 dsimp only at *
 have q1:=signed_c (n:=k1) (by omega)
 have hs:=signI_bd k1
 generalize signI k1=s at *
 refine enter0 Tryz.func64 rfl rfl rfl ?_
 repeat' (first|(show YK _ _ _ _ _ _ _;refine YK.mk (zcA (q1) ⟨rfl,rfl⟩) ?_)|(refine nxV ?_)|(refine nSS ?_)|(refine nS1 fun _=>?_)|(refine nxX ?_)|(refine G.cN rfl (fun hc=>?_) (fun hc=>?_)<;>(try first|exact hc.elim|(exfalso;omega))))
 all_goals first
  |(rw[if_pos (by omega)];exact X.ret (vs:=[_]) rfl ⟨⟨_,_,_,_,rfl,(by exact memA),lenA,by decide +kernel,rfl⟩,rfl⟩ rfl rE)
  |(rw[if_neg (by omega)];exact X.ret (vs:=[_]) rfl ⟨⟨_,_,_,_,rfl,(by exact memA),lenA,by decide +kernel,rfl⟩,rfl⟩ rfl rE)
abbrev v6 (a b c d e f:Int):Value:=.agg [.int .i64 a,.int .i64 b,.int .i64 c,.int .i64 d,.int .i64 e,.int .i64 f].toArray
theorem cir_built (a b c d e f:Int):Tryz.prog.built 58 [(0,.agg [.int .i64 a,.int .i64 b].toArray),(1,.agg [.int .i64 c,.int .i64 d].toArray),(2,.agg [.int .i64 e,.int .i64 f].toArray)]=some [.int .i64 a,.int .i64 b,.int .i64 c,.int .i64 d,.int .i64 e,.int .i64 f].toArray:=by kernel_rfl
theorem tri_built (a b c d e f:Int):Tryz.prog.built 124 [(0,.agg [.int .i64 a,.int .i64 b].toArray),(1,.agg [.int .i64 c,.int .i64 d].toArray),(2,.agg [.int .i64 e,.int .i64 f].toArray)]=some [.int .i64 a,.int .i64 b,.int .i64 c,.int .i64 d,.int .i64 e,.int .i64 f].toArray:=by kernel_rfl
theorem ctri_c {a b c d e f x y:Int} (h1 : -100000000≤c∧c≤100000000∧-100000000≤d∧d≤100000000) (h2 : -100000000≤e∧e≤100000000∧-100000000≤f∧f≤100000000) {r1 r2:Int} : Cont Tryz.prog 66 [v6 a b c d r1 r2,v4 x y e f] (v6 x y a b (e-d) (f-c)):=fun w=>by
 refine enter0 Tryz.func66 rfl rfl rfl ?_
 repeat' (first|(show YK _ _ _ _ _ ⟨_,.load 34 _,_,_,_,_⟩ _;refine YK.ofV (zlP (k:=2) (by rfl) (by exact memA) (by decide +kernel) (by rfl)) ?_)|(show YK _ _ _ _ _ ⟨_,.build 124 #[(0,_),(1,_),(2,_)],_,_,_,_⟩ _;refine YK.ofV (y_build (parts:=[(0,_),(1,_),(2,_)]) (vs:=[_,_,_]) ⟨rfl,rfl,rfl,rfl⟩ (tri_built _ _ _ _ _ _)) ?_)|(refine nxV ?_)|(refine nSS ?_)|(refine nS1 fun _=>?_)|(refine nxX ?_)|done)
 all_goals exact X.ret (vs:=[_]) rfl ⟨⟨_,_,_,_,rfl,(by exact memA),lenA,by decide +kernel,rfl⟩,rfl⟩ rfl rE
theorem cirval_c {a b c d r1 r2:Int} (h1 : -5400000≤a∧a≤b∧b≤5400000) (h2:lonOk c d) (h3:0≤r1∧r1≤r2∧r2≤10800000):Cont Tryz.prog 65 [v6 a b c d r1 r2] (.bool true):=fun w=>by
 have q1:=pval2_c h1 h2
 have q2:=gval_c (a:=r1) (b:=r2) (by omega)
 refine enter0 Tryz.func65 rfl rfl rfl ?_
 repeat' (first|(show YK _ _ _ _ _ ⟨_,.load 34 _,_,_,_,_⟩ _;refine YK.ofV (zlP (k:=2) (by rfl) (by exact memA) (by decide +kernel) (by rfl)) ?_)|(show YK _ _ _ _ _ ⟨_,.build 36 #[(0,_),(1,_)],_,_,_,_⟩ _;refine YK.ofV (y_build (parts:=[(0,_),(1,_)]) (vs:=[_,_]) ⟨rfl,rfl,rfl⟩ (place_built _ _ _ _)) ?_)|(show YK _ _ _ _ _ _ _;first|refine YK.mk (zcA (q1) ⟨rfl,rfl⟩) ?_|refine YK.mk (zcA (q2) ⟨rfl,rfl⟩) ?_)|(refine nxV ?_)|(refine nSS ?_)|(refine nS1 fun _=>?_)|(refine nxG ?_)|(refine nxX ?_)|done)
 all_goals exact X.ret (vs:=[_]) rfl ⟨rfl,rfl⟩ rfl (fun w hw=>⟨ret_bool (by simp;omega),hw.ext⟩)
abbrev v8 (a b c d e f g h:Int):Value:=.agg [.int .i64 a,.int .i64 b,.int .i64 c,.int .i64 d,.int .i64 e,.int .i64 f,.int .i64 g,.int .i64 h].toArray
theorem circOf_c {h1 h2 g1 g2 d1 d2 s1 s2 p1 p2:Int} (hh : -5400000≤h1∧h1≤h2∧h2≤5400000) (hg : -10800000≤g1∧g1≤g2∧g2≤10800000) (hd : -5400000≤d1∧d1≤d2∧d2≤5400000):Cont Tryz.prog 26 [arcV h1 h2,v8 g1 g2 d1 d2 s1 s2 p1 p2] (.tuple [v6 d1 d2 (lonsI (-g2,-g1)).1 (lonsI (-g2,-g1)).2 (5400000-h2) (5400000-h1),.int .i64 0].toArray):=fun w=>by
 have q1:=gval_c (a:=h1) (b:=h2) (by omega)
 have q2:=gval_c (a:=g1) (b:=g2) (by omega)
 have q3:=clat_c hd
 have q4:=clons_c (k:=(-g2,-g1)) (by dsimp only;omega)
 generalize lonsI (-g2,-g1)=lg at *
 refine enter0 Tryz.func26 rfl rfl rfl ?_
 repeat' (first|(show VK _ _ _ _ _ ⟨_,.load 34 _,_,_,_,_⟩ _;refine VK.mk (zlP (k:=2) (by rfl) (by exact memA) (by decide +kernel) (by rfl)) ?_)|(show YK _ _ _ _ _ ⟨_,.load 34 _,_,_,_,_⟩ _;refine YK.ofV (zlP (k:=2) (by rfl) (by exact memA) (by decide +kernel) (by rfl)) ?_)|(show VK _ _ _ _ _ ⟨_,.build 58 #[(0,_),(1,_),(2,_)],_,_,_,_⟩ _;refine VK.mk (y_build (parts:=[(0,_),(1,_),(2,_)]) (vs:=[_,_,_]) ⟨rfl,rfl,rfl,rfl⟩ (cir_built _ _ _ _ _ _)) ?_)|(refine G.mixedM 5 [.go 0,.go 1,.go 2,.go 3,.go 4,.go 5,.go 6,.go 7,.go 8,.go 9,.go 10,.go 12,.go 13,.go 14,.go 15,.go 16,.go 17,.go 18,.go 11,.go 19,.go 20,.go 21] [false,true,true] ?_;dsimp only[maskH])|(show YK _ _ _ _ _ _ _;first|refine YK.mk (zcA (q1) ⟨rfl,rfl⟩) ?_|refine YK.mk (zcA (q2) ⟨rfl,rfl⟩) ?_|refine YK.mk (zcA (q3) ⟨rfl,rfl⟩) ?_|refine YK.mk (zcA (q4) ⟨rfl,rfl⟩) ?_)|(refine nxV ?_)|(refine nSS ?_)|(refine nS1 fun _=>?_)|(refine nMM ?_)|(refine nxG ?_)|(refine nxX ?_)|(refine G.cN rfl (fun hc=>?_) (fun hc=>?_)<;>(try first|exact hc.elim|(exfalso;omega))))
 all_goals first
  |(exfalso;simp at hc;omega)
  |exact X.ret (vs:=[_,_]) rfl ⟨⟨_,_,_,_,rfl,(by exact memA),lenA,by decide +kernel,rfl⟩,rfl,rfl⟩ rfl rE
def sideS (l t k:Int×Int):Int×Int:=TT.addE (TT.mulE (TT.encl l.1 l.2) (TT.encl t.1 t.2)) (TT.mulE (TT.mulE (TT.cosE l.1 l.2) (TT.cosE t.1 t.2)) (TT.cosE k.1 k.2))
theorem side_c {a b c d r1 r2 x y e f:Int} (h1 : -5400000≤a∧a≤b∧b≤5400000) (h2:lonOk c d) (h3:0≤r1∧r1≤r2∧r2≤10800000) (h4 : -5400000≤x∧x≤y∧y≤5400000) (h5:lonOk e f)
  (hin:(TT.cosE r1 r2).2<(sideS (x,y) (a,b) (e-d,f-c)).1):Cont Tryz.prog 27 [v6 a b c d r1 r2,v4 x y e f] (.tuple [.int .i64 1,.int .i64 0].toArray):=fun w=>by
 have hl:c≤d∧e≤f∧-10800000≤c∧d≤32400000∧-10800000≤e∧f≤32400000:=by
  unfold lonOk at h2 h5
  omega
 have q1:=cirval_c h1 h2 h3
 have q2:=pval2_c h4 h5
 have q3:=ctri_c (a:=a) (b:=b) (c:=c) (d:=d) (e:=e) (f:=f) (x:=x) (y:=y) (r1:=r1) (r2:=r2) (by omega) (by omega)
 have o1:=TT.encl_ord h4.2.1
 have o2:=TT.encl_ord h1.2.1
 have o3:=TT.cosE_ord h4.2.1
 have o4:=TT.cosE_ord h1.2.1
 have hk:e-d≤f-c:=by omega
 have o5:=TT.cosE_ord hk
 have o6:=TT.mulE_bd o1 o2
 have o7:=TT.mulE_bd o3 o4
 have o8:=TT.mulE_bd o7 o5
 have t1:=two_of o6
 have t2:=two_of o8
 have t3 : -2147483648≤(TT.addE (TT.mulE (TT.encl x y) (TT.encl a b)) (TT.mulE (TT.mulE (TT.cosE x y) (TT.cosE a b)) (TT.cosE (e-d) (f-c)))).1∧(TT.addE (TT.mulE (TT.encl x y) (TT.encl a b)) (TT.mulE (TT.mulE (TT.cosE x y) (TT.cosE a b)) (TT.cosE (e-d) (f-c)))).2≤2147483648:=by
  unfold TT.addE;dsimp only;omega
 have v1:=valI (lo:=x) (hi:=y) (by omega)
 have v2:=valI (lo:=a) (hi:=b) (by omega)
 have v3:=valI (lo:=e-d) (hi:=f-c) (by omega)
 have v5:=valI (lo:=r1) (hi:=r2) (by omega)
 have hin2:(TT.cosE r1 r2).2<(TT.addE (TT.mulE (TT.encl x y) (TT.encl a b)) (TT.mulE (TT.mulE (TT.cosE x y) (TT.cosE a b)) (TT.cosE (e-d) (f-c)))).1:=hin
 clear hin
 refine enter0 Tryz.func27 rfl rfl rfl ?_
 repeat' (first|(refine nxN ?_)|(show YK _ _ _ _ _ ⟨_,.call { callee:=.value (.func 69),args:=_,argTypes:=_ },_,_,_,_⟩ _;refine YK.mk (zcI (csin_c (by assumption)) (fun w' hw'=>ChnW.ofSt hw' (by exact memA)) ⟨rfl,rfl,rfl⟩ (by decide +kernel)) ?_)|(show YK _ _ _ _ _ ⟨_,.call { callee:=.value (.func 70),args:=_,argTypes:=_ },_,_,_,_⟩ _;refine YK.mk (zcI (ccos_c (by assumption)) (fun w' hw'=>ChnW.ofSt hw' (by exact memA)) ⟨rfl,rfl,rfl⟩ (by decide +kernel)) ?_)|(show YK _ _ _ _ _ ⟨_,.call { callee:=.value (.func 68),args:=_,argTypes:=_ },_,_,_,_⟩ _;refine YK.mk (zcI (cmul_c (by assumption) (by assumption)) (fun w' hw'=>ChnW.ofSt hw' (by exact memA)) ⟨rfl,rfl,rfl,rfl⟩ (by decide +kernel)) ?_)|(show YK _ _ _ _ _ ⟨_,.call { callee:=.value (.func 67),args:=_,argTypes:=_ },_,_,_,_⟩ _;refine YK.mk (zcI (cplus_c (by assumption) (by assumption) (by assumption)) (fun w' hw'=>ChnW.ofSt hw' (by exact memA)) ⟨rfl,rfl,rfl,rfl⟩ (by decide +kernel)) ?_)|(show VK _ _ _ _ _ ⟨_,.load 34 _,_,_,_,_⟩ _;refine VK.mk (zlP (k:=2) (by rfl) (by exact memA) (by decide +kernel) (by rfl)) ?_)|(show YK _ _ _ _ _ ⟨_,.load 34 _,_,_,_,_⟩ _;refine YK.ofV (zlP (k:=2) (by rfl) (by exact memA) (by decide +kernel) (by rfl)) ?_)|(show YK _ _ _ _ _ _ _;first|refine YK.mk (zcA (q1) ⟨rfl,rfl⟩) ?_|refine YK.mk (zcA (q2) ⟨rfl,rfl⟩) ?_|refine YK.mk (zcA (q3) ⟨rfl,rfl,rfl⟩) ?_)|(refine nxV ?_)|(refine nSS ?_)|(refine nS1 fun _=>?_)|(refine nMM ?_)|(refine nM1 fun _=>?_)|(refine G.mA 5 [.go 0,.go 1,.go 2,.go 3,.go 4,.go 6,.go 7,.go 8,.go 11,.go 12,.go 13,.go 14,.go 15,.go 17,.go 18,.go 19,.go 22,.go 23,.go 24,.pend 28,.go 5,.go 9,.go 10,.go 16,.go 20,.go 21,.go 25,.go 26,.go 27,.done,.go 29] ?_)|(refine nxX ?_)|(refine G.cN rfl (fun hc=>?_) (fun hc=>?_)<;>(try first|exact hc.elim|(exfalso;omega))))
 all_goals first
  |(exfalso;simp at hc;omega)
  |exact X.ret (vs:=[_,_]) rfl ⟨rfl,rfl,rfl⟩ rfl rE
theorem side_in:(TT.cosE 1800000 1800000).2<(sideS (0,0) (0,0) (0-0,0-0)).1:=by decide +kernel
end Go.Proofs.YtjmdeplmenbmmaaGreatDoor
