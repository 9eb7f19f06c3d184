/- Joined texts: Sdr, Alq, Alp. -/
import Derived.Test.YtjmdeplmenbmmaaGreatW11
import Derived.Test.YtjmdeplmenbmmaaGreatW05
import Derived.Test.YtjmdeplmenbmmaaGreatW12
set_option linter.unusedVariables false
set_option maxHeartbeats 8000000
namespace Go.Proofs.YtjmdeplmenbmmaaGreat
open Go.RowKit
abbrev okTm (t:Int):Prop:=-70368744177664≤t∧t≤70368744177664
theorem sid_eq {t n p q Q R f r x y:Int} (hn:n=max t (-t)) (hp:n*21659138841977=p*18446744073709551616+q) (hQ:p*18446744073709551616+q=Q*86400000000000+R) (hR:0≤R∧R<86400000000000)
  (hf:(t<0→f = -Q∧r = -R)∧(¬t<0→f=Q∧r=R)) (hx:(r+58838400000000<0→x=f-1∧y=r+58838400000000+86400000000000)∧(¬r+58838400000000<0→x=f∧y=r+58838400000000)) :
  5998067+x+y/86400000000000=NO.flS t∧y%86400000000000=NO.sidN t%86400000000000∧0≤y:=by
 unfold NO.flS NO.sidN
 by_cases h:t<0
 ·obtain⟨rfl,rfl⟩:=hf.1 h
  by_cases g : -R+58838400000000<0
  ·obtain⟨rfl,rfl⟩:=hx.1 g
   omega
  ·obtain⟨rfl,rfl⟩:=hx.2 g
   omega
 ·obtain⟨rfl,rfl⟩:=hf.2 h
  obtain⟨rfl,rfl⟩:=hx.2 (by omega)
  omega
theorem naries_c {t:Int} (h:okTm t):Cont Tryz.prog 150 [.int .i64 t] (.tuple [.int .i64 (NO.flS t),.int .i64 (NO.sidN t%86400000000000)].toArray):=fun w=>by
 obtain⟨n,hn⟩:∃n,n=max t (-t):=⟨_,rfl⟩
 have q1:=mul64_c (x:=n) (y:=21659138841977) (by omega)
 obtain⟨p,hp⟩:∃p,n*21659138841977/18446744073709551616=p:=⟨_,rfl⟩
 obtain⟨q,hq⟩:∃q,n*21659138841977%18446744073709551616=q:=⟨_,rfl⟩
 rw[hp,hq] at q1
 have hpq:n*21659138841977=p*18446744073709551616+q:=by omega
 have hb:0≤p∧p<86400000000000∧0≤q∧q<18446744073709551616:=by omega
 have q2:=div64_c (hi:=p) (lo:=q) (y:=86400000000000) (by omega)
 obtain⟨Q,hQ⟩:∃Q,(p*18446744073709551616+q)/86400000000000=Q:=⟨_,rfl⟩
 obtain⟨R,hR⟩:∃R,(p*18446744073709551616+q)%86400000000000=R:=⟨_,rfl⟩
 rw[hQ,hR] at q2
 have hQR:p*18446744073709551616+q=Q*86400000000000+R:=by omega
 have hRb:0≤R∧R<86400000000000:=by omega
 have hQb:0≤Q∧Q≤70368744177664:=by omega
 have hnb:0≤n∧n≤70368744177664:=by omega
 clear hp hq hQ hR
 have key:=fun f r x y=>sid_eq (t:=t) (n:=n) (p:=p) (q:=q) (Q:=Q) (R:=R) (f:=f) (r:=r) (x:=x) (y:=y) hn hpq hQR hRb
 clear hpq hQR hb
 subst hn
 generalize NO.flS t=A at *
 generalize NO.sidN t%86400000000000=B at *
 refine enter0 Tryz.func150 rfl rfl rfl ?_
 repeat' (first|(show G _ _ _ _ _ _ (.loop _);refine G.loopN 3 (GR.step ?_))|(show X (Exit.then (Code.rounds _ _ _ _) _) _ _ _ _ .normal;refine X.round (GR.step ?_))|(show YK _ _ _ _ _ _ _;first|refine YK.mk (zcA (q1) ⟨rfl,rfl,rfl⟩) ?_|refine YK.mk (zcA (q2) ⟨rfl,rfl,rfl,rfl⟩) ?_)|(refine nxV ?_)|(refine nSS ?_)|(refine nS1 fun _=>?_)|(refine nMM ?_)|(refine nM1 fun _=>?_)|(show YG _ _ _ _ _ _ _ _;refine YG.mk (fun hb=>by(try(have hc:=And.left hb;have hb:=And.right hb;rw[hc]));(try rw[hb]);first|exact(zcA (q1) ⟨rfl,rfl,rfl⟩)|exact(zcA (q2) ⟨rfl,rfl,rfl,rfl⟩)|exact V.y vAuto) ?_)|(refine nxG ?_)|(refine nxX ?_)|(refine G.cN rfl (fun hc=>?_) (fun hc=>?_)<;>(try first|exact hc.elim|(exfalso;omega))))
 all_goals first
  |(exfalso;omega)
  |refine X.ret (vs:=[_,_]) rfl ⟨rfl,rfl,rfl⟩ rfl (fun w hw=>⟨?_,hw.ext⟩)
 ·have k:=key (-Q) (-R) (-Q-1) (-R+58838400000000+86400000000000) ⟨fun _=>⟨rfl,rfl⟩,fun h=>by omega⟩ ⟨fun _=>⟨rfl,rfl⟩,fun h=>by omega⟩
  rw[k.1,k.2.1]
 ·have k:=key (-Q) (-R) (-Q) (-R+58838400000000) ⟨fun _=>⟨rfl,rfl⟩,fun h=>by omega⟩ ⟨fun h=>by omega,fun _=>⟨rfl,rfl⟩⟩
  rw[k.1,k.2.1]
 ·have k:=key Q R Q (R+58838400000000) ⟨fun h=>by omega,fun _=>⟨rfl,rfl⟩⟩ ⟨fun h=>by omega,fun _=>⟨rfl,rfl⟩⟩
  rw[k.1,k.2.1]
theorem fl_bd {t:Int} (h:okTm t) : -20000000000000≤NO.flS t∧NO.flS t≤20000000000000∧NO.flS t≤NO.upS t∧NO.upS t≤NO.flS t+1:=by
 unfold NO.upS NO.flS NO.sidN
 refine⟨by omega,by omega,?_,?_⟩<;>(split<;>omega)
theorem nup_c {t:Int} (h:okTm t):Cont Tryz.prog 151 [.int .i64 t] (.int .i64 (NO.upS t)):=fun w=>by
 have q1:=naries_c h
 have hb:=fl_bd h
 unfold NO.upS at *
 generalize NO.flS t=f at *
 generalize NO.sidN t%86400000000000=r at *
 by_cases hr:0<r
 ·rw[if_pos hr] at *
  refine enter0 Tryz.func151 rfl rfl rfl ?_
  repeat' (first|(show YK _ _ _ _ _ _ _;first|refine YK.mk (zcA (q1) ⟨rfl,rfl⟩) ?_)|(refine nxV ?_)|(refine nSS ?_)|(refine nS1 fun _=>?_)|(refine nMM ?_)|(refine nM1 fun _=>?_)|(show YG _ _ _ _ _ _ _ _;refine YG.mk (fun hb=>by(try(have hc:=And.left hb;have hb:=And.right hb;rw[hc]));(try rw[hb]);first|exact(zcA (q1) ⟨rfl,rfl⟩)|exact V.y vAuto) ?_)|(refine nxG ?_)|(refine nxX ?_)|(refine G.cN rfl (fun hc=>?_) (fun hc=>?_)<;>(try first|exact hc.elim|(exfalso;omega))))
  all_goals first
   |(exfalso;omega)
   |exact X.ret1
 ·rw[if_neg hr] at *
  refine enter0 Tryz.func151 rfl rfl rfl ?_
  repeat' (first|(show YK _ _ _ _ _ _ _;first|refine YK.mk (zcA (q1) ⟨rfl,rfl⟩) ?_)|(refine nxV ?_)|(refine nSS ?_)|(refine nS1 fun _=>?_)|(refine nMM ?_)|(refine nM1 fun _=>?_)|(show YG _ _ _ _ _ _ _ _;refine YG.mk (fun hb=>by(try(have hc:=And.left hb;have hb:=And.right hb;rw[hc]));(try rw[hb]);first|exact(zcA (q1) ⟨rfl,rfl⟩)|exact V.y vAuto) ?_)|(refine nxG ?_)|(refine nxX ?_)|(refine G.cN rfl (fun hc=>?_) (fun hc=>?_)<;>(try first|exact hc.elim|(exfalso;omega))))
  all_goals first
   |(exfalso;omega)
   |exact X.ret (vs:=[_]) rfl ⟨rfl,rfl⟩ rfl (fun w hw=>⟨ret_int (by omega),hw.ext⟩)
theorem nbet_c {a b:Int} (h:okTm a) (h':okTm b) (hle:a≤b):Cont Tryz.prog 90 [.int .i64 a,.int .i64 b] (arcV (NO.betA a b).1 (NO.betA a b).2):=fun w=>by
 have q1:=naries_c h
 have q2:=nup_c h'
 have b1:=fl_bd h
 have b2:=fl_bd h'
 have hm:=NO.fl_mono hle
 have q3:=nwrap_c (n:=NO.flS a) (by omega)
 have gm1:=Int.emod_nonneg (NO.flS a) (show (21600000:Int)≠0 by decide)
 have gm2:=Int.emod_lt_of_pos (NO.flS a) (show (0:Int)<21600000 by decide)
 unfold NO.betA NO.turnA
 dsimp only
 generalize NO.flS a%21600000=r at *
 generalize NO.flS a=f at *
 generalize NO.upS b=u at *
 generalize NO.sidN a%86400000000000=z at *
 split
 ·refine enter0 Tryz.func90 rfl rfl rfl ?_
  repeat' (first|(refine nxN ?_)|(show YK _ _ _ _ _ _ _;first|refine YK.mk (zcA (q1) ⟨rfl,rfl⟩) ?_|refine YK.mk (zcA (q2) ⟨rfl,rfl⟩) ?_|refine YK.mk (zcA (q3) ⟨rfl,rfl⟩) ?_)|(refine nxV ?_)|(refine nSS ?_)|(refine nS1 fun _=>?_)|(refine nMM ?_)|(refine nM1 fun _=>?_)|(show YG _ _ _ _ _ _ _ _;refine YG.mk (fun hb=>by(try(have hc:=And.left hb;have hb:=And.right hb;rw[hc]));(try rw[hb]);first|exact(zcA (q1) ⟨rfl,rfl⟩)|exact(zcA (q2) ⟨rfl,rfl⟩)|exact(zcA (q3) ⟨rfl,rfl⟩)|exact V.y vAuto) ?_)|(refine nxG ?_)|(refine nxX ?_)|(refine G.cN rfl (fun hc=>?_) (fun hc=>?_)<;>(try first|exact hc.elim|(exfalso;omega))))
  all_goals first
   |(exfalso;omega)
   |exact X.ret (vs:=[_]) rfl ⟨⟨_,_,_,_,rfl,(by exact memA),lenA,by decide +kernel,rfl⟩,rfl⟩ rfl rE
 ·refine enter0 Tryz.func90 rfl rfl rfl ?_
  repeat' (first|(refine nxN ?_)|(show YK _ _ _ _ _ _ _;first|refine YK.mk (zcA (q1) ⟨rfl,rfl⟩) ?_|refine YK.mk (zcA (q2) ⟨rfl,rfl⟩) ?_|refine YK.mk (zcA (q3) ⟨rfl,rfl⟩) ?_)|(refine nxV ?_)|(refine nSS ?_)|(refine nS1 fun _=>?_)|(refine nMM ?_)|(refine nM1 fun _=>?_)|(show YG _ _ _ _ _ _ _ _;refine YG.mk (fun hb=>by(try(have hc:=And.left hb;have hb:=And.right hb;rw[hc]));(try rw[hb]);first|exact(zcA (q1) ⟨rfl,rfl⟩)|exact(zcA (q2) ⟨rfl,rfl⟩)|exact(zcA (q3) ⟨rfl,rfl⟩)|exact V.y vAuto) ?_)|(refine nxG ?_)|(refine nxX ?_)|(refine G.cN rfl (fun hc=>?_) (fun hc=>?_)<;>(try first|exact hc.elim|(exfalso;omega))))
  all_goals first
   |(exfalso;omega)
   |exact X.ret (vs:=[_]) rfl ⟨⟨_,_,_,_,rfl,(by exact memA),lenA,by decide +kernel,rfl⟩,rfl⟩ rfl rE
theorem nday_c {t:Int} (h:okTm t):Cont Tryz.prog 92 [.int .i64 t] (.int .i64 (t/86400000)):=fun w=>by
 have e5:=ediv_in (k:=70368744177664) (a:=t) (show (0:Int)<86400000 by decide) h.1 h.2
 refine enter0 Tryz.func92 rfl rfl rfl ?_
 repeat' (first|(refine nxV ?_)|(refine nSS ?_)|(refine nS1 fun _=>?_)|(refine nMM ?_)|(refine nM1 fun _=>?_)|(refine nxG ?_)|(refine nxX ?_)|(refine G.cN rfl (fun hc=>?_) (fun hc=>?_)<;>(try first|exact hc.elim|(exfalso;omega))))
 ·obtain⟨g1,g2,g3⟩:=(floor_eq (show (0:Int)<86400000 by decide)).1 hc
  have g4:=Int.ediv_neg_of_neg_of_pos g3 (show (0:Int)<86400000 by decide)
  refine X.ret (vs:=[_]) rfl ⟨rfl,rfl⟩ rfl (fun w hw=>⟨congrArg Ending.returned (congrArg (Value.int .i64) ?_),hw.ext⟩)
  first|exact g1|(rw[IntWalk.i64_in (t.tdiv 86400000-1) (by omega),g1])|(rw[IntWalk.i64_in (t.tdiv 86400000) (by omega),IntWalk.i64_in (t.tdiv 86400000-1) (by omega),g1])
 ·obtain⟨g1,g2⟩:=(floor_eq (show (0:Int)<86400000 by decide)).2 hc
  refine X.ret (vs:=[_]) rfl ⟨rfl,rfl⟩ rfl (fun w hw=>⟨congrArg Ending.returned (congrArg (Value.int .i64) ?_),hw.ext⟩)
  first|exact g1|(rw[IntWalk.i64_in (t.tdiv 86400000) (by omega),g1])
theorem naro_c {n:Int} (h : -1000000≤n∧n≤1000000):Cont Tryz.prog 91 [.int .i64 n] (arcV (tenA n).1 (tenA n).2):=fun w=>by
 unfold tenA
 dsimp only
 refine enter0 Tryz.func91 rfl rfl rfl ?_
 repeat' (first|(refine nxN ?_)|(refine nxV ?_)|(refine nSS ?_)|(refine nS1 fun _=>?_)|(refine nMM ?_)|(refine nM1 fun _=>?_)|(refine nxG ?_)|(refine nxX ?_)|(refine G.cN rfl (fun hc=>?_) (fun hc=>?_)<;>(try first|exact hc.elim|(exfalso;omega))))
 all_goals exact X.ret (vs:=[_]) rfl ⟨⟨_,_,_,_,rfl,(by exact memA),lenA,by decide +kernel,rfl⟩,rfl⟩ rfl rE
theorem npos_c {a b:Int} : Cont Tryz.prog 156 [arcV a b] (arcV (posA (a,b)).1 (posA (a,b)).2):=fun w=>by
 unfold posA
 dsimp only
 refine enter0 Tryz.func156 rfl rfl rfl ?_
 repeat' (first|(refine nxN ?_)|(refine nxV ?_)|(refine nSS ?_)|(refine nS1 fun _=>?_)|(refine nMM ?_)|(refine nM1 fun _=>?_)|(refine nxG ?_)|(refine nxX ?_)|(refine G.cN rfl (fun hc=>?_) (fun hc=>?_)<;>(try first|exact hc.elim|(exfalso;omega))))
 all_goals exact X.ret (vs:=[_]) rfl ⟨⟨_,_,_,_,rfl,(by exact memA),lenA,by decide +kernel,rfl⟩,rfl⟩ rfl rE
theorem nhul_c {a b:Int×Int} : Cont Tryz.prog 95 [arcV a.1 a.2,arcV b.1 b.2] (arcV (NO.hullA a b).1 (NO.hullA a b).2):=fun w=>by
 unfold NO.hullA
 dsimp only
 refine enter0 Tryz.func95 rfl rfl rfl ?_
 repeat' (first|(refine nxN ?_)|(refine nxV ?_)|(refine nSS ?_)|(refine nS1 fun _=>?_)|(refine nMM ?_)|(refine nM1 fun _=>?_)|(refine nxG ?_)|(refine nxX ?_)|(refine G.cN rfl (fun hc=>?_) (fun hc=>?_)<;>(try first|exact hc.elim|(exfalso;omega))))
 all_goals exact X.ret (vs:=[_]) rfl ⟨⟨_,_,_,_,rfl,(by exact memA),lenA,by decide +kernel,rfl⟩,rfl⟩ rfl rE
theorem signA_bd (n:Int) : -10800000≤NO.signA n∧NO.signA n<10800000:=by
 have b1:=Int.emod_nonneg n (show (21600000:Int)≠0 by decide)
 have b2:=Int.emod_lt_of_pos n (show (0:Int)<21600000 by decide)
 unfold NO.signA
 split<;>omega
theorem njoin_c {a b:Int×Int} (ha:0≤a.1∧a.1≤a.2∧a.2≤43200000) (hb:0≤b.1∧b.1≤b.2∧b.2≤43200000):Cont Tryz.prog 94 [arcV a.1 a.2,arcV b.1 b.2] (.tuple [arcV (NO.joinA a b).1 (NO.joinA a b).2,.int .i64 0].toArray):=fun w=>by
 have q1:=nsign_c (n:=b.1-a.1) (by omega)
 have hs:=signA_bd (b.1-a.1)
 have hJ:NO.joinA a b=NO.turnA (NO.hullA a (NO.joinL a b,NO.joinL a b+b.2-b.1)):=rfl
 rw[hJ]
 have hL:NO.joinL a b=a.1+NO.signA (b.1-a.1):=rfl
 have q2:=nhul_c (a:=a) (b:=(NO.joinL a b,NO.joinL a b+b.2-b.1))
 have hh:okA (NO.hullA a (NO.joinL a b,NO.joinL a b+b.2-b.1)).1 (NO.hullA a (NO.joinL a b,NO.joinL a b+b.2-b.1)).2:=by
  unfold NO.hullA
  dsimp only
  omega
 have q3:=nturn_c hh
 dsimp only at q2
 change Cont _ _ _ (.tuple [arcV (NO.turnA (NO.hullA a (NO.joinL a b,NO.joinL a b+b.2-b.1))).1 (NO.turnA (NO.hullA a (NO.joinL a b,NO.joinL a b+b.2-b.1))).2,.int .i64 0].toArray) at q3
 clear hh hJ
 generalize NO.turnA (NO.hullA a (NO.joinL a b,NO.joinL a b+b.2-b.1))=T at *
 generalize NO.hullA a (NO.joinL a b,NO.joinL a b+b.2-b.1)=U at *
 generalize NO.joinL a b=jl at *
 generalize NO.signA (b.1-a.1)=sg at *
 obtain⟨a1,a2⟩:=a
 obtain⟨b1,b2⟩:=b
 dsimp only at *
 subst hL
 refine enter0 Tryz.func94 rfl rfl rfl ?_
 repeat' (first|(refine nxN ?_)|(show YK _ _ _ _ _ _ _;first|refine YK.mk (zcA (q1) ⟨rfl,rfl⟩) ?_|refine YK.mk (zcA (q2) ⟨rfl,rfl,rfl⟩) ?_|refine YK.mk (zcA (q3) ⟨rfl,rfl⟩) ?_)|(refine nxV ?_)|(refine nSS ?_)|(refine nS1 fun _=>?_)|(refine nMM ?_)|(refine nM1 fun _=>?_)|(show YG _ _ _ _ _ _ _ _;refine YG.mk (fun hb=>by(try(have hc:=And.left hb;have hb:=And.right hb;rw[hc]));(try rw[hb]);first|exact(zcA (q1) ⟨rfl,rfl⟩)|exact(zcA (q2) ⟨rfl,rfl,rfl⟩)|exact(zcA (q3) ⟨rfl,rfl⟩)|exact V.y vAuto) ?_)|(refine nxG ?_)|(refine G.mA 1 [.go 0,.go 1,.go 2,.go 3,.go 4,.go 5,.go 6,.go 7,.go 8,.go 9] ?_)|(refine nxX ?_)|(refine G.cN rfl (fun hc=>?_) (fun hc=>?_)<;>(try first|exact hc.elim|(exfalso;omega))))
 all_goals exact X.ret (vs:=[_,_]) rfl ⟨⟨_,_,_,_,rfl,(by exact memA),lenA,by decide +kernel,rfl⟩,rfl,rfl⟩ rfl rE
theorem ninsB_c {t:Int} : Cont Tryz.prog 89 [.int .i64 t] (.bool (decide (-70368744177664≤t)&&decide (t≤70368744177664))):=fun w=>by
 refine enter0 Tryz.func89 rfl rfl rfl ?_
 repeat' (first|(refine nxV ?_)|(refine nSS ?_)|(refine nS1 fun _=>?_)|(refine nMM ?_)|(refine nM1 fun _=>?_)|(refine nxG ?_)|(refine nxX ?_)|(refine G.cN rfl (fun hc=>?_) (fun hc=>?_)<;>(try first|exact hc.elim|(exfalso;omega))))
 all_goals exact X.ret (vs:=[_]) rfl ⟨rfl,rfl⟩ rfl (fun w hw=>⟨ret_bool (by simp),hw.ext⟩)
theorem nclk_c {a b:Int} : Cont Tryz.prog 39 [arcV a b] (.bool (decide (timeOk a b))):=fun w=>by
 have q1:=ninsB_c (t:=a)
 have q2:=ninsB_c (t:=b)
 have key:decide (timeOk a b)=(decide (a≤b)&&(decide (-70368744177664≤a)&&decide (a≤70368744177664))&&(decide (-70368744177664≤b)&&decide (b≤70368744177664))):=by
  rw[Bool.eq_iff_iff]
  simp only[Bool.and_eq_true,decide_eq_true_eq]
  unfold timeOk
  omega
 rw[key]
 clear key
 generalize (decide (-70368744177664≤a)&&decide (a≤70368744177664))=x at *
 generalize (decide (-70368744177664≤b)&&decide (b≤70368744177664))=y at *
 refine enter0 Tryz.func39 rfl rfl rfl ?_
 repeat' (first|(refine nxN ?_)|(show YK _ _ _ _ _ _ _;first|refine YK.mk (zcA (q1) ⟨rfl,rfl⟩) ?_|refine YK.mk (zcA (q2) ⟨rfl,rfl⟩) ?_)|(refine nxV ?_)|(refine nSS ?_)|(refine nS1 fun _=>?_)|(refine nMM ?_)|(refine nM1 fun _=>?_)|(show YG _ _ _ _ _ _ _ _;refine YG.mk (fun hb=>by(try(have hc:=And.left hb;have hb:=And.right hb;rw[hc]));(try rw[hb]);first|exact(zcA (q1) ⟨rfl,rfl⟩)|exact(zcA (q2) ⟨rfl,rfl⟩)|exact V.y vAuto) ?_)|(refine nxG ?_)|(refine nxX ?_)|(refine G.cN rfl (fun hc=>?_) (fun hc=>?_)<;>(try first|exact hc.elim|(exfalso;omega))))
 all_goals exact X.ret (vs:=[_]) rfl ⟨rfl,rfl⟩ rfl (fun w hw=>⟨ret_bool (by simp),hw.ext⟩)
theorem nintv_c {a b:Int} (h:timeOk a b):Cont Tryz.prog 42 [arcV a b] (.tuple [arcV (NO.betA a b).1 (NO.betA a b).2,.int .i64 0].toArray):=fun w=>by
 have q1:=nclk_c (a:=a) (b:=b)
 rw[decide_eq_true h] at q1
 have q2:=nbet_c (a:=a) (b:=b) ⟨h.1,Int.le_trans h.2.1 h.2.2⟩ ⟨Int.le_trans h.1 h.2.1,h.2.2⟩ h.2.1
 generalize NO.betA a b=r at *
 refine enter0 Tryz.func42 rfl rfl rfl ?_
 repeat' (first|(refine nxN ?_)|(show YK _ _ _ _ _ _ _;first|refine YK.mk (zcA (q1) ⟨rfl,rfl⟩) ?_|refine YK.mk (zcA (q2) ⟨rfl,rfl,rfl⟩) ?_)|(refine nxV ?_)|(refine nSS ?_)|(refine nS1 fun _=>?_)|(refine nMM ?_)|(refine nM1 fun _=>?_)|(show YG _ _ _ _ _ _ _ _;refine YG.mk (fun hb=>by(try(have hc:=And.left hb;have hb:=And.right hb;rw[hc]));(try rw[hb]);first|exact(zcA (q1) ⟨rfl,rfl⟩)|exact(zcA (q2) ⟨rfl,rfl,rfl⟩)|exact V.y vAuto) ?_)|(refine nxG ?_)|(refine nxX ?_)|(refine G.cN rfl (fun hc=>?_) (fun hc=>?_)<;>(try first|exact hc.elim|(exfalso;omega))))
 all_goals first
  |(exfalso;simp at hc;done)
  |exact X.ret (vs:=[_,_]) rfl ⟨⟨_,_,_,_,rfl,(by exact memA),lenA,by decide +kernel,rfl⟩,rfl,rfl⟩ rfl rE
theorem nnanc_c (a:Int):Cont Tryz.prog 246 [.int .i64 a] (.bool false):=fun w=>by
 refine enter0 Tryz.func246 rfl rfl rfl ?_
 repeat' (first|(refine nxV ?_)|(refine nSS ?_)|(refine nS1 fun _=>?_)|(refine nMM ?_)|(refine nM1 fun _=>?_)|(refine nxG ?_)|(refine nxX ?_)|(refine G.cN rfl (fun hc=>?_) (fun hc=>?_)<;>(try first|exact hc.elim|(exfalso;omega))))
 all_goals exact X.ret (vs:=[_]) rfl ⟨rfl,rfl⟩ rfl (fun w hw=>⟨ret_bool (by simp),hw.ext⟩)
theorem nnan_c (a:Int):Cont Tryz.prog 229 [.int .i64 a] (.bool false):=fun w=>by
 refine enter0 Tryz.func229 rfl rfl rfl ?_
 repeat' (first|(refine nxV ?_)|(refine nSS ?_)|(refine nS1 fun _=>?_)|(refine nMM ?_)|(refine nM1 fun _=>?_)|(refine nxG ?_)|(refine nxX ?_)|(refine G.cN rfl (fun hc=>?_) (fun hc=>?_)<;>(try first|exact hc.elim|(exfalso;omega))))
 all_goals exact X.ret (vs:=[_]) rfl ⟨rfl,rfl⟩ rfl (fun w hw=>⟨ret_bool (by simp),hw.ext⟩)
theorem nless_c (a b:Int):Cont Tryz.prog 228 [.int .i64 a,.int .i64 b] (.bool (decide (a<b))):=fun w=>by
 refine enter0 Tryz.func228 rfl rfl rfl ?_
 repeat' (first|(show YK _ _ _ _ _ _ _;first|refine YK.mk (zcA (nnanc_c _) ⟨rfl,rfl⟩) ?_)|(refine nxV ?_)|(refine nSS ?_)|(refine nS1 fun _=>?_)|(refine nMM ?_)|(refine nM1 fun _=>?_)|(show YG _ _ _ _ _ _ _ _;refine YG.mk (fun hb=>by(try(have hc:=And.left hb;have hb:=And.right hb;rw[hc]));(try rw[hb]);first|exact(zcA (nnanc_c _) ⟨rfl,rfl⟩)|exact V.y vAuto) ?_)|(refine nxG ?_)|(refine nxX ?_)|(refine G.cN rfl (fun hc=>?_) (fun hc=>?_)<;>(try first|exact hc.elim|(exfalso;omega))))
 all_goals exact X.ret (vs:=[_]) rfl ⟨rfl,rfl⟩ rfl (fun w hw=>⟨ret_bool (by simp),hw.ext⟩)
theorem nsrch_c {v:Value} {l:List Int} {x:Int} {i:Nat} (hl:l.length≤1000) (hi:i≤l.length) (h1:∀k:Nat,k<i→nth l (k:Int)<x) (h2:∀k:Nat,i≤k→k<l.length→x≤nth l (k:Int)) :
  ContR Tryz.prog [Hl.rd v cI 1 l] 202 [v,.int .i64 x] (.tuple [.int .i64 (i:Int),.bool (decide ((i:Int)<l.length)&&decide (nth l (i:Int)=x))].toArray):=fun w hw0=>by
 refine enter Tryz.func202 rfl rfl rfl hw0 ?_
 repeat' (first|(refine nxV ?_)|(refine nSS ?_)|(refine nS1 fun _=>?_)|(refine nMM ?_)|(refine nM1 fun _=>?_)|(refine nxG ?_)|(refine nxX ?_)|(refine G.cN rfl (fun hc=>?_) (fun hc=>?_)<;>(try first|exact hc.elim|(exfalso;omega))))
 refine G.loop (ι:=Nat×Nat) (fun y=>[(0,v),(1,.int .i64 x),(6,.int .i64 l.length),(7,.int .i64 (y.1:Int)),(8,.int .i64 (y.2:Int))]) (fun _=>[Hl.rd v cI 1 l]) (fun y=>y.1≤i∧i≤y.2∧y.2≤l.length) (fun y=>y.2-y.1) (0,l.length) ⟨Nat.zero_le _,hi,Nat.le_refl _⟩ ⟨rfl,rfl,rfl,rfl,rfl,trivial⟩ (fun w h=>h) ?_
 rintro⟨a,b⟩ mx ⟨g1,g2,g3⟩ hmx
 dsimp only at g1 g2 g3 hmx ⊢
 rcases Nat.lt_or_ge a b with hab|hab
 ·obtain⟨m,hm⟩:∃m:Nat,(a+b)/2=m:=⟨_,rfl⟩
  have hmm:((a:Int)+(b:Int))/2=(m:Int):=by omega
  have hm1:a≤m∧m<b:=by omega
  have q1:=nless_c (nth l (((a:Int)+(b:Int))/2)) x
  rcases Nat.lt_or_ge m i with c|c
  ·rw[decide_eq_true (by rw[hmm];exact h1 m c)] at q1
   repeat' (first|(show YK _ _ _ _ _ _ _;first|refine YK.mk (zcA (q1) ⟨rfl,rfl,rfl⟩) ?_)|(refine nxV ?_)|(refine nSS ?_)|(refine nS1 fun _=>?_)|(refine nMM ?_)|(refine nM1 fun _=>?_)|(show YG _ _ _ _ _ _ _ _;refine YG.mk (fun hb=>by(try(have hc:=And.left hb;have hb:=And.right hb;rw[hc]));(try rw[hb]);first|exact(zcA (q1) ⟨rfl,rfl,rfl⟩)|exact V.y vAuto) ?_)|(refine nxG ?_)|(refine nxX ?_)|(refine G.cN rfl (fun hc=>?_) (fun hc=>?_)<;>(try first|exact hc.elim|(exfalso;omega))))
   all_goals first
    |(exfalso;omega)
    |exact X.again (m+1,b) ⟨by dsimp only;omega,by dsimp only;omega,by dsimp only;omega⟩ (by dsimp only;omega) ⟨rfl,rfl,rfl,congrArg (fun z=>some (Value.int .i64 z)) (by dsimp only;omega),rfl,trivial⟩ (by exact fun w h=>h.sub subS)
  ·have:=h2 m c (by omega)
   rw[decide_eq_false (by rw[hmm];omega)] at q1
   repeat' (first|(show YK _ _ _ _ _ _ _;first|refine YK.mk (zcA (q1) ⟨rfl,rfl,rfl⟩) ?_)|(refine nxV ?_)|(refine nSS ?_)|(refine nS1 fun _=>?_)|(refine nMM ?_)|(refine nM1 fun _=>?_)|(show YG _ _ _ _ _ _ _ _;refine YG.mk (fun hb=>by(try(have hc:=And.left hb;have hb:=And.right hb;rw[hc]));(try rw[hb]);first|exact(zcA (q1) ⟨rfl,rfl,rfl⟩)|exact V.y vAuto) ?_)|(refine nxG ?_)|(refine nxX ?_)|(refine G.cN rfl (fun hc=>?_) (fun hc=>?_)<;>(try first|exact hc.elim|(exfalso;omega))))
   all_goals first
    |(exfalso;omega)
    |exact X.again (a,m) ⟨by dsimp only;omega,by dsimp only;omega,by dsimp only;omega⟩ (by dsimp only;omega) ⟨rfl,rfl,rfl,rfl,congrArg (fun z=>some (Value.int .i64 z)) (by dsimp only;omega),trivial⟩ (by exact fun w h=>h.sub subS)
 ·obtain rfl:a=i:=by omega
  have q2:=nnan_c (nth l (a:Int))
  have q3:=nnan_c x
  repeat' (first|(show YK _ _ _ _ _ _ _;first|refine YK.mk (zcA (q2) ⟨rfl,rfl⟩) ?_|refine YK.mk (zcA (q3) ⟨rfl,rfl⟩) ?_)|(refine nxV ?_)|(refine nSS ?_)|(refine nS1 fun _=>?_)|(refine nMM ?_)|(refine nM1 fun _=>?_)|(show YG _ _ _ _ _ _ _ _;refine YG.mk (fun hb=>by(try(have hc:=And.left hb;have hb:=And.right hb;rw[hc]));(try rw[hb]);first|exact(zcA (q2) ⟨rfl,rfl⟩)|exact(zcA (q3) ⟨rfl,rfl⟩)|exact V.y vAuto) ?_)|(refine nxG ?_)|(refine nxX ?_)|(refine G.cN rfl (fun hc=>?_) (fun hc=>?_)<;>(try first|exact hc.elim|(exfalso;omega))))
  all_goals first
   |(exfalso;omega)
   |exact X.ret (vs:=[_,_]) rfl ⟨rfl,rfl,rfl⟩ rfl (fun w hw=>⟨congrArg (fun z=>Ending.returned (Value.tuple #[.int .i64 (a:Int),.bool z])) (by rw[Bool.or_false]),hw.ext⟩)
theorem srch_ex {pl:List PagT} (hb:BkOk pl) (n:Int):∃i:Nat,i≤(pl.map pnum).length∧(∀k:Nat,k<i→nth (pl.map pnum) (k:Int)<n)∧(∀k:Nat,i≤k→k<(pl.map pnum).length→n≤nth (pl.map pnum) (k:Int)) ∧
  (pgIx pl n=none→¬(i<pl.length∧nth (pl.map pnum) (i:Int)=n))∧∀j,pgIx pl n=some j→i=j∧j<pl.length∧nth (pl.map pnum) (i:Int)=n:=by
 have hn:∀k:Nat,k<pl.length→nth (pl.map pnum) (k:Int)=pnum (nth pl (k:Int)):=fun k hk=>by
  have e1:=nth_some (l:=pl) (m:=(k:Int)) (by omega) (by omega)
  have e2:=nth_some (l:=pl.map pnum) (m:=(k:Int)) (by omega) (by rw[List.length_map];omega)
  rw[Int.toNat_natCast] at e1 e2
  rw[List.getElem?_map,e1] at e2
  exact(Option.some.inj e2).symm
 have hlen:(pl.map pnum).length=pl.length:=List.length_map _
 -- the first day that is not earlier
 have key:∀d:Nat,d≤pl.length→∃i:Nat,i≤d∧(∀k:Nat,k<i→pnum (nth pl (k:Int))<n)∧(∀k:Nat,i≤k→k<d→n≤pnum (nth pl (k:Int))):=fun d=>by
  induction d with
  |zero=>exact fun _=>⟨0,Nat.le_refl _,fun k hk=>by omega,fun k _ hk=>by omega⟩
  |succ d ih =>
   intro hd
   obtain⟨i,i1,i2,i3⟩:=ih (by omega)
   by_cases c:pnum (nth pl (d:Int))<n
   ·refine⟨d+1,Nat.le_refl _,fun k hk=>?_,fun k h1 h2=>by omega⟩
    rcases Nat.lt_or_ge k d with h|h
    ·have:=hb.up k d h (by omega)
     omega
    ·rw[show k=d by omega];exact c
   ·refine⟨i,by omega,i2,fun k h1 h2=>?_⟩
    rcases Nat.lt_or_ge k d with h|h
    ·exact i3 k h1 h
    ·rw[show k=d by omega];omega
 obtain⟨i,i1,i2,i3⟩:=key pl.length (Nat.le_refl _)
 refine⟨i,by omega,fun k hk=>by rw[hn k (by omega)];exact i2 k hk,fun k h1 h2=>by rw[hn k (by omega)];exact i3 k h1 (by omega),fun hno=>?_,fun j hj=>?_⟩
 ·rintro⟨h1,h2⟩
  rw[hn i h1] at h2
  unfold pgIx at hno
  have:=List.find?_eq_none.1 hno i (List.mem_range.2 h1)
  exact this (decide_eq_true h2)
 ·obtain⟨h1,h2⟩:=pgIx_some hj
  have e:i=j:=by
   rcases Nat.lt_trichotomy i j with c|c|c
   ·have:=hb.up i j c h1
    have:=i3 i (Nat.le_refl _) (by omega)
    omega
   ·exact c
   ·have:=i2 j c
    omega
  subst e
  exact⟨rfl,h1,(hn i h1).trans h2⟩
theorem page0_built:Tryz.prog.built 32 []=some [.int .i64 0,.int .i64 0,.int .i64 0,.slice none 0 0].toArray:=by kernel_rfl
abbrev ptB (b:Nat):Value:=.pointer (some ⟨b,0,none⟩)
section
variable {b:Nat} {dv pv:Sl} {pl:List PagT}
def pagR (pl:List PagT) (n:Int):Value:=match pgIx pl n with
 |none=>.tuple [pgV 0 0 0 (.slice none 0 0),.bool false].toArray
 |some i=>.tuple [pagV (nth pl (i:Int)),.bool true].toArray
theorem npage_c (hb:BkOk pl) (n:Int):ContIn Tryz.prog (BkW b dv pv pl) 152 [ptB b,.int .i64 n] (pagR pl n):=fun w hw0=>by
 have hcl:=hw0.cell
 have hlen:pl.length≤4:=hb.len
 obtain⟨i,i1,i2,i3,i4,i5⟩:=srch_ex hb n
 have q1:=nsrch_c (v:=dv.v) (x:=n) (by rw[List.length_map];omega) i1 i2 i3
 have hml:(pl.map pnum).length=pl.length:=List.length_map _
 unfold pagR
 cases hix:pgIx pl n with
 |none =>
  have hf:=i4 hix
  have e:(decide ((i:Int)<(pl.map pnum).length)&&decide (nth (pl.map pnum) (i:Int)=n))=false:=by
   rw[Bool.eq_false_iff]
   intro h
   rw[Bool.and_eq_true,decide_eq_true_eq,decide_eq_true_eq] at h
   exact hf ⟨by omega,h.2⟩
  rw[e] at q1
  clear i2 i3 i4 i5 e hf
  generalize hd:pl.map pnum=dl at *
  refine enter Tryz.func152 rfl rfl rfl (Hp:=[Hl.rd dv.v cI 1 dl,Hl.rd pv.v cPg 4 pl]) (fun h hm=>by
   rcases List.mem_cons.1 hm with rfl|hm
   ·exact⟨⟨by have:=hw0.dy;rw[hd,←hml] at this;exact this,fun h=>by cases h⟩,rfl⟩
   rcases List.mem_singleton.1 hm with rfl
   exact⟨⟨hw0.pg.1,fun h=>by cases h⟩,rfl⟩) ?_
  repeat' (first|(refine nxN ?_)|(show VK _ _ _ _ _ ⟨_,.load 73 _,_,_,_,_⟩ _;refine VK.mk (y_loadX (by rfl) (hcl _ _ (by rfl)) (by decide +kernel)) ?_)|(show YK _ _ _ _ _ ⟨_,.load 73 _,_,_,_,_⟩ _;refine YK.ofV (y_loadX (by rfl) (hcl _ _ (by rfl)) (by decide +kernel)) ?_)|(show VG _ _ _ _ _ _ ⟨_,.load 73 _,_,_,_,_⟩ _;refine VG.mk (fun hb=>by(try(have hc:=And.left hb;have hb:=And.right hb;rw[hc]));(try rw[hb]);exact y_loadX (by rfl) (hcl _ _ (by rfl)) (by decide +kernel)) ?_)|(show YG _ _ _ _ _ _ ⟨_,.load 73 _,_,_,_,_⟩ _;refine YG.mk (fun hb=>by(try(have hc:=And.left hb;have hb:=And.right hb;rw[hc]));(try rw[hb]);exact V.y (y_loadX (by rfl) (hcl _ _ (by rfl)) (by decide +kernel))) ?_)|(show VK _ _ _ _ _ ⟨_,.load 22 _,_,_,_,_⟩ _;refine VK.mk (y_loadX (by rfl) (hcl _ _ (by rfl)) (by decide +kernel)) ?_)|(show YK _ _ _ _ _ ⟨_,.load 22 _,_,_,_,_⟩ _;refine YK.ofV (y_loadX (by rfl) (hcl _ _ (by rfl)) (by decide +kernel)) ?_)|(show VG _ _ _ _ _ _ ⟨_,.load 22 _,_,_,_,_⟩ _;refine VG.mk (fun hb=>by(try(have hc:=And.left hb;have hb:=And.right hb;rw[hc]));(try rw[hb]);exact y_loadX (by rfl) (hcl _ _ (by rfl)) (by decide +kernel)) ?_)|(show YG _ _ _ _ _ _ ⟨_,.load 22 _,_,_,_,_⟩ _;refine YG.mk (fun hb=>by(try(have hc:=And.left hb;have hb:=And.right hb;rw[hc]));(try rw[hb]);exact V.y (y_loadX (by rfl) (hcl _ _ (by rfl)) (by decide +kernel))) ?_)|(show VK _ _ _ _ _ ⟨_,.build 32 #[],_,_,_,_⟩ _;refine VK.mk (y_build (parts:=[]) (vs:=[]) rfl (page0_built)) ?_)|(show YK _ _ _ _ _ ⟨_,.build 32 #[],_,_,_,_⟩ _;refine YK.ofV (y_build (parts:=[]) (vs:=[]) rfl (page0_built)) ?_)|(show VG _ _ _ _ _ _ ⟨_,.build 32 #[],_,_,_,_⟩ _;refine VG.mk (fun hb=>by(try(have hc:=And.left hb;have hb:=And.right hb;rw[hc]));(try rw[hb]);exact y_build (parts:=[]) (vs:=[]) rfl (page0_built)) ?_)|(show YG _ _ _ _ _ _ ⟨_,.build 32 #[],_,_,_,_⟩ _;refine YG.mk (fun hb=>by(try(have hc:=And.left hb;have hb:=And.right hb;rw[hc]));(try rw[hb]);exact V.y (y_build (parts:=[]) (vs:=[]) rfl (page0_built))) ?_)|(show YK _ _ _ _ _ _ _;first|refine YK.mk (zcR (q1) ⟨rfl,rfl,rfl⟩) ?_)|(refine nxV ?_)|(refine nSS ?_)|(refine nS1 fun _=>?_)|(refine nMM ?_)|(refine nM1 fun _=>?_)|(show YG _ _ _ _ _ _ _ _;refine YG.mk (fun hb=>by(try(have hc:=And.left hb;have hb:=And.right hb;rw[hc]));(try rw[hb]);first|exact(zcR (q1) ⟨rfl,rfl,rfl⟩)|exact V.y vAuto) ?_)|(refine nxG ?_)|(refine nxX ?_)|(refine G.cN rfl (fun hc=>?_) (fun hc=>?_)<;>(try first|exact hc.elim|(exfalso;omega))))
  all_goals first
   |(exfalso;simp at hc;done)
   |exact X.ret (vs:=[_,_]) rfl ⟨⟨_,_,_,_,rfl,(by exact memA),lenA,by decide +kernel,rfl⟩,rfl,rfl⟩ rfl rE
 |some j =>
  obtain⟨rfl,hj,he⟩:=i5 j hix
  rw[decide_eq_true (by omega),decide_eq_true he] at q1
  clear i2 i3 i4 i5 he
  dsimp only
  generalize hd:pl.map pnum=dl at *
  refine enter Tryz.func152 rfl rfl rfl (Hp:=[Hl.rd dv.v cI 1 dl,Hl.rd pv.v cPg 4 pl]) (fun h hm=>by
   rcases List.mem_cons.1 hm with rfl|hm
   ·exact⟨⟨by have:=hw0.dy;rw[hd,←hml] at this;exact this,fun h=>by cases h⟩,rfl⟩
   rcases List.mem_singleton.1 hm with rfl
   exact⟨⟨hw0.pg.1,fun h=>by cases h⟩,rfl⟩) ?_
  repeat' (first|(refine nxN ?_)|(show VK _ _ _ _ _ ⟨_,.load 73 _,_,_,_,_⟩ _;refine VK.mk (y_loadX (by rfl) (hcl _ _ (by rfl)) (by decide +kernel)) ?_)|(show YK _ _ _ _ _ ⟨_,.load 73 _,_,_,_,_⟩ _;refine YK.ofV (y_loadX (by rfl) (hcl _ _ (by rfl)) (by decide +kernel)) ?_)|(show VG _ _ _ _ _ _ ⟨_,.load 73 _,_,_,_,_⟩ _;refine VG.mk (fun hb=>by(try(have hc:=And.left hb;have hb:=And.right hb;rw[hc]));(try rw[hb]);exact y_loadX (by rfl) (hcl _ _ (by rfl)) (by decide +kernel)) ?_)|(show YG _ _ _ _ _ _ ⟨_,.load 73 _,_,_,_,_⟩ _;refine YG.mk (fun hb=>by(try(have hc:=And.left hb;have hb:=And.right hb;rw[hc]));(try rw[hb]);exact V.y (y_loadX (by rfl) (hcl _ _ (by rfl)) (by decide +kernel))) ?_)|(show VK _ _ _ _ _ ⟨_,.load 22 _,_,_,_,_⟩ _;refine VK.mk (y_loadX (by rfl) (hcl _ _ (by rfl)) (by decide +kernel)) ?_)|(show YK _ _ _ _ _ ⟨_,.load 22 _,_,_,_,_⟩ _;refine YK.ofV (y_loadX (by rfl) (hcl _ _ (by rfl)) (by decide +kernel)) ?_)|(show VG _ _ _ _ _ _ ⟨_,.load 22 _,_,_,_,_⟩ _;refine VG.mk (fun hb=>by(try(have hc:=And.left hb;have hb:=And.right hb;rw[hc]));(try rw[hb]);exact y_loadX (by rfl) (hcl _ _ (by rfl)) (by decide +kernel)) ?_)|(show YG _ _ _ _ _ _ ⟨_,.load 22 _,_,_,_,_⟩ _;refine YG.mk (fun hb=>by(try(have hc:=And.left hb;have hb:=And.right hb;rw[hc]));(try rw[hb]);exact V.y (y_loadX (by rfl) (hcl _ _ (by rfl)) (by decide +kernel))) ?_)|(show YK _ _ _ _ _ _ _;first|refine YK.mk (zcR (q1) ⟨rfl,rfl,rfl⟩) ?_)|(refine nxV ?_)|(refine nSS ?_)|(refine nS1 fun _=>?_)|(refine nMM ?_)|(refine nM1 fun _=>?_)|(show YG _ _ _ _ _ _ _ _;refine YG.mk (fun hb=>by(try(have hc:=And.left hb;have hb:=And.right hb;rw[hc]));(try rw[hb]);first|exact(zcR (q1) ⟨rfl,rfl,rfl⟩)|exact V.y vAuto) ?_)|(refine nxG ?_)|(refine nxX ?_)|(refine G.cN rfl (fun hc=>?_) (fun hc=>?_)<;>(try first|exact hc.elim|(exfalso;omega))))
  all_goals first
   |(exfalso;simp at hc;done)
   |exact X.ret (vs:=[_,_]) rfl ⟨⟨_,_,_,_,rfl,(by exact memA),lenA,by decide +kernel,rfl⟩,rfl,rfl⟩ rfl rE
end
end Go.Proofs.YtjmdeplmenbmmaaGreat
