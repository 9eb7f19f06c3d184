/- Joined texts: Mee, Meb. -/
import Derived.Test.YtjmdeplmenbmmaaGreatW27
set_option linter.unusedVariables false
set_option maxHeartbeats 8000000
namespace Go.Proofs.YtjmdeplmenbmmaaGreat
open Go.RowKit
theorem pair2_built (a b:Int):Tryz.prog.built 197 [(0,.int .i64 a),(1,.int .i64 b)]=some [.int .i64 a,.int .i64 b].toArray:=by kernel_rfl
theorem signI_id {L:Int} (h : -10800000≤L∧L<10800000):signI L=L:=by
 unfold signI TT.turnI
 split<;>omega
section
variable {L c d:Int}
theorem common_0 (hL : -10800000≤L∧L<10800000) (hc' : -10800000≤c∧c<10800000∧c≤d∧d-c<21600000) (ht:TT.turnI (c-L)=0):ContX Tryz.prog [] 217 [arcV L L,arcV c d] (fun _:Sl=>True) (fun z=>z.v) (fun z=>[Hl.nw z.v cPt 2 [(L,L)]]):=fun w hw0=>by
 have q1:=pall_c (c:=L) (d:=L) (by omega)
 have q2:=pall_c (c:=c) (d:=d) (by omega)
 have q3:=pbey_c (c:=L) (d:=L) (n:=c) (by omega) (by omega)
 rw[ht] at q3
 have q4:=signed_c (n:=L+max 0 0) (by omega)
 have he:((L,L):PtT)=(signI (L+max 0 0),signI (L+max 0 0)+min (L-L) (0+d-c)-max 0 0):=by
  rw[show L+max 0 0=L by omega,signI_id hL]
  exact Prod.ext rfl (by dsimp only;omega)
 rw[he]
 have hs : -10800000≤signI (L+max 0 0)∧signI (L+max 0 0)<10800000:=by rw[show L+max 0 0=L by omega,signI_id hL];omega
 clear he
 refine enter Tryz.func217 rfl rfl rfl hw0 ?_
 repeat' (first|(refine nxN ?_)|(show VK _ _ _ _ _ ⟨_,.build 197 #[(0,_),(1,_)],_,_,_,_⟩ _;refine VK.mk (y_build (parts:=[(0,_),(1,_)]) (vs:=[_,_]) ⟨rfl,rfl,rfl⟩ (pair2_built _ _)) ?_)|(show YK _ _ _ _ _ ⟨_,.build 197 #[(0,_),(1,_)],_,_,_,_⟩ _;refine YK.ofV (y_build (parts:=[(0,_),(1,_)]) (vs:=[_,_]) ⟨rfl,rfl,rfl⟩ (pair2_built _ _)) ?_)|(show VG _ _ _ _ _ _ ⟨_,.build 197 #[(0,_),(1,_)],_,_,_,_⟩ _;refine VG.mk (fun hb=>by(try(have hc:=And.left hb;have hb:=And.right hb;rw[hc]));(try rw[hb]);exact y_build (parts:=[(0,_),(1,_)]) (vs:=[_,_]) ⟨rfl,rfl,rfl⟩ (pair2_built _ _)) ?_)|(show YG _ _ _ _ _ _ ⟨_,.build 197 #[(0,_),(1,_)],_,_,_,_⟩ _;refine YG.mk (fun hb=>by(try(have hc:=And.left hb;have hb:=And.right hb;rw[hc]));(try rw[hb]);exact V.y (y_build (parts:=[(0,_),(1,_)]) (vs:=[_,_]) ⟨rfl,rfl,rfl⟩ (pair2_built _ _))) ?_)|(show VK _ _ _ _ _ ⟨_,.index 197 _ _,_,_,_,_⟩ _;first|refine VK.mk (y_index (i:=0) (l:=2) (cs:=[.int .i64 0,.int .i64 (0-21600000)]) (by rfl) (by rfl) (by rfl) (by rfl) lenA (by decide +kernel)) ?_|refine VK.mk (y_index (i:=1) (l:=2) (cs:=[.int .i64 0,.int .i64 (0-21600000)]) (by rfl) (by rfl) (by rfl) (by rfl) lenA (by decide +kernel)) ?_)|(show YK _ _ _ _ _ ⟨_,.index 197 _ _,_,_,_,_⟩ _;first|refine YK.ofV (y_index (i:=0) (l:=2) (cs:=[.int .i64 0,.int .i64 (0-21600000)]) (by rfl) (by rfl) (by rfl) (by rfl) lenA (by decide +kernel)) ?_|refine YK.ofV (y_index (i:=1) (l:=2) (cs:=[.int .i64 0,.int .i64 (0-21600000)]) (by rfl) (by rfl) (by rfl) (by rfl) lenA (by decide +kernel)) ?_)|(show G _ _ _ _ _ _ (.loop _);refine G.loopN 3 (GR.step ?_))|(show X (Exit.then (Code.rounds _ _ _ _) _) _ _ _ _ .normal;refine X.round (GR.step ?_))|(show RS _ _ _ _ _ _ _ (⟨some 65,.buildSlice 123 1 _,_,_,_,_⟩::_);refine RS.lit1Pt (a:=(signI (L+max 0 0),signI (L+max 0 0)+min (L-L) (0+d-c)-max 0 0)) (fun v'=>?_) (by rfl))|(show YK _ _ _ _ _ _ _;first|refine YK.mk (zcA (q1) ⟨rfl,rfl⟩) ?_|refine YK.mk (zcA (q2) ⟨rfl,rfl⟩) ?_|refine YK.mk (zcA (q3) ⟨rfl,rfl,rfl⟩) ?_|refine YK.mk (zcA (q4) ⟨rfl,rfl⟩) ?_)|(refine nxV ?_)|(refine nSS ?_)|(refine nS1 fun _=>?_)|(refine nMM ?_)|(refine nM1 fun _=>?_)|(show YG _ _ _ _ _ _ _ _;refine YG.mk (fun hb=>by(try(have hc:=And.left hb;have hb:=And.right hb;rw[hc]));(try rw[hb]);first|exact(zcA (q1) ⟨rfl,rfl⟩)|exact(zcA (q2) ⟨rfl,rfl⟩)|exact(zcA (q3) ⟨rfl,rfl,rfl⟩)|exact(zcA (q4) ⟨rfl,rfl⟩)|exact V.y vAuto) ?_)|(refine nxG ?_)|(refine G.mA 6 [.go 0,.go 1,.go 2,.go 4,.go 5,.go 6,.go 10,.go 3,.go 7,.go 8,.go 9] ?_)|(refine G.mA 9 [.go 0,.go 1,.go 2,.go 3,.go 4,.go 5,.go 6,.go 7,.go 8,.go 9,.go 10,.go 11,.go 12,.go 13,.go 14,.go 15,.go 16] ?_)|(refine nxX ?_)|(refine G.cN rfl (fun hc=>?_) (fun hc=>?_)<;>(try first|exact hc.elim|(exfalso;omega))))
 all_goals first
  |(exfalso;simp at hc;done)
  |(exfalso;omega)
  |(exfalso;simp at hc;omega)
  |exact X.retN (vs:=[_]) _ rfl ⟨rfl,rfl⟩ rfl trivial rfl (NewIn.rw (by exact memA) NewIn.nil)
theorem common_1 (hL : -10800000≤L∧L<10800000) (hc' : -10800000≤c∧c<10800000∧c≤d∧d-c<21600000) {t:Int} (ht:TT.turnI (c-L)=t) (ht0:0<t∧t<21600000) (ht1:21600000≤t+(d-c)):ContX Tryz.prog [] 217 [arcV L L,arcV c d] (fun _:Sl=>True) (fun z=>z.v) (fun z=>[Hl.nw z.v cPt 2 [(L,L)]]):=fun w hw0=>by
 have q1:=pall_c (c:=L) (d:=L) (by omega)
 have q2:=pall_c (c:=c) (d:=d) (by omega)
 have q3:=pbey_c (c:=L) (d:=L) (n:=c) (by omega) (by omega)
 rw[ht] at q3
 have q4:=signed_c (n:=L+max 0 (t-21600000)) (by omega)
 have eL:L+max 0 (t-21600000)=L:=by omega
 have he:((L,L):PtT)=(signI (L+max 0 (t-21600000)),signI (L+max 0 (t-21600000))+min (L-L) (t-21600000+d-c)-max 0 (t-21600000)):=by
  rw[eL,signI_id hL]
  exact Prod.ext rfl (by dsimp only;omega)
 rw[he]
 have hs : -10800000≤signI (L+max 0 (t-21600000))∧signI (L+max 0 (t-21600000))<10800000:=by rw[eL,signI_id hL];omega
 clear he ht eL
 refine enter Tryz.func217 rfl rfl rfl hw0 ?_
 repeat' (first|(refine nxN ?_)|(show VK _ _ _ _ _ ⟨_,.build 197 #[(0,_),(1,_)],_,_,_,_⟩ _;refine VK.mk (y_build (parts:=[(0,_),(1,_)]) (vs:=[_,_]) ⟨rfl,rfl,rfl⟩ (pair2_built _ _)) ?_)|(show YK _ _ _ _ _ ⟨_,.build 197 #[(0,_),(1,_)],_,_,_,_⟩ _;refine YK.ofV (y_build (parts:=[(0,_),(1,_)]) (vs:=[_,_]) ⟨rfl,rfl,rfl⟩ (pair2_built _ _)) ?_)|(show VG _ _ _ _ _ _ ⟨_,.build 197 #[(0,_),(1,_)],_,_,_,_⟩ _;refine VG.mk (fun hb=>by(try(have hc:=And.left hb;have hb:=And.right hb;rw[hc]));(try rw[hb]);exact y_build (parts:=[(0,_),(1,_)]) (vs:=[_,_]) ⟨rfl,rfl,rfl⟩ (pair2_built _ _)) ?_)|(show YG _ _ _ _ _ _ ⟨_,.build 197 #[(0,_),(1,_)],_,_,_,_⟩ _;refine YG.mk (fun hb=>by(try(have hc:=And.left hb;have hb:=And.right hb;rw[hc]));(try rw[hb]);exact V.y (y_build (parts:=[(0,_),(1,_)]) (vs:=[_,_]) ⟨rfl,rfl,rfl⟩ (pair2_built _ _))) ?_)|(show VK _ _ _ _ _ ⟨_,.index 197 _ _,_,_,_,_⟩ _;first|refine VK.mk (y_index (i:=0) (l:=2) (cs:=[.int .i64 t,.int .i64 (t-21600000)]) (by rfl) (by rfl) (by rfl) (by rfl) lenA (by decide +kernel)) ?_|refine VK.mk (y_index (i:=1) (l:=2) (cs:=[.int .i64 t,.int .i64 (t-21600000)]) (by rfl) (by rfl) (by rfl) (by rfl) lenA (by decide +kernel)) ?_)|(show YK _ _ _ _ _ ⟨_,.index 197 _ _,_,_,_,_⟩ _;first|refine YK.ofV (y_index (i:=0) (l:=2) (cs:=[.int .i64 t,.int .i64 (t-21600000)]) (by rfl) (by rfl) (by rfl) (by rfl) lenA (by decide +kernel)) ?_|refine YK.ofV (y_index (i:=1) (l:=2) (cs:=[.int .i64 t,.int .i64 (t-21600000)]) (by rfl) (by rfl) (by rfl) (by rfl) lenA (by decide +kernel)) ?_)|(show G _ _ _ _ _ _ (.loop _);refine G.loopN 3 (GR.step ?_))|(show X (Exit.then (Code.rounds _ _ _ _) _) _ _ _ _ .normal;refine X.round (GR.step ?_))|(show RS _ _ _ _ _ _ _ (⟨some 65,.buildSlice 123 1 _,_,_,_,_⟩::_);refine RS.lit1Pt (a:=(signI (L+max 0 (t-21600000)),signI (L+max 0 (t-21600000))+min (L-L) (t-21600000+d-c)-max 0 (t-21600000))) (fun v'=>?_) (by rfl))|(show YK _ _ _ _ _ _ _;first|refine YK.mk (zcA (q1) ⟨rfl,rfl⟩) ?_|refine YK.mk (zcA (q2) ⟨rfl,rfl⟩) ?_|refine YK.mk (zcA (q3) ⟨rfl,rfl,rfl⟩) ?_|refine YK.mk (zcA (q4) ⟨rfl,rfl⟩) ?_)|(refine nxV ?_)|(refine nSS ?_)|(refine nS1 fun _=>?_)|(refine nMM ?_)|(refine nM1 fun _=>?_)|(show YG _ _ _ _ _ _ _ _;refine YG.mk (fun hb=>by(try(have hc:=And.left hb;have hb:=And.right hb;rw[hc]));(try rw[hb]);first|exact(zcA (q1) ⟨rfl,rfl⟩)|exact(zcA (q2) ⟨rfl,rfl⟩)|exact(zcA (q3) ⟨rfl,rfl,rfl⟩)|exact(zcA (q4) ⟨rfl,rfl⟩)|exact V.y vAuto) ?_)|(refine nxG ?_)|(refine G.mA 6 [.go 0,.go 1,.go 2,.go 4,.go 5,.go 6,.go 10,.go 3,.go 7,.go 8,.go 9] ?_)|(refine G.mA 9 [.go 0,.go 1,.go 2,.go 3,.go 4,.go 5,.go 6,.go 7,.go 8,.go 9,.go 10,.go 11,.go 12,.go 13,.go 14,.go 15,.go 16] ?_)|(refine nxX ?_)|(refine G.cN rfl (fun hc=>?_) (fun hc=>?_)<;>(try first|exact hc.elim|(exfalso;omega))))
 all_goals first
  |(exfalso;simp at hc;done)
  |(exfalso;omega)
  |(exfalso;simp at hc;omega)
  |exact X.retN (vs:=[_]) _ rfl ⟨rfl,rfl⟩ rfl trivial rfl (NewIn.rw (by exact memA) NewIn.nil)
theorem common_no (hL : -10800000≤L∧L<10800000) (hc' : -10800000≤c∧c<10800000∧c≤d∧d-c<21600000) {t:Int} (ht:TT.turnI (c-L)=t) (ht0:0<t∧t<21600000) (ht1:t+(d-c)<21600000):Cont Tryz.prog 217 [arcV L L,arcV c d] (.slice none 0 0):=fun w=>by
 have q1:=pall_c (c:=L) (d:=L) (by omega)
 have q2:=pall_c (c:=c) (d:=d) (by omega)
 have q3:=pbey_c (c:=L) (d:=L) (n:=c) (by omega) (by omega)
 rw[ht] at q3
 clear ht
 refine enter0 Tryz.func217 rfl rfl rfl ?_
 repeat' (first|(refine nxN ?_)|(show VK _ _ _ _ _ ⟨_,.build 197 #[(0,_),(1,_)],_,_,_,_⟩ _;refine VK.mk (y_build (parts:=[(0,_),(1,_)]) (vs:=[_,_]) ⟨rfl,rfl,rfl⟩ (pair2_built _ _)) ?_)|(show YK _ _ _ _ _ ⟨_,.build 197 #[(0,_),(1,_)],_,_,_,_⟩ _;refine YK.ofV (y_build (parts:=[(0,_),(1,_)]) (vs:=[_,_]) ⟨rfl,rfl,rfl⟩ (pair2_built _ _)) ?_)|(show VG _ _ _ _ _ _ ⟨_,.build 197 #[(0,_),(1,_)],_,_,_,_⟩ _;refine VG.mk (fun hb=>by(try(have hc:=And.left hb;have hb:=And.right hb;rw[hc]));(try rw[hb]);exact y_build (parts:=[(0,_),(1,_)]) (vs:=[_,_]) ⟨rfl,rfl,rfl⟩ (pair2_built _ _)) ?_)|(show YG _ _ _ _ _ _ ⟨_,.build 197 #[(0,_),(1,_)],_,_,_,_⟩ _;refine YG.mk (fun hb=>by(try(have hc:=And.left hb;have hb:=And.right hb;rw[hc]));(try rw[hb]);exact V.y (y_build (parts:=[(0,_),(1,_)]) (vs:=[_,_]) ⟨rfl,rfl,rfl⟩ (pair2_built _ _))) ?_)|(show VK _ _ _ _ _ ⟨_,.index 197 _ _,_,_,_,_⟩ _;first|refine VK.mk (y_index (i:=0) (l:=2) (cs:=[.int .i64 t,.int .i64 (t-21600000)]) (by rfl) (by rfl) (by rfl) (by rfl) lenA (by decide +kernel)) ?_|refine VK.mk (y_index (i:=1) (l:=2) (cs:=[.int .i64 t,.int .i64 (t-21600000)]) (by rfl) (by rfl) (by rfl) (by rfl) lenA (by decide +kernel)) ?_)|(show YK _ _ _ _ _ ⟨_,.index 197 _ _,_,_,_,_⟩ _;first|refine YK.ofV (y_index (i:=0) (l:=2) (cs:=[.int .i64 t,.int .i64 (t-21600000)]) (by rfl) (by rfl) (by rfl) (by rfl) lenA (by decide +kernel)) ?_|refine YK.ofV (y_index (i:=1) (l:=2) (cs:=[.int .i64 t,.int .i64 (t-21600000)]) (by rfl) (by rfl) (by rfl) (by rfl) lenA (by decide +kernel)) ?_)|(show G _ _ _ _ _ _ (.loop _);refine G.loopN 3 (GR.step ?_))|(show X (Exit.then (Code.rounds _ _ _ _) _) _ _ _ _ .normal;refine X.round (GR.step ?_))|(show YK _ _ _ _ _ _ _;first|refine YK.mk (zcA (q1) ⟨rfl,rfl⟩) ?_|refine YK.mk (zcA (q2) ⟨rfl,rfl⟩) ?_|refine YK.mk (zcA (q3) ⟨rfl,rfl,rfl⟩) ?_)|(refine nxV ?_)|(refine nSS ?_)|(refine nS1 fun _=>?_)|(refine nMM ?_)|(refine nM1 fun _=>?_)|(show YG _ _ _ _ _ _ _ _;refine YG.mk (fun hb=>by(try(have hc:=And.left hb;have hb:=And.right hb;rw[hc]));(try rw[hb]);first|exact(zcA (q1) ⟨rfl,rfl⟩)|exact(zcA (q2) ⟨rfl,rfl⟩)|exact(zcA (q3) ⟨rfl,rfl,rfl⟩)|exact V.y vAuto) ?_)|(refine nxG ?_)|(refine G.mA 6 [.go 0,.go 1,.go 2,.go 4,.go 5,.go 6,.go 10,.go 3,.go 7,.go 8,.go 9] ?_)|(refine G.mA 9 [.go 0,.go 1,.go 2,.go 3,.go 4,.go 5,.go 6,.go 7,.go 8,.go 9,.go 10,.go 11,.go 12,.go 13,.go 14,.go 15,.go 16] ?_)|(refine nxX ?_)|(refine G.cN rfl (fun hc=>?_) (fun hc=>?_)<;>(try first|exact hc.elim|(exfalso;omega))))
 all_goals first
  |(exfalso;simp at hc;done)
  |(exfalso;omega)
  |(exfalso;simp at hc;omega)
  |exact X.ret1
theorem paround1_c (hL : -10800000≤L∧L<10800000) {v:Value} : ContR Tryz.prog [Hl.rd v cPt 2 [(L,L)]] 218 [v] (arcV L L):=fun w hw0=>by
 have l1:(([((L,L):PtT)].length:Nat):Int)=1:=rfl
 have n1:(nth [((L,L):PtT)] 0).1=L:=rfl
 have n2:(nth [((L,L):PtT)] 0).2=L:=rfl
 have q0:=pev_c
 have q1:=pall_c (c:=L) (d:=L) (by omega)
 have q2:=pbey_c (c:=L) (d:=L) (n:=L) (by omega) (by omega)
 have e0:TT.turnI (L-L)=0:=by unfold TT.turnI;omega
 rw[e0] at q2
 refine enter Tryz.func218 rfl rfl rfl hw0 ?_
 repeat' (first|(refine nxN ?_)|(show G _ _ _ _ _ _ (.loop _);refine G.loopN 2 (GR.step ?_))|(show X (Exit.then (Code.rounds _ _ _ _) _) _ _ _ _ .normal;refine X.round (GR.step ?_))|(show YK _ _ _ _ _ _ _;first|refine YK.mk (zcA (q0) rfl) ?_|refine YK.mk (zcA (q1) ⟨rfl,rfl⟩) ?_|refine YK.mk (zcA (q2) ⟨rfl,rfl,rfl⟩) ?_)|(refine nxV ?_)|(refine nSS ?_)|(refine nS1 fun _=>?_)|(refine nMM ?_)|(refine nM1 fun _=>?_)|(show YG _ _ _ _ _ _ _ _;refine YG.mk (fun hb=>by(try(have hc:=And.left hb;have hb:=And.right hb;rw[hc]));(try rw[hb]);first|exact(zcA (q0) rfl)|exact(zcA (q1) ⟨rfl,rfl⟩)|exact(zcA (q2) ⟨rfl,rfl,rfl⟩)|exact V.y vAuto) ?_)|(refine nxG ?_)|(refine G.mA 12 [.go 0,.go 1,.go 2,.go 3,.go 5,.go 6,.go 8,.go 9,.go 4,.go 7,.go 10,.go 11,.go 12] ?_)|(refine nxX ?_)|(refine G.cN rfl (fun hc=>?_) (fun hc=>?_)<;>(try first|exact hc.elim|(exfalso;omega))))
 all_goals first
  |(exfalso;simp at hc;done)
  |(exfalso;omega)
  |(exfalso;simp at hc;omega)
  |(refine X.ret (vs:=[_]) rfl ⟨⟨_,_,_,_,rfl,(by exact memA),lenA,by decide +kernel,rfl⟩,rfl⟩ rfl (fun w hw=>⟨?_,hw.ext⟩);exact congrArg Ending.returned (arcV_eq (by omega) (by omega)))
end
def hitB (L c d:Int):Bool:=decide (TT.turnI (c-L)=0)||decide (21600000≤TT.turnI (c-L)+(d-c))
theorem common_c {L c d:Int} (hL : -10800000≤L∧L<10800000) (hc' : -10800000≤c∧c<10800000∧c≤d∧d-c<21600000) (hh:hitB L c d=true):ContX Tryz.prog [] 217 [arcV L L,arcV c d] (fun _:Sl=>True) (fun z=>z.v) (fun z=>[Hl.nw z.v cPt 2 [(L,L)]]):=by
 unfold hitB at hh
 simp only[Bool.or_eq_true,decide_eq_true_eq] at hh
 by_cases h0:TT.turnI (c-L)=0
 ·exact common_0 hL hc' h0
 ·have hb:0≤TT.turnI (c-L)∧TT.turnI (c-L)<21600000:=by unfold TT.turnI;omega
  exact common_1 hL hc' rfl (by omega) (by omega)
theorem common_n {L c d:Int} (hL : -10800000≤L∧L<10800000) (hc' : -10800000≤c∧c<10800000∧c≤d∧d-c<21600000) (hh:hitB L c d=false):Cont Tryz.prog 217 [arcV L L,arcV c d] (.slice none 0 0):=by
 unfold hitB at hh
 simp only[Bool.or_eq_false_iff,decide_eq_false_iff_not] at hh
 have hb:0≤TT.turnI (c-L)∧TT.turnI (c-L)<21600000:=by unfold TT.turnI;omega
 exact common_no hL hc' rfl (by omega) (by omega)
section
variable {P L a b c d:Int}
theorem meet_yes (hP : -5400000≤P∧P≤5400000) (hL : -10800000≤L∧L<10800000) (ha : -5400000≤a∧a≤b∧b≤5400000) (hc' : -10800000≤c∧c<10800000∧c≤d∧d-c<21600000) (hh:hitB L c d=true) (hp:a≤P∧P≤b):Cont Tryz.prog 178 [v4 P P L L,v4 a b c d] (.tuple [v4 (max P a) (min P b) L L,.int .i64 0].toArray):=fun w=>by
 have q1:=pval2_c (a:=P) (b:=P) (c:=L) (d:=L) (by omega) (Or.inr (by omega))
 have q2:=pval2_c (a:=a) (b:=b) (c:=c) (d:=d) ha (Or.inr hc')
 have q3:=common_c hL hc' hh
 have q4:=fun v=>paround1_c (L:=L) hL (v:=v)
 have l1:(([((L,L):PtT)].length:Nat):Int)=1:=rfl
 clear hh
 refine enter0 Tryz.func178 rfl rfl rfl ?_
 repeat' (first|(refine nxN ?_)|(show RS _ _ _ _ _ _ _ (⟨some 36,.call _,_,_,_,_⟩::_);refine RS.callX (q3) ⟨rfl,rfl,rfl⟩ ?_;rintro z1 -;dsimp only[List.cons_append,List.nil_append])|(show VK _ _ _ _ _ ⟨_,.load 42 _,_,_,_,_⟩ _;refine VK.mk (zlP (k:=2) (by rfl) (by exact memA) (by decide +kernel) (by rfl)) ?_)|(show YK _ _ _ _ _ ⟨_,.load 42 _,_,_,_,_⟩ _;refine YK.ofV (zlP (k:=2) (by rfl) (by exact memA) (by decide +kernel) (by rfl)) ?_)|(show VG _ _ _ _ _ _ ⟨_,.load 42 _,_,_,_,_⟩ _;refine VG.mk (fun hb=>by(try(have hc:=And.left hb;have hb:=And.right hb;rw[hc]));(try rw[hb]);exact zlP (k:=2) (by rfl) (by exact memA) (by decide +kernel) (by rfl)) ?_)|(show YG _ _ _ _ _ _ ⟨_,.load 42 _,_,_,_,_⟩ _;refine YG.mk (fun hb=>by(try(have hc:=And.left hb;have hb:=And.right hb;rw[hc]));(try rw[hb]);exact V.y (zlP (k:=2) (by rfl) (by exact memA) (by decide +kernel) (by rfl))) ?_)|(show VK _ _ _ _ _ ⟨_,.build 63 #[(0,_),(1,_)],_,_,_,_⟩ _;refine VK.mk (y_build (parts:=[(0,_),(1,_)]) (vs:=[_,_]) ⟨rfl,rfl,rfl⟩ (place_built _ _ _ _)) ?_)|(show YK _ _ _ _ _ ⟨_,.build 63 #[(0,_),(1,_)],_,_,_,_⟩ _;refine YK.ofV (y_build (parts:=[(0,_),(1,_)]) (vs:=[_,_]) ⟨rfl,rfl,rfl⟩ (place_built _ _ _ _)) ?_)|(show VG _ _ _ _ _ _ ⟨_,.build 63 #[(0,_),(1,_)],_,_,_,_⟩ _;refine VG.mk (fun hb=>by(try(have hc:=And.left hb;have hb:=And.right hb;rw[hc]));(try rw[hb]);exact y_build (parts:=[(0,_),(1,_)]) (vs:=[_,_]) ⟨rfl,rfl,rfl⟩ (place_built _ _ _ _)) ?_)|(show YG _ _ _ _ _ _ ⟨_,.build 63 #[(0,_),(1,_)],_,_,_,_⟩ _;refine YG.mk (fun hb=>by(try(have hc:=And.left hb;have hb:=And.right hb;rw[hc]));(try rw[hb]);exact V.y (y_build (parts:=[(0,_),(1,_)]) (vs:=[_,_]) ⟨rfl,rfl,rfl⟩ (place_built _ _ _ _))) ?_)|(refine G.mixedM 7 [.go 0,.go 1,.go 2,.go 3,.go 4,.go 5] [true,true,false,true,true,true] ?_;dsimp only[maskH])|(show YK _ _ _ _ _ _ _;first|refine YK.mk (zcA (q1) ⟨rfl,rfl⟩) ?_|refine YK.mk (zcA (q2) ⟨rfl,rfl⟩) ?_|refine YK.mk (zcR (q4 z1.v) ⟨rfl,rfl⟩) ?_)|(refine nxV ?_)|(refine nSS ?_)|(refine nS1 fun _=>?_)|(refine nMM ?_)|(refine nM1 fun _=>?_)|(show YG _ _ _ _ _ _ _ _;refine YG.mk (fun hb=>by(try(have hc:=And.left hb;have hb:=And.right hb;rw[hc]));(try rw[hb]);first|exact(zcA (q1) ⟨rfl,rfl⟩)|exact(zcA (q2) ⟨rfl,rfl⟩)|exact(zcR (q4 z1.v) ⟨rfl,rfl⟩)|exact V.y vAuto) ?_)|(refine nxG ?_)|(refine nxX ?_)|(refine G.cN rfl (fun hc=>?_) (fun hc=>?_)<;>(try first|exact hc.elim|(exfalso;omega))))
 all_goals first
  |(exfalso;simp at hc;done)
  |(exfalso;omega)
  |(exfalso;simp at hc;omega)
  |exact X.ret (vs:=[_,_]) rfl ⟨⟨_,_,_,_,rfl,(by exact memA),lenA,by decide +kernel,rfl⟩,rfl,rfl⟩ rfl rE
theorem meet_no (hP : -5400000≤P∧P≤5400000) (hL : -10800000≤L∧L<10800000) (ha : -5400000≤a∧a≤b∧b≤5400000) (hc' : -10800000≤c∧c<10800000∧c≤d∧d-c<21600000) (hp:¬(a≤P∧P≤b)):Cont Tryz.prog 178 [v4 P P L L,v4 a b c d] (.tuple [v4 0 0 0 0,.int .i64 23].toArray):=fun w=>by
 have q1:=pval2_c (a:=P) (b:=P) (c:=L) (d:=L) (by omega) (Or.inr (by omega))
 have q2:=pval2_c (a:=a) (b:=b) (c:=c) (d:=d) ha (Or.inr hc')
 cases hh:hitB L c d with
 |true =>
  have q3:=common_c hL hc' hh
  have l1:(([((L,L):PtT)].length:Nat):Int)=1:=rfl
  clear hh
  refine enter0 Tryz.func178 rfl rfl rfl ?_
  repeat' (first|(refine nxN ?_)|(show RS _ _ _ _ _ _ _ (⟨some 36,.call _,_,_,_,_⟩::_);refine RS.callX (q3) ⟨rfl,rfl,rfl⟩ ?_;rintro z1 -;dsimp only[List.cons_append,List.nil_append])|(show VK _ _ _ _ _ ⟨_,.load 42 _,_,_,_,_⟩ _;refine VK.mk (zlP (k:=2) (by rfl) (by exact memA) (by decide +kernel) (by rfl)) ?_)|(show YK _ _ _ _ _ ⟨_,.load 42 _,_,_,_,_⟩ _;refine YK.ofV (zlP (k:=2) (by rfl) (by exact memA) (by decide +kernel) (by rfl)) ?_)|(show VG _ _ _ _ _ _ ⟨_,.load 42 _,_,_,_,_⟩ _;refine VG.mk (fun hb=>by(try(have hc:=And.left hb;have hb:=And.right hb;rw[hc]));(try rw[hb]);exact zlP (k:=2) (by rfl) (by exact memA) (by decide +kernel) (by rfl)) ?_)|(show YG _ _ _ _ _ _ ⟨_,.load 42 _,_,_,_,_⟩ _;refine YG.mk (fun hb=>by(try(have hc:=And.left hb;have hb:=And.right hb;rw[hc]));(try rw[hb]);exact V.y (zlP (k:=2) (by rfl) (by exact memA) (by decide +kernel) (by rfl))) ?_)|(show VK _ _ _ _ _ ⟨_,.build 63 #[],_,_,_,_⟩ _;refine VK.mk (y_build (parts:=[]) (vs:=[]) rfl (pl0_built)) ?_)|(show YK _ _ _ _ _ ⟨_,.build 63 #[],_,_,_,_⟩ _;refine YK.ofV (y_build (parts:=[]) (vs:=[]) rfl (pl0_built)) ?_)|(show VG _ _ _ _ _ _ ⟨_,.build 63 #[],_,_,_,_⟩ _;refine VG.mk (fun hb=>by(try(have hc:=And.left hb;have hb:=And.right hb;rw[hc]));(try rw[hb]);exact y_build (parts:=[]) (vs:=[]) rfl (pl0_built)) ?_)|(show YG _ _ _ _ _ _ ⟨_,.build 63 #[],_,_,_,_⟩ _;refine YG.mk (fun hb=>by(try(have hc:=And.left hb;have hb:=And.right hb;rw[hc]));(try rw[hb]);exact V.y (y_build (parts:=[]) (vs:=[]) rfl (pl0_built))) ?_)|(show YK _ _ _ _ _ _ _;first|refine YK.mk (zcA (q1) ⟨rfl,rfl⟩) ?_|refine YK.mk (zcA (q2) ⟨rfl,rfl⟩) ?_)|(refine nxV ?_)|(refine nSS ?_)|(refine nS1 fun _=>?_)|(refine nMM ?_)|(refine nM1 fun _=>?_)|(show YG _ _ _ _ _ _ _ _;refine YG.mk (fun hb=>by(try(have hc:=And.left hb;have hb:=And.right hb;rw[hc]));(try rw[hb]);first|exact(zcA (q1) ⟨rfl,rfl⟩)|exact(zcA (q2) ⟨rfl,rfl⟩)|exact V.y vAuto) ?_)|(refine nxG ?_)|(refine G.mA 7 [.go 0,.go 1,.go 2,.go 3,.go 4,.go 5] ?_)|(refine nxX ?_)|(refine G.cN rfl (fun hc=>?_) (fun hc=>?_)<;>(try first|exact hc.elim|(exfalso;omega))))
  all_goals first
   |(exfalso;simp at hc;done)
   |(exfalso;omega)
   |(exfalso;simp at hc;omega)
   |exact X.ret (vs:=[_,_]) rfl ⟨⟨_,_,_,_,rfl,(by exact memA),lenA,by decide +kernel,rfl⟩,rfl,rfl⟩ rfl rE
 |false =>
  have q3:=common_n hL hc' hh
  clear hh
  refine enter0 Tryz.func178 rfl rfl rfl ?_
  repeat' (first|(refine nxN ?_)|(show VK _ _ _ _ _ ⟨_,.call { callee:=.builtin .len,args:=_,argTypes:=#[123] },_,_,_,_⟩ _;refine VK.mk (y_lenV (by rfl) (by decide +kernel)) ?_)|(show YK _ _ _ _ _ ⟨_,.call { callee:=.builtin .len,args:=_,argTypes:=#[123] },_,_,_,_⟩ _;refine YK.ofV (y_lenV (by rfl) (by decide +kernel)) ?_)|(show VG _ _ _ _ _ _ ⟨_,.call { callee:=.builtin .len,args:=_,argTypes:=#[123] },_,_,_,_⟩ _;refine VG.mk (fun hb=>by(try(have hc:=And.left hb;have hb:=And.right hb;rw[hc]));(try rw[hb]);exact y_lenV (by rfl) (by decide +kernel)) ?_)|(show YG _ _ _ _ _ _ ⟨_,.call { callee:=.builtin .len,args:=_,argTypes:=#[123] },_,_,_,_⟩ _;refine YG.mk (fun hb=>by(try(have hc:=And.left hb;have hb:=And.right hb;rw[hc]));(try rw[hb]);exact V.y (y_lenV (by rfl) (by decide +kernel))) ?_)|(show VK _ _ _ _ _ ⟨_,.load 42 _,_,_,_,_⟩ _;refine VK.mk (zlP (k:=2) (by rfl) (by exact memA) (by decide +kernel) (by rfl)) ?_)|(show YK _ _ _ _ _ ⟨_,.load 42 _,_,_,_,_⟩ _;refine YK.ofV (zlP (k:=2) (by rfl) (by exact memA) (by decide +kernel) (by rfl)) ?_)|(show VG _ _ _ _ _ _ ⟨_,.load 42 _,_,_,_,_⟩ _;refine VG.mk (fun hb=>by(try(have hc:=And.left hb;have hb:=And.right hb;rw[hc]));(try rw[hb]);exact zlP (k:=2) (by rfl) (by exact memA) (by decide +kernel) (by rfl)) ?_)|(show YG _ _ _ _ _ _ ⟨_,.load 42 _,_,_,_,_⟩ _;refine YG.mk (fun hb=>by(try(have hc:=And.left hb;have hb:=And.right hb;rw[hc]));(try rw[hb]);exact V.y (zlP (k:=2) (by rfl) (by exact memA) (by decide +kernel) (by rfl))) ?_)|(show VK _ _ _ _ _ ⟨_,.build 63 #[],_,_,_,_⟩ _;refine VK.mk (y_build (parts:=[]) (vs:=[]) rfl (pl0_built)) ?_)|(show YK _ _ _ _ _ ⟨_,.build 63 #[],_,_,_,_⟩ _;refine YK.ofV (y_build (parts:=[]) (vs:=[]) rfl (pl0_built)) ?_)|(show VG _ _ _ _ _ _ ⟨_,.build 63 #[],_,_,_,_⟩ _;refine VG.mk (fun hb=>by(try(have hc:=And.left hb;have hb:=And.right hb;rw[hc]));(try rw[hb]);exact y_build (parts:=[]) (vs:=[]) rfl (pl0_built)) ?_)|(show YG _ _ _ _ _ _ ⟨_,.build 63 #[],_,_,_,_⟩ _;refine YG.mk (fun hb=>by(try(have hc:=And.left hb;have hb:=And.right hb;rw[hc]));(try rw[hb]);exact V.y (y_build (parts:=[]) (vs:=[]) rfl (pl0_built))) ?_)|(show YK _ _ _ _ _ _ _;first|refine YK.mk (zcA (q1) ⟨rfl,rfl⟩) ?_|refine YK.mk (zcA (q2) ⟨rfl,rfl⟩) ?_|refine YK.mk (zcA (q3) ⟨rfl,rfl,rfl⟩) ?_)|(refine nxV ?_)|(refine nSS ?_)|(refine nS1 fun _=>?_)|(refine nMM ?_)|(refine nM1 fun _=>?_)|(show YG _ _ _ _ _ _ _ _;refine YG.mk (fun hb=>by(try(have hc:=And.left hb;have hb:=And.right hb;rw[hc]));(try rw[hb]);first|exact(zcA (q1) ⟨rfl,rfl⟩)|exact(zcA (q2) ⟨rfl,rfl⟩)|exact(zcA (q3) ⟨rfl,rfl,rfl⟩)|exact V.y vAuto) ?_)|(refine nxG ?_)|(refine G.mA 7 [.go 0,.go 1,.go 2,.go 3,.go 4,.go 5] ?_)|(refine nxX ?_)|(refine G.cN rfl (fun hc=>?_) (fun hc=>?_)<;>(try first|exact hc.elim|(exfalso;omega))))
  all_goals first
   |(exfalso;simp at hc;done)
   |(exfalso;omega)
   |(exfalso;simp at hc;omega)
   |exact X.ret (vs:=[_,_]) rfl ⟨⟨_,_,_,_,rfl,(by exact memA),lenA,by decide +kernel,rfl⟩,rfl,rfl⟩ rfl rE
theorem meet_nl (hP : -5400000≤P∧P≤5400000) (hL : -10800000≤L∧L<10800000) (ha : -5400000≤a∧a≤b∧b≤5400000) (hc' : -10800000≤c∧c<10800000∧c≤d∧d-c<21600000) (hh:hitB L c d=false):Cont Tryz.prog 178 [v4 P P L L,v4 a b c d] (.tuple [v4 0 0 0 0,.int .i64 23].toArray):=fun w=>by
 have q1:=pval2_c (a:=P) (b:=P) (c:=L) (d:=L) (by omega) (Or.inr (by omega))
 have q2:=pval2_c (a:=a) (b:=b) (c:=c) (d:=d) ha (Or.inr hc')
 have q3:=common_n hL hc' hh
 clear hh
 refine enter0 Tryz.func178 rfl rfl rfl ?_
 repeat' (first|(refine nxN ?_)|(show VK _ _ _ _ _ ⟨_,.call { callee:=.builtin .len,args:=_,argTypes:=#[123] },_,_,_,_⟩ _;refine VK.mk (y_lenV (by rfl) (by decide +kernel)) ?_)|(show YK _ _ _ _ _ ⟨_,.call { callee:=.builtin .len,args:=_,argTypes:=#[123] },_,_,_,_⟩ _;refine YK.ofV (y_lenV (by rfl) (by decide +kernel)) ?_)|(show VG _ _ _ _ _ _ ⟨_,.call { callee:=.builtin .len,args:=_,argTypes:=#[123] },_,_,_,_⟩ _;refine VG.mk (fun hb=>by(try(have hc:=And.left hb;have hb:=And.right hb;rw[hc]));(try rw[hb]);exact y_lenV (by rfl) (by decide +kernel)) ?_)|(show YG _ _ _ _ _ _ ⟨_,.call { callee:=.builtin .len,args:=_,argTypes:=#[123] },_,_,_,_⟩ _;refine YG.mk (fun hb=>by(try(have hc:=And.left hb;have hb:=And.right hb;rw[hc]));(try rw[hb]);exact V.y (y_lenV (by rfl) (by decide +kernel))) ?_)|(show VK _ _ _ _ _ ⟨_,.load 42 _,_,_,_,_⟩ _;refine VK.mk (zlP (k:=2) (by rfl) (by exact memA) (by decide +kernel) (by rfl)) ?_)|(show YK _ _ _ _ _ ⟨_,.load 42 _,_,_,_,_⟩ _;refine YK.ofV (zlP (k:=2) (by rfl) (by exact memA) (by decide +kernel) (by rfl)) ?_)|(show VG _ _ _ _ _ _ ⟨_,.load 42 _,_,_,_,_⟩ _;refine VG.mk (fun hb=>by(try(have hc:=And.left hb;have hb:=And.right hb;rw[hc]));(try rw[hb]);exact zlP (k:=2) (by rfl) (by exact memA) (by decide +kernel) (by rfl)) ?_)|(show YG _ _ _ _ _ _ ⟨_,.load 42 _,_,_,_,_⟩ _;refine YG.mk (fun hb=>by(try(have hc:=And.left hb;have hb:=And.right hb;rw[hc]));(try rw[hb]);exact V.y (zlP (k:=2) (by rfl) (by exact memA) (by decide +kernel) (by rfl))) ?_)|(show VK _ _ _ _ _ ⟨_,.build 63 #[],_,_,_,_⟩ _;refine VK.mk (y_build (parts:=[]) (vs:=[]) rfl (pl0_built)) ?_)|(show YK _ _ _ _ _ ⟨_,.build 63 #[],_,_,_,_⟩ _;refine YK.ofV (y_build (parts:=[]) (vs:=[]) rfl (pl0_built)) ?_)|(show VG _ _ _ _ _ _ ⟨_,.build 63 #[],_,_,_,_⟩ _;refine VG.mk (fun hb=>by(try(have hc:=And.left hb;have hb:=And.right hb;rw[hc]));(try rw[hb]);exact y_build (parts:=[]) (vs:=[]) rfl (pl0_built)) ?_)|(show YG _ _ _ _ _ _ ⟨_,.build 63 #[],_,_,_,_⟩ _;refine YG.mk (fun hb=>by(try(have hc:=And.left hb;have hb:=And.right hb;rw[hc]));(try rw[hb]);exact V.y (y_build (parts:=[]) (vs:=[]) rfl (pl0_built))) ?_)|(show YK _ _ _ _ _ _ _;first|refine YK.mk (zcA (q1) ⟨rfl,rfl⟩) ?_|refine YK.mk (zcA (q2) ⟨rfl,rfl⟩) ?_|refine YK.mk (zcA (q3) ⟨rfl,rfl,rfl⟩) ?_)|(refine nxV ?_)|(refine nSS ?_)|(refine nS1 fun _=>?_)|(refine nMM ?_)|(refine nM1 fun _=>?_)|(show YG _ _ _ _ _ _ _ _;refine YG.mk (fun hb=>by(try(have hc:=And.left hb;have hb:=And.right hb;rw[hc]));(try rw[hb]);first|exact(zcA (q1) ⟨rfl,rfl⟩)|exact(zcA (q2) ⟨rfl,rfl⟩)|exact(zcA (q3) ⟨rfl,rfl,rfl⟩)|exact V.y vAuto) ?_)|(refine nxG ?_)|(refine G.mA 7 [.go 0,.go 1,.go 2,.go 3,.go 4,.go 5] ?_)|(refine nxX ?_)|(refine G.cN rfl (fun hc=>?_) (fun hc=>?_)<;>(try first|exact hc.elim|(exfalso;omega))))
 all_goals first
  |(exfalso;simp at hc;done)
  |(exfalso;omega)
  |(exfalso;simp at hc;omega)
  |exact X.ret (vs:=[_,_]) rfl ⟨⟨_,_,_,_,rfl,(by exact memA),lenA,by decide +kernel,rfl⟩,rfl,rfl⟩ rfl rE
def mtB (P L a b c d:Int):Bool:=decide (a≤P∧P≤b)&&hitB L c d
theorem rmeets_c (hP : -5400000≤P∧P≤5400000) (hL : -10800000≤L∧L<10800000) (ha : -5400000≤a∧a≤b∧b≤5400000) (hc' : -10800000≤c∧c<10800000∧c≤d∧d-c<21600000):Cont Tryz.prog 130 [v4 P P L L,v4 a b c d] (.bool (mtB P L a b c d)):=by
 have go:∀(e:Int) (p q r s:Int),Cont Tryz.prog 178 [v4 P P L L,v4 a b c d] (.tuple [v4 p q r s,.int .i64 e].toArray)→Cont Tryz.prog 130 [v4 P P L L,v4 a b c d] (.bool (decide (e=0))):=fun e p q r s q1 w=>by
  refine enter0 Tryz.func130 rfl rfl rfl ?_
  repeat' (first|(refine nxN ?_)|(show YK _ _ _ _ _ _ _;first|refine YK.mk (zcA (q1) ⟨rfl,rfl,rfl⟩) ?_)|(refine nxV ?_)|(refine nSS ?_)|(refine nS1 fun _=>?_)|(refine nMM ?_)|(refine nM1 fun _=>?_)|(show YG _ _ _ _ _ _ _ _;refine YG.mk (fun hb=>by(try(have hc:=And.left hb;have hb:=And.right hb;rw[hc]));(try rw[hb]);first|exact(zcA (q1) ⟨rfl,rfl,rfl⟩)|exact V.y vAuto) ?_)|(refine nxG ?_)|(refine nxX ?_)|(refine G.cN rfl (fun hc=>?_) (fun hc=>?_)<;>(try first|exact hc.elim|(exfalso;omega))))
  all_goals exact X.ret1
 unfold mtB
 by_cases hp:a≤P∧P≤b
 ·rw[decide_eq_true hp]
  cases hh:hitB L c d with
  |true=>exact go 0 _ _ _ _ (meet_yes hP hL ha hc' hh hp)
  |false=>exact go 23 _ _ _ _ (meet_nl hP hL ha hc' hh)
 ·rw[decide_eq_false hp]
  exact go 23 _ _ _ _ (meet_no hP hL ha hc' hp)
theorem pins_no (hP : -5400000≤P∧P≤5400000) (hL : -10800000≤L∧L<10800000) (ha : -5400000≤a∧a<b∧b≤5400000) (hc' : -10800000≤c∧c<10800000∧c≤d∧d-c<21600000):Cont Tryz.prog 131 [v4 a b c d,v4 P P L L] (.bool false):=fun w=>by
 have q1:=pval2_c (a:=P) (b:=P) (c:=L) (d:=L) (by omega) (Or.inr (by omega))
 have q2:=pval2_c (a:=a) (b:=b) (c:=c) (d:=d) (by omega) (Or.inr hc')
 refine enter0 Tryz.func131 rfl rfl rfl ?_
 repeat' (first|(refine nxN ?_)|(show VK _ _ _ _ _ ⟨_,.load 42 _,_,_,_,_⟩ _;refine VK.mk (zlP (k:=2) (by rfl) (by exact memA) (by decide +kernel) (by rfl)) ?_)|(show YK _ _ _ _ _ ⟨_,.load 42 _,_,_,_,_⟩ _;refine YK.ofV (zlP (k:=2) (by rfl) (by exact memA) (by decide +kernel) (by rfl)) ?_)|(show VG _ _ _ _ _ _ ⟨_,.load 42 _,_,_,_,_⟩ _;refine VG.mk (fun hb=>by(try(have hc:=And.left hb;have hb:=And.right hb;rw[hc]));(try rw[hb]);exact zlP (k:=2) (by rfl) (by exact memA) (by decide +kernel) (by rfl)) ?_)|(show YG _ _ _ _ _ _ ⟨_,.load 42 _,_,_,_,_⟩ _;refine YG.mk (fun hb=>by(try(have hc:=And.left hb;have hb:=And.right hb;rw[hc]));(try rw[hb]);exact V.y (zlP (k:=2) (by rfl) (by exact memA) (by decide +kernel) (by rfl))) ?_)|(show YG _ _ _ _ _ _ ⟨_,.call { callee:=.value (.func 179),args:=_,argTypes:=_ },_,_,_,_⟩ _;refine YG.mk (v:=.bool false) (fun hb=>by exfalso;simp only[Bool.and_eq_true,decide_eq_true_eq] at hb;omega) ?_)|(show YK _ _ _ _ _ _ _;first|refine YK.mk (zcA (q1) ⟨rfl,rfl⟩) ?_|refine YK.mk (zcA (q2) ⟨rfl,rfl⟩) ?_)|(refine nxV ?_)|(refine nSS ?_)|(refine nS1 fun _=>?_)|(refine nMM ?_)|(refine nM1 fun _=>?_)|(show YG _ _ _ _ _ _ _ _;refine YG.mk (fun hb=>by(try(have hc:=And.left hb;have hb:=And.right hb;rw[hc]));(try rw[hb]);first|exact(zcA (q1) ⟨rfl,rfl⟩)|exact(zcA (q2) ⟨rfl,rfl⟩)|exact V.y vAuto) ?_)|(refine nxG ?_)|(refine nxX ?_)|(refine G.cN rfl (fun hc=>?_) (fun hc=>?_)<;>(try first|exact hc.elim|(exfalso;omega))))
 all_goals exact X.ret (vs:=[_]) rfl ⟨rfl,rfl⟩ rfl (fun w hw=>⟨ret_bool (by first|(simp;done)|(simp;omega)),hw.ext⟩)
end
end Go.Proofs.YtjmdeplmenbmmaaGreat
