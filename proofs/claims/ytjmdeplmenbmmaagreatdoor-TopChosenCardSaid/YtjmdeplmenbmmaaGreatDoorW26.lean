/- Joined texts: R6, Rrg, Rr2, Rr3. -/
import Derived.Test.YtjmdeplmenbmmaaGreatDoorW25
import Derived.Test.YtjmdeplmenbmmaaGreatDoorW09
set_option linter.unusedVariables false
set_option maxHeartbeats 8000000
namespace Go.Proofs.YtjmdeplmenbmmaaGreatDoor
open Go.RowKit
theorem r39sure_c {k:CirT} (hk:CirOk k) {x:RR.CellT} (ok:RR.okC x):Cont Tryz.prog 241 [ctV x,krV k] (.bool (surB k x)):=fun w=>by
 have hb:=box_ok ok
 have hlon:=lonOk_box ok
 obtain⟨h1,h2,h3⟩:=hk
 have q0:=r38box_c ok
 unfold surB sidE
 generalize bxA x=A at *
 generalize bxB x=B at *
 generalize bxC x=C at *
 generalize bxD x=D at *
 obtain⟨a,b,c,d,r1,r2⟩:=k
 dsimp only at h1 h2 h3 ⊢
 have hl:c≤d∧C≤D∧-10800000≤c∧d≤32400000∧-10800000≤C∧D≤32400000:=by
  unfold lonOk at h2 hlon
  omega
 have q1:=r35tri_c (a:=a) (b:=b) (c:=c) (d:=d) (e:=C) (f:=D) (x:=A) (y:=B) (r1:=r1) (r2:=r2) (by omega) (by omega)
 have q2:=r25sine_c hb.lat h1 (c:=C-d) (d:=D-c) (by omega)
 have q3:=Cos6_c (lo:=r1) (hi:=r2) (by omega) (by omega)
 clear hb hlon hl h1 h2 h3
 generalize sideS (A,B) (a,b) (C-d,D-c)=s at *
 generalize TT.cosE r1 r2=r at *
 dsimp only[krV]
 refine enter0 Tryz.func241 rfl rfl rfl ?_
 repeat' (first|(show YK _ _ _ _ _ ⟨_,.load 34 _,_,_,_,_⟩ _;refine YK.ofV (zlP (k:=2) (by rfl) (by exact memA) (by decide +kernel) (by rfl)) ?_)|(show YK _ _ _ _ _ _ _;first|refine YK.mk (zcA (q0) ⟨rfl,rfl⟩) ?_|refine YK.mk (zcA (q1) ⟨rfl,rfl,rfl⟩) ?_|refine YK.mk (zcA (q2) ⟨rfl,rfl⟩) ?_|refine YK.mk (zcA (q3) ⟨rfl,rfl⟩) ?_)|(refine nxV ?_)|(refine nSS ?_)|(refine nS1 fun _=>?_)|(refine nMM ?_)|(refine nM1 fun _=>?_)|(refine nxG ?_)|(refine G.mA 1 [.go 0,.go 1,.pend 5,.go 2,.go 3,.go 4,.done,.go 6] ?_)|(refine nxX ?_)|done)
 all_goals exact X.ret (vs:=[_]) rfl ⟨rfl,rfl⟩ rfl (fun w hw=>⟨ret_bool rfl,hw.ext⟩)
theorem any_take {α:Type} {p:α→Bool} [Inhabited α] {l:List α} {i:Nat} (hi:i<l.length):(l.take (i+1)).any p=((l.take i).any p||p (nth l (i:Int))):=by
 rw[List.take_succ_eq_append_getElem hi,List.any_append,nth_mem hi]
 simp
theorem any_of {α:Type} {p:α→Bool} [Inhabited α] {l:List α} {i:Nat} (hi:i<l.length) (h:p (nth l (i:Int))=true):l.any p=true:=by
 rw[List.any_eq_true]
 exact⟨_,by rw[nth_mem hi];exact List.getElem_mem hi,h⟩
section
variable {vc:Value} {ks:List CirT} {x:RR.CellT}
theorem r39all_c (hks:∀k∈ks,CirOk k) (hl:ks.length≤1000) (ok:RR.okC x):ContR Tryz.prog [Hl.rd vc cKr 6 ks] 186 [vc,ctV x] (.bool (agrA ks x)):=fun w hw0=>by
 refine enter Tryz.func186 rfl rfl rfl hw0 ?_
 repeat' (first|(refine nxV ?_)|(refine nSS ?_)|(refine nS1 fun _=>?_)|(refine nxX ?_)|done)
 rename_i b3
 refine G.loop (ι:=Nat) (fun i=>[(0,vc),(3,.pointer (some ⟨b3,0,none⟩)),(5,.int .i64 (i:Int))]) (fun _=>[Hl.blk b3 73 [.int .i64 x.lv,.int .i64 x.r,.int .i64 x.c],Hl.rd vc cKr 6 ks]) (fun i=>i≤ks.length∧(ks.take i).any (fun k=>!agrB k x)=false) (fun i=>ks.length-i) 0 ⟨Nat.zero_le _,rfl⟩ ⟨rfl,rfl,rfl,trivial⟩ (by exact fun w h=>h.sub subS) ?_
 rintro i mx ⟨g1,g2⟩ hmx
 (try dsimp only at g1 g2 hmx ⊢)
 rcases Nat.lt_or_ge i ks.length with hi|hi
 ·have hm:nth ks (i:Int)∈ks:=by rw[nth_mem hi];exact List.getElem_mem hi
  have q1:=r39agr_c (hks _ hm) ok
  have e1:=any_take (p:=fun k=>!agrB k x) hi
  have e2:=any_of (p:=fun k=>!agrB k x) hi
  rw[g2,Bool.false_or] at e1
  unfold agrA
  cases hv:agrB (nth ks (i:Int)) x with
  |true =>
   rw[hv] at q1 e1
   repeat' (first|(show YK _ _ _ _ _ _ _;refine YK.mk (zcA (q1) ⟨rfl,rfl,rfl⟩) ?_)|(refine nxV ?_)|(refine nSS ?_)|(refine nMM ?_)|(refine G.mA 4 [.go 0,.go 1,.go 2,.go 3,.go 4,.go 5,.go 6] ?_)|(refine nxX ?_)|(refine G.cN rfl (fun hc=>?_) (fun hc=>?_)<;>(try first|exact hc.elim|(exfalso;omega))))
   all_goals first
    |(exfalso;simp at hc;done)
    |exact X.again (i+1) ⟨by omega,e1⟩ (by omega) ⟨rfl,rfl,rfl,trivial⟩ (by exact fun w h=>h.sub subS)
  |false =>
   rw[hv] at q1 e2
   rw[e2 rfl]
   repeat' (first|(show YK _ _ _ _ _ _ _;refine YK.mk (zcA (q1) ⟨rfl,rfl,rfl⟩) ?_)|(refine nxV ?_)|(refine nSS ?_)|(refine nMM ?_)|(refine G.mA 4 [.go 0,.go 1,.go 2,.go 3,.go 4,.go 5,.go 6] ?_)|(refine nxX ?_)|(refine G.cN rfl (fun hc=>?_) (fun hc=>?_)<;>(try first|exact hc.elim|(exfalso;omega))))
   all_goals first
    |(exfalso;simp at hc;done)
    |exact X.ret1
 ·obtain rfl:i=ks.length:=by omega
  rw[List.take_length] at g2
  unfold agrA
  rw[g2]
  repeat' (first|(refine nxV ?_)|(refine nSS ?_)|(refine nxX ?_)|(refine G.cN rfl (fun hc=>?_) (fun hc=>?_)<;>(try first|exact hc.elim|(exfalso;omega))))
  all_goals first
   |(exfalso;simp at hc;done)
   |exact X.ret1
theorem r39sur_c (hks:∀k∈ks,CirOk k) (hl:ks.length≤1000) (ok:RR.okC x):ContR Tryz.prog [Hl.rd vc cKr 6 ks] 187 [vc,ctV x] (.bool (surA ks x)):=fun w hw0=>by
 refine enter Tryz.func187 rfl rfl rfl hw0 ?_
 repeat' (first|(refine nxV ?_)|(refine nSS ?_)|(refine nS1 fun _=>?_)|(refine nxX ?_)|done)
 rename_i b3
 refine G.loop (ι:=Nat) (fun i=>[(0,vc),(3,.pointer (some ⟨b3,0,none⟩)),(5,.int .i64 (i:Int))]) (fun _=>[Hl.blk b3 73 [.int .i64 x.lv,.int .i64 x.r,.int .i64 x.c],Hl.rd vc cKr 6 ks]) (fun i=>i≤ks.length∧(ks.take i).any (fun k=>!surB k x)=false) (fun i=>ks.length-i) 0 ⟨Nat.zero_le _,rfl⟩ ⟨rfl,rfl,rfl,trivial⟩ (by exact fun w h=>h.sub subS) ?_
 rintro i mx ⟨g1,g2⟩ hmx
 (try dsimp only at g1 g2 hmx ⊢)
 rcases Nat.lt_or_ge i ks.length with hi|hi
 ·have hm:nth ks (i:Int)∈ks:=by rw[nth_mem hi];exact List.getElem_mem hi
  have q1:=r39sure_c (hks _ hm) ok
  have e1:=any_take (p:=fun k=>!surB k x) hi
  have e2:=any_of (p:=fun k=>!surB k x) hi
  rw[g2,Bool.false_or] at e1
  unfold surA
  cases hv:surB (nth ks (i:Int)) x with
  |true =>
   rw[hv] at q1 e1
   repeat' (first|(show YK _ _ _ _ _ _ _;refine YK.mk (zcA (q1) ⟨rfl,rfl,rfl⟩) ?_)|(refine nxV ?_)|(refine nSS ?_)|(refine nMM ?_)|(refine G.mA 4 [.go 0,.go 1,.go 2,.go 3,.go 4,.go 5,.go 6] ?_)|(refine nxX ?_)|(refine G.cN rfl (fun hc=>?_) (fun hc=>?_)<;>(try first|exact hc.elim|(exfalso;omega))))
   all_goals first
    |(exfalso;simp at hc;done)
    |exact X.again (i+1) ⟨by omega,e1⟩ (by omega) ⟨rfl,rfl,rfl,trivial⟩ (by exact fun w h=>h.sub subS)
  |false =>
   rw[hv] at q1 e2
   rw[e2 rfl]
   repeat' (first|(show YK _ _ _ _ _ _ _;refine YK.mk (zcA (q1) ⟨rfl,rfl,rfl⟩) ?_)|(refine nxV ?_)|(refine nSS ?_)|(refine nMM ?_)|(refine G.mA 4 [.go 0,.go 1,.go 2,.go 3,.go 4,.go 5,.go 6] ?_)|(refine nxX ?_)|(refine G.cN rfl (fun hc=>?_) (fun hc=>?_)<;>(try first|exact hc.elim|(exfalso;omega))))
   all_goals first
    |(exfalso;simp at hc;done)
    |exact X.ret1
 ·obtain rfl:i=ks.length:=by omega
  rw[List.take_length] at g2
  unfold surA
  rw[g2]
  repeat' (first|(refine nxV ?_)|(refine nSS ?_)|(refine nxX ?_)|(refine G.cN rfl (fun hc=>?_) (fun hc=>?_)<;>(try first|exact hc.elim|(exfalso;omega))))
  all_goals first
   |(exfalso;simp at hc;done)
   |exact X.ret1
theorem rv39_c (hks:∀k∈ks,CirOk k) (hl:ks.length≤1000):ContR Tryz.prog [Hl.rd vc cKr 6 ks] 52 [vc] (.bool true):=fun w hw0=>by
 refine enter Tryz.func52 rfl rfl rfl hw0 ?_
 repeat' (first|(refine nxV ?_)|(refine nSS ?_)|(refine nxX ?_)|done)
 refine G.loop (ι:=Nat) (fun i=>[(0,vc),(3,.int .i64 (i:Int))]) (fun _=>[Hl.rd vc cKr 6 ks]) (fun i=>i≤ks.length) (fun i=>ks.length-i) 0 (Nat.zero_le _) ⟨rfl,rfl,trivial⟩ (by exact fun w h=>h.sub subS) ?_
 rintro i mx g1 hmx
 (try dsimp only at g1 hmx ⊢)
 rcases Nat.lt_or_ge i ks.length with hi|hi
 ·have hm:nth ks (i:Int)∈ks:=by rw[nth_mem hi];exact List.getElem_mem hi
  have q1:=rv35_c (hks _ hm)
  repeat' (first|(show YK _ _ _ _ _ _ _;refine YK.mk (zcA (q1) ⟨rfl,rfl⟩) ?_)|(refine nxV ?_)|(refine nSS ?_)|(refine nxX ?_)|(refine G.cN rfl (fun hc=>?_) (fun hc=>?_)<;>(try first|exact hc.elim|(exfalso;omega))))
  all_goals first
   |(exfalso;simp at hc;done)
   |exact X.again (i+1) (by omega) (by omega) ⟨rfl,rfl,trivial⟩ (by exact fun w h=>h.sub subS)
 ·obtain rfl:i=ks.length:=by omega
  repeat' (first|(refine nxV ?_)|(refine nSS ?_)|(refine nxX ?_)|(refine G.cN rfl (fun hc=>?_) (fun hc=>?_)<;>(try first|exact hc.elim|(exfalso;omega))))
  all_goals first
   |(exfalso;simp at hc;done)
   |exact X.ret1
end
theorem rval_c (l r c:Int):Cont Tryz.prog 182 [celV l r c] (.bool (cvB l r c)):=fun w=>by
 unfold cvB
 by_cases hl:0≤l∧l≤16
 ·have hq:=pow2_min (l:=l) (by omega)
  have hb:=pow2_bd hl
  generalize (2:Int)^l.toNat=q at *
  refine enter0 Tryz.func182 rfl rfl rfl ?_
  repeat' (first|(show YK _ _ _ _ _ ⟨_,.binOp .shl _ _ _ _,_,_,_,_⟩ _;refine YK.ofV (y_shl (by rfl) (by rfl) (by omega) hq (IntWalk.i64_in _ (by omega))) ?_)|(refine nxV ?_)|(refine nSS ?_)|(refine nS1 fun _=>?_)|(refine nxG ?_)|(refine nxX ?_)|(refine G.cN rfl (fun hc=>?_) (fun hc=>?_)<;>(try first|exact hc.elim|(exfalso;omega))))
  all_goals first|(exfalso;omega)|exact X.ret (vs:=[_]) rfl ⟨rfl,rfl⟩ rfl (fun w hw=>⟨ret_bool (by simp[Int.one_mul,hl]),hw.ext⟩)
 ·refine enter0 Tryz.func182 rfl rfl rfl ?_
  repeat' (first|(refine nxV ?_)|(refine nSS ?_)|(refine nS1 fun _=>?_)|(refine nxG ?_)|(refine nxX ?_)|(refine G.cN rfl (fun hc=>?_) (fun hc=>?_)<;>(try first|exact hc.elim|(exfalso;omega))))
  all_goals first
   |(exfalso;omega)
   |(refine X.ret (vs:=[_]) rfl ⟨rfl,rfl⟩ rfl (fun w hw=>⟨ret_bool ?_,hw.ext⟩)
     have:(decide (0≤l)&&decide (l≤16))=false:=by
      rw[Bool.and_eq_false_iff,decide_eq_false_iff_not,decide_eq_false_iff_not];omega
     simp[this])
theorem decN_eq {a b:Nat} : decide ((a:Int)=(b:Int))=decide (a=b):=decide_eq_decide.2 (by omega)
theorem decN_lt {a b:Nat} : decide ((a:Int)<(b:Int))=decide (a<b):=decide_eq_decide.2 (by omega)
theorem rwith_c {x y:RR.CellT} (hx:RR.okC x) (hy:RR.okC y):Cont Tryz.prog 183 [celV x.lv x.r x.c,celV y.lv y.r y.c] (.bool (RR.within x y)):=fun w=>by
 have h1:=okC_bd hx
 have h2:=okC_bd hy
 by_cases hd:y.lv≤x.lv
 ·have e:RR.within x y=(decide (x.r/2^(x.lv-y.lv)=y.r)&&decide (x.c/2^(x.lv-y.lv)=y.c)):=by
   unfold RR.within
   rw[decide_eq_true hd,Bool.true_and]
  have d1:=Nat.div_le_self x.r (2^(x.lv-y.lv))
  have d2:=Nat.div_le_self x.c (2^(x.lv-y.lv))
  rw[e]
  clear e
  generalize hR:x.r/2^(x.lv-y.lv)=rr at *
  generalize hC:x.c/2^(x.lv-y.lv)=cc at *
  refine enter0 Tryz.func183 rfl rfl rfl ?_
  repeat' (first|(show VG _ _ _ _ _ _ ⟨_,.binOp .shr _ _ _ _,_,_,_,_⟩ _;refine VG.mk (fun hb=>by(try(have hc:=And.left hb;have hb:=And.right hb;rw[hc]));(try rw[hb]);exact y_shrA (m:=x.r) (j:=x.lv-y.lv) (by rfl) (by rfl) (by omega) (by omega) hR) ?_)|(show VG _ _ _ _ _ _ ⟨_,.binOp .shr _ _ _ _,_,_,_,_⟩ _;refine VG.mk (fun hb=>by(try(have hc:=And.left hb;have hb:=And.right hb;rw[hc]));(try rw[hb]);exact y_shrA (m:=x.c) (j:=x.lv-y.lv) (by rfl) (by rfl) (by omega) (by omega) hC) ?_)|(refine nxV ?_)|(refine nSS ?_)|(refine nS1 fun _=>?_)|(refine nMM ?_)|(refine nxG ?_)|(refine G.mA 2 [.go 0,.go 1,.go 2,.go 3,.go 4,.go 5,.go 6,.go 7,.go 8,.go 9,.go 10,.go 11,.go 12,.go 13,.go 14,.go 15,.go 16,.go 17,.go 18,.go 19,.go 20] ?_)|(refine nxX ?_)|done)
  refine X.ret (vs:=[_]) rfl ⟨rfl,rfl⟩ rfl (fun w hw=>⟨ret_bool ?_,hw.ext⟩)
  simp[hd,decN_eq]
 ·have e:RR.within x y=false:=by
   unfold RR.within
   rw[decide_eq_false hd,Bool.false_and,Bool.false_and]
  rw[e]
  refine enter0 Tryz.func183 rfl rfl rfl ?_
  repeat' (first|(refine nxV ?_)|(refine nSS ?_)|(refine nS1 fun _=>?_)|(refine nMM ?_)|(refine nxG ?_)|(refine G.mA 2 [.go 0,.go 1,.go 2,.go 3,.go 4,.go 5,.go 6,.go 7,.go 8,.go 9,.go 10,.go 11,.go 12,.go 13,.go 14,.go 15,.go 16,.go 17,.go 18,.go 19,.go 20] ?_)|(refine nxX ?_)|done)
  refine X.ret (vs:=[_]) rfl ⟨rfl,rfl⟩ rfl (fun w hw=>⟨ret_bool ?_,hw.ext⟩)
  simp[hd]
theorem befL_succ {a b:RR.CellT} {k n:Nat} : RR.befL a b k (n+1)=if a.r/2^(a.lv-k)≠b.r/2^(b.lv-k) then decide (a.r/2^(a.lv-k)<b.r/2^(b.lv-k)) else if a.c/2^(a.lv-k)≠b.c/2^(b.lv-k) then decide (a.c/2^(a.lv-k)<b.c/2^(b.lv-k)) else RR.befL a b (k+1) n:=rfl
theorem rbef_c {x y:RR.CellT} (hx:RR.okC x) (hy:RR.okC y):Cont Tryz.prog 184 [celV x.lv x.r x.c,celV y.lv y.r y.c] (.bool (RR.before x y)):=fun w=>by
 have h1:=okC_bd hx
 have h2:=okC_bd hy
 refine enter0 Tryz.func184 rfl rfl rfl ?_
 repeat' (first|(refine nxV ?_)|(refine nSS ?_)|(refine nS1 fun _=>?_)|(refine nxX ?_)|done)
 rename_i b2 b3
 refine G.loop (ι:=Nat) (fun k=>[(2,.pointer (some ⟨b2,0,none⟩)),(3,.pointer (some ⟨b3,0,none⟩)),(5,.int .i64 (k:Int))]) (fun _=>[Hl.blk b3 73 [.int .i64 y.lv,.int .i64 y.r,.int .i64 y.c],Hl.blk b2 73 [.int .i64 x.lv,.int .i64 x.r,.int .i64 x.c]]) (fun k=>k≤min x.lv y.lv+1∧RR.before x y=RR.befL x y k (min x.lv y.lv+1-k)) (fun k=>min x.lv y.lv+1-k) 0 ⟨Nat.zero_le _,rfl⟩ ⟨rfl,rfl,rfl,trivial⟩ (by exact fun w h=>h.sub subS) ?_
 rintro k mx ⟨g1,g2⟩ hmx
 (try dsimp only at g1 g2 hmx ⊢)
 rcases Nat.lt_or_ge k (min x.lv y.lv+1) with hk|hk
 ·obtain⟨n,hn⟩:∃n,min x.lv y.lv+1-k=n+1:=⟨min x.lv y.lv-k,by omega⟩
  have g3:=g2
  rw[hn,befL_succ] at g3
  have d1:=Nat.div_le_self x.r (2^(x.lv-k))
  have d2:=Nat.div_le_self y.r (2^(y.lv-k))
  have d3:=Nat.div_le_self x.c (2^(x.lv-k))
  have d4:=Nat.div_le_self y.c (2^(y.lv-k))
  generalize hR1:x.r/2^(x.lv-k)=r1 at *
  generalize hR2:y.r/2^(y.lv-k)=r2 at *
  generalize hC1:x.c/2^(x.lv-k)=c1 at *
  generalize hC2:y.c/2^(y.lv-k)=c2 at *
  generalize RR.before x y=bb at *
  clear g2
  repeat' (first|(show VK _ _ _ _ _ ⟨_,.binOp .shr _ _ _ _,_,_,_,_⟩ _;refine VK.mk (y_shrA (m:=x.r) (j:=x.lv-k) (by rfl) (by rfl) (by omega) (by omega) hR1) ?_)|(show VK _ _ _ _ _ ⟨_,.binOp .shr _ _ _ _,_,_,_,_⟩ _;refine VK.mk (y_shrA (m:=y.r) (j:=y.lv-k) (by rfl) (by rfl) (by omega) (by omega) hR2) ?_)|(show VK _ _ _ _ _ ⟨_,.binOp .shr _ _ _ _,_,_,_,_⟩ _;refine VK.mk (y_shrA (m:=x.c) (j:=x.lv-k) (by rfl) (by rfl) (by omega) (by omega) hC1) ?_)|(show VK _ _ _ _ _ ⟨_,.binOp .shr _ _ _ _,_,_,_,_⟩ _;refine VK.mk (y_shrA (m:=y.c) (j:=y.lv-k) (by rfl) (by rfl) (by omega) (by omega) hC2) ?_)|(refine nxV ?_)|(refine nSS ?_)|(refine nMM ?_)|(refine nxG ?_)|(refine G.mA 4 [.go 0,.go 1,.go 2,.go 3,.go 4,.go 5,.go 6,.go 7,.go 8,.go 9,.go 10,.go 11,.go 12,.go 13,.go 14,.go 15] ?_)|(refine G.mA 5 [.go 0,.go 1,.go 2,.go 3,.go 4,.go 5,.go 6,.go 7,.go 8,.go 9,.go 10,.go 11,.go 12,.go 13,.go 14,.go 15] ?_)|(refine nxX ?_)|(refine G.cN rfl (fun hc=>?_) (fun hc=>?_)<;>(try first|exact hc.elim|(exfalso;omega))))
  ·refine X.ret (vs:=[_]) rfl ⟨rfl,rfl⟩ rfl (fun w hw=>⟨ret_bool ?_,hw.ext⟩)
   rw[g3,if_pos (by omega),decN_lt]
  ·refine X.ret (vs:=[_]) rfl ⟨rfl,rfl⟩ rfl (fun w hw=>⟨ret_bool ?_,hw.ext⟩)
   rw[g3,if_neg (by omega),if_pos (by omega),decN_lt]
  ·rw[if_neg (by omega),if_neg (by omega)] at g3
   exact X.again (k+1) ⟨by omega,by rw[g3];congr 1;omega⟩ (by omega) ⟨rfl,rfl,rfl,trivial⟩ (by exact fun w h=>h.sub subS)
 ·have e:RR.befL x y k (min x.lv y.lv+1-k)=false:=by rw[show min x.lv y.lv+1-k=0 by omega];rfl
  rw[g2,e]
  repeat' (first|(refine nxV ?_)|(refine nSS ?_)|(refine nxG ?_)|(refine nxX ?_)|(refine G.cN rfl (fun hc=>?_) (fun hc=>?_)<;>(try first|exact hc.elim|(exfalso;omega))))
  all_goals first|(exfalso;omega)|exact X.ret1
theorem len_consV {zs:List Value} {k:Nat} (h:zs.length=k+1):∃z r,zs=z::r∧r.length=k:=by
 cases zs with
 |nil=>cases h
 |cons z r=>exact⟨z,r,rfl,by simpa using h⟩
theorem fill_stepK {place:Nat→Option (Nat×Nat)} {cells cells':Array Value} {i off size:Nat} {v:Value} {rest:List (Nat×Value)} (h1:place i=some (off,size)) (h2:v.cells.size=size) (h3:off+size≤cells.size) (h4:v.cells.zipIdx.foldl (fun cs (c,j)=>cs.setIfInBounds (off+j) c) cells=cells'):Instr.fill place cells ((i,v)::rest)=Instr.fill place cells' rest:=by
 subst h2
 rw[Instr.fill]
 simp only[h1]
 rw[if_neg (show ¬((decide (v.cells.size≠v.cells.size)||decide (off+v.cells.size>cells.size))=true) from by simp;omega)]
 exact congrArg (fun q=>Instr.fill place q rest) h4
theorem fill4K {a b c d:Cel} {zs:List Value} (hz:zs.length=12):Instr.fill (fun i=>some (i*3,3)) zs.toArray ((List.range' 0 4).zip [kV a,kV b,kV c,kV d])=some (cK a++(cK b++(cK c++cK d))).toArray:=by
 obtain⟨z0,r0,rfl,h0⟩:=len_consV hz
 obtain⟨z1,r1,rfl,h1⟩:=len_consV h0
 obtain⟨z2,r2,rfl,h2⟩:=len_consV h1
 obtain⟨z3,r3,rfl,h3⟩:=len_consV h2
 obtain⟨z4,r4,rfl,h4⟩:=len_consV h3
 obtain⟨z5,r5,rfl,h5⟩:=len_consV h4
 obtain⟨z6,r6,rfl,h6⟩:=len_consV h5
 obtain⟨z7,r7,rfl,h7⟩:=len_consV h6
 obtain⟨z8,r8,rfl,h8⟩:=len_consV h7
 obtain⟨z9,r9,rfl,h9⟩:=len_consV h8
 obtain⟨z10,r10,rfl,h10⟩:=len_consV h9
 obtain⟨z11,r11,rfl,h11⟩:=len_consV h10
 obtain rfl:=List.eq_nil_of_length_eq_zero h11
 show Instr.fill (fun i=>some (i*3,3)) #[z0,z1,z2,z3,z4,z5,z6,z7,z8,z9,z10,z11] [(0,kV a),(1,kV b),(2,kV c),(3,kV d)]=_
 rw[fill_stepK (i:=0) (off:=0) (size:=3) (cells':=#[.int .i64 a.l,.int .i64 a.r,.int .i64 a.c,z3,z4,z5,z6,z7,z8,z9,z10,z11]) rfl rfl (by simp) rfl]
 rw[fill_stepK (i:=1) (off:=3) (size:=3) (cells':=#[.int .i64 a.l,.int .i64 a.r,.int .i64 a.c,.int .i64 b.l,.int .i64 b.r,.int .i64 b.c,z6,z7,z8,z9,z10,z11]) rfl rfl (by simp) rfl]
 rw[fill_stepK (i:=2) (off:=6) (size:=3) (cells':=#[.int .i64 a.l,.int .i64 a.r,.int .i64 a.c,.int .i64 b.l,.int .i64 b.r,.int .i64 b.c,.int .i64 c.l,.int .i64 c.r,.int .i64 c.c,z9,z10,z11]) rfl rfl (by simp) rfl]
 rw[fill_stepK (i:=3) (off:=9) (size:=3) (cells':=#[.int .i64 a.l,.int .i64 a.r,.int .i64 a.c,.int .i64 b.l,.int .i64 b.r,.int .i64 b.c,.int .i64 c.l,.int .i64 c.r,.int .i64 c.c,.int .i64 d.l,.int .i64 d.r,.int .i64 d.c]) rfl rfl (by simp) rfl]
 rfl
section
variable {P:Program} {n:Nat} {L:FL} {w0:World} {H:List Hl} {Q:Exit→Act→World→Prop} {ops:Array Oper} {rest:List Oper} {dd:Nat} {ty:TypeId} {pos:String} {af:Array Edge} {t e:TypeId} {bytes:Nat}
theorem RS.lit4K' {x0 x1 x2 x3:Operand} {a b c d:Cel} (h:∀v':Sl,RS P ops Q n ((dd,v'.v)::L) w0 (Hl.rw v'.v e cK 3 [a,b,c,d]::H) rest) (hx0:evO L x0=some (kV a)) (hx1:evO L x1=some (kV b)) (hx2:evO L x2=some (kV c)) (hx3:evO L x3=some (kV d)) [ht:RowTy P t e 3 bytes] (hd:Nat.blt dd n=true:=by rfl) :
  RS P ops Q n L w0 H (⟨some dd,.buildSlice t 4 #[(0,x0),(1,x1),(2,x2),(3,x3)],ty,pos,af,none⟩::rest):=RS.actX rfl (x_litS (parts:=[(0,x0),(1,x1),(2,x2),(3,x3)]) (vs:=[kV a,kV b,kV c,kV d]) (cs:=cK a++(cK b++(cK c++cK d))) (f:=cK) (l:=[a,b,c,d]) ⟨hx0,hx1,hx2,hx3,rfl⟩ rfl rfl rfl rfl (fun zs hz=>fill4K (a:=a) (b:=b) (c:=c) (d:=d) hz) rfl rfl rfl (rowTy_B ht.is) hd) fun v' _=>h v'
end
theorem rpar_c {L r c:Nat} (h:L≤100∧r≤100000∧c≤200000):Cont Tryz.prog 239 [celV ((L+1:Nat):Int) r c] (celV L ((r/2:Nat):Int) ((c/2:Nat):Int)):=fun w=>by
 refine enter0 Tryz.func239 rfl rfl rfl ?_
 repeat' (first|(refine nxV ?_)|(refine nSS ?_)|(refine nS1 fun _=>?_)|(refine nxX ?_)|done)
 refine X.ret (vs:=[_]) rfl ⟨⟨_,_,_,_,rfl,(by exact memA),lenA,by decide +kernel,rfl⟩,rfl⟩ rfl (fun w hw=>⟨?_,hw.ext⟩)
 show Ending.returned (celV (((L+1:Nat):Int)-1) ((r:Int)/2) ((c:Int)/2))=_
 rw[show ((L+1:Nat):Int)-1=(L:Int) by omega];rfl
theorem rchi_c {L r c:Nat} (h:L≤100∧r≤100000∧c≤200000):ContX Tryz.prog [] 180 [celV L r c] (fun _:Sl=>True) (fun z=>z.v) (fun z=>[Hl.nw z.v cT 3 [(⟨L+1,2*r,2*c⟩:RR.CellT),⟨L+1,2*r,2*c+1⟩,⟨L+1,2*r+1,2*c⟩,⟨L+1,2*r+1,2*c+1⟩]]):=fun w hw0=>by
 refine enter Tryz.func180 rfl rfl rfl hw0 ?_
 repeat' (first|(show RS _ _ _ _ _ _ _ (⟨some 35,.buildSlice _ _ _,_,_,_,_⟩::_);refine RS.lit4K' (a:=(⟨(L:Int)+1,2*(r:Int),2*(c:Int)⟩:Cel)) (b:=⟨(L:Int)+1,2*(r:Int),2*(c:Int)+1⟩) (c:=⟨(L:Int)+1,2*(r:Int)+1,2*(c:Int)⟩) (d:=⟨(L:Int)+1,2*(r:Int)+1,2*(c:Int)+1⟩) ?_ (by rfl) (by rfl) (by rfl) (by rfl);intro y1)|(refine nxV ?_)|(refine nSS ?_)|(refine nS1 fun _=>?_)|(refine nMM ?_)|(refine G.mA 1 [.go 0,.go 1,.go 2,.go 3,.go 4,.go 5,.go 6,.go 7] ?_)|(refine nxX ?_)|done)
 exact X.retN (vs:=[_]) y1 rfl ⟨rfl,rfl⟩ rfl trivial rfl (NewIn.rw (f:=cT) (s:=3) (l:=[(⟨L+1,2*r,2*c⟩:RR.CellT),⟨L+1,2*r,2*c+1⟩,⟨L+1,2*r+1,2*c⟩,⟨L+1,2*r+1,2*c+1⟩]) (by exact memA) NewIn.nil)
theorem rbro_c (v:Value) (q:List RR.CellT) (hq:q.length=4) (ok:RR.okC (nth q 0)):ContR Tryz.prog [Hl.rd v cT 3 q] 185 [v] (.bool (RR.broB (nth q 0) (nth q 1) (nth q 2) (nth q 3))):=fun w hw0=>by
 have hbd:=okC_bd ok
 cases hL:(nth q 0).lv with
 |zero =>
  have e:RR.broB (nth q 0) (nth q 1) (nth q 2) (nth q 3)=false:=by unfold RR.broB;rw[hL];rfl
  rw[e]
  refine enter Tryz.func185 rfl rfl rfl hw0 ?_
  repeat' (first|(refine nxV ?_)|(refine nSS ?_)|(refine nxX ?_)|(refine G.cN rfl (fun hc=>?_) (fun hc=>?_)<;>(try first|exact hc.elim|(exfalso;omega))))
  all_goals first|(exfalso;omega)|exact X.ret1
 |succ L =>
  have q1:=rpar_c (L:=L) (r:=(nth q 0).r) (c:=(nth q 0).c) (by omega)
  have q2:=rchi_c (L:=L) (r:=(nth q 0).r/2) (c:=(nth q 0).c/2) (by omega)
  have k0:RR.kid (nth q 0) 0 0=nth [(⟨L+1,2*((nth q 0).r/2),2*((nth q 0).c/2)⟩:RR.CellT),⟨L+1,2*((nth q 0).r/2),2*((nth q 0).c/2)+1⟩,⟨L+1,2*((nth q 0).r/2)+1,2*((nth q 0).c/2)⟩,⟨L+1,2*((nth q 0).r/2)+1,2*((nth q 0).c/2)+1⟩] 0:=by unfold RR.kid;rw[hL];rfl
  have k1:RR.kid (nth q 0) 0 1=nth [(⟨L+1,2*((nth q 0).r/2),2*((nth q 0).c/2)⟩:RR.CellT),⟨L+1,2*((nth q 0).r/2),2*((nth q 0).c/2)+1⟩,⟨L+1,2*((nth q 0).r/2)+1,2*((nth q 0).c/2)⟩,⟨L+1,2*((nth q 0).r/2)+1,2*((nth q 0).c/2)+1⟩] 1:=by unfold RR.kid;rw[hL];rfl
  have k2:RR.kid (nth q 0) 1 0=nth [(⟨L+1,2*((nth q 0).r/2),2*((nth q 0).c/2)⟩:RR.CellT),⟨L+1,2*((nth q 0).r/2),2*((nth q 0).c/2)+1⟩,⟨L+1,2*((nth q 0).r/2)+1,2*((nth q 0).c/2)⟩,⟨L+1,2*((nth q 0).r/2)+1,2*((nth q 0).c/2)+1⟩] 2:=by unfold RR.kid;rw[hL];rfl
  have k3:RR.kid (nth q 0) 1 1=nth [(⟨L+1,2*((nth q 0).r/2),2*((nth q 0).c/2)⟩:RR.CellT),⟨L+1,2*((nth q 0).r/2),2*((nth q 0).c/2)+1⟩,⟨L+1,2*((nth q 0).r/2)+1,2*((nth q 0).c/2)⟩,⟨L+1,2*((nth q 0).r/2)+1,2*((nth q 0).c/2)+1⟩] 3:=by unfold RR.kid;rw[hL];rfl
  have kl:([(⟨L+1,2*((nth q 0).r/2),2*((nth q 0).c/2)⟩:RR.CellT),⟨L+1,2*((nth q 0).r/2),2*((nth q 0).c/2)+1⟩,⟨L+1,2*((nth q 0).r/2)+1,2*((nth q 0).c/2)⟩,⟨L+1,2*((nth q 0).r/2)+1,2*((nth q 0).c/2)+1⟩]).length=4:=rfl
  have e:RR.broB (nth q 0) (nth q 1) (nth q 2) (nth q 3)=(decide (nth q 0=RR.kid (nth q 0) 0 0)&&decide (nth q 1=RR.kid (nth q 0) 0 1)&&decide (nth q 2=RR.kid (nth q 0) 1 0)&&decide (nth q 3=RR.kid (nth q 0) 1 1)):=by
   unfold RR.broB
   rw[decide_eq_true (by omega),Bool.true_and]
  rw[e,k0,k1,k2,k3]
  clear e k0 k1 k2 k3
  rw[←hL] at q1
  generalize [(⟨L+1,2*((nth q 0).r/2),2*((nth q 0).c/2)⟩:RR.CellT),⟨L+1,2*((nth q 0).r/2),2*((nth q 0).c/2)+1⟩,⟨L+1,2*((nth q 0).r/2)+1,2*((nth q 0).c/2)⟩,⟨L+1,2*((nth q 0).r/2)+1,2*((nth q 0).c/2)+1⟩]=ch at *
  refine enter Tryz.func185 rfl rfl rfl hw0 ?_
  repeat' (first|(show RS _ _ _ _ _ _ _ (⟨some 13,_,_,_,_,_⟩::_);refine RS.callX q2 ⟨rfl,rfl⟩ ?_;rintro z -;dsimp only[List.cons_append,List.nil_append])|(show YK _ _ _ _ _ _ _;refine YK.mk (zcA (q1) ⟨rfl,rfl⟩) ?_)|(refine nxV ?_)|(refine nSS ?_)|(refine nMM ?_)|(refine nxG ?_)|(refine G.mA 4 [.go 0,.go 1,.go 2,.go 3,.go 4,.go 5,.go 6,.go 7,.go 8,.go 9,.go 10,.go 11,.go 12,.go 13,.go 14,.go 15,.go 16,.go 17,.go 18,.go 19,.go 20,.go 21,.go 22,.go 23,.go 24,.go 25,.go 26,.go 27,.go 28,.go 29,.go 30,.go 31,.go 32,.go 33,.go 34] ?_)|(refine nxX ?_)|(refine G.cN rfl (fun hc=>?_) (fun hc=>?_)<;>(try first|exact hc.elim|(exfalso;omega))))
  all_goals first|(exfalso;omega)|exact X.ret (vs:=[_]) rfl ⟨rfl,rfl⟩ rfl (fun w hw=>⟨ret_bool (by simp[eqT]),hw.ext⟩)|trace_state
theorem get_nth {l:List RR.CellT} {i:Nat} (h:i<l.length):l[i]?=some (nth l (i:Int)):=by
 rw[List.getElem?_eq_getElem h,nth_get h]
theorem get_some_nth {l:List RR.CellT} {i:Nat} {a:RR.CellT} (h:l[i]?=some a):a=nth l (i:Int):=by
 have hi:i<l.length:=by
  rcases Nat.lt_or_ge i l.length with h2|h2
  ·exact h2
  ·rw[List.getElem?_eq_none h2] at h;cases h
 rw[get_nth hi] at h
 exact(Option.some.inj h).symm
theorem rvreg_c (v:Value) (l:List RR.CellT) (ok:∀x∈l,RR.okC x) (hl:l.length≤4000) {bb:Bool} (hbb:bb=true↔RR.IdxOk l):ContR Tryz.prog [Hl.rd v cT 3 l] 125 [v] (.bool bb):=fun w hw0=>by
 have hok:∀i:Nat,i<l.length→RR.okC (nth l (i:Int)):=fun i hi=>ok _ (by rw[nth_get hi];exact List.getElem_mem hi)
 refine enter Tryz.func125 rfl rfl rfl hw0 ?_
 repeat' (first|(refine nxV ?_)|(refine nSS ?_)|(refine nxX ?_)|(refine G.cN rfl (fun hc=>?_) (fun hc=>?_)<;>(try first|exact hc.elim|(exfalso;omega))))
 all_goals first|(exfalso;omega)|skip
 refine G.loop (ι:=Nat) (fun i=>[(0,v),(3,.int .i64 (i:Int))]) (fun _=>[Hl.rd v cT 3 l]) (fun i=>i≤l.length) (fun i=>l.length-i) 0 (Nat.zero_le _) ⟨rfl,rfl,trivial⟩ (by exact fun w h=>h.sub subS) ?_
 rintro i mx g1 hmx
 (try dsimp only at g1 hmx ⊢)
 rcases Nat.lt_or_ge i l.length with hi|hi
 ·have q1:=rval_c (nth l (i:Int)).lv (nth l (i:Int)).r (nth l (i:Int)).c
  have e2:cvB (nth l (i:Int)).lv (nth l (i:Int)).r (nth l (i:Int)).c=true:=ofT_ok.2 (hok i hi)
  rw[e2] at q1
  repeat' (first|(show YK _ _ _ _ _ _ _;refine YK.mk (zcA (q1) ⟨rfl,rfl⟩) ?_)|(refine nxV ?_)|(refine nSS ?_)|(refine nxX ?_)|(refine G.cN rfl (fun hc=>?_) (fun hc=>?_)<;>(try first|exact hc.elim|(exfalso;omega))))
  all_goals first|(exfalso;simp at hc;done)|exact X.again (i+1) (by omega) (by omega) ⟨rfl,rfl,trivial⟩ (by exact fun w h=>h.sub subS)
 ·clear hmx
  obtain rfl:i=l.length:=by omega
  repeat' (first|(refine nxV ?_)|(refine nSS ?_)|(refine nxX ?_)|(refine G.cN rfl (fun hc=>?_) (fun hc=>?_)<;>(try first|exact hc.elim|(exfalso;omega))))
  all_goals first|(exfalso;omega)|skip
  refine G.loop (ι:=Nat) (fun j=>[(0,v),(4,.int .i64 ((j+1:Nat):Int))]) (fun _=>[Hl.rd v cT 3 l]) (fun j=>(j=0∨j+1≤l.length)∧∀i a b,i<j→l[i]?=some a→l[i+1]?=some b→RR.nextB a b=true) (fun j=>l.length-j) 0 ⟨.inl rfl,fun i a b h=>by omega⟩ ⟨rfl,rfl,trivial⟩ (by exact fun w h=>h.sub subS) ?_
  rintro j mx2 ⟨k1,k2⟩ hmx2
  (try dsimp only at k1 k2 hmx2 ⊢)
  rcases Nat.lt_or_ge (j+1) l.length with hj|hj
  ·have ej:((j+1:Nat):Int)-1=(j:Int):=by omega
   have q1:=rwith_c (hok (j+1) hj) (hok j (by omega))
   have q2:=rwith_c (hok j (by omega)) (hok (j+1) hj)
   have q3:=rbef_c (hok j (by omega)) (hok (j+1) hj)
   rw[←ej] at q1 q2 q3
   have hnx:RR.nextB (nth l (((j+1:Nat):Int)-1)) (nth l ((j+1:Nat):Int))=(!RR.within (nth l ((j+1:Nat):Int)) (nth l (((j+1:Nat):Int)-1))&&!RR.within (nth l (((j+1:Nat):Int)-1)) (nth l ((j+1:Nat):Int))&&RR.before (nth l (((j+1:Nat):Int)-1)) (nth l ((j+1:Nat):Int))):=rfl
   have hnx2:bb=true→RR.nextB (nth l (((j+1:Nat):Int)-1)) (nth l ((j+1:Nat):Int))=true:=fun h=>by
    rw[ej]
    exact(hbb.1 h).next j _ _ (get_nth (by omega)) (get_nth hj)
   have hnx3:RR.nextB (nth l (((j+1:Nat):Int)-1)) (nth l ((j+1:Nat):Int))=true→∀i a b,i<j+1→l[i]?=some a→l[i+1]?=some b→RR.nextB a b=true:=fun h i a b hij ha hb=>by
    rcases Nat.lt_or_ge i j with h3|h3
    ·exact k2 i a b h3 ha hb
    ·obtain rfl:i=j:=by omega
     rw[get_some_nth ha,get_some_nth hb,←ej];exact h
   generalize RR.within (nth l ((j+1:Nat):Int)) (nth l (((j+1:Nat):Int)-1))=w1 at *
   generalize RR.within (nth l (((j+1:Nat):Int)-1)) (nth l ((j+1:Nat):Int))=w2 at *
   generalize RR.before (nth l (((j+1:Nat):Int)-1)) (nth l ((j+1:Nat):Int))=w3 at *
   generalize RR.nextB (nth l (((j+1:Nat):Int)-1)) (nth l ((j+1:Nat):Int))=nb at *
   repeat' (first|(show YK _ _ _ _ _ _ _;refine YK.mk (zcA (q1) ⟨rfl,rfl,rfl⟩) ?_)|(refine nxV ?_)|(refine nSS ?_)|(refine nMM ?_)|(show YG _ _ _ _ _ _ _ _;refine YG.mk (fun hb=>by(try(have hc:=And.left hb;have hb:=And.right hb;rw[hc]));(try rw[hb]);first|exact(zcA (q2) ⟨rfl,rfl,rfl⟩)|exact(zcA (q3) ⟨rfl,rfl,rfl⟩)) ?_)|(refine nxG ?_)|(refine G.mA 11 [.go 0,.go 1,.go 2,.go 3,.go 4,.go 5,.go 6,.go 7,.go 8,.go 9,.go 10,.go 11,.go 12,.go 13,.go 14,.go 15,.go 16,.go 17,.go 18,.go 19,.go 20,.go 21,.go 22,.go 23,.go 24,.go 25,.go 26,.go 27,.go 28,.go 29,.go 30,.go 31,.go 32,.go 33,.go 34] ?_)|(refine nxX ?_)|(refine G.cN rfl (fun hc=>?_) (fun hc=>?_)<;>(try first|exact hc.elim|(exfalso;omega))))
   ·have hb0:bb=false:=by
     cases hbv:bb with
     |false=>rfl
     |true =>
      exfalso
      have h2:=hnx2 hbv
      rw[hnx] at h2
      simp only[Bool.and_eq_true,Bool.not_eq_true'] at h2
      obtain⟨⟨rfl,rfl⟩,rfl⟩:=h2
      simp at hc
    rw[hb0]
    exact X.ret1
   ·exact X.again (j+1) ⟨.inr (by omega),hnx3 (by rw[hnx];obtain⟨⟨h3,h4⟩,h5⟩:=hc;rw[h3,h4,h5];rfl)⟩ (by omega) ⟨rfl,(by exact congrArg (fun z=>some (Value.int .i64 z)) (by omega)),trivial⟩ (by exact fun w h=>h.sub subS)
  ·repeat' (first|(refine nxV ?_)|(refine nSS ?_)|(refine nxX ?_)|(refine G.cN rfl (fun hc=>?_) (fun hc=>?_)<;>(try first|exact hc.elim|(exfalso;omega))))
   all_goals first|(exfalso;omega)|skip
   have hnext:∀i a b,l[i]?=some a→l[i+1]?=some b→RR.nextB a b=true:=fun i a b ha hb=>by
    have hi:i+1<l.length:=by
     rcases Nat.lt_or_ge (i+1) l.length with h|h
     ·exact h
     ·rw[List.getElem?_eq_none h] at hb;cases hb
    exact k2 i a b (by omega) ha hb
   clear k1 k2 hmx2 hj hc
   refine G.loop (ι:=Nat) (fun k=>[(0,v),(5,.int .i64 ((k+3:Nat):Int))]) (fun _=>[Hl.rd v cT 3 l]) (fun k=>(k=0∨k+3≤l.length)∧∀i a b c d,i<k→l[i]?=some a→l[i+1]?=some b→l[i+2]?=some c→l[i+3]?=some d→RR.broB a b c d=false) (fun k=>l.length-k) 0 ⟨.inl rfl,fun i a b c d h=>by omega⟩ ⟨rfl,rfl,trivial⟩ (by exact fun w h=>h.sub subS) ?_
   rintro k mx3 ⟨k1,k2⟩ hmx3
   (try dsimp only at k1 k2 hmx3 ⊢)
   rcases Nat.lt_or_ge (k+3) l.length with hk|hk
   ·have hA:(((k+3:Nat):Int)-3).toNat=k:=by omega
    have hB:(((k+3:Nat):Int)+1).toNat=k+4:=by omega
    have hq:((l.drop (((k+3:Nat):Int)-3).toNat).take ((((k+3:Nat):Int)+1).toNat-(((k+3:Nat):Int)-3).toNat)).length=4:=by
     rw[hA,hB,List.length_take,List.length_drop];omega
    have hqn:∀e:Nat,e<4→nth ((l.drop (((k+3:Nat):Int)-3).toNat).take ((((k+3:Nat):Int)+1).toNat-(((k+3:Nat):Int)-3).toNat)) (e:Int)=nth l ((k+e:Nat):Int):=fun e he=>by
     rw[nth_get (by omega),nth_get (by omega)]
     simp only[hA,hB]
     rw[List.getElem_take,List.getElem_drop]
    have q0:=hqn 0 (by omega)
    have q1:=hqn 1 (by omega)
    have q2:=hqn 2 (by omega)
    have q3:=hqn 3 (by omega)
    have qb:=rbro_c (cutV v 3 (((k+3:Nat):Int)-3).toNat (((k+3:Nat):Int)+1).toNat) _ hq (by rw[show (0:Int)=((0:Nat):Int) from rfl,q0];exact hok _ (by omega))
    rw[show nth ((l.drop (((k+3:Nat):Int)-3).toNat).take ((((k+3:Nat):Int)+1).toNat-(((k+3:Nat):Int)-3).toNat)) 0=nth l ((k+0:Nat):Int) from q0,show nth ((l.drop (((k+3:Nat):Int)-3).toNat).take ((((k+3:Nat):Int)+1).toNat-(((k+3:Nat):Int)-3).toNat)) 1=nth l ((k+1:Nat):Int) from q1,show nth ((l.drop (((k+3:Nat):Int)-3).toNat).take ((((k+3:Nat):Int)+1).toNat-(((k+3:Nat):Int)-3).toNat)) 2=nth l ((k+2:Nat):Int) from q2,show nth ((l.drop (((k+3:Nat):Int)-3).toNat).take ((((k+3:Nat):Int)+1).toNat-(((k+3:Nat):Int)-3).toNat)) 3=nth l ((k+3:Nat):Int) from q3] at qb
    clear q0 q1 q2 q3 hqn hq
    have hbr2:bb=true→RR.broB (nth l ((k+0:Nat):Int)) (nth l ((k+1:Nat):Int)) (nth l ((k+2:Nat):Int)) (nth l ((k+3:Nat):Int))=false:=fun h=>(hbb.1 h).bros k _ _ _ _ (get_nth (by omega)) (get_nth (by omega)) (get_nth (by omega)) (get_nth (by omega))
    have hbr3:RR.broB (nth l ((k+0:Nat):Int)) (nth l ((k+1:Nat):Int)) (nth l ((k+2:Nat):Int)) (nth l ((k+3:Nat):Int))=false→∀i a b c d,i<k+1→l[i]?=some a→l[i+1]?=some b→l[i+2]?=some c→l[i+3]?=some d→RR.broB a b c d=false:=fun h i a b c d hij ha hb hc hd=>by
     rcases Nat.lt_or_ge i k with h3|h3
     ·exact k2 i a b c d h3 ha hb hc hd
     ·obtain rfl:i=k:=by omega
      rw[get_some_nth ha,get_some_nth hb,get_some_nth hc,get_some_nth hd];exact h
    have hbl:RR.broB (nth l ((k+0:Nat):Int)) (nth l ((k+1:Nat):Int)) (nth l ((k+2:Nat):Int)) (nth l ((k+3:Nat):Int))=true→0<(nth l ((k+3:Nat):Int)).lv:=fun h=>by
     have h2:=((RR.broB_iff (hok _ (by omega)) (hok _ (by omega)) (hok _ (by omega)) (hok _ (by omega))).1 h)
     have h3:=h2.1
     have h4:=h2.2.2.2.1
     omega
    generalize RR.broB (nth l ((k+0:Nat):Int)) (nth l ((k+1:Nat):Int)) (nth l ((k+2:Nat):Int)) (nth l ((k+3:Nat):Int))=br at *
    repeat' (first|(refine nxV ?_)|(refine nSS ?_)|(show YG _ _ _ _ _ _ _ _;refine YG.mk (fun hb=>by(try(have hc:=And.left hb;have hb:=And.right hb;rw[hc]));(try rw[hb]);first|exact(zcR (qb) ⟨rfl,rfl⟩)|exact V.y vAuto) ?_)|(refine nxX ?_)|(refine G.cN rfl (fun hc=>?_) (fun hc=>?_)<;>(try first|exact hc.elim|(exfalso;omega))))
    ·have hb0:bb=false:=by
      cases hbv:bb with
      |false=>rfl
      |true =>
       have h2:=hbr2 hbv
       rw[hc.2] at h2
       cases h2
     rw[hb0]
     exact X.ret1
    ·have hb0:br=false:=by
      cases hbv:br with
      |false=>rfl
      |true =>
       have h2:=hbl hbv
       rcases hc with h3|h3
       ·omega
       ·rw[hbv] at h3;cases h3
     exact X.again (k+1) ⟨.inr (by omega),hbr3 hb0⟩ (by omega) ⟨rfl,(by exact congrArg (fun z=>some (Value.int .i64 z)) (by omega)),trivial⟩ (by exact fun w h=>h.sub subS)
   ·have hbt:bb=true:=hbb.2 ⟨hnext,fun i a b c d ha hb hc hd=>by
     have hi:i+3<l.length:=by
      rcases Nat.lt_or_ge (i+3) l.length with h|h
      ·exact h
      ·rw[List.getElem?_eq_none h] at hd;cases hd
     exact k2 i a b c d (by omega) ha hb hc hd⟩
    rw[hbt]
    repeat' (first|(refine nxV ?_)|(refine nSS ?_)|(refine nxX ?_)|(refine G.cN rfl (fun hc=>?_) (fun hc=>?_)<;>(try first|exact hc.elim|(exfalso;omega))))
    all_goals first|(exfalso;omega)|exact X.ret1
end Go.Proofs.YtjmdeplmenbmmaaGreatDoor
