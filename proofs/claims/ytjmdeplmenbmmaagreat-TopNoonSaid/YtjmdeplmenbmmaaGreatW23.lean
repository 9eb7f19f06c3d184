/- Joined texts: ASer, ACir, ABrg. -/
import Derived.Test.YtjmdeplmenbmmaaGreatW22
import Derived.Test.YtjmdeplmenbmmaaGreatW06
import Derived.ChangeKeysEq
import Derived.Test.YtjmdeplmenbmmaaGreatV05
import Derived.Test.YtjmdeplmenbmmaaGreatW10
import Derived.Test.YtjmdeplmenbmmaaGreatW11
set_option linter.unusedVariables false
set_option maxHeartbeats 8000000
namespace Go.Proofs.YtjmdeplmenbmmaaGreat
open Go.RowKit
open TT (W256 W192 cW lb)
theorem lt_words {a b:Nat} (ha:a<W256) (hb:b<W256):(lb a 0≠lb b 0→(lb a 0<lb b 0↔a<b))∧(lb a 0=lb b 0→lb a 1≠lb b 1→(lb a 1<lb b 1↔a<b))∧(lb a 0=lb b 0→lb a 1=lb b 1→lb a 2≠lb b 2→(lb a 2<lb b 2↔a<b))∧(lb a 0=lb b 0→lb a 1=lb b 1→lb a 2=lb b 2→lb a 3≠lb b 3→(lb a 3<lb b 3↔a<b))∧(lb a 0=lb b 0→lb a 1=lb b 1→lb a 2=lb b 2→lb a 3=lb b 3→a=b):=by
 have ea:=TT.lb_sum ha
 have eb:=TT.lb_sum hb
 have l0:=TT.lb_lt a 0;have l1:=TT.lb_lt a 1;have l2:=TT.lb_lt a 2;have l3:=TT.lb_lt a 3
 have k0:=TT.lb_lt b 0;have k1:=TT.lb_lt b 1;have k2:=TT.lb_lt b 2;have k3:=TT.lb_lt b 3
 generalize lb a 0=x0 at *;generalize lb a 1=x1 at *;generalize lb a 2=x2 at *;generalize lb a 3=x3 at *
 generalize lb b 0=y0 at *;generalize lb b 1=y1 at *;generalize lb b 2=y2 at *;generalize lb b 3=y3 at *
 simp only[cW,Nat.reducePow] at *
 refine⟨?_,?_,?_,?_,?_⟩<;>omega
theorem aless_c {a b:Nat} (ha:a<W256) (hb:b<W256):Cont Tryz.prog 240 [numV a,numV b] (.bool (decide (a<b))):=fun w=>by
 obtain⟨t0,t1,t2,t3,t4⟩:=lt_words ha hb
 refine enter0 Tryz.func240 rfl rfl rfl ?_
 repeat' (first|(show G _ _ _ _ _ _ (.loop _);refine G.loopN 6 (GR.step ?_))|(show X (Exit.then (Code.rounds _ _ _ _) _) _ _ _ _ .normal;refine X.round (GR.step ?_))|(show YK _ _ _ _ _ ⟨_,.indexAddr 250 _ _,_,_,_,_⟩ _;refine YK.ofV (y_indexArr (len:=4) rfl rfl (by first|exact(rfl:_=((0:Nat):Int))|exact(rfl:_=((1:Nat):Int))|exact(rfl:_=((2:Nat):Int))|exact(rfl:_=((3:Nat):Int))) (by decide +kernel) rfl) ?_)|(show VK _ _ _ _ _ ⟨_,.indexAddr 250 _ _,_,_,_,_⟩ _;refine VK.mk (y_indexArr (len:=4) rfl rfl (by first|exact(rfl:_=((0:Nat):Int))|exact(rfl:_=((1:Nat):Int))|exact(rfl:_=((2:Nat):Int))|exact(rfl:_=((3:Nat):Int))) (by decide +kernel) rfl) ?_)|(refine nxV ?_)|(refine nSS ?_)|(refine nS1 fun _=>?_)|(refine nMM ?_)|(refine nM1 fun _=>?_)|(refine nxG ?_)|(refine G.mA 4 [.go 0,.go 1,.go 2,.go 3,.go 4,.go 5,.go 6] ?_)|(refine G.mA 5 [.go 0,.go 1,.go 2,.go 3,.go 4,.go 5,.go 6,.go 7] ?_)|(refine nxX ?_)|(refine G.cN rfl (fun hc=>?_) (fun hc=>?_)<;>(try first|exact hc.elim|(exfalso;omega))))
 all_goals refine X.ret (vs:=[_]) rfl ⟨rfl,rfl⟩ rfl (fun w hw=>⟨ret_bool ?_,hw.ext⟩)
 all_goals first
  |(refine decide_eq_decide.2 ?_;omega)
  |(refine(decide_eq_false ?_).symm;omega)
theorem zero_words {a:Nat} (ha:a<W256) (h0:lb a 0=0) (h1:lb a 1=0) (h2:lb a 2=0) (h3:lb a 3=0):a=0:=by
 have ea:=TT.lb_sum ha
 rw[h0,h1,h2,h3] at ea
 simpa using ea
theorem zero_lb (i:Nat):lb 0 i=0:=by unfold lb;simp
section
variable {P:Program} {t e:TypeId} {ki:IntKind} {i:TypeInfo}
theorem run_eq4 {w:World} (d:Nat) (hu:P.underlying t=some (.array 4 e)) (hi:P.info? e=some i) (he:P.underlying e=some (.int ki)) (hc:P.cellsOf e=1) (a0 a1 a2 a3 b0 b1 b2 b3:Int) :
  (Op.equalIn (d+2) t (.agg [.int ki a0,.int ki a1,.int ki a2,.int ki a3].toArray) (.agg [.int ki b0,.int ki b1,.int ki b2,.int ki b3].toArray)).run P w=.ok (eqCells [.int ki a0,.int ki a1,.int ki a2,.int ki a3] [.int ki b0,.int ki b1,.int ki b2,.int ki b3]) w:=by
 have hp:P.plainKey e=true:=by unfold Program.plainKey;rw[he]
 rw[run_equalIn_array w (d+1) _ _ hu hi,hc]
 have p0:∀w:World,(part e [.int ki a0,.int ki a1,.int ki a2,.int ki a3].toArray 0).run P w=.ok (.int ki a0) w:=fun w=>run_part_plain w hp rfl
 have p1:∀w:World,(part e [.int ki a0,.int ki a1,.int ki a2,.int ki a3].toArray 1).run P w=.ok (.int ki a1) w:=fun w=>run_part_plain w hp rfl
 have p2:∀w:World,(part e [.int ki a0,.int ki a1,.int ki a2,.int ki a3].toArray 2).run P w=.ok (.int ki a2) w:=fun w=>run_part_plain w hp rfl
 have p3:∀w:World,(part e [.int ki a0,.int ki a1,.int ki a2,.int ki a3].toArray 3).run P w=.ok (.int ki a3) w:=fun w=>run_part_plain w hp rfl
 have r0:∀w:World,(part e [.int ki b0,.int ki b1,.int ki b2,.int ki b3].toArray 0).run P w=.ok (.int ki b0) w:=fun w=>run_part_plain w hp rfl
 have r1:∀w:World,(part e [.int ki b0,.int ki b1,.int ki b2,.int ki b3].toArray 1).run P w=.ok (.int ki b1) w:=fun w=>run_part_plain w hp rfl
 have r2:∀w:World,(part e [.int ki b0,.int ki b1,.int ki b2,.int ki b3].toArray 2).run P w=.ok (.int ki b2) w:=fun w=>run_part_plain w hp rfl
 have r3:∀w:World,(part e [.int ki b0,.int ki b1,.int ki b2,.int ki b3].toArray 3).run P w=.ok (.int ki b3) w:=fun w=>run_part_plain w hp rfl
 have q:∀(a b:Int) (w:World),(Op.equalIn (d+1) e (.int ki a) (.int ki b)).run P w=.ok (a==b) w:=fun a b w=>run_equalIn_int w d e ki ki a b he
 show (Op.eqItems (d+1) e 1 [.int ki a0,.int ki a1,.int ki a2,.int ki a3].toArray [.int ki b0,.int ki b1,.int ki b2,.int ki b3].toArray [0,1,2,3]).run P w=_
 generalize [Value.int ki a0,.int ki a1,.int ki a2,.int ki a3].toArray=xs at *
 generalize [Value.int ki b0,.int ki b1,.int ki b2,.int ki b3].toArray=ys at *
 by_cases e0:a0=b0<;>by_cases e1:a1=b1<;>by_cases e2:a2=b2<;>by_cases e3:a3=b3<;>simp[Op.eqItems,eqCells,vEq,p0,p1,p2,p3,r0,r1,r2,r3,q,e0,e1,e2,e3]
variable {n:Nat} {L:FL} {w0:World} {H:List Hl} {d:Option Tmp} {ty:TypeId} {pos:String} {af:Array Edge} {g:Option (Nat×Bool)} {x y:Operand} {t':TypeId}
theorem y_neq4 {a0 a1 a2 a3 b0 b1 b2 b3:Int} (hx:evO L x=some (.agg [.int ki a0,.int ki a1,.int ki a2,.int ki a3].toArray)) (hy:evO L y=some (.agg [.int ki b0,.int ki b1,.int ki b2,.int ki b3].toArray)) (hu:P.underlying t=some (.array 4 e)) (he:P.underlying e=some (.int ki)) (hs:scalarB P e=true) (hc:P.cellsOf e=1) (hg:P.eqGuardType P.depth t=false) :
  V P n L w0 H ⟨d,.binOp .neq t x y t',ty,pos,af,g⟩ (.bool (!eqCells [.int ki a0,.int ki a1,.int ki a2,.int ki a3] [.int ki b0,.int ki b1,.int ki b2,.int ki b3])):=by
 unfold V
 intro a w ha _
 obtain⟨i,hi,_⟩:=Option.map_eq_some_iff.1 (info_of_scalarB hs)
 have h1:=run_eq4 (w:=w) 9998 hu hi he hc a0 a1 a2 a3 b0 b1 b2 b3
 have h3:=run_eqGuard_agg (P:=P) w .neq t x y [.int ki a0,.int ki a1,.int ki a2,.int ki a3].toArray [.int ki b0,.int ki b1,.int ki b2,.int ki b3].toArray hg
 have h4:=run_neq_struct (P:=P) w t [.int ki a0,.int ki a1,.int ki a2,.int ki a3].toArray [.int ki b0,.int ki b1,.int ki b2,.int ki b3].toArray
 rw[h1] at h4
 simp only[Result.andThen_ok] at h4
 simp[execOp,ha.eval hx,ha.eval hy,h3,h4]
end
structure SeS where
 S:Nat
 T:Nat
 k:Nat
 m:Bool
abbrev sePre (o first q:Nat) (s:SeS):Prop:=s.k≤200∧s.T<2^(200-s.k)∧(s.m=true→s.T≤s.S∧s.S≤first∧(s.S:Int)-TT.alt4 o q (200-s.k) s.k s.T=TT.ser4 o first q)∧(s.m=false→s.S+s.T≤first∧(s.S:Int)+TT.alt4 o q (200-s.k) s.k s.T=TT.ser4 o first q)
theorem se_step {o first q:Nat} (hq:q<W192) {S T k:Nat} {m:Bool} (h:sePre o first q ⟨S,T,k,m⟩) (hT:T≠0):(m=true→TT.nx4 o k q T≤S)∧sePre o first q ⟨if m=true then S-TT.nx4 o k q T else S+TT.nx4 o k q T,TT.nx4 o k q T,k+1,!m⟩:=by
 obtain⟨h1,h2,h3,h4⟩:=h
 dsimp only at h1 h2 h3 h4
 have hh:=TT.nx4_half (o:=o) (k:=k) (t:=T) hq
 have hk:k<200:=by
  refine Nat.lt_of_not_le fun hle=>?_
  rw[show 200-k=0 by omega] at h2
  have:2^0=1:=rfl
  omega
 obtain⟨f,hf⟩:∃f,200-k=f+1:=⟨199-k,by omega⟩
 have e:TT.alt4 o q (200-k) k T=(TT.nx4 o k q T:Int)-TT.alt4 o q (200-(k+1)) (k+1) (TT.nx4 o k q T):=by
  rw[hf,show 200-(k+1)=f by omega]
  show (if T=0 then 0 else (TT.nx4 o k q T:Int)-TT.alt4 o q f (k+1) (TT.nx4 o k q T))=_
  rw[if_neg hT]
 have e2:2^(200-k)=2*2^(200-(k+1)):=by
  rw[hf,show 200-(k+1)=f by omega,Nat.pow_succ,Nat.mul_comm]
 rw[e] at h3 h4
 rw[e2] at h2
 cases m with
 |true =>
  obtain⟨g1,g2,g3⟩:=h3 rfl
  refine⟨fun _=>by omega,by dsimp only;omega,by dsimp only;omega,(fun h=>Bool.noConfusion h),fun _=>?_⟩
  dsimp only
  rw[if_pos rfl]
  refine⟨by omega,?_⟩
  rw[Int.ofNat_sub (by omega)]
  omega
 |false =>
  obtain⟨g1,g3⟩:=h4 rfl
  refine⟨(fun h=>Bool.noConfusion h),by dsimp only;omega,by dsimp only;omega,fun _=>?_,(fun h=>Bool.noConfusion h)⟩
  dsimp only
  rw[if_neg (by decide)]
  exact⟨by omega,by omega,by omega⟩
theorem series_c {o first q:Nat} (ho:o≤1) (hq:q<W192) (hf:first<2^200):Cont Tryz.prog 256 [numV first,numV q,.int .u64 (o:Int)] (numV (TT.ser4 o first q).toNat):=fun w=>by
 have h200:(2:Nat)^200≤W256:=by decide
 refine enter0 Tryz.func256 rfl rfl rfl ?_
 repeat' (first|(refine nxV ?_)|(refine nSS ?_)|(refine nS1 fun _=>?_)|(refine nMM ?_)|(refine nM1 fun _=>?_)|(refine nxG ?_)|(refine G.mA 1 [.go 0,.go 1,.pend 2,.pend 3,.done,.done,.go 4,.go 5] ?_)|(refine nxX ?_)|(refine G.cN rfl (fun hc=>?_) (fun hc=>?_)<;>(try first|exact hc.elim|(exfalso;omega))))
 rename_i b3 b4 b6 b8 b7
 have hq256:q<W256:=Nat.lt_trans hq (by decide)
 refine G.loop (ι:=SeS) (fun s=>[(2,.int .u64 (2*(s.k:Int)+(o:Int))),(3,.pointer (some ⟨b3,0,none⟩)),(4,.pointer (some ⟨b4,0,none⟩)),(6,.pointer (some ⟨b6,0,none⟩)),(7,.pointer (some ⟨b7,0,none⟩)),(8,.pointer (some ⟨b8,0,none⟩)),(9,.bool s.m)])
  (fun s=>[Hl.blk b7 250 (numC s.S),Hl.blk b8 250 (numC s.T),Hl.blk b6 250 [.int .u64 0,.int .u64 0,.int .u64 0,.int .u64 0],Hl.blk b4 250 (numC q),Hl.blk b3 250 (numC first)])
  (sePre o first q) (fun s=>s.T) ⟨first,first,0,true⟩ ⟨Nat.zero_le _,by rw[show 200-0=200 from rfl];exact hf,fun _=>⟨Nat.le_refl _,Nat.le_refl _,rfl⟩,(fun h=>Bool.noConfusion h)⟩ ⟨congrArg some (congrArg (Value.int .u64) (by dsimp only;omega)),rfl,rfl,rfl,rfl,rfl,rfl,trivial⟩ (fun w h=>h) ?_
 rintro⟨S,T,k,m⟩ mx hp hmx
 dsimp only at hmx ⊢
 have hp':=hp
 obtain⟨p1,p2,p3,p4⟩:=hp'
 dsimp only at p1 p2 p3 p4
 have hT256:T<W256:=Nat.lt_of_lt_of_le p2 (Nat.le_trans (Nat.pow_le_pow_right (by decide) (by omega)) h200)
 have hS:S≤first:=by
  cases m with
  |true=>exact(p3 rfl).2.1
  |false=>have:=(p4 rfl).1;omega
 have hS256:S<W256:=Nat.lt_of_le_of_lt hS (Nat.lt_of_lt_of_le hf h200)
 by_cases hT:T=0
 ·subst hT
  have z0:=zero_lb 0;have z1:=zero_lb 1;have z2:=zero_lb 2;have z3:=zero_lb 3
  have hr:S=(TT.ser4 o first q).toNat:=by
   have ha:TT.alt4 o q (200-k) k 0=0:=by
    obtain⟨h1,h2⟩:=TT.alt4_bd (o:=o) hq (200-k) k 0
    omega
   cases m with
   |true=>have:=(p3 rfl).2.2;rw[ha] at this;omega
   |false=>have:=(p4 rfl).2;rw[ha] at this;omega
  repeat' (first|(show YK _ _ _ _ _ ⟨_,.binOp .neq 250 _ _ _,_,_,_,_⟩ _;refine YK.ofV (y_neq4 (e:=219) (by rfl) (by rfl) (by kernel_rfl) (by kernel_rfl) (by decide +kernel) (by decide +kernel) (by decide +kernel)) ?_)|(show YK _ _ _ _ _ ⟨_,.build 250 _,_,_,_,_⟩ _;refine YK.ofV (y_build0 (cs:=[.int .u64 0,.int .u64 0,.int .u64 0,.int .u64 0]) ZeroTy.is (by decide +kernel)) ?_)|(refine nxV ?_)|(refine nSS ?_)|(refine nS1 fun _=>?_)|(refine nMM ?_)|(refine nM1 fun _=>?_)|(refine nxG ?_)|(refine G.mA 1 [.go 0,.go 1,.pend 2,.pend 3,.done,.done,.go 4,.go 5] ?_)|(refine nxX ?_)|(refine G.cN rfl (fun hc=>?_) (fun hc=>?_)<;>(try first|exact hc.elim|(exfalso;omega))))
  all_goals first
   |(exfalso;omega)
   |(subst hr;exact X.ret (vs:=[_]) rfl ⟨⟨_,_,_,_,rfl,(by exact memA),lenA,by decide +kernel,rfl⟩,rfl⟩ rfl rE)
 ·have hm4:TT.mul4 T q<W256:=by
   refine Nat.lt_of_le_of_lt ?_ hT256
   unfold TT.mul4
   refine Nat.div_le_of_le_mul ?_
   rw[Nat.mul_comm W192]
   exact Nat.mul_le_mul_left T (Nat.le_of_lt hq)
  have q1:=amul_c hT256 hq256 hm4
  have hk:k<200:=by
   refine Nat.lt_of_not_le fun hle=>?_
   rw[show 200-k=0 by omega] at p2
   have:2^0=1:=rfl
   omega
  have hde:(2*(k:Int)+(o:Int)+1)*(2*(k:Int)+(o:Int)+2)=((TT.dd o k:Nat):Int):=by
   unfold TT.dd
   simp only[Int.natCast_mul,Int.natCast_add]
   grind
  have hdb:TT.dd o k≤200000:=by
   unfold TT.dd
   exact Nat.le_trans (Nat.mul_le_mul (show 2*k+1+o≤410 by omega) (show 2*k+2+o≤410 by omega)) (by decide)
  have hd2:=TT.dd_ge o k
  have q2:=aover_c (a:=TT.mul4 T q) (d:=TT.dd o k) hm4 (by omega) (by omega)
  rw[←hde] at q2
  obtain⟨s1,s2⟩:=se_step hq hp hT
  have hh:=TT.nx4_half (o:=o) (k:=k) (t:=T) hq
  have hn256:TT.nx4 o k q T<W256:=by omega
  have q3:=asub_c (a:=S) (b:=TT.nx4 o k q T) hS256 hn256
  have q4:=aadd_c (a:=S) (b:=TT.nx4 o k q T) hS256 hn256
  have hb:0≤(2*(k:Int)+(o:Int)+1)*(2*(k:Int)+(o:Int)+2)∧(2*(k:Int)+(o:Int)+1)*(2*(k:Int)+(o:Int)+2)≤200000:=by rw[hde];omega
  change Cont _ _ _ (numV (TT.nx4 o k q T)) at q2
  have w0:=lt_words hT256 (show 0<W256 by decide)
  have z0:=zero_lb 0;have z1:=zero_lb 1;have z2:=zero_lb 2;have z3:=zero_lb 3
  clear hde hdb hd2 hp p1 p2 p3 p4
  cases m with
  |true =>
   have e3:(S+W256-TT.nx4 o k q T)%W256=S-TT.nx4 o k q T:=by
    have:=s1 rfl
    rw[Nat.add_comm,Nat.add_sub_assoc this,Nat.add_mod_left]
    exact Nat.mod_eq_of_lt (by omega)
   rw[e3] at q3
   repeat' (first|(show YK _ _ _ _ _ ⟨_,.binOp .neq 250 _ _ _,_,_,_,_⟩ _;refine YK.ofV (y_neq4 (e:=219) (by rfl) (by rfl) (by kernel_rfl) (by kernel_rfl) (by decide +kernel) (by decide +kernel) (by decide +kernel)) ?_)|(show YK _ _ _ _ _ ⟨_,.build 250 _,_,_,_,_⟩ _;refine YK.ofV (y_build0 (cs:=[.int .u64 0,.int .u64 0,.int .u64 0,.int .u64 0]) ZeroTy.is (by decide +kernel)) ?_)|(show YK _ _ _ _ _ _ _;first|refine YK.mk (zcA (q1) ⟨rfl,rfl,rfl⟩) ?_|refine YK.mk (zcA (q2) ⟨rfl,rfl,rfl⟩) ?_|refine YK.mk (zcA (q3) ⟨rfl,rfl,rfl⟩) ?_|refine YK.mk (zcA (q4) ⟨rfl,rfl,rfl⟩) ?_)|(refine nxV ?_)|(refine nSS ?_)|(refine nS1 fun _=>?_)|(refine nMM ?_)|(refine nM1 fun _=>?_)|(show YG _ _ _ _ _ _ _ _;refine YG.mk (fun hb=>by(try(have hc:=And.left hb;have hb:=And.right hb;rw[hc]));(try rw[hb]);first|exact(zcA (q1) ⟨rfl,rfl,rfl⟩)|exact(zcA (q2) ⟨rfl,rfl,rfl⟩)|exact(zcA (q3) ⟨rfl,rfl,rfl⟩)|exact(zcA (q4) ⟨rfl,rfl,rfl⟩)|exact V.y vAuto) ?_)|(refine nxG ?_)|(refine G.mA 1 [.go 0,.go 1,.pend 2,.pend 3,.done,.done,.go 4,.go 5] ?_)|(refine nxX ?_)|(refine G.cN rfl (fun hc=>?_) (fun hc=>?_)<;>(try first|exact hc.elim|(exfalso;omega))))
   all_goals first
    |(exfalso;obtain⟨c0,c1,c2,c3⟩:=hc;exact hT (zero_words hT256 (by omega) (by omega) (by omega) (by omega)))
    |exact X.again ⟨S-TT.nx4 o k q T,TT.nx4 o k q T,k+1,false⟩ s2 (by dsimp only;omega) ⟨congrArg some (congrArg (Value.int .u64) (by dsimp only;omega)),rfl,rfl,rfl,rfl,rfl,rfl,trivial⟩ (by exact fun w h=>h.sub subS)
  |false =>
   have e4:(S+TT.nx4 o k q T)%W256=S+TT.nx4 o k q T:=by
    have:=(s2.2.2.1 rfl).2.1
    dsimp only at this
    rw[if_neg (by decide)] at this
    exact Nat.mod_eq_of_lt (by omega)
   rw[e4] at q4
   repeat' (first|(show YK _ _ _ _ _ ⟨_,.binOp .neq 250 _ _ _,_,_,_,_⟩ _;refine YK.ofV (y_neq4 (e:=219) (by rfl) (by rfl) (by kernel_rfl) (by kernel_rfl) (by decide +kernel) (by decide +kernel) (by decide +kernel)) ?_)|(show YK _ _ _ _ _ ⟨_,.build 250 _,_,_,_,_⟩ _;refine YK.ofV (y_build0 (cs:=[.int .u64 0,.int .u64 0,.int .u64 0,.int .u64 0]) ZeroTy.is (by decide +kernel)) ?_)|(show YK _ _ _ _ _ _ _;first|refine YK.mk (zcA (q1) ⟨rfl,rfl,rfl⟩) ?_|refine YK.mk (zcA (q2) ⟨rfl,rfl,rfl⟩) ?_|refine YK.mk (zcA (q3) ⟨rfl,rfl,rfl⟩) ?_|refine YK.mk (zcA (q4) ⟨rfl,rfl,rfl⟩) ?_)|(refine nxV ?_)|(refine nSS ?_)|(refine nS1 fun _=>?_)|(refine nMM ?_)|(refine nM1 fun _=>?_)|(show YG _ _ _ _ _ _ _ _;refine YG.mk (fun hb=>by(try(have hc:=And.left hb;have hb:=And.right hb;rw[hc]));(try rw[hb]);first|exact(zcA (q1) ⟨rfl,rfl,rfl⟩)|exact(zcA (q2) ⟨rfl,rfl,rfl⟩)|exact(zcA (q3) ⟨rfl,rfl,rfl⟩)|exact(zcA (q4) ⟨rfl,rfl,rfl⟩)|exact V.y vAuto) ?_)|(refine nxG ?_)|(refine G.mA 1 [.go 0,.go 1,.pend 2,.pend 3,.done,.done,.go 4,.go 5] ?_)|(refine nxX ?_)|(refine G.cN rfl (fun hc=>?_) (fun hc=>?_)<;>(try first|exact hc.elim|(exfalso;omega))))
   all_goals first
    |(exfalso;obtain⟨c0,c1,c2,c3⟩:=hc;exact hT (zero_words hT256 (by omega) (by omega) (by omega) (by omega)))
    |exact X.again ⟨S+TT.nx4 o k q T,TT.nx4 o k q T,k+1,true⟩ s2 (by dsimp only;omega) ⟨congrArg some (congrArg (Value.int .u64) (by dsimp only;omega)),rfl,rfl,rfl,rfl,rfl,rfl,trivial⟩ (by exact fun w h=>h.sub subS)
end Go.Proofs.YtjmdeplmenbmmaaGreat
set_option maxHeartbeats 8000000
namespace Go.Proofs.YtjmdeplmenbmmaaGreat
open Go.RowKit
open TT (W256 W192 cW lb)
theorem pi4_built:Tryz.prog.built 250 [(0,Value.int .u64 3),(1,Value.int .u64 2611923443488327891),(2,Value.int .u64 1376283091369227076),(3,Value.int .u64 11820040416388919760)]=some [Value.int .u64 3,Value.int .u64 2611923443488327891,Value.int .u64 1376283091369227076,Value.int .u64 11820040416388919760].toArray:=by kernel_rfl
theorem one_built:Tryz.prog.built 250 [(0,Value.int .u64 1)]=some [Value.int .u64 1,Value.int .u64 0,Value.int .u64 0,Value.int .u64 0].toArray:=by kernel_rfl
theorem pi4_val:(Value.agg [Value.int .u64 3,Value.int .u64 2611923443488327891,Value.int .u64 1376283091369227076,Value.int .u64 11820040416388919760].toArray)=numV TT.pi4:=by
 have h0:lb TT.pi4 0=3:=by decide
 have h1:lb TT.pi4 1=2611923443488327891:=by decide
 have h2:lb TT.pi4 2=1376283091369227076:=by decide
 have h3:lb TT.pi4 3=11820040416388919760:=by decide
 unfold numV
 rw[h0,h1,h2,h3]
 rfl
theorem one_val:(Value.agg [Value.int .u64 1,Value.int .u64 0,Value.int .u64 0,Value.int .u64 0].toArray)=numV W192:=by
 have h0:lb W192 0=1:=by decide
 have h1:lb W192 1=0:=by decide
 have h2:lb W192 2=0:=by decide
 have h3:lb W192 3=0:=by decide
 unfold numV
 rw[h0,h1,h2,h3]
 rfl
theorem api_c:Cont Tryz.prog 253 [] (numV TT.pi4):=fun w=>by
 rw[←pi4_val]
 refine enter0 Tryz.func253 rfl rfl rfl ?_
 repeat' (first|(show YK _ _ _ _ _ ⟨_,.build 250 _,_,_,_,_⟩ _;refine YK.ofV (y_build (cells:=[Value.int .u64 3,Value.int .u64 2611923443488327891,Value.int .u64 1376283091369227076,Value.int .u64 11820040416388919760]) (parts:=[(0,_),(1,_),(2,_),(3,_)]) (vs:=[Value.int .u64 3,Value.int .u64 2611923443488327891,Value.int .u64 1376283091369227076,Value.int .u64 11820040416388919760]) ⟨rfl,rfl,rfl,rfl,rfl⟩ pi4_built) ?_)|(refine nxV ?_)|(refine nSS ?_)|(refine nS1 fun _=>?_)|(refine nMM ?_)|(refine nM1 fun _=>?_)|(refine nxG ?_)|(refine nxX ?_)|(refine G.cN rfl (fun hc=>?_) (fun hc=>?_)<;>(try first|exact hc.elim|(exfalso;omega))))
 exact X.ret (vs:=[_]) rfl ⟨⟨_,_,_,_,rfl,(by exact memA),lenA,by decide +kernel,rfl⟩,rfl⟩ rfl rE
theorem circle0_c {k:Nat} (h:k≤2700000):Cont Tryz.prog 238 [.int .i64 (k:Int)] (.tuple [numV (TT.ser4 1 (TT.rad4 k) (TT.sq4 k)).toNat,numV (TT.ser4 0 W192 (TT.sq4 k)).toNat].toArray):=fun w=>by
 have hr:=TT.rad4_lt h
 have hs:=TT.sq4_lt h
 have hp:TT.pi4*k<W256:=Nat.lt_of_le_of_lt (Nat.mul_le_mul_left TT.pi4 h) (by decide)
 have q1:=api_c
 have q2:=atimes_c (a:=TT.pi4) (n:=k) (by decide) (by omega) hp
 have q3:=aover_c (a:=TT.pi4*k) (d:=10800000) hp (by decide) (by decide)
 have hr256:TT.rad4 k<W256:=Nat.lt_trans hr (by decide)
 have q4:=amul_c (a:=TT.rad4 k) (b:=TT.rad4 k) hr256 hr256 (Nat.lt_trans hs (by decide))
 have q5:=series_c (o:=1) (first:=TT.rad4 k) (q:=TT.sq4 k) (by omega) hs (Nat.lt_trans hr (by decide))
 have q6:=series_c (o:=0) (first:=W192) (q:=TT.sq4 k) (by omega) hs (by decide)
 rw[←one_val] at q6
 change Cont _ _ _ (numV (TT.rad4 k)) at q3
 change Cont _ _ _ (numV (TT.sq4 k)) at q4
 generalize TT.pi4*k=pk at *
 generalize TT.pi4=p4 at *
 generalize TT.sq4 k=sq at *
 generalize TT.rad4 k=rd at *
 generalize (TT.ser4 1 rd sq).toNat=A at *
 generalize (TT.ser4 0 W192 sq).toNat=B at *
 refine enter0 Tryz.func238 rfl rfl rfl ?_
 repeat' (first|(show YK _ _ _ _ _ ⟨_,.build 250 _,_,_,_,_⟩ _;refine YK.ofV (y_build (cells:=[Value.int .u64 1,Value.int .u64 0,Value.int .u64 0,Value.int .u64 0]) (parts:=[(0,_)]) (vs:=[Value.int .u64 1]) ⟨rfl,rfl⟩ one_built) ?_)|(show VK _ _ _ _ _ ⟨_,.build 250 _,_,_,_,_⟩ _;refine VK.mk (y_build (cells:=[Value.int .u64 1,Value.int .u64 0,Value.int .u64 0,Value.int .u64 0]) (parts:=[(0,_)]) (vs:=[Value.int .u64 1]) ⟨rfl,rfl⟩ one_built) ?_)|(show YK _ _ _ _ _ _ _;first|refine YK.mk (zcA (q1) rfl) ?_|refine YK.mk (zcA (q2) ⟨rfl,rfl,rfl⟩) ?_|refine YK.mk (zcA (q3) ⟨rfl,rfl,rfl⟩) ?_|refine YK.mk (zcA (q4) ⟨rfl,rfl,rfl⟩) ?_|refine YK.mk (zcA (q5) ⟨rfl,rfl,rfl,rfl⟩) ?_|refine YK.mk (zcA (q6) ⟨rfl,rfl,rfl,rfl⟩) ?_)|(refine nxV ?_)|(refine nSS ?_)|(refine nS1 fun _=>?_)|(refine nMM ?_)|(refine nM1 fun _=>?_)|(show YG _ _ _ _ _ _ _ _;refine YG.mk (fun hb=>by(try(have hc:=And.left hb;have hb:=And.right hb;rw[hc]));(try rw[hb]);first|exact(zcA (q1) rfl)|exact(zcA (q2) ⟨rfl,rfl,rfl⟩)|exact(zcA (q3) ⟨rfl,rfl,rfl⟩)|exact(zcA (q4) ⟨rfl,rfl,rfl⟩)|exact(zcA (q5) ⟨rfl,rfl,rfl,rfl⟩)|exact(zcA (q6) ⟨rfl,rfl,rfl,rfl⟩)|exact V.y vAuto) ?_)|(refine nxG ?_)|(refine G.mA 3 [.go 0,.go 1,.go 2,.go 3] ?_)|(refine G.mA 6 [.go 0,.go 1,.go 3,.go 4,.go 2,.go 5,.go 6,.go 7] ?_)|(refine nxX ?_)|(refine G.cN rfl (fun hc=>?_) (fun hc=>?_)<;>(try first|exact hc.elim|(exfalso;omega))))
 exact X.ret (vs:=[_,_]) rfl ⟨⟨_,_,_,_,rfl,(by exact memA),lenA,by decide +kernel,rfl⟩,⟨_,_,_,_,rfl,(by exact memA),lenA,by decide +kernel,rfl⟩,rfl⟩ rfl rE
theorem circle_c {k:Nat} (h:k≤5400000):Cont Tryz.prog 238 [.int .i64 (k:Int)] (.tuple [numV (TT.sin4 k).toNat,numV (TT.cos4 k).toNat].toArray):=fun w=>by
 unfold TT.sin4 TT.cos4
 by_cases hk:2700000<k
 ·rw[if_pos hk,if_pos hk]
  have q1:=circle0_c (k:=5400000-k) (by omega)
  rw[show ((5400000-k:Nat):Int)=5400000-(k:Int) by omega] at q1
  generalize (TT.ser4 1 (TT.rad4 (5400000-k)) (TT.sq4 (5400000-k))).toNat=A at *
  generalize (TT.ser4 0 W192 (TT.sq4 (5400000-k))).toNat=B at *
  have hk':(2700000:Int)<(k:Int):=by omega
  refine enter0 Tryz.func238 rfl rfl rfl ?_
  repeat' (first|(show YK _ _ _ _ _ _ _;first|refine YK.mk (zcA (q1) ⟨rfl,rfl⟩) ?_)|(refine nxV ?_)|(refine nSS ?_)|(refine nS1 fun _=>?_)|(refine nMM ?_)|(refine nM1 fun _=>?_)|(show YG _ _ _ _ _ _ _ _;refine YG.mk (fun hb=>by(try(have hc:=And.left hb;have hb:=And.right hb;rw[hc]));(try rw[hb]);first|exact(zcA (q1) ⟨rfl,rfl⟩)|exact V.y vAuto) ?_)|(refine nxG ?_)|(refine G.mA 3 [.go 0,.go 1,.go 2,.go 3] ?_)|(refine G.mA 6 [.go 0,.go 1,.go 3,.go 4,.go 2,.go 5,.go 6,.go 7] ?_)|(refine nxX ?_)|(refine G.cN rfl (fun hc=>?_) (fun hc=>?_)<;>(try first|exact hc.elim|(exfalso;omega))))
  exact X.ret (vs:=[_,_]) rfl ⟨⟨_,_,_,_,rfl,(by exact memA),lenA,by decide +kernel,rfl⟩,⟨_,_,_,_,rfl,(by exact memA),lenA,by decide +kernel,rfl⟩,rfl⟩ rfl rE
 ·rw[if_neg hk,if_neg hk]
  exact circle0_c (k:=k) (by omega) w
theorem ser4_le {n:Nat} (h:n≤2700000) (o first:Nat):TT.ser4 o first (TT.sq4 n)≤first:=by
 obtain⟨h1,h2⟩:=TT.alt4_bd (o:=o) (TT.sq4_lt h) 200 0 first
 unfold TT.ser4
 omega
theorem circ_le {k:Nat} (h:k≤5400000):TT.sin4 k≤W192∧TT.cos4 k≤W192:=by
 have hr:∀n,n≤2700000→TT.rad4 n≤W192:=fun n hn=>Nat.le_of_lt (TT.rad4_lt hn)
 unfold TT.sin4 TT.cos4
 split
 ·have a:=ser4_le (n:=5400000-k) (by omega) 0 W192
  have b:=ser4_le (n:=5400000-k) (by omega) 1 (TT.rad4 (5400000-k))
  have c:=hr (5400000-k) (by omega)
  exact⟨a,by omega⟩
 ·have a:=ser4_le (n:=k) (by omega) 0 W192
  have b:=ser4_le (n:=k) (by omega) 1 (TT.rad4 k)
  have c:=hr k (by omega)
  exact⟨by omega,a⟩
theorem times_lt {a n:Nat} (ha:a≤W192) (hn:n≤2147483648):a*n<W256:=Nat.lt_of_le_of_lt (Nat.mul_le_mul ha hn) (by decide)
theorem reach_c {x y k:Int} (hx:0≤x∧x≤2147483648) (hy:0≤y∧y≤2147483648) (h0:0≤k) (h1:k≤5400000):Cont Tryz.prog 209 [ptV x y,.int .i64 k] (.bool (TT.reachB x y k)):=fun w=>by
 unfold TT.reachB
 by_cases hk0:k=0
 ·subst hk0
  refine enter0 Tryz.func209 rfl rfl rfl ?_
  repeat' (first|(refine nxV ?_)|(refine nSS ?_)|(refine nS1 fun _=>?_)|(refine nMM ?_)|(refine nM1 fun _=>?_)|(refine nxG ?_)|(refine G.mA 7 [.go 0,.go 1,.go 2,.go 3,.go 5,.go 6,.go 7,.go 8,.go 4,.go 9,.go 10,.go 11,.go 12] ?_)|(refine nxX ?_)|(refine G.cN rfl (fun hc=>?_) (fun hc=>?_)<;>(try first|exact hc.elim|(exfalso;omega))))
  exact X.ret1
 rw[if_neg hk0]
 by_cases hk1:k=2700000
 ·subst hk1
  refine enter0 Tryz.func209 rfl rfl rfl ?_
  repeat' (first|(refine nxV ?_)|(refine nSS ?_)|(refine nS1 fun _=>?_)|(refine nMM ?_)|(refine nM1 fun _=>?_)|(refine nxG ?_)|(refine G.mA 7 [.go 0,.go 1,.go 2,.go 3,.go 5,.go 6,.go 7,.go 8,.go 4,.go 9,.go 10,.go 11,.go 12] ?_)|(refine nxX ?_)|(refine G.cN rfl (fun hc=>?_) (fun hc=>?_)<;>(try first|exact hc.elim|(exfalso;omega))))
  exact X.ret1
 rw[if_neg hk1]
 obtain⟨K,rfl⟩:=Int.eq_ofNat_of_zero_le h0
 obtain⟨X',rfl⟩:=Int.eq_ofNat_of_zero_le hx.1
 obtain⟨Y,rfl⟩:=Int.eq_ofNat_of_zero_le hy.1
 have hK:K≤5400000:=by omega
 have q1:=circle_c hK
 obtain⟨n1,n2⟩:=TT.circ_nn hK
 obtain⟨l1,l2⟩:=circ_le hK
 have e:(!decide (TT.cos4 (K:Int).toNat*(Y:Int)<TT.sin4 (K:Int).toNat*(X':Int))) = !decide ((TT.cos4 K).toNat*Y<(TT.sin4 K).toNat*X'):=by
  rw[Int.toNat_natCast]
  generalize TT.cos4 K=c at *
  generalize TT.sin4 K=s at *
  obtain⟨c,rfl⟩:=Int.eq_ofNat_of_zero_le n2
  obtain⟨s,rfl⟩:=Int.eq_ofNat_of_zero_le n1
  rw[Int.toNat_natCast,Int.toNat_natCast,←Int.natCast_mul,←Int.natCast_mul]
  congr 1
  exact decide_eq_decide.2 Int.ofNat_lt
 rw[e]
 have hc:(TT.cos4 K).toNat≤W192:=by omega
 have hs:(TT.sin4 K).toNat≤W192:=by omega
 generalize (TT.cos4 K).toNat=C at *
 generalize (TT.sin4 K).toNat=S at *
 clear e n1 n2 l1 l2
 have hC:=times_lt hc (n:=Y) (by omega)
 have hS:=times_lt hs (n:=X') (by omega)
 have q2:=atimes_c (a:=C) (n:=Y) (Nat.lt_of_le_of_lt hc (by decide)) (by omega) hC
 have q3:=atimes_c (a:=S) (n:=X') (Nat.lt_of_le_of_lt hs (by decide)) (by omega) hS
 have q4:=aless_c hC hS
 generalize C*Y=CY at *
 generalize S*X'=SX at *
 refine enter0 Tryz.func209 rfl rfl rfl ?_
 repeat' (first|(show YK _ _ _ _ _ _ _;first|refine YK.mk (zcA (q1) ⟨rfl,rfl⟩) ?_|refine YK.mk (zcA (q2) ⟨rfl,rfl,rfl⟩) ?_|refine YK.mk (zcA (q3) ⟨rfl,rfl,rfl⟩) ?_|refine YK.mk (zcA (q4) ⟨rfl,rfl,rfl⟩) ?_)|(refine nxV ?_)|(refine nSS ?_)|(refine nS1 fun _=>?_)|(refine nMM ?_)|(refine nM1 fun _=>?_)|(show YG _ _ _ _ _ _ _ _;refine YG.mk (fun hb=>by(try(have hc:=And.left hb;have hb:=And.right hb;rw[hc]));(try rw[hb]);first|exact(zcA (q1) ⟨rfl,rfl⟩)|exact(zcA (q2) ⟨rfl,rfl,rfl⟩)|exact(zcA (q3) ⟨rfl,rfl,rfl⟩)|exact(zcA (q4) ⟨rfl,rfl,rfl⟩)|exact V.y vAuto) ?_)|(refine nxG ?_)|(refine G.mA 7 [.go 0,.go 1,.go 2,.go 3,.go 5,.go 6,.go 7,.go 8,.go 4,.go 9,.go 10,.go 11,.go 12] ?_)|(refine nxX ?_)|(refine G.cN rfl (fun hc=>?_) (fun hc=>?_)<;>(try first|exact hc.elim|(exfalso;omega))))
 exact X.ret1
theorem befA_c {p q:Int×Int} (hp : -2147483648≤p.1∧p.1≤2147483648∧-2147483648≤p.2∧p.2≤2147483648) (hq : -2147483648≤q.1∧q.1≤2147483648∧-2147483648≤q.2∧q.2≤2147483648):Cont Tryz.prog 168 [ptV p.1 p.2,ptV q.1 q.2] (.bool (TT.befI p q)):=fun w=>by
 have h1:=TT.abs_mul_le (A:=2147483648) (u:=2147483648) (a:=p.1) (t:=q.2) (by omega) (by omega)
 have h2:=TT.abs_mul_le (A:=2147483648) (u:=2147483648) (a:=p.2) (t:=q.1) (by omega) (by omega)
 unfold TT.befI
 refine enter0 Tryz.func168 rfl rfl rfl ?_
 repeat' (first|(refine nxV ?_)|(refine nSS ?_)|(refine nS1 fun _=>?_)|(refine nMM ?_)|(refine nM1 fun _=>?_)|(refine nxG ?_)|(refine nxX ?_)|(refine G.cN rfl (fun hc=>?_) (fun hc=>?_)<;>(try first|exact hc.elim|(exfalso;omega))))
 exact X.ret1
end Go.Proofs.YtjmdeplmenbmmaaGreat
set_option maxHeartbeats 8000000
namespace Go.Proofs.YtjmdeplmenbmmaaGreat
open Go.RowKit
theorem qd_turn {x y:Int} (hne:x≠0∨y≠0) (h:¬(0<x∧0≤y)):TT.qd x y=TT.qd y (-x)+1∧TT.rX x y=TT.rX y (-x)∧TT.rY x y=TT.rY y (-x):=by
 unfold TT.qd TT.rX TT.rY
 simp only[if_neg h]
 by_cases h1:0<y
 ·have h3:0<y∧0≤-x:=⟨h1,by omega⟩
  simp only[if_pos h1,if_pos h3]
  exact⟨by decide,by first|trivial|omega,by first|trivial|omega⟩
 ·have h3:¬(0<y∧0≤-x):=fun h=>h1 h.1
  simp only[if_neg h1,if_neg h3]
  by_cases h2:x<0
  ·have h4:0 < -x:=by omega
   simp only[if_pos h2,if_pos h4]
   exact⟨by decide,by first|trivial|omega,by first|trivial|omega⟩
  ·have h4:¬0 < -x:=by omega
   have h5:y<0:=by omega
   simp only[if_neg h2,if_neg h4,if_pos h5]
   exact⟨by decide,by first|trivial|omega,by first|trivial|omega⟩
theorem qd_bd (x y:Int):0≤TT.qd x y∧TT.qd x y≤3:=by
 unfold TT.qd
 split
 ·omega
 split
 ·omega
 split<;>omega
theorem qd_zero {x y:Int} (h:0<x∧0≤y):TT.qd x y=0∧TT.rX x y=x∧TT.rY x y=y:=by
 unfold TT.qd TT.rX TT.rY
 rw[if_pos h,if_pos h,if_pos h]
 exact⟨rfl,rfl,rfl⟩
theorem pow2_pos (f:Nat):(0:Int)<2^f:=Int.pow_pos (by decide)
theorem flA_done {x y lo hi:Int} (f:Nat) (h:hi-lo≤1):TT.flA x y f lo hi=lo:=by
 cases f with
 |zero=>rfl
 |succ f=>unfold TT.flA;rw[if_pos h]
theorem flA_step {x y lo hi:Int} {f:Nat} (h:¬hi-lo≤1) (hf:hi-lo≤2^f):∃g,f=g+1∧TT.flA x y f lo hi=if TT.reachB x y ((lo+hi)/2)=true then TT.flA x y g ((lo+hi)/2) hi else TT.flA x y g lo ((lo+hi)/2):=by
 cases f with
 |zero =>
  have:(2:Int)^0=1:=rfl
  omega
 |succ f=>exact⟨f,rfl,by conv=>lhs;unfold TT.flA;rw[if_neg h]⟩
theorem angle_c {x y:Int} (hx : -2147483648≤x∧x≤2147483648) (hy : -2147483648≤y∧y≤2147483648) (hne:x≠0∨y≠0):Cont Tryz.prog 169 [ptV x y] (.tuple [.int .i64 (TT.angI (x,y)),.bool (TT.exI (x,y))].toArray):=fun w=>by
 unfold TT.angI TT.exI
 dsimp only
 refine enter0 Tryz.func169 rfl rfl rfl ?_
 repeat' (first|(refine nxV ?_)|(refine nSS ?_)|(refine nS1 fun _=>?_)|(refine nMM ?_)|(refine nM1 fun _=>?_)|(refine nxG ?_)|(refine G.mA 11 [.go 0,.go 1,.go 2,.go 3,.go 4,.go 5,.go 6,.go 7,.go 8,.go 9,.go 10,.go 11,.go 12,.go 13,.go 14,.go 15,.go 16,.go 17,.go 18,.go 19,.go 20,.go 21,.go 22] ?_)|(refine nxX ?_)|(refine G.cN rfl (fun hc=>?_) (fun hc=>?_)<;>(try first|exact hc.elim|(exfalso;omega))))
 rename_i b1
 refine G.loop (ι:=Int×Int×Int) (fun s=>[(1,.pointer (some ⟨b1,0,none⟩)),(2,.int .i64 0),(3,.bool false),(4,.int .i64 s.2.2)]) (fun s=>[Hl.blk b1 188 [.int .i64 s.1,.int .i64 s.2.1]])
  (fun s=>(s.1≠0∨s.2.1≠0)∧(-2147483648≤s.1∧s.1≤2147483648)∧(-2147483648≤s.2.1∧s.2.1≤2147483648)∧s.2.2+5400000*TT.qd s.1 s.2.1=5400000*TT.qd x y∧0≤s.2.2∧TT.rX s.1 s.2.1=TT.rX x y∧TT.rY s.1 s.2.1=TT.rY x y) (fun s=>(TT.qd s.1 s.2.1).toNat) (x,y,0) ⟨hne,hx,hy,by dsimp only;omega,Int.le_refl _,rfl,rfl⟩ ⟨rfl,rfl,rfl,rfl,trivial⟩ (by exact fun w h=>h.sub subS) ?_
 rintro⟨a,c,t⟩ mx ⟨g1,g2,g3,g4,g5,g6,g7⟩ hmx
 dsimp only at g1 g2 g3 g4 g5 g6 g7 hmx ⊢
 have bq:=qd_bd x y
 have ba:=qd_bd a c
 by_cases hq:0<a∧0≤c
 ·obtain⟨e1,e2,e3⟩:=qd_zero hq
  rw[e1] at g4
  rw[←g6,←g7,e2,e3,show 5400000*TT.qd x y=t by omega]
  have ht:t≤16200000:=by omega
  clear g4 g6 g7 e1 e2 e3 hmx
  have hfl:=TT.flI_is a c
  repeat' (first|(refine nxV ?_)|(refine nSS ?_)|(refine nS1 fun _=>?_)|(refine nMM ?_)|(refine nM1 fun _=>?_)|(refine nxG ?_)|(refine G.mA 11 [.go 0,.go 1,.go 2,.go 3,.go 4,.go 5,.go 6,.go 7,.go 8,.go 9,.go 10,.go 11,.go 12,.go 13,.go 14,.go 15,.go 16,.go 17,.go 18,.go 19,.go 20,.go 21,.go 22] ?_)|(refine nxX ?_)|(refine G.cN rfl (fun hc=>?_) (fun hc=>?_)<;>(try first|exact hc.elim|(exfalso;omega))))
  refine G.loop (ι:=Nat×Int×Int) (fun s=>[(1,.pointer (some ⟨b1,0,none⟩)),(4,.int .i64 t),(5,.int .i64 s.2.1),(6,.int .i64 s.2.2)]) (fun s=>[Hl.blk b1 188 [.int .i64 a,.int .i64 c]])
   (fun s=>(0≤s.2.1∧s.2.1<s.2.2∧s.2.2≤5400000)∧s.2.2-s.2.1≤2^s.1∧TT.flA a c s.1 s.2.1 s.2.2=TT.flI a c) (fun s=>(s.2.2-s.2.1).toNat) (23,0,5400000) ⟨by decide,by decide,rfl⟩ ⟨rfl,rfl,rfl,rfl,trivial⟩ (by exact fun w h=>h.sub subS) ?_
  rintro⟨f,lo,hi⟩ mx2 ⟨k1,k2,k3⟩ hmx2
  dsimp only at k1 k2 k3 hmx2 ⊢
  by_cases hd:hi-lo≤1
  ·rw[flA_done f hd] at k3
   unfold TT.exF
   rw[←k3]
   repeat' (first|(refine nxV ?_)|(refine nSS ?_)|(refine nS1 fun _=>?_)|(refine nMM ?_)|(refine nM1 fun _=>?_)|(refine nxG ?_)|(refine G.mA 11 [.go 0,.go 1,.go 2,.go 3,.go 4,.go 5,.go 6,.go 7,.go 8,.go 9,.go 10,.go 11,.go 12,.go 13,.go 14,.go 15,.go 16,.go 17,.go 18,.go 19,.go 20,.go 21,.go 22] ?_)|(refine nxX ?_)|(refine G.cN rfl (fun hc=>?_) (fun hc=>?_)<;>(try first|exact hc.elim|(exfalso;omega))))
   all_goals exact X.ret (vs:=[_,_]) rfl ⟨rfl,rfl,rfl⟩ rfl rE
  ·obtain⟨g,rfl,e⟩:=flA_step (x:=a) (y:=c) hd k2
   rw[e] at k3
   have q1:=reach_c (x:=a) (y:=c) (k:=(lo+hi)/2) (by omega) (by omega) (by omega) (by omega)
   have e2:(2:Int)^(g+1)=2*2^g:=by rw[Int.pow_succ,Int.mul_comm]
   rw[e2] at k2
   have hp:=pow2_pos g
   have et:(lo+hi).tdiv 2=(lo+hi)/2:=Int.tdiv_eq_ediv_of_nonneg (by omega)
   cases hr:TT.reachB a c ((lo+hi)/2) with
   |true =>
    rw[hr] at q1 k3
    rw[if_pos rfl] at k3
    repeat' (first|(show YK _ _ _ _ _ _ _;first|refine YK.mk (zcA (q1) ⟨rfl,rfl,rfl⟩) ?_)|(refine nxV ?_)|(refine nSS ?_)|(refine nS1 fun _=>?_)|(refine nMM ?_)|(refine nM1 fun _=>?_)|(show YG _ _ _ _ _ _ _ _;refine YG.mk (fun hb=>by(try(have hc:=And.left hb;have hb:=And.right hb;rw[hc]));(try rw[hb]);first|exact(zcA (q1) ⟨rfl,rfl,rfl⟩)|exact V.y vAuto) ?_)|(refine nxG ?_)|(refine G.mA 11 [.go 0,.go 1,.go 2,.go 3,.go 4,.go 5,.go 6,.go 7,.go 8,.go 9,.go 10,.go 11,.go 12,.go 13,.go 14,.go 15,.go 16,.go 17,.go 18,.go 19,.go 20,.go 21,.go 22] ?_)|(refine nxX ?_)|(refine G.cN rfl (fun hc=>?_) (fun hc=>?_)<;>(try first|exact hc.elim|(exfalso;omega))))
    all_goals exact X.again (g,(lo+hi)/2,hi) ⟨by dsimp only;omega,by dsimp only;omega,k3⟩ (by dsimp only;omega) ⟨rfl,rfl,rfl,rfl,trivial⟩ (by exact fun w h=>h.sub subS)
   |false =>
    rw[hr] at q1 k3
    rw[if_neg (by decide)] at k3
    repeat' (first|(show YK _ _ _ _ _ _ _;first|refine YK.mk (zcA (q1) ⟨rfl,rfl,rfl⟩) ?_)|(refine nxV ?_)|(refine nSS ?_)|(refine nS1 fun _=>?_)|(refine nMM ?_)|(refine nM1 fun _=>?_)|(show YG _ _ _ _ _ _ _ _;refine YG.mk (fun hb=>by(try(have hc:=And.left hb;have hb:=And.right hb;rw[hc]));(try rw[hb]);first|exact(zcA (q1) ⟨rfl,rfl,rfl⟩)|exact V.y vAuto) ?_)|(refine nxG ?_)|(refine G.mA 11 [.go 0,.go 1,.go 2,.go 3,.go 4,.go 5,.go 6,.go 7,.go 8,.go 9,.go 10,.go 11,.go 12,.go 13,.go 14,.go 15,.go 16,.go 17,.go 18,.go 19,.go 20,.go 21,.go 22] ?_)|(refine nxX ?_)|(refine G.cN rfl (fun hc=>?_) (fun hc=>?_)<;>(try first|exact hc.elim|(exfalso;omega))))
    all_goals exact X.again (g,lo,(lo+hi)/2) ⟨by dsimp only;omega,by dsimp only;omega,k3⟩ (by dsimp only;omega) ⟨rfl,rfl,rfl,rfl,trivial⟩ (by exact fun w h=>h.sub subS)
 ·obtain⟨e1,e2,e3⟩:=qd_turn g1 hq
  have ba2:=qd_bd c (-a)
  repeat' (first|(refine nxV ?_)|(refine nSS ?_)|(refine nS1 fun _=>?_)|(refine nMM ?_)|(refine nM1 fun _=>?_)|(refine nxG ?_)|(refine G.mA 11 [.go 0,.go 1,.go 2,.go 3,.go 4,.go 5,.go 6,.go 7,.go 8,.go 9,.go 10,.go 11,.go 12,.go 13,.go 14,.go 15,.go 16,.go 17,.go 18,.go 19,.go 20,.go 21,.go 22] ?_)|(refine nxX ?_)|(refine G.cN rfl (fun hc=>?_) (fun hc=>?_)<;>(try first|exact hc.elim|(exfalso;omega))))
  all_goals exact X.again (c,-a,t+5400000) ⟨by dsimp only;omega,by dsimp only;omega,by dsimp only;omega,by dsimp only;omega,by dsimp only;omega,by dsimp only;rw[←e2];exact g6,by dsimp only;rw[←e3];exact g7⟩ (by dsimp only;omega) ⟨rfl,rfl,rfl,rfl,trivial⟩ (by exact fun w h=>h.sub subS)
end Go.Proofs.YtjmdeplmenbmmaaGreat
