/- Joined texts: R11, R12, R13, R14, Sst, Ssi. -/
import Derived.Test.YtjmdeplmenbmmaaGreatDoorW27
set_option linter.unusedVariables false
set_option maxHeartbeats 8000000
namespace Go.Proofs.YtjmdeplmenbmmaaGreatDoor
open Go.RowKit
theorem r38has0_c {v:Value} {c:RR.CellT} : ContR Tryz.prog [Hl.rd v cT 3 []] 236 [v,ctV c] (.bool false):=fun w hw0=>by
 have l0:((([]:List RR.CellT).length:Nat):Int)=0:=rfl
 refine enter Tryz.func236 rfl rfl rfl hw0 ?_
 repeat' (first|(show G _ _ _ _ _ _ (.loop _);refine G.loopN 2 (GR.step ?_))|(refine nxV ?_)|(refine nSS ?_)|(refine nS1 fun _=>?_)|(refine nxX ?_)|(refine G.cN rfl (fun hc=>?_) (fun hc=>?_)<;>(try first|exact hc.elim|(exfalso;omega))))
 all_goals first
  |(exfalso;simp at hc;done)
  |exact X.ret1
theorem r38holds_c {x y:Bool} : Cont Tryz.prog 238 [.int .i64 1,.bool x,.bool y] (.bool (x||y)):=fun w=>by
 refine enter0 Tryz.func238 rfl rfl rfl ?_
 repeat' (first|(refine nxV ?_)|(refine nSS ?_)|(refine nxG ?_)|(refine nxX ?_)|(refine G.cN rfl (fun hc=>?_) (fun hc=>?_)<;>(try first|exact hc.elim|(exfalso;omega))))
 all_goals first
  |(exfalso;simp at hc;done)
  |(exfalso;omega)
  |exact X.ret (vs:=[_]) rfl ⟨rfl,rfl⟩ rfl (fun w hw=>⟨ret_bool (by cases x<;>cases y<;>rfl),hw.ext⟩)
def WitI (c:RR.CellT) (l:List RR.CellT):Prop:=(∀x∈l,RR.okC x)∧l.length≤4^(17-c.lv)
section
variable {va vb:Value} {a:List RR.CellT} {c:RR.CellT}
theorem rwithin_w (ok:RR.okC c) (oka:∀x∈a,RR.okC x) (hl:a.length≤100000)
  (ih:c.lv<16→∀x∈RR.kids c,∀(va vb:Value) (a:List RR.CellT),(∀x∈a,RR.okC x)→a.length≤100000→ContX Tryz.prog [Hl.rd va cT 3 a,Hl.rd vb cT 3 []] 181 [.int .i64 1,va,vb,ctV x,.bool false,.bool false] (fun z:Sl×List RR.CellT=>WitI x z.2) (fun z=>z.1.v) (fun z=>[Hl.nw z.1.v cT 3 z.2])) :
  ContX Tryz.prog [Hl.rd va cT 3 a,Hl.rd vb cT 3 []] 181 [.int .i64 1,va,vb,ctV c,.bool false,.bool false] (fun z:Sl×List RR.CellT=>WitI c z.2) (fun z=>z.1.v) (fun z=>[Hl.nw z.1.v cT 3 z.2]):=fun w hw0=>by
 have q1:=r38has_c (v:=va) (c:=c) hl
 have q2:=r38has0_c (v:=vb) (c:=c)
 have q3:=r38below_c (v:=va) ok oka hl
 have q4:=r38below_c (v:=vb) (l:=[]) ok (fun x hx=>by cases hx) (by decide)
 have q5:=r38below_c (v:=.slice none 0 0) (l:=[]) ok (fun x hx=>by cases hx) (by decide)
 have q6:=fun x y=>r38holds_c (x:=x) (y:=y)
 have ok':=ok
 obtain⟨o1,o2,o3⟩:=ok
 have hp:2^c.lv≤2^16:=Nat.pow_le_pow_right (by decide) o1
 have q7:=rchi_c (L:=c.lv) (r:=c.r) (c:=c.c) (by omega)
 have hkd:[(⟨c.lv+1,2*c.r,2*c.c⟩:RR.CellT),⟨c.lv+1,2*c.r,2*c.c+1⟩,⟨c.lv+1,2*c.r+1,2*c.c⟩,⟨c.lv+1,2*c.r+1,2*c.c+1⟩]=RR.kids c:=rfl
 rw[hkd] at q7
 have hk4:(RR.kids c).length=4:=rfl
 have hkid:c.lv<16→∀x∈RR.kids c,RR.okC x∧x.lv=c.lv+1:=fun h x hx=>by
  refine⟨RR.okC_kid ok' h hx,?_⟩
  simp only[RR.kids,List.mem_cons,List.not_mem_nil,or_false] at hx
  rcases hx with rfl|rfl|rfl|rfl<;>rfl
 clear hkd o2 o3 hp
 generalize RR.kids c=K at *
 refine enter Tryz.func181 rfl rfl rfl hw0 ?_
 repeat' (first|(show RS _ _ _ _ _ _ _ (⟨some 49,.buildSlice 62 1 _,_,_,_,_⟩::_);refine RS.lit1T (a:=c) (fun v'=>?_) rfl)|(show RS _ _ _ _ _ _ _ (⟨some 51,.call _,_,_,_,_⟩::_);refine RS.callX (q7) ⟨rfl,rfl⟩ ?_;rintro v3 -;dsimp only[List.cons_append,List.nil_append])|(show YK _ _ _ _ _ _ _;first|refine YK.mk (zcR (q2) ⟨rfl,rfl,rfl⟩) ?_|refine YK.mk (zcA (q6 _ _) ⟨rfl,rfl,rfl,rfl⟩) ?_)|(refine nxV ?_)|(show RS _ _ _ _ _ _ _ _;first|(refine RS.callXG (fun _:True=>q1) ⟨rfl,rfl,rfl⟩ ?_;rintro bx -)|(refine nSS ?_)|(refine nS1 fun _=>?_)|done)|(show RM _ _ _ _ _ _ _ _ _ _;first|(refine RM.callX (q5) ?_;rintro⟨s3,l3⟩ ⟨k5,k6⟩)|(refine RM.callX (q4) ?_;rintro⟨s2,l2⟩ ⟨k3,k4⟩)|(refine RM.callX (q3) ?_;rintro⟨s1,l1⟩ ⟨k1,k2⟩)|(refine nMM ?_)|done)|(refine nxG ?_)|(refine G.mA 7 [.go 0,.go 1,.go 3,.go 4,.go 2,.go 5,.go 6,.go 7] ?_)|(refine nxX ?_)|(refine G.cN rfl (fun hc=>?_) (fun hc=>?_)<;>(try first|exact hc.elim|(exfalso;omega))))
 all_goals first
  |(exfalso;simp_all;done)
  |(exact X.retN (vs:=[_]) ((v',[c]):Sl×List RR.CellT) rfl ⟨rfl,rfl⟩ rfl ⟨(fun x hx=>by rw[List.mem_singleton.1 hx];exact ok'),Nat.pow_pos (by decide)⟩ rfl (NewIn.rw (by exact memA) NewIn.nil))
  |(exact X.retN (vs:=[_]) ((⟨none,0,0⟩,[]):Sl×List RR.CellT) rfl ⟨rfl,rfl⟩ rfl ⟨(fun x hx=>by cases hx),Nat.zero_le _⟩ rfl (NewIn.nilS NewIn.nil))
  |skip
 rename_i b9 hcx hcy
 dsimp only[List.length_nil] at k1 k2 k3 k4
 obtain rfl:l2=[]:=List.eq_nil_of_length_eq_zero (by omega)
 subst hcx
 have hne:0<l1.length:=by rw[List.length_nil] at hc;omega
 have hlv:c.lv<16:=by
  have hx:=k1 l1[0] (List.getElem_mem hne)
  have:=hx.1.1
  omega
 have ih':=ih hlv
 have hkid':=hkid hlv
 have oka1:∀x∈l1,RR.okC x:=fun x hx=>(k1 x hx).1
 have hll:l1.length≤100000:=by omega
 have he:4^(17-c.lv)=4*4^(16-c.lv):=by rw[show 17-c.lv=(16-c.lv)+1 by omega,Nat.pow_succ,Nat.mul_comm]
 have hp16:4^(16-c.lv)≤4294967296:=Nat.le_trans (Nat.pow_le_pow_right (by decide) (show 16-c.lv≤16 by omega)) (by decide)
 have hq:∀x∈K,4^(17-x.lv)=4^(16-c.lv):=fun x hx=>by rw[(hkid' x hx).2,show 17-(c.lv+1)=16-c.lv by omega]
 unfold WitI at ih' ⊢
 rw[he]
 generalize 4^(16-c.lv)=B at *
 clear q1 q2 q3 q4 q5 q6 q7 ih hkid k1 k2 k3 k4 hc hcy oka hl he
 refine G.loop (ι:=(Sl×List RR.CellT)×Nat) (fun y=>[(0,.int .i64 1),(1,s1.v),(2,s2.v),(4,.bool false),(5,.bool false),(9,.pointer (some ⟨b9,0,none⟩)),(13,v3.v),(14,y.1.1.v),(15,.int .i64 (y.2:Int))]) (fun y=>[Hl.rw y.1.1.v 73 cT 3 y.1.2,Hl.nw v3.v cT 3 K,Hl.nw s2.v cT 3 [],Hl.nw s1.v cT 3 l1,Hl.blk b9 73 [.int .i64 c.lv,.int .i64 c.r,.int .i64 c.c]]) (fun y=>y.2≤4∧(∀x∈y.1.2,RR.okC x)∧y.1.2.length≤y.2*B) (fun y=>4-y.2) ((⟨none,0,0⟩,[]),0) ⟨Nat.zero_le _,(fun x hx=>by cases hx),Nat.zero_le _⟩ ⟨rfl,rfl,rfl,rfl,rfl,rfl,rfl,rfl,rfl,trivial⟩ (fun w' h=>St.nilRow 73 cT 3 (h.sub (H':=[Hl.nw v3.v cT 3 K,Hl.nw s2.v cT 3 [],Hl.nw s1.v cT 3 l1,Hl.blk b9 73 [.int .i64 c.lv,.int .i64 c.r,.int .i64 c.c]]) subS)) ?_
 rintro⟨⟨z,O⟩,i⟩ mx ⟨g1,g2,g3⟩ hmx
 (try dsimp only at g1 g2 g3 hmx ⊢)
 rcases Nat.lt_or_ge i 4 with hi|hi
 ·have hi':i<K.length:=by omega
  have hmm:nth K (i:Int)∈K:=by rw[nth_mem hi'];exact List.getElem_mem hi'
  have q4:=ih' _ hmm s1.v s2.v l1 oka1 hll
  rw[hq _ hmm] at q4
  have hsucc:(i+1)*B=i*B+B:=Nat.succ_mul i B
  have hib:i*B≤4*4294967296:=Nat.mul_le_mul (by omega) hp16
  clear ih'
  repeat' (first|(show RS _ _ _ _ _ _ _ (⟨some 69,_,_,_,_,_⟩::_);obtain⟨a1,a2⟩:=hJ;dsimp only at a1 a2;refine RS.appendA (f:=cT) (l:=O) (l':=r1) ?_;intro z1)|(refine nxV ?_)|(show RS _ _ _ _ _ _ _ _;first|(refine RS.callX (q4) ⟨rfl,rfl,rfl,rfl,rfl,rfl,rfl⟩ ?_;rintro⟨v4',r1⟩ hJ)|(refine nSS ?_)|done)|(refine nxX ?_)|(refine G.cN rfl (fun hc=>?_) (fun hc=>?_)<;>(try first|exact hc.elim|(exfalso;omega))))
  all_goals first
   |(exfalso;simp at hc;done)
   |(exfalso;simp at hc;omega)
   |skip
  exact X.again ((z1,O++r1),i+1) ⟨by dsimp only;omega,(fun x hx=>by
    rcases List.mem_append.1 hx with hx|hx
    ·exact g2 x hx
    ·exact a1 x hx),by dsimp only;rw[List.length_append];omega⟩ (by dsimp only;omega) ⟨rfl,rfl,rfl,rfl,rfl,rfl,rfl,rfl,rfl,trivial⟩ (by exact fun w h=>h.sub subS)
 ·obtain rfl:i=4:=by omega
  clear ih'
  have hB:1≤B:=by
   rcases Nat.eq_zero_or_pos B with h0|h0
   ·have h5:=hq (nth K ((0:Nat):Int)) (by rw[nth_mem (show 0<K.length by omega)];exact List.getElem_mem _)
    have h6:0<4^(17-(nth K ((0:Nat):Int)).lv):=Nat.pow_pos (by decide)
    omega
   ·exact h0
  repeat' (first|(show RS _ _ _ _ _ _ _ (⟨some 110,.buildSlice 62 1 _,_,_,_,_⟩::_);refine RS.lit1T (a:=c) (fun v'=>?_) rfl)|(refine nxV ?_)|(refine nSS ?_)|(refine nMM ?_)|(refine nxG ?_)|(refine G.mA 18 [.go 0,.go 1,.go 2,.go 3,.go 4,.go 5,.go 6,.go 7,.go 8,.go 9,.go 10,.go 11,.go 12,.go 13,.go 14,.go 15,.go 16,.go 17,.go 18,.go 19,.go 20,.go 21,.go 22,.go 23,.go 24,.go 25,.go 26,.go 27,.go 28,.go 29,.go 30,.go 31,.go 32,.go 33,.go 34,.go 35,.go 36,.go 37,.go 38] ?_)|(refine nxX ?_)|(refine G.cN rfl (fun hc=>?_) (fun hc=>?_)<;>(try first|exact hc.elim|(exfalso;omega))))
  all_goals first
   |(exfalso;simp at hc;done)
   |(exact X.retN (vs:=[_]) ((v',[c]):Sl×List RR.CellT) rfl ⟨rfl,rfl⟩ rfl ⟨(fun x hx=>by rw[List.mem_singleton.1 hx];exact ok'),by dsimp only[List.length_singleton];omega⟩ rfl (NewIn.rw (by exact memA) NewIn.nil))
   |(exact X.retN (vs:=[_]) ((z,O):Sl×List RR.CellT) rfl ⟨rfl,rfl⟩ rfl ⟨g2,by dsimp only;omega⟩ rfl (NewIn.rw (by exact memA) NewIn.nil))
end
theorem rwithin_c:∀(d:Nat) {c:RR.CellT},RR.okC c→c.lv+d=16→∀{va vb:Value} {a:List RR.CellT},(∀x∈a,RR.okC x)→a.length≤100000 →
  ContX Tryz.prog [Hl.rd va cT 3 a,Hl.rd vb cT 3 []] 181 [.int .i64 1,va,vb,ctV c,.bool false,.bool false] (fun z:Sl×List RR.CellT=>WitI c z.2) (fun z=>z.1.v) (fun z=>[Hl.nw z.1.v cT 3 z.2])
 |0,c,ok,hd,va,vb,a,oka,hl=>rwithin_w ok oka hl fun h=>by omega
 |d+1,c,ok,hd,va,vb,a,oka,hl=>rwithin_w ok oka hl fun h x hx va vb a oka hl=>by
  refine rwithin_c d (RR.okC_kid ok h hx) ?_ oka hl
  simp only[RR.kids,List.mem_cons,List.not_mem_nil,or_false] at hx
  rcases hx with rfl|rfl|rfl|rfl<;>(dsimp only;omega)
section
variable {va:Value} {a:List RR.CellT} {c:RR.CellT}
theorem rwithinL {d:Nat} (ok:RR.okC c) (hd:c.lv+d=16) (oka:∀x∈a,RR.okC x) (hl:a.length≤100000) :
  ContL Tryz.prog (fun _=>True) [Hl.rd va cT 3 a] 181 [.int .i64 1,va,.slice none 0 0,ctV c,.bool false,.bool false] (fun z:Sl×List RR.CellT=>WitI c z.2) (fun z=>z.1.v) (fun z=>[rgR z.1 z.2,Hl.rd va cT 3 a]):=fun w0 HR w _ hw=>by
 change St w0 (Hl.rd va cT 3 a::HR) w at hw
 have ih:c.lv<16→∀x∈RR.kids c,∀(va vb:Value) (a:List RR.CellT),(∀x∈a,RR.okC x)→a.length≤100000→ContX Tryz.prog [Hl.rd va cT 3 a,Hl.rd vb cT 3 []] 181 [.int .i64 1,va,vb,ctV x,.bool false,.bool false] (fun z:Sl×List RR.CellT=>WitI x z.2) (fun z=>z.1.v) (fun z=>[Hl.nw z.1.v cT 3 z.2]):=fun h x hx va vb a oka hl=>by
  refine rwithin_c (d-1) (RR.okC_kid ok h hx) ?_ oka hl
  simp only[RR.kids,List.mem_cons,List.not_mem_nil,or_false] at hx
  rcases hx with rfl|rfl|rfl|rfl<;>(dsimp only;omega)
 have q1:=r38has_c (v:=va) (c:=c) hl
 have q2:=r38has0_c (v:=.slice none 0 0) (c:=c)
 have q3:=r38below_c (v:=va) ok oka hl
 have q5:=r38below_c (v:=.slice none 0 0) (l:=[]) ok (fun x hx=>by cases hx) (by decide)
 have q6:=fun x y=>r38holds_c (x:=x) (y:=y)
 have ok':=ok
 obtain⟨o1,o2,o3⟩:=ok
 have hp:2^c.lv≤2^16:=Nat.pow_le_pow_right (by decide) o1
 have q7:=rchi_c (L:=c.lv) (r:=c.r) (c:=c.c) (by omega)
 have hkd:[(⟨c.lv+1,2*c.r,2*c.c⟩:RR.CellT),⟨c.lv+1,2*c.r,2*c.c+1⟩,⟨c.lv+1,2*c.r+1,2*c.c⟩,⟨c.lv+1,2*c.r+1,2*c.c+1⟩]=RR.kids c:=rfl
 rw[hkd] at q7
 have hk4:(RR.kids c).length=4:=rfl
 have hkid:c.lv<16→∀x∈RR.kids c,RR.okC x∧x.lv=c.lv+1:=fun h x hx=>by
  refine⟨RR.okC_kid ok' h hx,?_⟩
  simp only[RR.kids,List.mem_cons,List.not_mem_nil,or_false] at hx
  rcases hx with rfl|rfl|rfl|rfl<;>rfl
 clear hkd o2 o3 hp
 generalize RR.kids c=K at *
 refine enterU Tryz.func181 rfl rfl rfl hw ?_
 repeat' (first|(show RS _ _ _ _ _ _ _ (⟨some 49,.buildSlice 62 1 _,_,_,_,_⟩::_);refine RS.lit1T (a:=c) (fun v'=>?_) rfl)|(show RS _ _ _ _ _ _ _ (⟨some 51,.call _,_,_,_,_⟩::_);refine RS.callX (q7) ⟨rfl,rfl⟩ ?_;rintro v3 -;dsimp only[List.cons_append,List.nil_append])|(show YK _ _ _ _ _ _ _;first|refine YK.mk (zcR (q2) ⟨rfl,rfl,rfl⟩) ?_|refine YK.mk (zcA (q6 _ _) ⟨rfl,rfl,rfl,rfl⟩) ?_)|(refine nxV ?_)|(show RS _ _ _ _ _ _ _ _;first|(refine RS.callXG (fun _:True=>q1) ⟨rfl,rfl,rfl⟩ ?_;rintro bx -)|(refine nSS ?_)|(refine nS1 fun _=>?_)|done)|(show RM _ _ _ _ _ _ _ _ _ _;first|(refine RM.callX (q5) ?_;rintro⟨s2,l2⟩ ⟨k3,k4⟩)|(refine RM.callX (q3) ?_;rintro⟨s1,l1⟩ ⟨k1,k2⟩)|(refine nMM ?_)|done)|(refine nxG ?_)|(refine G.mA 7 [.go 0,.go 1,.go 3,.go 4,.go 2,.go 5,.go 6,.go 7] ?_)|(refine nxX ?_)|(refine G.cN rfl (fun hc=>?_) (fun hc=>?_)<;>(try first|exact hc.elim|(exfalso;omega))))
 all_goals first
  |(exfalso;simp_all;done)
  |(exact X.ret (vs:=[_]) rfl ⟨rfl,rfl⟩ rfl (fun w hw=>⟨((v',[c]):Sl×List RR.CellT),⟨(fun x hx=>by rw[List.mem_singleton.1 hx];exact ok'),Nat.pow_pos (by decide)⟩,rfl,hw.sub subS⟩))
  |(exact X.ret (vs:=[_]) rfl ⟨rfl,rfl⟩ rfl (fun w hw=>⟨((⟨none,0,0⟩,[]):Sl×List RR.CellT),⟨(fun x hx=>by cases hx),Nat.zero_le _⟩,rfl,(St.nilRow 73 cT 3 hw).sub subS⟩))
  |skip
 rename_i b9 hcx hcy
 dsimp only[List.length_nil] at k1 k2 k3 k4
 obtain rfl:l2=[]:=List.eq_nil_of_length_eq_zero (by omega)
 subst hcx
 have hne:0<l1.length:=by rw[List.length_nil] at hc;omega
 have hlv:c.lv<16:=by
  have hx:=k1 l1[0] (List.getElem_mem hne)
  have:=hx.1.1
  omega
 have ih':=ih hlv
 have hkid':=hkid hlv
 have oka1:∀x∈l1,RR.okC x:=fun x hx=>(k1 x hx).1
 have hll:l1.length≤100000:=by omega
 have he:4^(17-c.lv)=4*4^(16-c.lv):=by rw[show 17-c.lv=(16-c.lv)+1 by omega,Nat.pow_succ,Nat.mul_comm]
 have hp16:4^(16-c.lv)≤4294967296:=Nat.le_trans (Nat.pow_le_pow_right (by decide) (show 16-c.lv≤16 by omega)) (by decide)
 have hq:∀x∈K,4^(17-x.lv)=4^(16-c.lv):=fun x hx=>by rw[(hkid' x hx).2,show 17-(c.lv+1)=16-c.lv by omega]
 unfold WitI at ih' ⊢
 rw[he]
 generalize 4^(16-c.lv)=B at *
 clear q1 q2 q3 q5 q6 q7 ih hkid k1 k2 k3 k4 hc hcy oka hl he
 refine G.loop (ι:=(Sl×List RR.CellT)×Nat) (fun y=>[(0,.int .i64 1),(1,s1.v),(2,s2.v),(4,.bool false),(5,.bool false),(9,.pointer (some ⟨b9,0,none⟩)),(13,v3.v),(14,y.1.1.v),(15,.int .i64 (y.2:Int))]) (fun y=>Hl.rw y.1.1.v 73 cT 3 y.1.2::Hl.nw v3.v cT 3 K::Hl.nw s2.v cT 3 []::Hl.nw s1.v cT 3 l1::Hl.blk b9 73 [.int .i64 c.lv,.int .i64 c.r,.int .i64 c.c]::Hl.rd va cT 3 a::HR) (fun y=>y.2≤4∧(∀x∈y.1.2,RR.okC x)∧y.1.2.length≤y.2*B) (fun y=>4-y.2) ((⟨none,0,0⟩,[]),0) ⟨Nat.zero_le _,(fun x hx=>by cases hx),Nat.zero_le _⟩ ⟨rfl,rfl,rfl,rfl,rfl,rfl,rfl,rfl,rfl,trivial⟩ (fun w' h=>St.nilRow 73 cT 3 (h.sub (H':=Hl.nw v3.v cT 3 K::Hl.nw s2.v cT 3 []::Hl.nw s1.v cT 3 l1::Hl.blk b9 73 [.int .i64 c.lv,.int .i64 c.r,.int .i64 c.c]::Hl.rd va cT 3 a::HR) subS)) ?_
 rintro⟨⟨z,O⟩,i⟩ mx ⟨g1,g2,g3⟩ hmx
 (try dsimp only at g1 g2 g3 hmx ⊢)
 rcases Nat.lt_or_ge i 4 with hi|hi
 ·have hi':i<K.length:=by omega
  have hmm:nth K (i:Int)∈K:=by rw[nth_mem hi'];exact List.getElem_mem hi'
  have q4:=ih' _ hmm s1.v s2.v l1 oka1 hll
  rw[hq _ hmm] at q4
  have hsucc:(i+1)*B=i*B+B:=Nat.succ_mul i B
  have hib:i*B≤4*4294967296:=Nat.mul_le_mul (by omega) hp16
  clear ih'
  repeat' (first|(show RS _ _ _ _ _ _ _ (⟨some 69,_,_,_,_,_⟩::_);obtain⟨a1,a2⟩:=hJ;dsimp only at a1 a2;refine RS.appendA (f:=cT) (l:=O) (l':=r1) ?_;intro z1)|(refine nxV ?_)|(show RS _ _ _ _ _ _ _ _;first|(refine RS.callX (q4) ⟨rfl,rfl,rfl,rfl,rfl,rfl,rfl⟩ ?_;rintro⟨v4',r1⟩ hJ)|(refine nSS ?_)|done)|(refine nxX ?_)|(refine G.cN rfl (fun hc=>?_) (fun hc=>?_)<;>(try first|exact hc.elim|(exfalso;omega))))
  all_goals first
   |(exfalso;simp at hc;done)
   |(exfalso;simp at hc;omega)
   |skip
  exact X.again ((z1,O++r1),i+1) ⟨by dsimp only;omega,(fun x hx=>by
    rcases List.mem_append.1 hx with hx|hx
    ·exact g2 x hx
    ·exact a1 x hx),by dsimp only;rw[List.length_append];omega⟩ (by dsimp only;omega) ⟨rfl,rfl,rfl,rfl,rfl,rfl,rfl,rfl,rfl,trivial⟩ (by exact fun w h=>h.sub subS)
 ·obtain rfl:i=4:=by omega
  clear ih'
  have hB:1≤B:=by
   rcases Nat.eq_zero_or_pos B with h0|h0
   ·have h5:=hq (nth K ((0:Nat):Int)) (by rw[nth_mem (show 0<K.length by omega)];exact List.getElem_mem _)
    have h6:0<4^(17-(nth K ((0:Nat):Int)).lv):=Nat.pow_pos (by decide)
    omega
   ·exact h0
  repeat' (first|(show RS _ _ _ _ _ _ _ (⟨some 110,.buildSlice 62 1 _,_,_,_,_⟩::_);refine RS.lit1T (a:=c) (fun v'=>?_) rfl)|(refine nxV ?_)|(refine nSS ?_)|(refine nMM ?_)|(refine nxG ?_)|(refine G.mA 18 [.go 0,.go 1,.go 2,.go 3,.go 4,.go 5,.go 6,.go 7,.go 8,.go 9,.go 10,.go 11,.go 12,.go 13,.go 14,.go 15,.go 16,.go 17,.go 18,.go 19,.go 20,.go 21,.go 22,.go 23,.go 24,.go 25,.go 26,.go 27,.go 28,.go 29,.go 30,.go 31,.go 32,.go 33,.go 34,.go 35,.go 36,.go 37,.go 38] ?_)|(refine nxX ?_)|(refine G.cN rfl (fun hc=>?_) (fun hc=>?_)<;>(try first|exact hc.elim|(exfalso;omega))))
  all_goals first
   |(exfalso;simp at hc;done)
   |(exact X.ret (vs:=[_]) rfl ⟨rfl,rfl⟩ rfl (fun w hw=>⟨((v',[c]):Sl×List RR.CellT),⟨(fun x hx=>by rw[List.mem_singleton.1 hx];exact ok'),by dsimp only[List.length_singleton];omega⟩,rfl,hw.sub subS⟩))
   |(exact X.ret (vs:=[_]) rfl ⟨rfl,rfl⟩ rfl (fun w hw=>⟨((z,O):Sl×List RR.CellT),⟨g2,by dsimp only;omega⟩,rfl,hw.sub subS⟩))
end
theorem rmade_c {va:Value} {a:List RR.CellT} (oka:∀x∈a,RR.okC x) (hl:a.length≤100000):ContX Tryz.prog [Hl.rd va cT 3 a] 124 [.int .i64 1,va,.slice none 0 0] (fun z:Sl×List RR.CellT=>(∀x∈z.2,RR.okC x)∧z.2.length≤34359738368) (fun z=>z.1.v) (fun z=>[Hl.nw z.1.v cT 3 z.2]):=fun w hw0=>by
 have q1:=rwithinL (d:=16) (va:=va) RR.ok0 rfl oka hl
 have q2:=rwithin_c 16 RR.ok1 rfl (va:=va) (vb:=.slice none 0 0) oka hl
 have e17:(4:Nat)^17=17179869184:=by decide
 unfold WitI at q1 q2
 dsimp only[Nat.sub_zero] at q1 q2
 rw[e17] at q1 q2
 clear e17
 refine enter Tryz.func124 rfl rfl rfl hw0 ?_
 repeat' (first|(show YK _ _ _ _ _ ⟨_,.build 73 #[],_,_,_,_⟩ _;refine YK.ofV (y_build (parts:=[]) (vs:=[]) rfl (cel0_built)) ?_)|(show YK _ _ _ _ _ ⟨_,.build 73 #[(2,_)],_,_,_,_⟩ _;refine YK.ofV (y_build (parts:=[(2,_)]) (vs:=[_]) ⟨rfl,rfl⟩ (cel1_built)) ?_)|(show RS _ _ _ _ _ _ _ (⟨some 12,.call _,_,_,_,_⟩::_);refine RS.callL (q1) trivial ?_;rintro⟨s1,l1⟩ ⟨k1,k2⟩;dsimp only[List.cons_append,List.nil_append])|(show RS _ _ _ _ _ _ _ (⟨some 18,.call _,_,_,_,_⟩::_);refine RS.callX (q2) ⟨rfl,rfl,rfl,rfl,rfl,rfl,rfl⟩ ?_;rintro⟨s2,l2⟩ ⟨k3,k4⟩;dsimp only[List.cons_append,List.nil_append])|(show RS _ _ _ _ _ _ _ (⟨some 19,_,_,_,_,_⟩::_);dsimp only at k1 k2 k3 k4;refine RS.appendA (f:=cT) (l:=l1) (l':=l2) ?_;intro z1)|(refine nxV ?_)|(refine nSS ?_)|(refine nxX ?_)|done)
 exact X.retN (vs:=[_]) ((z1,l1++l2):Sl×List RR.CellT) rfl ⟨rfl,rfl⟩ rfl ⟨(fun x hx=>by
  rcases List.mem_append.1 hx with hx|hx
  ·exact k1 x hx
  ·exact k3 x hx),by dsimp only;rw[List.length_append];omega⟩ rfl (NewIn.rw (by exact memA) NewIn.nil)
section
variable {P L:Int} {m:Nat}
theorem rar39_c (hP : -5400000≤P∧P≤5400000) (hL : -10800000≤L∧L<10800000) (hm:m≤16):ContX Tryz.prog [] 54 [v4 P P L L,.int .i64 m,.int .i64 1000] (fun z:Sl×List RR.CellT×Int=>(∀x∈z.2.1,RR.okC x)∧z.2.1.length≤4000) (fun z=>.tuple [z.1.v,.int .i64 z.2.2].toArray) (fun z=>[Hl.nw z.1.v cT 3 z.2.1]):=fun w hw0=>by
 have q0:=rv08_c (a:=P) (b:=P) (c:=L) (d:=L) (by omega) (Or.inr (by omega))
 have q1:=raround39_c hP hL hm m RR.ok0 (by simp) (k:=1000) (by omega)
 refine enter Tryz.func54 rfl rfl rfl hw0 ?_
 repeat' (first|(show YK _ _ _ _ _ ⟨_,.load 36 _,_,_,_,_⟩ _;refine YK.ofV (zlP (k:=4) (by rfl) (by exact memA) (by decide +kernel) (by rfl)) ?_)|(show YK _ _ _ _ _ ⟨_,.build 73 #[],_,_,_,_⟩ _;refine YK.ofV (y_build (parts:=[]) (vs:=[]) rfl (cel0_built)) ?_)|(show YK _ _ _ _ _ ⟨_,.build 73 #[(2,_)],_,_,_,_⟩ _;refine YK.ofV (y_build (parts:=[(2,_)]) (vs:=[_]) ⟨rfl,rfl⟩ (cel1_built)) ?_)|(show RS _ _ _ _ _ _ _ (⟨some 27,.call _,_,_,_,_⟩::_);refine RS.callX (q1) ⟨rfl,rfl,rfl,rfl,rfl⟩ ?_;rintro⟨s1,l1,r1⟩ ⟨j1,j2,j3⟩;dsimp only[List.cons_append,List.nil_append])|(show RS _ _ _ _ _ _ _ (⟨some 35,.call _,_,_,_,_⟩::_);refine RS.callX (raround39_c hP hL hm m RR.ok1 (by simp) (k:=r1) ⟨by dsimp only at j2;omega,by dsimp only at j3;omega⟩) ⟨rfl,rfl,rfl,rfl,rfl⟩ ?_;rintro⟨s2,l2,r2⟩ ⟨j4,j5,j6⟩;dsimp only[List.cons_append,List.nil_append])|(show RS _ _ _ _ _ _ _ (⟨some 46,_,_,_,_,_⟩::_);dsimp only at j1 j2 j3 j4 j5 j6;refine RS.appendA (f:=cT) (l:=[]) (l':=l1) ?_;intro z1)|(show RS _ _ _ _ _ _ _ (⟨some 48,_,_,_,_,_⟩::_);refine RS.appendA (f:=cT) (l:=[]++l1) (l':=l2) ?_;intro z2)|(show RS _ _ _ _ _ _ _ (⟨some 49,.call _,_,_,_,_⟩::_);refine RS.callX (rmade_c (va:=z2.v) (a:=[]++l1++l2) (fun x hx=>(List.mem_append.1 hx).elim (fun hx=>j1 x hx) (fun hx=>j4 x hx)) (by rw[List.nil_append,List.length_append];omega)) ⟨rfl,rfl,rfl,rfl⟩ ?_;rintro⟨s3,l3⟩ ⟨j7,j8⟩;dsimp only[List.cons_append,List.nil_append])|(show YK _ _ _ _ _ _ _;refine YK.mk (zcA (q0) ⟨rfl,rfl⟩) ?_)|(refine nxV ?_)|(refine nSS ?_)|(refine nS1 fun _=>?_)|(refine nxG ?_)|(refine nxX ?_)|(refine G.cN rfl (fun hc=>?_) (fun hc=>?_)<;>(try first|exact hc.elim|(exfalso;omega))))
 all_goals first
  |(exfalso;simp at hc;done)
  |(exfalso;omega)
  |(exact X.retN (vs:=[_,_]) ((⟨none,0,0⟩,[],-1):Sl×List RR.CellT×Int) rfl ⟨rfl,rfl,rfl⟩ rfl ⟨(fun x hx=>by cases hx),by decide⟩ rfl (NewIn.nilS NewIn.nil))
  |(exact X.retN (vs:=[_,_]) ((⟨none,0,0⟩,[],4):Sl×List RR.CellT×Int) rfl ⟨rfl,rfl,rfl⟩ rfl ⟨(fun x hx=>by cases hx),by decide⟩ rfl (NewIn.nilS NewIn.nil))
  |(exact X.retN (vs:=[_,_]) ((s3,l3,0):Sl×List RR.CellT×Int) rfl ⟨rfl,rfl,rfl⟩ rfl ⟨j7,by dsimp only;omega⟩ rfl (NewIn.nw (by exact memA) NewIn.nil))
  |skip
end
section
variable {vc vs:Value} {ks:List CirT} {start:List RR.CellT} {n:Nat} {P L:Int}
theorem rof39_c (hks:∀k∈ks,CirOk k) (hl:ks.length≤40) (hn:n≤16) (ok:∀x∈start,RR.okC x) (hs:start.length≤4000):ContX Tryz.prog [Hl.rd vc cKr 6 ks,Hl.rd vs cT 3 start] 55 [vc,vs,.int .i64 n,.int .i64 250] (fun z:Sl×List RR.CellT×Int=>True) (fun z=>.tuple [z.1.v,.int .i64 z.2.2].toArray) (fun z=>[Hl.nw z.1.v cT 3 z.2.1]):=fun w hw0=>by
 obtain⟨bb,hbb⟩:∃bb:Bool,bb=true↔RR.IdxOk start:=by
  by_cases h:RR.IdxOk start
  ·exact⟨true,⟨fun _=>h,fun _=>rfl⟩⟩
  ·exact⟨false,⟨(fun h'=>by cases h'),fun h'=>absurd h' h⟩⟩
 have q1:=rv39_c (vc:=vc) hks (by omega)
 have q2:=rvreg_c vs start ok hs hbb
 clear hbb
 refine enter Tryz.func55 rfl rfl rfl hw0 ?_
 repeat' (first|(show YK _ _ _ _ _ _ _;first|refine YK.mk (zcR (q1) ⟨rfl,rfl⟩) ?_|refine YK.mk (zcR (q2) ⟨rfl,rfl⟩) ?_)|(refine nxV ?_)|(refine nSS ?_)|(refine nxG ?_)|(refine nxX ?_)|(refine G.cN rfl (fun hc=>?_) (fun hc=>?_)<;>(try first|exact hc.elim|(exfalso;omega))))
 all_goals first
  |(exfalso;simp at hc;done)
  |(exfalso;omega)
  |(exact X.retN (vs:=[_,_]) ((⟨none,0,0⟩,[],1):Sl×List RR.CellT×Int) rfl ⟨rfl,rfl,rfl⟩ rfl trivial rfl (NewIn.nilS NewIn.nil))
  |skip
 refine G.loop (ι:=(Sl×List RR.CellT)×Int×Nat) (fun y=>[(0,vc),(1,vs),(2,.int .i64 n),(10,.int .i64 y.2.1),(11,y.1.1.v),(12,.int .i64 (y.2.2:Int))]) (fun y=>[Hl.rw y.1.1.v 73 cT 3 y.1.2,Hl.rd vc cKr 6 ks,Hl.rd vs cT 3 start]) (fun y=>y.2.2≤start.length∧PrtI 250 (y.1.2,y.2.1)) (fun y=>start.length-y.2.2) ((⟨none,0,0⟩,[]),250,0) ⟨Nat.zero_le _,⟨(fun x hx=>by cases hx),by decide,by decide⟩⟩ ⟨rfl,rfl,rfl,rfl,rfl,rfl,trivial⟩ (fun w' h=>St.nilRow 73 cT 3 h) ?_
 clear q1 q2
 rintro⟨⟨z,O⟩,k',i⟩ mx ⟨g1,⟨p1,p2,p3⟩⟩ hmx
 (try dsimp only at g1 p1 p2 p3 hmx ⊢)
 rcases Classical.em (i<start.length∧0≤k') with ⟨hi,hk0⟩|hno
 ·have hm:nth start (i:Int)∈start:=by rw[nth_mem hi];exact List.getElem_mem hi
  have q4:=rpart_c (vc:=vc) hks (by omega) hn 16 (k:=k') (ok _ hm) (by omega) (by omega)
  obtain⟨a1,a2,a3⟩:=prtF_inv (A:=agrA ks) (S:=surA ks) (n:=n) hn 16 (ok _ hm) hk0
  generalize prtF (agrA ks) (surA ks) n 16 (nth start (i:Int)) k'=r at *
  obtain⟨r1,r2⟩:=r
  dsimp only at q4 a1 a2 a3
  repeat' (first|(show RS _ _ _ _ _ _ _ (⟨some 51,.call _,_,_,_,_⟩::_);refine RS.callX (q4) ⟨rfl,rfl,rfl,rfl,rfl⟩ ?_;rintro v4 -;dsimp only[List.cons_append,List.nil_append])|(show RS _ _ _ _ _ _ _ (⟨some 56,_,_,_,_,_⟩::_);refine RS.appendA (f:=cT) (l:=O) (l':=r1) ?_;intro z1)|(refine nxV ?_)|(refine nSS ?_)|(refine nxG ?_)|(refine nxX ?_)|(refine G.cN rfl (fun hc=>?_) (fun hc=>?_)<;>(try first|exact hc.elim|(exfalso;omega))))
  all_goals first
   |(exfalso;simp at hc;done)
   |(exfalso;simp at hc;omega)
   |skip
  exact X.again ((z1,O++r1),r2,i+1) ⟨by dsimp only;omega,⟨(fun x hx=>by
   rcases List.mem_append.1 hx with hx|hx
   ·exact p1 x hx
   ·exact a1 x hx),a2,by dsimp only;rw[List.length_append];omega⟩⟩ (by dsimp only;omega) ⟨rfl,rfl,rfl,rfl,rfl,rfl,trivial⟩ (by exact fun w h=>h.sub subS)
 ·have q5:=rmade_c (va:=z.v) (a:=O) p1 (by omega)
  repeat' (first|(show RS _ _ _ _ _ _ _ (⟨some 61,.call _,_,_,_,_⟩::_);refine RS.callX (q5) ⟨rfl,rfl,rfl,rfl⟩ ?_;rintro⟨s3,l3⟩ ⟨j7,j8⟩;dsimp only[List.cons_append,List.nil_append])|(refine nxV ?_)|(refine nSS ?_)|(refine nxG ?_)|(refine nxX ?_)|(refine G.cN rfl (fun hc=>?_) (fun hc=>?_)<;>(try first|exact hc.elim|(exfalso;omega))))
  all_goals first
   |(exfalso;simp at hc;done)
   |(exfalso;simp at hc;omega)
   |(exfalso;exact hno (by simpa using hc))
   |(exact X.retN (vs:=[_,_]) ((⟨none,0,0⟩,[],6):Sl×List RR.CellT×Int) rfl ⟨rfl,rfl,rfl⟩ rfl trivial rfl (NewIn.nilS NewIn.nil))
   |(exact X.retN (vs:=[_,_]) ((⟨none,0,0⟩,[],4):Sl×List RR.CellT×Int) rfl ⟨rfl,rfl,rfl⟩ rfl trivial rfl (NewIn.nilS NewIn.nil))
   |(exact X.retN (vs:=[_,_]) ((s3,l3,0):Sl×List RR.CellT×Int) rfl ⟨rfl,rfl,rfl⟩ rfl trivial rfl (NewIn.nw (by exact memA) NewIn.nil))
   |skip
theorem r40of_c (hks:∀k∈ks,CirOk k) (hl:ks.length≤40) (hn:n≤16) (hP : -5400000≤P∧P≤5400000) (hL : -10800000≤L∧L<10800000):ContX Tryz.prog [Hl.rd vc cKr 6 ks] 20 [vc,v4 P P L L,.int .i64 n,.int .i64 250] (fun z:Sl×List RR.CellT×Int=>True) (fun z=>.tuple [z.1.v,.int .i64 z.2.2].toArray) (fun z=>[Hl.nw z.1.v cT 3 z.2.1]):=fun w hw0=>by
 have q0:=rv39_c (vc:=vc) hks (by omega)
 have q1:=rv08_c (a:=P) (b:=P) (c:=L) (d:=L) (by omega) (Or.inr (by omega))
 have q2:=rar39_c (m:=n) hP hL hn
 have q3:=rar39_c (m:=4) hP hL (by decide)
 rw[show ((4:Nat):Int)=4 from rfl] at q3
 refine enter Tryz.func20 rfl rfl rfl hw0 ?_
 repeat' (first|(show YK _ _ _ _ _ ⟨_,.load 36 _,_,_,_,_⟩ _;refine YK.ofV (zlP (k:=4) (by rfl) (by exact memA) (by decide +kernel) (by rfl)) ?_)|(show RS _ _ _ _ _ _ _ (⟨some 38,.call _,_,_,_,_⟩::_);refine RS.callX (q2) ⟨rfl,rfl,rfl,rfl⟩ ?_;rintro⟨s1,l1,r1⟩ ⟨j1,j2⟩;dsimp only[List.cons_append,List.nil_append])|(show RS _ _ _ _ _ _ _ (⟨some 38,.call _,_,_,_,_⟩::_);refine RS.callX (q3) ⟨rfl,rfl,rfl,rfl⟩ ?_;rintro⟨s1,l1,r1⟩ ⟨j1,j2⟩;dsimp only[List.cons_append,List.nil_append])|(show RS _ _ _ _ _ _ _ (⟨some 46,.call _,_,_,_,_⟩::_);refine RS.callX (rof39_c (vc:=vc) (vs:=s1.v) (start:=l1) hks hl hn j1 j2) ⟨rfl,rfl,rfl,rfl,rfl⟩ ?_;rintro⟨s2,l2,r2⟩ -;dsimp only[List.cons_append,List.nil_append])|(show YK _ _ _ _ _ _ _;first|refine YK.mk (zcR (q0) ⟨rfl,rfl⟩) ?_|refine YK.mk (zcA (q1) ⟨rfl,rfl⟩) ?_)|(refine nxV ?_)|(refine nSS ?_)|(refine nS1 fun _=>?_)|(refine nxG ?_)|(refine nxX ?_)|(refine G.cN rfl (fun hc=>?_) (fun hc=>?_)<;>(try first|exact hc.elim|(exfalso;omega))))
 all_goals first
  |(exfalso;simp at hc;done)
  |(exfalso;omega)
  |(exact X.retN (vs:=[_,_]) ((⟨none,0,0⟩,[],23):Sl×List RR.CellT×Int) rfl ⟨rfl,rfl,rfl⟩ rfl trivial rfl (NewIn.nilS NewIn.nil))
  |(exact X.retN (vs:=[_,_]) ((⟨none,0,0⟩,[],r2):Sl×List RR.CellT×Int) rfl ⟨rfl,rfl,rfl⟩ rfl trivial rfl (NewIn.nilS NewIn.nil))
  |(exact X.retN (vs:=[_,_]) ((s2,l2,0):Sl×List RR.CellT×Int) rfl ⟨rfl,rfl,rfl⟩ rfl trivial rfl (NewIn.nw (by exact memA) NewIn.nil))
  |skip
end
structure SetE where
 size:Int
 sl:Sl
instance:Inhabited SetE:=⟨⟨0,⟨none,0,0⟩⟩⟩
abbrev cSe (x:SetE):List Value:=[.int .i64 x.size,x.sl.v]
abbrev seV (x:SetE):Value:=.agg [.int .i64 x.size,x.sl.v].toArray
def cmI (a b:Int):Int:=if a<b then -1 else if b<a then 1 else 0
theorem isNaN_c (a:Int):Cont Tryz.prog 191 [.int .i64 a] (.bool false):=fun w=>by
 refine enter0 Tryz.func191 rfl rfl rfl ?_
 repeat' (first|(refine nxV ?_)|(refine nSS ?_)|(refine nxX ?_)|done)
 exact X.ret (vs:=[_]) rfl ⟨rfl,rfl⟩ rfl (fun w hw=>⟨ret_bool (by simp),hw.ext⟩)
theorem compare_c (a b:Int):Cont Tryz.prog 130 [.int .i64 a,.int .i64 b] (.int .i64 (cmI a b)):=fun w=>by
 refine enter0 Tryz.func130 rfl rfl rfl ?_
 repeat' (first|(show YK _ _ _ _ _ _ _;refine YK.mk (zcA (isNaN_c _) ⟨rfl,rfl⟩) ?_)|(refine nxV ?_)|(refine nSS ?_)|(refine nxX ?_)|(refine G.cN rfl (fun hc=>?_) (fun hc=>?_)<;>(try first|exact hc.elim|(exfalso;omega))))
 all_goals refine X.ret (vs:=[_]) rfl ⟨rfl,rfl⟩ rfl (fun w hw=>⟨congrArg (fun a=>Ending.returned (Value.int .i64 a)) ?_,hw.ext⟩)
 all_goals (unfold cmI;(repeat' split)<;>first|rfl|omega)
theorem ranked1_c (x y:SetE):Cont Tryz.prog 129 [seV x,seV y] (.int .i64 (cmI x.size y.size)):=fun w=>by
 have q1:=compare_c x.size y.size
 generalize cmI x.size y.size=z at *
 refine enter0 Tryz.func129 rfl rfl rfl ?_
 repeat' (first|(show YK _ _ _ _ _ _ _;refine YK.mk (zcA (q1) ⟨rfl,rfl,rfl⟩) ?_)|(refine nxV ?_)|(refine nSS ?_)|(refine nS1 fun _=>?_)|(refine nxX ?_)|done)
 all_goals exact X.ret1
theorem cloneI_c {u:Value} {l:List Int} (hl:1≤l.length∧l.length≤1000000):ContU Tryz.prog (Hl.rd u cI 1 l) 189 [u] (fun _:Sl=>True) (fun z=>z.v) (fun z=>[Hl.rw z.v 3 cI 1 l,Hl.rd u cI 1 l]):=fun w0 HR w hw=>by
 obtain⟨h1,A,c,rfl,hnc,hcells,_⟩:=(hw.all _ List.mem_cons_self).1
 obtain⟨ad,rfl,_⟩:=hcells (fun hn=>by rw[hn] at h1;simp at h1;omega)
 refine enterU Tryz.func189 rfl rfl rfl hw ?_
 repeat' (first|(show RS _ _ _ _ _ _ _ (⟨some 7,_,_,_,_,_⟩::_);refine RS.appendA (f:=cI) (l:=[]) (l':=l) ?_;intro z1)|(refine nxV ?_)|(refine nSS ?_)|(refine nS1 fun _=>?_)|(refine nxX ?_)|(refine G.cN rfl (fun hc=>?_) (fun hc=>?_)<;>(try first|exact hc.elim|(exfalso;omega))))
 ·exact absurd hc (by simp[nilB])
 ·exact X.ret (vs:=[_]) rfl ⟨rfl,rfl⟩ rfl (fun w hw=>⟨z1,trivial,rfl,hw⟩)
def szE (l:List SetE) (p:Nat):Int:=(nth l (p:Int)).size
def SrtE (l:List SetE) (i:Nat):Prop:=∀p q:Nat,p<q→q<i→szE l p≤szE l q
def SameE (l l':List SetE):Prop:=l'.length=l.length∧(∀x∈l',x∈l)∧∀x∈l,x∈l'
theorem SameE.refl (l:List SetE):SameE l l:=⟨rfl,fun _ h=>h,fun _ h=>h⟩
def swE (l:List SetE) (j:Nat):List SetE:=(l.set j (nth l ((j-1:Nat):Int))).set (j-1) (nth l (j:Int))
theorem swE_len (l:List SetE) (j:Nat):(swE l j).length=l.length:=by unfold swE;rw[List.length_set,List.length_set]
theorem swE_at {l:List SetE} {j p:Nat} (h0:0<j) (h:j<l.length) (hp:p<l.length):nth (swE l j) (p:Int)=if p=j then nth l ((j-1:Nat):Int) else if p=j-1 then nth l (j:Int) else nth l (p:Int):=by
 rw[nth_mem (by rw[swE_len];exact hp)]
 unfold swE
 rw[List.getElem_set,List.getElem_set]
 by_cases h1:p=j
 ·rw[if_pos h1,if_neg (by omega),if_pos h1.symm]
 ·rw[if_neg h1]
  by_cases h2:p=j-1
  ·rw[if_pos h2,if_pos h2.symm]
  ·rw[if_neg h2,if_neg (fun e=>h2 e.symm),if_neg (fun e=>h1 e.symm),nth_mem hp]
theorem SameE.sw {l l':List SetE} {j:Nat} (hs:SameE l l') (h0:0<j) (h:j<l'.length):SameE l (swE l' j):=by
 obtain⟨h1,h2,h3⟩:=hs
 have key:∀p,p<l'.length→nth (swE l' j) (p:Int)∈l':=fun p hp=>by
  rw[swE_at h0 h hp]
  split
  ·rw[nth_mem (by omega)];exact List.getElem_mem _
  split
  ·rw[nth_mem h];exact List.getElem_mem _
  ·rw[nth_mem hp];exact List.getElem_mem _
 refine⟨(swE_len l' j).trans h1,fun x hx=>?_,fun x hx=>?_⟩
 ·obtain⟨p,hp,rfl⟩:=List.mem_iff_getElem.1 hx
  have hp':p<l'.length:=by rw[swE_len] at hp;exact hp
  have:=key p hp'
  rw[nth_mem hp] at this
  exact h2 _ this
 ·obtain⟨p,hp,rfl⟩:=List.mem_iff_getElem.1 (h3 x hx)
  have hk:∃q,q<l'.length∧nth (swE l' j) (q:Int)=nth l' (p:Int):=by
   by_cases hpj:p=j
   ·exact⟨j-1,by omega,by rw[swE_at h0 h (by omega),if_neg (by omega),if_pos rfl,hpj]⟩
   by_cases hpj1:p=j-1
   ·exact⟨j,h,by rw[swE_at h0 h h,if_pos rfl,hpj1]⟩
   ·exact⟨p,hp,by rw[swE_at h0 h hp,if_neg hpj,if_neg hpj1]⟩
  obtain⟨q,hq,hqe⟩:=hk
  have hq':q<(swE l' j).length:=by rw[swE_len];exact hq
  rw[nth_mem hq',nth_mem hp] at hqe
  rw[←hqe]
  exact List.getElem_mem _
structure InsE (l:List SetE) (i j:Nat):Prop where
 a:∀p q:Nat,p<q→q≤i→p≠j→q≠j→szE l p≤szE l q
 b:∀q:Nat,j<q→q≤i→szE l j≤szE l q
theorem InsE.start {l:List SetE} {i:Nat} (h:SrtE l i):InsE l i i:=⟨fun p q h1 h2 h3 h4=>h p q h1 (by omega),fun q h1 h2=>by omega⟩
theorem InsE.stop {l:List SetE} {i j:Nat} (h:InsE l i j) (hj:j≤i) (hs:j=0∨szE l (j-1)≤szE l j):SrtE l (i+1):=fun p q h1 h2=>by
 by_cases hp:p=j
 ·subst hp;exact h.b q h1 (by omega)
 by_cases hq:q=j
 ·subst hq
  rcases hs with hs|hs
  ·omega
  by_cases hp1:p=q-1
  ·subst hp1;exact hs
  ·exact Int.le_trans (h.a p (q-1) (by omega) (by omega) hp (by omega)) hs
 ·exact h.a p q h1 (by omega) hp hq
theorem InsE.step {l:List SetE} {i j:Nat} (h:InsE l i j) (h0:0<j) (hj:j≤i) (hi:i<l.length) (hs:szE l j<szE l (j-1)):InsE (swE l j) i (j-1):=by
 have e:∀p,p<l.length→szE (swE l j) p=if p=j then szE l (j-1) else if p=j-1 then szE l j else szE l p:=fun p hp=>by
  unfold szE
  rw[swE_at h0 (by omega) hp]
  split
  ·rfl
  split<;>rfl
 refine⟨fun p q h1 h2 h3 h4=>?_,fun q h1 h2=>?_⟩
 ·rw[e p (by omega),e q (by omega),if_neg h3,if_neg h4]
  by_cases hp:p=j
  ·rw[if_pos hp,if_neg (by omega)]
   exact h.a (j-1) q (by omega) h2 (by omega) (by omega)
  ·rw[if_neg hp]
   by_cases hq:q=j
   ·rw[if_pos hq]
    exact h.a p (j-1) (by omega) (by omega) hp (by omega)
   ·rw[if_neg hq]
    exact h.a p q h1 h2 hp hq
 ·rw[e (j-1) (by omega),e q (by omega),if_neg (by omega:¬(j-1=j)),if_pos rfl]
  by_cases hq:q=j
  ·rw[if_pos hq];omega
  ·rw[if_neg hq,if_neg (by omega)]
   exact h.b q (by omega) h2
end Go.Proofs.YtjmdeplmenbmmaaGreatDoor
