/- Joined texts: R7, R8, R9, R10. -/
import Derived.Test.YtjmdeplmenbmmaaGreatDoorW26
set_option linter.unusedVariables false
set_option maxHeartbeats 8000000
namespace Go.Proofs.YtjmdeplmenbmmaaGreatDoor
open Go.RowKit
def prtL (g:RR.CellT→Int→List RR.CellT×Int):List RR.CellT→List RR.CellT→Int→List RR.CellT×Int
 |[],o,k=>(o,k)
 |c::r,o,k=>if 0≤k then prtL g r (o++(g c k).1) (g c k).2 else (o,k)
def prtF (A S:RR.CellT→Bool) (n:Nat):Nat→RR.CellT→Int→List RR.CellT×Int
 |d,c,k =>
  if k-1<0∨A c=false then ([],k-1)
  else if n≤c.lv∨S c=true then ([c],k-1)
  else match d with
   |0=>([],k-1)
   |d+1=>prtL (prtF A S n d) (RR.kids c) [] (k-1)
def PrtI (k:Int) (r:List RR.CellT×Int):Prop:=(∀x∈r.1,RR.okC x)∧-1≤r.2∧(r.1.length:Int)+r.2≤k
theorem prtL_inv {g:RR.CellT→Int→List RR.CellT×Int} : ∀(cs o:List RR.CellT) (k k0:Int),(∀c∈cs,∀k,0≤k→PrtI k (g c k))→PrtI k0 (o,k)→PrtI k0 (prtL g cs o k)
 |[],o,k,k0,_,h=>h
 |c::r,o,k,k0,hg,h=>by
  unfold prtL
  split
  ·rename_i hk
   obtain⟨a1,a2,a3⟩:=hg c List.mem_cons_self k hk
   obtain⟨b1,b2,b3⟩:=h
   refine prtL_inv r _ _ k0 (fun x hx=>hg x (List.mem_cons_of_mem _ hx)) ⟨fun x hx=>?_,a2,?_⟩
   ·rcases List.mem_append.1 hx with hx|hx
    ·exact b1 x hx
    ·exact a1 x hx
   ·dsimp only at b3 ⊢
    rw[List.length_append]
    omega
  ·exact h
theorem prtF_inv {A S:RR.CellT→Bool} {n:Nat} (hn:n≤16):∀(d:Nat) {c:RR.CellT} {k:Int},RR.okC c→0≤k→PrtI k (prtF A S n d c k)
 |d,c,k,ok,hk=>by
  unfold prtF
  split
  ·exact⟨(fun x hx=>by cases hx),by dsimp only;omega,by dsimp only[List.length_nil];omega⟩
  split
  ·exact⟨(fun x hx=>by rw[List.mem_singleton.1 hx];exact ok),by dsimp only;omega,by dsimp only[List.length_singleton];omega⟩
  ·rename_i h1 h2
   have hlv:c.lv<n:=Nat.lt_of_not_le fun h=>h2 (.inl h)
   cases d with
   |zero=>exact⟨(fun x hx=>by cases hx),by dsimp only;omega,by dsimp only[List.length_nil];omega⟩
   |succ d =>
    refine prtL_inv (RR.kids c) [] (k-1) k (fun x hx k hk=>prtF_inv hn d (RR.okC_kid ok (by omega) hx) hk) ⟨(fun x hx=>by cases hx),by dsimp only;omega,by dsimp only[List.length_nil];omega⟩
section
variable {vc:Value} {ks:List CirT} {n:Nat} {c:RR.CellT} {k:Int}
theorem part_w1 (hks:∀k∈ks,CirOk k) (hl:ks.length≤1000) (ok:RR.okC c) (hk:0≤k∧k≤1000000) (h:k-1<0∨agrA ks c=false):ContX Tryz.prog [Hl.rd vc cKr 6 ks] 126 [vc,ctV c,.int .i64 n,.int .i64 k] (fun _:Sl=>True) (fun z=>.tuple [z.v,.int .i64 (k-1)].toArray) (fun z=>[Hl.nw z.v cT 3 []]):=fun w hw0=>by
 have q1:=r39all_c (vc:=vc) hks hl ok
 generalize agrA ks c=ag at *
 refine enter Tryz.func126 rfl rfl rfl hw0 ?_
 repeat' (first|(refine nxV ?_)|(refine nSS ?_)|(refine nS1 fun _=>?_)|(show YG _ _ _ _ _ _ _ _;refine YG.mk (fun hb=>by(try(have hc:=And.left hb;have hb:=And.right hb;rw[hc]));(try rw[hb]);first|exact(zcR (q1) ⟨rfl,rfl,rfl⟩)|exact V.y vAuto) ?_)|(refine nxX ?_)|(refine G.cN rfl (fun hc=>?_) (fun hc=>?_)<;>(try first|exact hc.elim|(exfalso;omega))))
 all_goals first
  |(exfalso;omega)
  |(exfalso;simp at hc;obtain⟨c1,c2⟩:=hc;rcases h with h|h;(omega);(rw[h] at c2;cases c2))
  |exact X.retN (vs:=[_,_]) (⟨none,0,0⟩:Sl) rfl ⟨rfl,rfl,rfl⟩ rfl trivial rfl (NewIn.nilS NewIn.nil)
theorem part_w2 (hks:∀k∈ks,CirOk k) (hl:ks.length≤1000) (ok:RR.okC c) (hk:0≤k∧k≤1000000) (h:¬(k-1<0)) (hA:agrA ks c=true) (hS:n≤c.lv∨surA ks c=true):ContX Tryz.prog [Hl.rd vc cKr 6 ks] 126 [vc,ctV c,.int .i64 n,.int .i64 k] (fun _:Sl=>True) (fun z=>.tuple [z.v,.int .i64 (k-1)].toArray) (fun z=>[Hl.nw z.v cT 3 [c]]):=fun w hw0=>by
 have q1:=r39all_c (vc:=vc) hks hl ok
 have q2:=r39sur_c (vc:=vc) hks hl ok
 rw[hA] at q1
 generalize surA ks c=sb at *
 refine enter Tryz.func126 rfl rfl rfl hw0 ?_
 repeat' (first|(show RS _ _ _ _ _ _ _ (⟨some 36,.buildSlice 62 1 _,_,_,_,_⟩::_);refine RS.lit1T (a:=c) (fun v'=>?_) rfl)|(refine nxV ?_)|(refine nSS ?_)|(refine nS1 fun _=>?_)|(show YG _ _ _ _ _ _ _ _;refine YG.mk (fun hb=>by(try(have hc:=And.left hb;have hb:=And.right hb;rw[hc]));(try rw[hb]);first|exact(zcR (q1) ⟨rfl,rfl,rfl⟩)|exact(zcR (q2) ⟨rfl,rfl,rfl⟩)|exact V.y vAuto) ?_)|(refine nxX ?_)|(refine G.cN rfl (fun hc=>?_) (fun hc=>?_)<;>(try first|exact hc.elim|(exfalso;omega))))
 all_goals first
  |(exfalso;omega)
  |(exfalso;simp at hc;done)
  |(exfalso;simp at hc;omega)
  |(exfalso;simp at hc;obtain⟨c1,c2⟩:=hc;rcases hS with hS|hS;(omega);(rw[hS] at c2;cases c2))
  |exact X.retN (vs:=[_,_]) v' rfl ⟨rfl,rfl,rfl⟩ rfl trivial rfl (NewIn.rw (by exact memA) NewIn.nil)
theorem part_w3 {g:RR.CellT→Int→List RR.CellT×Int} (hks:∀k∈ks,CirOk k) (hl:ks.length≤1000) (ok:RR.okC c) (hk:0≤k∧k≤1000000) (h:¬(k-1<0)) (hA:agrA ks c=true) (hS:surA ks c=false) (hlv:c.lv<n) (hn:n≤16)
  (hg:∀x∈RR.kids c,∀k,0≤k→PrtI k (g x k)) (ih:∀x∈RR.kids c,∀k,0≤k∧k≤1000000→ContX Tryz.prog [Hl.rd vc cKr 6 ks] 126 [vc,ctV x,.int .i64 n,.int .i64 k] (fun _:Sl=>True) (fun z=>.tuple [z.v,.int .i64 (g x k).2].toArray) (fun z=>[Hl.nw z.v cT 3 (g x k).1])) :
  ContX Tryz.prog [Hl.rd vc cKr 6 ks] 126 [vc,ctV c,.int .i64 n,.int .i64 k] (fun _:Sl=>True) (fun z=>.tuple [z.v,.int .i64 (prtL g (RR.kids c) [] (k-1)).2].toArray) (fun z=>[Hl.nw z.v cT 3 (prtL g (RR.kids c) [] (k-1)).1]):=fun w hw0=>by
 have q1:=r39all_c (vc:=vc) hks hl ok
 have q2:=r39sur_c (vc:=vc) hks hl ok
 rw[hA] at q1
 rw[hS] at q2
 obtain⟨o1,o2,o3⟩:=ok
 have hp:2^c.lv≤2^16:=Nat.pow_le_pow_right (by decide) o1
 have q3:=rchi_c (L:=c.lv) (r:=c.r) (c:=c.c) (by omega)
 have hkd:[(⟨c.lv+1,2*c.r,2*c.c⟩:RR.CellT),⟨c.lv+1,2*c.r,2*c.c+1⟩,⟨c.lv+1,2*c.r+1,2*c.c⟩,⟨c.lv+1,2*c.r+1,2*c.c+1⟩]=RR.kids c:=rfl
 rw[hkd] at q3
 have hk4:(RR.kids c).length=4:=rfl
 clear hkd o1 o2 o3 hp hA hS
 generalize RR.kids c=K at *
 refine enter Tryz.func126 rfl rfl rfl hw0 ?_
 repeat' (first|(show RS _ _ _ _ _ _ _ (⟨some 39,.call _,_,_,_,_⟩::_);refine RS.callX (q3) ⟨rfl,rfl⟩ ?_;rintro v3 -;dsimp only[List.cons_append,List.nil_append])|(refine nxV ?_)|(refine nSS ?_)|(refine nS1 fun _=>?_)|(show YG _ _ _ _ _ _ _ _;refine YG.mk (fun hb=>by(try(have hc:=And.left hb;have hb:=And.right hb;rw[hc]));(try rw[hb]);first|exact(zcR (q1) ⟨rfl,rfl,rfl⟩)|exact(zcR (q2) ⟨rfl,rfl,rfl⟩)|exact V.y vAuto) ?_)|(refine nxX ?_)|(refine G.cN rfl (fun hc=>?_) (fun hc=>?_)<;>(try first|exact hc.elim|(exfalso;omega))))
 all_goals first
  |(exfalso;omega)
  |(exfalso;simp at hc;done)
  |(exfalso;simp at hc;omega)
  |skip
 clear q1 q2 q3
 refine G.loop (ι:=(Sl×List RR.CellT)×Int×Nat) (fun y=>[(0,vc),(2,.int .i64 n),(3,.int .i64 y.2.1),(10,v3.v),(11,y.1.1.v),(12,.int .i64 (y.2.2:Int))]) (fun y=>[Hl.rw y.1.1.v 73 cT 3 y.1.2,Hl.nw v3.v cT 3 K,Hl.rd vc cKr 6 ks]) (fun y=>y.2.2≤4∧PrtI (k-1) (y.1.2,y.2.1)∧prtL g K [] (k-1)=prtL g (K.drop y.2.2) y.1.2 y.2.1) (fun y=>4-y.2.2) ((⟨none,0,0⟩,[]),k-1,0) ⟨Nat.zero_le _,⟨(fun x hx=>by cases hx),by dsimp only;omega,by dsimp only[List.length_nil];omega⟩,rfl⟩ ⟨rfl,rfl,rfl,rfl,rfl,rfl,trivial⟩ (fun w' h=>St.nilRow 73 cT 3 (h.sub (H':=[Hl.nw v3.v cT 3 K,Hl.rd vc cKr 6 ks]) subS)) ?_
 rintro⟨⟨z,O⟩,k',i⟩ mx ⟨g1,⟨p1,p2,p3⟩,g2⟩ hmx
 (try dsimp only at g1 p1 p2 p3 g2 hmx ⊢)
 rcases Nat.lt_or_ge i 4 with hi|hi
 ·have hi':i<K.length:=by omega
  have hd:K.drop i=nth K (i:Int)::K.drop (i+1):=by rw[nth_mem hi',List.getElem_cons_drop]
  have hm:nth K (i:Int)∈K:=by rw[nth_mem hi'];exact List.getElem_mem hi'
  rw[hd] at g2
  replace g2:prtL g K [] (k-1)=if 0≤k' then prtL g (K.drop (i+1)) (O++(g (nth K (i:Int)) k').1) (g (nth K (i:Int)) k').2 else (O,k'):=g2
  by_cases hk0:0≤k'
  ·rw[if_pos hk0] at g2
   have q4:=ih _ hm k' (by omega)
   obtain⟨a1,a2,a3⟩:=hg _ hm k' hk0
   generalize g (nth K (i:Int)) k'=r at *
   obtain⟨r1,r2⟩:=r
   dsimp only at q4 a1 a2 a3 g2
   repeat' (first|(show RS _ _ _ _ _ _ _ (⟨some 56,.call _,_,_,_,_⟩::_);refine RS.callX (q4) ⟨rfl,rfl,rfl,rfl,rfl⟩ ?_;rintro v4 -;dsimp only[List.cons_append,List.nil_append])|(show RS _ _ _ _ _ _ _ (⟨some 61,_,_,_,_,_⟩::_);refine RS.appendA (f:=cT) (l:=O) (l':=r1) ?_;intro z1)|(refine nxV ?_)|(refine nSS ?_)|(refine nxG ?_)|(refine nxX ?_)|(refine G.cN rfl (fun hc=>?_) (fun hc=>?_)<;>(try first|exact hc.elim|(exfalso;omega))))
   all_goals first
    |(exfalso;simp at hc;done)
    |(exfalso;simp at hc;omega)
    |skip
   exact X.again ((z1,O++r1),r2,i+1) ⟨by dsimp only;omega,⟨fun x hx=>by
    rcases List.mem_append.1 hx with hx|hx
    ·exact p1 x hx
    ·exact a1 x hx,a2,by dsimp only;rw[List.length_append];omega⟩,g2⟩ (by dsimp only;omega) ⟨rfl,rfl,rfl,rfl,rfl,rfl,trivial⟩ (by exact fun w h=>h.sub subS)
  ·rw[if_neg hk0] at g2
   rw[g2]
   clear ih
   repeat' (first|(refine nxV ?_)|(refine nSS ?_)|(refine nxG ?_)|(refine nxX ?_)|(refine G.cN rfl (fun hc=>?_) (fun hc=>?_)<;>(try first|exact hc.elim|(exfalso;omega))))
   all_goals first
    |(exfalso;simp at hc;done)
    |(exfalso;simp at hc;omega)
    |exact X.retN (vs:=[_,_]) z rfl ⟨rfl,rfl,rfl⟩ rfl trivial rfl (NewIn.rw (by exact memA) NewIn.nil)
 ·obtain rfl:i=4:=by omega
  rw[List.drop_of_length_le (by omega)] at g2
  replace g2:prtL g K [] (k-1)=(O,k'):=g2
  rw[g2]
  clear ih
  repeat' (first|(refine nxV ?_)|(refine nSS ?_)|(refine nxG ?_)|(refine nxX ?_)|(refine G.cN rfl (fun hc=>?_) (fun hc=>?_)<;>(try first|exact hc.elim|(exfalso;omega))))
  all_goals first
   |(exfalso;simp at hc;done)
   |(exfalso;simp at hc;omega)
   |exact X.retN (vs:=[_,_]) z rfl ⟨rfl,rfl,rfl⟩ rfl trivial rfl (NewIn.rw (by exact memA) NewIn.nil)
theorem rpart_c (hks:∀k∈ks,CirOk k) (hl:ks.length≤1000) (hn:n≤16):∀(d:Nat) {c:RR.CellT} {k:Int},RR.okC c→n≤c.lv+d→0≤k∧k≤1000000 →
  ContX Tryz.prog [Hl.rd vc cKr 6 ks] 126 [vc,ctV c,.int .i64 n,.int .i64 k] (fun _:Sl=>True) (fun z=>.tuple [z.v,.int .i64 (prtF (agrA ks) (surA ks) n d c k).2].toArray) (fun z=>[Hl.nw z.v cT 3 (prtF (agrA ks) (surA ks) n d c k).1])
 |d,c,k,ok,hd,hk=>by
  unfold prtF
  split
  ·rename_i h1
   exact part_w1 hks hl ok hk h1
  rename_i h1
  have h0:¬(k-1<0):=fun h=>h1 (.inl h)
  have hA:agrA ks c=true:=by
   cases h:agrA ks c with
   |true=>rfl
   |false=>exact absurd (.inr h) h1
  split
  ·rename_i h2
   exact part_w2 hks hl ok hk h0 hA h2
  ·rename_i h2
   have hlv:c.lv<n:=Nat.lt_of_not_le fun h=>h2 (.inl h)
   have hS:surA ks c=false:=by
    cases h:surA ks c with
    |false=>rfl
    |true=>exact absurd (.inr h) h2
   cases d with
   |zero=>omega
   |succ d =>
    refine part_w3 hks hl ok hk h0 hA hS hlv hn (fun x hx k hk=>prtF_inv hn d (RR.okC_kid ok (by omega) hx) hk) fun x hx k hk=>rpart_c hks hl hn d (RR.okC_kid ok (by omega) hx) ?_ hk
    simp only[RR.kids,List.mem_cons,List.not_mem_nil,or_false] at hx
    rcases hx with rfl|rfl|rfl|rfl<;>(dsimp only;omega)
end
theorem roff8_c {n:Int} (hn : -4611686018427387904≤n∧n≤4611686018427387904):Cont Tryz.prog 277 [.int .i64 n] (.int .i64 (TT.turnI n)):=fun w=>by
 have ht:=tmod_turn n
 have hb : -21600000<n.tmod 21600000∧n.tmod 21600000<21600000:=by omega
 refine enter0 Tryz.func277 rfl rfl rfl ?_
 repeat' (first|(refine nxV ?_)|(refine nSS ?_)|(refine nxX ?_)|(refine G.cN rfl (fun hc=>?_) (fun hc=>?_)<;>(try first|exact hc.elim|(exfalso;omega))))
 all_goals refine X.ret (vs:=[_]) rfl ⟨rfl,rfl⟩ rfl (fun w hw=>⟨congrArg Ending.returned (congrArg (Value.int .i64) ?_),hw.ext⟩)
 all_goals (unfold TT.turnI;omega)
theorem r5meets_c (a b c d:Int):Cont Tryz.prog 232 [arcV a b,arcV c d] (.bool (decide (a≤d)&&decide (c≤b))):=fun w=>by
 refine enter0 Tryz.func232 rfl rfl rfl ?_
 repeat' (first|(refine nxV ?_)|(refine nSS ?_)|(refine nS1 fun _=>?_)|(refine nxG ?_)|(refine nxX ?_)|done)
 all_goals exact X.ret (vs:=[_]) rfl ⟨rfl,rfl⟩ rfl (fun w hw=>⟨ret_bool (by by_cases h1:a≤d<;>by_cases h2:c≤b<;>simp[h1,h2]),hw.ext⟩)
theorem r5meet_c (a b c d:Int):Cont Tryz.prog 233 [arcV a b,arcV c d] (arcV (max a c) (min b d)):=fun w=>by
 refine enter0 Tryz.func233 rfl rfl rfl ?_
 repeat' (first|(show YK _ _ _ _ _ ⟨_,.load 34 _,_,_,_,_⟩ _;refine YK.ofV (zlP (k:=2) (by rfl) (by exact memA) (by decide +kernel) (by rfl)) ?_)|(refine nxV ?_)|(refine nSS ?_)|(refine nS1 fun _=>?_)|(refine nxX ?_)|(refine G.cN rfl (fun hc=>?_) (fun hc=>?_)<;>(try first|exact hc.elim|(exfalso;omega))))
 all_goals exact X.ret (vs:=[_]) rfl ⟨⟨_,_,_,_,rfl,(by exact memA),lenA,by decide +kernel,rfl⟩,rfl⟩ rfl (fun w hw=>⟨congrArg Ending.returned (arcV_eq (by omega) (by omega)),hw.ext⟩)
def ArcBd (l:List PtT):Prop:=∀p∈l,(-1000000000≤p.1∧p.1≤1000000000)∧-1000000000≤p.2∧p.2≤1000000000
theorem ArcBd.snoc {l:List PtT} {a b:Int} (h:ArcBd l) (ha : -1000000000≤a∧a≤1000000000) (hb : -1000000000≤b∧b≤1000000000):ArcBd (l++[(a,b)]):=fun p hp=>by
 rcases List.mem_append.1 hp with hp|hp
 ·exact h p hp
 ·rw[List.mem_singleton.1 hp];exact⟨ha,hb⟩
section
variable {a b c d:Int}
theorem rparts_c (h1 : -100000000≤a∧a≤100000000∧-100000000≤b∧b≤100000000) (h2 : -100000000≤c∧c≤100000000∧-100000000≤d∧d≤100000000):ContX Tryz.prog [] 231 [arcV a b,arcV c d] (fun z:Sl×List PtT=>ArcBd z.2∧z.2.length≤3) (fun z=>z.1.v) (fun z=>[Hl.nw z.1.v cPt 2 z.2]):=fun w hw0=>by
 refine enter Tryz.func231 rfl rfl rfl hw0 ?_
 repeat' (first|(refine nxV ?_)|(refine nSS ?_)|(refine nS1 fun _=>?_)|(refine nxX ?_)|done)
 rename_i b2 b3
 refine G.loop (ι:=(Sl×List PtT)×Nat) (fun y=>[(2,.pointer (some ⟨b2,0,none⟩)),(3,.pointer (some ⟨b3,0,none⟩)),(5,y.1.1.v),(6,.int .i64 (y.2:Int))]) (fun y=>[Hl.rw y.1.1.v 34 cPt 2 y.1.2,Hl.blk b3 34 [.int .i64 c,.int .i64 d],Hl.blk b2 34 [.int .i64 a,.int .i64 b]]) (fun y=>ArcBd y.1.2∧y.1.2.length≤y.2∧y.2≤3) (fun y=>3-y.2) ((⟨none,0,0⟩,[]),0) ⟨(fun p hp=>by cases hp),Nat.le_refl _,Nat.zero_le _⟩ ⟨rfl,rfl,rfl,rfl,trivial⟩ (fun w' h=>St.nilRow 34 cPt 2 h) ?_
 rintro⟨⟨z,O⟩,i⟩ mx ⟨g1,g2,g3⟩ hmx
 (try dsimp only at g1 g2 g3 hmx ⊢)
 rcases Nat.lt_or_ge i 3 with hi|hi
 ·repeat' (first|(show YK _ _ _ _ _ ⟨_,.load 34 _,_,_,_,_⟩ _;refine YK.ofV (zlP (k:=2) (by rfl) (by exact memA) (by decide +kernel) (by rfl)) ?_)|(show RS _ _ _ _ _ _ _ (⟨some 48,.buildSlice 241 1 _,_,_,_,_⟩::_);refine RS.lit1Pt (a:=(_,_)) (fun v'=>?_) (by rfl))|(show RS _ _ _ _ _ _ _ (⟨some 49,_,_,_,_,_⟩::_);refine RS.appendA (f:=cPt) (l:=O) ?_;intro z1)|(refine nxV ?_)|(refine nSS ?_)|(refine nS1 fun _=>?_)|(refine nxX ?_)|(refine G.cN rfl (fun hc=>?_) (fun hc=>?_)<;>(try first|exact hc.elim|(exfalso;omega))))
  all_goals first
   |(refine X.again ((z,O),i+1) ⟨g1,by dsimp only;omega,by dsimp only;omega⟩ (by dsimp only;omega) ⟨rfl,rfl,rfl,rfl,trivial⟩ ?_;intro w h;refine h.sub ?_;(repeat(first|exact List.Sublist.refl _|apply List.Sublist.cons_cons|apply List.Sublist.cons));done)
   |(refine X.again ((z1,O++[(a,b)]),i+1) ⟨g1.snoc (by omega) (by omega),by dsimp only;rw[List.length_append,List.length_singleton];omega,by dsimp only;omega⟩ (by dsimp only;omega) ⟨rfl,rfl,rfl,rfl,trivial⟩ ?_;intro w h;refine h.sub ?_;(repeat(first|exact List.Sublist.refl _|apply List.Sublist.cons_cons|apply List.Sublist.cons));done)
   |(refine X.again ((z1,O++[(a,d+((i:Int)-1)*21600000)]),i+1) ⟨g1.snoc (by omega) (by omega),by dsimp only;rw[List.length_append,List.length_singleton];omega,by dsimp only;omega⟩ (by dsimp only;omega) ⟨rfl,rfl,rfl,rfl,trivial⟩ ?_;intro w h;refine h.sub ?_;(repeat(first|exact List.Sublist.refl _|apply List.Sublist.cons_cons|apply List.Sublist.cons));done)
   |(refine X.again ((z1,O++[(c+((i:Int)-1)*21600000,b)]),i+1) ⟨g1.snoc (by omega) (by omega),by dsimp only;rw[List.length_append,List.length_singleton];omega,by dsimp only;omega⟩ (by dsimp only;omega) ⟨rfl,rfl,rfl,rfl,trivial⟩ ?_;intro w h;refine h.sub ?_;(repeat(first|exact List.Sublist.refl _|apply List.Sublist.cons_cons|apply List.Sublist.cons));done)
   |(refine X.again ((z1,O++[(c+((i:Int)-1)*21600000,d+((i:Int)-1)*21600000)]),i+1) ⟨g1.snoc (by omega) (by omega),by dsimp only;rw[List.length_append,List.length_singleton];omega,by dsimp only;omega⟩ (by dsimp only;omega) ⟨rfl,rfl,rfl,rfl,trivial⟩ ?_;intro w h;refine h.sub ?_;(repeat(first|exact List.Sublist.refl _|apply List.Sublist.cons_cons|apply List.Sublist.cons));done)
 ·obtain rfl:i=3:=by omega
  repeat' (first|(refine nxV ?_)|(refine nSS ?_)|(refine nxX ?_)|(refine G.cN rfl (fun hc=>?_) (fun hc=>?_)<;>(try first|exact hc.elim|(exfalso;omega))))
  all_goals first
   |(exfalso;simp at hc;done)
   |(exfalso;simp at hc;omega)
   |exact X.retN (vs:=[_]) (z,O) rfl ⟨rfl,rfl⟩ rfl ⟨g1,g2⟩ rfl (NewIn.rw (by exact memA) NewIn.nil)
theorem raround8_c {v:Value} {l:List PtT} (hl:l.length≤1000) (hb:ArcBd l):ContX Tryz.prog [Hl.rd v cPt 2 l] 234 [v] (fun _:Int×Int=>True) (fun z=>arcV z.1 z.2) (fun _=>[]):=fun w hw0=>by
 have q0:=rall_c
 refine enter Tryz.func234 rfl rfl rfl hw0 ?_
 repeat' (first|(show YK _ _ _ _ _ _ _;refine YK.mk (zcA (q0) rfl) ?_)|(refine nxV ?_)|(refine nSS ?_)|(refine nS1 fun _=>?_)|(refine nxX ?_)|done)
 rename_i b2 b3
 refine G.loop (ι:=(Int×Int)×Nat) (fun y=>[(0,v),(2,.pointer (some ⟨b2,0,none⟩)),(3,.pointer (some ⟨b3,0,none⟩)),(4,.int .i64 (y.2:Int))]) (fun y=>[Hl.blk b3 34 [.int .i64 y.1.1,.int .i64 y.1.2],Hl.blk b2 34 [.int .i64 0,.int .i64 0],Hl.rd v cPt 2 l]) (fun y=>y.2≤l.length∧(-10800000≤y.1.1∧y.1.1≤10800000)∧-10800000≤y.1.2∧y.1.2≤10000000000) (fun y=>l.length-y.2) ((-10800000,10800000),0) ⟨Nat.zero_le _,by dsimp only;omega,by dsimp only;omega⟩ ⟨rfl,rfl,rfl,rfl,trivial⟩ (by exact fun w h=>h.sub subS) ?_
 rintro⟨⟨lo,hh⟩,i⟩ mx ⟨g1,g2,g3⟩ hmx
 (try dsimp only at g1 g2 g3 hmx ⊢)
 rcases Nat.lt_or_ge i l.length with hi|hi
 ·have hm:nth l (i:Int)∈l:=by rw[nth_mem hi];exact List.getElem_mem hi
  have hbi:=hb _ hm
  repeat' (first|(refine nxV ?_)|(refine nSS ?_)|(refine nxX ?_)|(refine G.cN rfl (fun hc=>?_) (fun hc=>?_)<;>(try first|exact hc.elim|(exfalso;omega))))
  all_goals first
   |(exfalso;simp at hc;done)
   |(exfalso;simp at hc;omega)
   |skip
  refine G.loop (ι:=Int×Nat) (fun y=>[(0,v),(2,.pointer (some ⟨b2,0,none⟩)),(3,.pointer (some ⟨b3,0,none⟩)),(4,.int .i64 (i:Int)),(5,.int .i64 y.1),(6,.int .i64 (y.2:Int))]) (fun _=>[Hl.blk b3 34 [.int .i64 lo,.int .i64 hh],Hl.blk b2 34 [.int .i64 0,.int .i64 0],Hl.rd v cPt 2 l]) (fun y=>y.2≤l.length∧0≤y.1∧y.1≤5000000000) (fun y=>l.length-y.2) (0,0) ⟨Nat.zero_le _,by dsimp only;omega,by dsimp only;omega⟩ ⟨rfl,rfl,rfl,rfl,rfl,rfl,trivial⟩ (by exact fun w h=>h.sub subS) ?_
  rintro⟨e,j⟩ mx2 ⟨k1,k2,k3⟩ hmx2
  (try dsimp only at k1 k2 k3 hmx2 ⊢)
  rcases Nat.lt_or_ge j l.length with hj|hj
  ·have hm2:nth l (j:Int)∈l:=by rw[nth_mem hj];exact List.getElem_mem hj
   have hbj:=hb _ hm2
   have q1:=roff8_c (n:=(nth l (j:Int)).1-(nth l (i:Int)).1) (by omega)
   have ht:=TT.turnI_bd ((nth l (j:Int)).1-(nth l (i:Int)).1)
   generalize TT.turnI ((nth l (j:Int)).1-(nth l (i:Int)).1)=t at *
   repeat' (first|(show YK _ _ _ _ _ _ _;refine YK.mk (zcA (q1) ⟨rfl,rfl⟩) ?_)|(refine nxV ?_)|(refine nSS ?_)|(refine nMM ?_)|(refine G.mA 9 [.go 0,.go 1,.go 2,.go 3,.go 4,.go 5,.go 6,.go 7,.go 8,.go 9,.go 10,.go 12,.go 13,.go 14,.go 15,.go 16,.go 18,.go 19,.go 20,.go 21,.go 22,.go 11,.go 17,.go 23,.go 24] ?_)|(refine nxX ?_)|(refine G.cN rfl (fun hc=>?_) (fun hc=>?_)<;>(try first|exact hc.elim|(exfalso;omega))))
   all_goals first
    |(exfalso;simp at hc;done)
    |(refine X.again (e,j+1) ⟨by dsimp only;omega,by dsimp only;omega,by dsimp only;omega⟩ (by dsimp only;omega) ⟨rfl,rfl,rfl,rfl,rfl,rfl,trivial⟩ ?_;intro w h;refine h.sub ?_;(repeat(first|exact List.Sublist.refl _|apply List.Sublist.cons_cons|apply List.Sublist.cons));done)
    |(refine X.again (t+(nth l (j:Int)).2-(nth l (j:Int)).1,j+1) ⟨by dsimp only;omega,by dsimp only;omega,by dsimp only;omega⟩ (by dsimp only;omega) ⟨rfl,rfl,rfl,rfl,rfl,rfl,trivial⟩ ?_;intro w h;refine h.sub ?_;(repeat(first|exact List.Sublist.refl _|apply List.Sublist.cons_cons|apply List.Sublist.cons));done)
  ·obtain rfl:j=l.length:=by omega
   have q1:=rsigned_c (n:=(nth l (i:Int)).1) (by omega)
   have hs:=signI_bd (nth l (i:Int)).1
   generalize signI (nth l (i:Int)).1=s at *
   repeat' (first|(show YK _ _ _ _ _ _ _;refine YK.mk (zcA (q1) ⟨rfl,rfl⟩) ?_)|(refine nxV ?_)|(refine nSS ?_)|(refine nxG ?_)|(refine nxX ?_)|(refine G.cN rfl (fun hc=>?_) (fun hc=>?_)<;>(try first|exact hc.elim|(exfalso;omega))))
   all_goals first
    |(exfalso;simp at hc;done)
    |(refine X.again ((lo,hh),i+1) ⟨by dsimp only;omega,by dsimp only;omega,by dsimp only;omega⟩ (by dsimp only;omega) ⟨rfl,rfl,rfl,rfl,trivial⟩ ?_;intro w h;refine h.sub ?_;(repeat(first|exact List.Sublist.refl _|apply List.Sublist.cons_cons|apply List.Sublist.cons));done)
    |(refine X.again ((s,s+e),i+1) ⟨by dsimp only;omega,by dsimp only;omega,by dsimp only;omega⟩ (by dsimp only;omega) ⟨rfl,rfl,rfl,rfl,trivial⟩ ?_;intro w h;refine h.sub ?_;(repeat(first|exact List.Sublist.refl _|apply List.Sublist.cons_cons|apply List.Sublist.cons));done)
 ·obtain rfl:i=l.length:=by omega
  repeat' (first|(show YK _ _ _ _ _ ⟨_,.load 34 _,_,_,_,_⟩ _;refine YK.ofV (zlP (k:=2) (by rfl) (by exact memA) (by decide +kernel) (by rfl)) ?_)|(refine nxV ?_)|(refine nSS ?_)|(refine nxX ?_)|(refine G.cN rfl (fun hc=>?_) (fun hc=>?_)<;>(try first|exact hc.elim|(exfalso;omega))))
  all_goals first
   |(exfalso;simp at hc;done)
   |(exfalso;simp at hc;omega)
   |(exact X.retN (vs:=[_]) (lo,hh) rfl ⟨⟨_,_,_,_,rfl,(by exact memA),lenA,by decide +kernel,rfl⟩,rfl⟩ rfl trivial rfl NewIn.nil)
end
abbrev Pl4:=(Int×Int)×Int×Int
abbrev pl4V (p:Pl4):Value:=v4 p.1.1 p.1.2 p.2.1 p.2.2
section
variable {x y e f a b c d:Int}
theorem r08meet_c (h1 : -100000000≤e∧e≤100000000∧-100000000≤f∧f≤100000000) (h2 : -100000000≤c∧c≤100000000∧-100000000≤d∧d≤100000000):ContX Tryz.prog [] 178 [v4 x y e f,v4 a b c d] (fun z:Pl4×Int=>True) (fun z=>.tuple [pl4V z.1,.int .i64 z.2].toArray) (fun _=>[]):=fun w hw0=>by
 have q1:=rparts_c h1 h2
 have q2:=r5meets_c x y a b
 have q3:=r5meet_c x y a b
 refine enter Tryz.func178 rfl rfl rfl hw0 ?_
 repeat' (first|(show RS _ _ _ _ _ _ _ (⟨some 11,.call _,_,_,_,_⟩::_);refine RS.callX (q1) ⟨rfl,rfl,rfl⟩ ?_;rintro⟨s,l⟩ ⟨p1,p2⟩;dsimp only[List.cons_append,List.nil_append])|(show RS _ _ _ _ _ _ _ (⟨some 30,.call _,_,_,_,_⟩::_);refine RS.callX (raround8_c (v:=s.v) (l:=l) (Nat.le_trans p2 (by decide)) p1) ⟨rfl,rfl⟩ ?_;rintro⟨u,t⟩ -;dsimp only[List.cons_append,List.nil_append])|(show YK _ _ _ _ _ ⟨_,.load 34 _,_,_,_,_⟩ _;refine YK.ofV (zlP (k:=2) (by rfl) (by exact memA) (by decide +kernel) (by rfl)) ?_)|(show YG _ _ _ _ _ _ ⟨_,.load 34 _,_,_,_,_⟩ _;refine YG.mk (fun hb=>by(try(have hc:=And.left hb;have hb:=And.right hb;rw[hc]));(try rw[hb]);exact V.y (zlP (k:=2) (by rfl) (by exact memA) (by decide +kernel) (by rfl))) ?_)|(show YK _ _ _ _ _ ⟨_,.build 36 #[(0,_),(1,_)],_,_,_,_⟩ _;refine YK.ofV (y_build (parts:=[(0,_),(1,_)]) (vs:=[_,_]) ⟨rfl,rfl,rfl⟩ (place_built _ _ _ _)) ?_)|(show YK _ _ _ _ _ ⟨_,.build 36 #[],_,_,_,_⟩ _;refine YK.ofV (y_build (parts:=[]) (vs:=[]) rfl (pl0_built)) ?_)|(show YK _ _ _ _ _ _ _;refine YK.mk (zcA (q3) ⟨rfl,rfl,rfl⟩) ?_)|(refine nxV ?_)|(refine nSS ?_)|(refine nS1 fun _=>?_)|(show YG _ _ _ _ _ _ _ _;refine YG.mk (fun hb=>by(try(have hc:=And.left hb;have hb:=And.right hb;rw[hc]));(try rw[hb]);first|exact(zcA (q2) ⟨rfl,rfl,rfl⟩)|exact V.y vAuto) ?_)|(refine nxX ?_)|(refine G.cN rfl (fun hc=>?_) (fun hc=>?_)<;>(try first|exact hc.elim|(exfalso;omega))))
 all_goals first
  |(exfalso;simp at hc;done)
  |(exact X.retN (vs:=[_,_]) ((((0,0),0,0),23):Pl4×Int) rfl ⟨⟨_,_,_,_,rfl,(by exact memA),lenA,by decide +kernel,rfl⟩,rfl,rfl⟩ rfl trivial rfl NewIn.nil)
  |(exact X.retN (vs:=[_,_]) ((((max x a,min y b),u,t),0):Pl4×Int) rfl ⟨⟨_,_,_,_,rfl,(by exact memA),lenA,by decide +kernel,rfl⟩,rfl,rfl⟩ rfl trivial rfl NewIn.nil)
end
def PrtJ (k:Int) (r:List RR.CellT×Int):Prop:=(∀x∈r.1,RR.okC x)∧min k 0-1≤r.2∧(r.1.length:Int)+r.2≤k
section
variable {P L k:Int} {m:Nat} {c:RR.CellT}
theorem raround_w (hP : -5400000≤P∧P≤5400000) (hL : -10800000≤L∧L<10800000) (ok:RR.okC c) (hk : -1≤k∧k≤1000000) (hm:c.lv≤m) (hm2:m≤16)
  (ih:c.lv<m→∀x∈RR.kids c,∀k,-1≤k∧k≤1000000→ContX Tryz.prog [] 123 [v4 P P L L,ctV x,.int .i64 m,.int .i64 k] (fun z:Sl×List RR.CellT×Int=>PrtJ k (z.2.1,z.2.2)) (fun z=>.tuple [z.1.v,.int .i64 z.2.2].toArray) (fun z=>[Hl.nw z.1.v cT 3 z.2.1])) :
  ContX Tryz.prog [] 123 [v4 P P L L,ctV c,.int .i64 m,.int .i64 k] (fun z:Sl×List RR.CellT×Int=>PrtJ k (z.2.1,z.2.2)) (fun z=>.tuple [z.1.v,.int .i64 z.2.2].toArray) (fun z=>[Hl.nw z.1.v cT 3 z.2.1]):=fun w hw0=>by
 have q1:=r38box_c ok
 have hb:=(box_ok ok).lon
 have q2:=r08meet_c (x:=P) (y:=P) (e:=L) (f:=L) (a:=bxA c) (b:=bxB c) (c:=bxC c) (d:=bxD c) (by omega) (by omega)
 have ok':=ok
 obtain⟨o1,o2,o3⟩:=ok
 have hp:2^c.lv≤2^16:=Nat.pow_le_pow_right (by decide) o1
 have q3:=rchi_c (L:=c.lv) (r:=c.r) (c:=c.c) (by omega)
 have hkd:[(⟨c.lv+1,2*c.r,2*c.c⟩:RR.CellT),⟨c.lv+1,2*c.r,2*c.c+1⟩,⟨c.lv+1,2*c.r+1,2*c.c⟩,⟨c.lv+1,2*c.r+1,2*c.c+1⟩]=RR.kids c:=rfl
 rw[hkd] at q3
 have hk4:(RR.kids c).length=4:=rfl
 clear hkd o1 o2 o3 hp hb
 generalize RR.kids c=K at *
 generalize bxA c=A at *
 generalize bxB c=B at *
 generalize bxC c=C at *
 generalize bxD c=D at *
 refine enter Tryz.func123 rfl rfl rfl hw0 ?_
 repeat' (first|(show VK _ _ _ _ _ ⟨_,.load 36 _,_,_,_,_⟩ _;refine VK.mk (zlP (k:=4) (by rfl) (by exact memA) (by decide +kernel) (by rfl)) ?_)|(show RS _ _ _ _ _ _ _ (⟨some 32,.buildSlice 62 1 _,_,_,_,_⟩::_);refine RS.lit1T (a:=c) (fun v'=>?_) rfl)|(show RS _ _ _ _ _ _ _ (⟨some 36,.call _,_,_,_,_⟩::_);refine RS.callX (q3) ⟨rfl,rfl⟩ ?_;rintro v3 -;dsimp only[List.cons_append,List.nil_append])|(show YK _ _ _ _ _ _ _;refine YK.mk (zcA (q1) ⟨rfl,rfl⟩) ?_)|(refine nxV ?_)|(refine nSS ?_)|(refine nS1 fun _=>?_)|(show RM _ _ _ _ _ _ _ _ _ _;first|(refine RM.callX (q2) ?_;rintro⟨pl,er⟩ -)|(refine nMM ?_)|(refine nM1 fun _=>?_)|done)|(refine G.mA 1 [.go 0,.go 1,.pend 7,.go 2,.go 3,.go 4,.go 5,.go 6,.done,.go 8,.go 9] ?_)|(refine nxX ?_)|(refine G.cN rfl (fun hc=>?_) (fun hc=>?_)<;>(try first|exact hc.elim|(exfalso;omega))))
 ·exact X.retN (vs:=[_,_]) ((⟨none,0,0⟩,[],k):Sl×List RR.CellT×Int) rfl ⟨rfl,rfl,rfl⟩ rfl ⟨(fun x hx=>by cases hx),by dsimp only;omega,by dsimp only[List.length_nil];omega⟩ rfl (NewIn.nilS NewIn.nil)
 ·exact X.retN (vs:=[_,_]) ((v',[c],k-1):Sl×List RR.CellT×Int) rfl ⟨rfl,rfl,rfl⟩ rfl ⟨(fun x hx=>by rw[List.mem_singleton.1 hx];exact ok'),by dsimp only;omega,by dsimp only[List.length_singleton];omega⟩ rfl (NewIn.rw (by exact memA) NewIn.nil)
 rename_i b4 b5 b10 hcx
 have ih':=ih (by omega)
 clear q1 q2 q3 ih
 refine G.loop (ι:=(Sl×List RR.CellT)×Int×Nat) (fun y=>[(2,.int .i64 m),(3,.int .i64 y.2.1),(4,.pointer (some ⟨b4,0,none⟩)),(12,v3.v),(13,y.1.1.v),(14,.int .i64 (y.2.2:Int))]) (fun y=>[Hl.rw y.1.1.v 73 cT 3 y.1.2,Hl.nw v3.v cT 3 K,plB b4 P L]) (fun y=>y.2.2≤4∧PrtJ k (y.1.2,y.2.1)) (fun y=>4-y.2.2) ((⟨none,0,0⟩,[]),k,0) ⟨Nat.zero_le _,⟨(fun x hx=>by cases hx),by dsimp only;omega,by dsimp only[List.length_nil];omega⟩⟩ ⟨rfl,rfl,rfl,rfl,rfl,rfl,trivial⟩ (fun w' h=>St.nilRow 73 cT 3 (h.sub (H':=[Hl.nw v3.v cT 3 K,plB b4 P L]) subS)) ?_
 rintro⟨⟨z,O⟩,k',i⟩ mx ⟨g1,⟨p1,p2,p3⟩⟩ hmx
 (try dsimp only at g1 p1 p2 p3 hmx ⊢)
 rcases Nat.lt_or_ge i 4 with hi|hi
 ·have hi':i<K.length:=by omega
  have hmm:nth K (i:Int)∈K:=by rw[nth_mem hi'];exact List.getElem_mem hi'
  by_cases hk0:0≤k'
  ·have q4:=ih' _ hmm k' (by omega)
   repeat' (first|(show VK _ _ _ _ _ ⟨_,.load 36 _,_,_,_,_⟩ _;refine VK.mk (zlP (k:=4) (by rfl) (by exact memA) (by decide +kernel) (by rfl)) ?_)|(show RS _ _ _ _ _ _ _ (⟨some 58,_,_,_,_,_⟩::_);obtain⟨a1,a2,a3⟩:=hJ;dsimp only at a1 a2 a3;refine RS.appendA (f:=cT) (l:=O) (l':=r1) ?_;intro z1)|(refine nxV ?_)|(refine nSS ?_)|(show RM _ _ _ _ _ _ _ _ _ _;first|(refine RM.callX (q4) ?_;rintro⟨v4',r1,r2⟩ hJ)|(refine nMM ?_)|done)|(refine nxG ?_)|(refine G.mA 11 [.go 0,.go 1,.go 2,.go 3,.go 4,.go 5,.go 6,.go 7,.go 8,.go 9,.go 10,.go 11,.go 12] ?_)|(refine nxX ?_)|(refine G.cN rfl (fun hc=>?_) (fun hc=>?_)<;>(try first|exact hc.elim|(exfalso;omega))))
   all_goals first
    |(exfalso;simp at hc;done)
    |(exfalso;simp at hc;omega)
    |skip
   exact X.again ((z1,O++r1),r2,i+1) ⟨by dsimp only;omega,⟨fun x hx=>by
    rcases List.mem_append.1 hx with hx|hx
    ·exact p1 x hx
    ·exact a1 x hx,by dsimp only;omega,by dsimp only;rw[List.length_append];omega⟩⟩ (by dsimp only;omega) ⟨rfl,rfl,rfl,rfl,rfl,rfl,trivial⟩ (by exact fun w h=>h.sub subS)
  ·clear ih'
   repeat' (first|(refine nxV ?_)|(refine nSS ?_)|(refine nxG ?_)|(refine nxX ?_)|(refine G.cN rfl (fun hc=>?_) (fun hc=>?_)<;>(try first|exact hc.elim|(exfalso;omega))))
   all_goals first
    |(exfalso;simp at hc;done)
    |(exfalso;simp at hc;omega)
    |exact X.retN (vs:=[_,_]) ((z,O,k'):Sl×List RR.CellT×Int) rfl ⟨rfl,rfl,rfl⟩ rfl ⟨p1,p2,p3⟩ rfl (NewIn.rw (by exact memA) NewIn.nil)
 ·obtain rfl:i=4:=by omega
  clear ih'
  repeat' (first|(refine nxV ?_)|(refine nSS ?_)|(refine nxG ?_)|(refine nxX ?_)|(refine G.cN rfl (fun hc=>?_) (fun hc=>?_)<;>(try first|exact hc.elim|(exfalso;omega))))
  all_goals first
   |(exfalso;simp at hc;done)
   |(exfalso;simp at hc;omega)
   |exact X.retN (vs:=[_,_]) ((z,O,k'):Sl×List RR.CellT×Int) rfl ⟨rfl,rfl,rfl⟩ rfl ⟨p1,p2,p3⟩ rfl (NewIn.rw (by exact memA) NewIn.nil)
theorem raround39_c (hP : -5400000≤P∧P≤5400000) (hL : -10800000≤L∧L<10800000) (hm2:m≤16):∀(d:Nat) {c:RR.CellT} {k:Int},RR.okC c→c.lv+d=m→-1≤k∧k≤1000000 →
  ContX Tryz.prog [] 123 [v4 P P L L,ctV c,.int .i64 m,.int .i64 k] (fun z:Sl×List RR.CellT×Int=>PrtJ k (z.2.1,z.2.2)) (fun z=>.tuple [z.1.v,.int .i64 z.2.2].toArray) (fun z=>[Hl.nw z.1.v cT 3 z.2.1])
 |0,c,k,ok,hd,hk=>raround_w hP hL ok hk (by omega) hm2 (fun h=>by omega)
 |d+1,c,k,ok,hd,hk=>raround_w hP hL ok hk (by omega) hm2 fun h x hx k hk=>by
  refine raround39_c hP hL hm2 d (RR.okC_kid ok (by omega) hx) ?_ hk
  simp only[RR.kids,List.mem_cons,List.not_mem_nil,or_false] at hx
  rcases hx with rfl|rfl|rfl|rfl<;>(dsimp only;omega)
end
theorem below_lv {x c:RR.CellT} (h:RR.within x c=true) (hne:eqCells (cT x) [.int .i64 c.lv,.int .i64 c.r,.int .i64 c.c]=false):c.lv<x.lv:=by
 unfold RR.within at h
 simp only[Bool.and_eq_true,decide_eq_true_eq] at h
 obtain⟨⟨h1,h2⟩,h3⟩:=h
 refine Nat.lt_of_le_of_ne h1 fun e=>?_
 rw[e,Nat.sub_self,Nat.pow_zero,Nat.div_one] at h2 h3
 rw[←h2,←h3,e] at hne
 simp[eqCells,vEq,cT] at hne
section
variable {v:Value} {l:List RR.CellT} {c:RR.CellT}
theorem r38has_c (hl:l.length≤100000):ContX Tryz.prog [Hl.rd v cT 3 l] 236 [v,ctV c] (fun _:Bool=>True) (fun b=>.bool b) (fun _=>[]):=fun w hw0=>by
 refine enter Tryz.func236 rfl rfl rfl hw0 ?_
 repeat' (first|(refine nxV ?_)|(refine nSS ?_)|(refine nS1 fun _=>?_)|(refine nxX ?_)|done)
 rename_i b3
 refine G.loop (ι:=Nat) (fun i=>[(0,v),(3,.pointer (some ⟨b3,0,none⟩)),(5,.int .i64 (i:Int))]) (fun _=>[Hl.blk b3 73 [.int .i64 c.lv,.int .i64 c.r,.int .i64 c.c],Hl.rd v cT 3 l]) (fun i=>i≤l.length) (fun i=>l.length-i) 0 (Nat.zero_le _) ⟨rfl,rfl,rfl,trivial⟩ (by exact fun w h=>h.sub subS) ?_
 rintro i mx g1 hmx
 (try dsimp only at g1 hmx ⊢)
 rcases Nat.lt_or_ge i l.length with hi|hi
 ·repeat' (first|(refine nxV ?_)|(refine nSS ?_)|(refine nMM ?_)|(refine G.mA 4 [.go 0,.go 1,.go 2,.go 3,.go 4,.go 5] ?_)|(refine nxX ?_)|(refine G.cN rfl (fun hc=>?_) (fun hc=>?_)<;>(try first|exact hc.elim|(exfalso;omega))))
  all_goals first
   |(exfalso;simp at hc;done)
   |(exact X.again (i+1) (by omega) (by omega) ⟨rfl,rfl,rfl,trivial⟩ (by exact fun w h=>h.sub subS))
   |(exact X.retN (vs:=[_]) true rfl ⟨rfl,rfl⟩ rfl trivial rfl NewIn.nil)
 ·obtain rfl:i=l.length:=by omega
  repeat' (first|(refine nxV ?_)|(refine nSS ?_)|(refine nxX ?_)|(refine G.cN rfl (fun hc=>?_) (fun hc=>?_)<;>(try first|exact hc.elim|(exfalso;omega))))
  all_goals first
   |(exfalso;simp at hc;done)
   |(exact X.retN (vs:=[_]) false rfl ⟨rfl,rfl⟩ rfl trivial rfl NewIn.nil)
theorem r38below_c (ok:RR.okC c) (okl:∀x∈l,RR.okC x) (hl:l.length≤100000):ContX Tryz.prog [Hl.rd v cT 3 l] 237 [v,ctV c] (fun z:Sl×List RR.CellT=>(∀x∈z.2,RR.okC x∧c.lv<x.lv)∧z.2.length≤l.length) (fun z=>z.1.v) (fun z=>[Hl.nw z.1.v cT 3 z.2]):=fun w hw0=>by
 refine enter Tryz.func237 rfl rfl rfl hw0 ?_
 repeat' (first|(refine nxV ?_)|(refine nSS ?_)|(refine nS1 fun _=>?_)|(refine nxX ?_)|done)
 rename_i b3
 refine G.loop (ι:=(Sl×List RR.CellT)×Nat) (fun y=>[(0,v),(3,.pointer (some ⟨b3,0,none⟩)),(5,y.1.1.v),(6,.int .i64 (y.2:Int))]) (fun y=>[Hl.rw y.1.1.v 73 cT 3 y.1.2,Hl.blk b3 73 [.int .i64 c.lv,.int .i64 c.r,.int .i64 c.c],Hl.rd v cT 3 l]) (fun y=>y.2≤l.length∧(∀x∈y.1.2,RR.okC x∧c.lv<x.lv)∧y.1.2.length≤y.2) (fun y=>l.length-y.2) ((⟨none,0,0⟩,[]),0) ⟨Nat.zero_le _,(fun x hx=>by cases hx),Nat.le_refl _⟩ ⟨rfl,rfl,rfl,rfl,trivial⟩ (fun w' h=>St.nilRow 73 cT 3 h) ?_
 rintro⟨⟨z,O⟩,i⟩ mx ⟨g1,g2,g3⟩ hmx
 (try dsimp only at g1 g2 g3 hmx ⊢)
 rcases Nat.lt_or_ge i l.length with hi|hi
 ·have hm:nth l (i:Int)∈l:=by rw[nth_mem hi];exact List.getElem_mem hi
  have okx:=okl _ hm
  have q1:=rwith_c okx ok
  generalize hwi:RR.within (nth l (i:Int)) c=wb at *
  repeat' (first|(show RS _ _ _ _ _ _ _ (⟨some 32,.buildSlice 62 1 _,_,_,_,_⟩::_);refine RS.lit1T (a:=nth l (i:Int)) (fun v'=>?_) rfl)|(show RS _ _ _ _ _ _ _ (⟨some 33,_,_,_,_,_⟩::_);refine RS.appendA (f:=cT) (l:=O) (l':=[nth l (i:Int)]) ?_;intro z1)|(refine nxV ?_)|(refine nSS ?_)|(refine nMM ?_)|(show YG _ _ _ _ _ _ _ _;refine YG.mk (fun hb=>by(try(have hc:=And.left hb;have hb:=And.right hb;rw[hc]));(try rw[hb]);exact(zcA (q1) ⟨rfl,rfl,rfl⟩)) ?_)|(refine nxG ?_)|(refine G.mA 5 [.go 0,.go 1,.go 2,.go 3,.go 4,.go 5,.go 6,.go 7,.go 8,.go 9,.go 10,.go 11,.go 12,.go 13] ?_)|(refine nxX ?_)|(refine G.cN rfl (fun hc=>?_) (fun hc=>?_)<;>(try first|exact hc.elim|(exfalso;omega))))
  ·have hlv:=below_lv (hwi.trans hc.2) hc.1
   exact X.again ((z1,O++[nth l (i:Int)]),i+1) ⟨by dsimp only;omega,fun y hy=>by
    rcases List.mem_append.1 hy with hy|hy
    ·exact g2 y hy
    ·rw[List.mem_singleton.1 hy];exact⟨okx,hlv⟩,by dsimp only;rw[List.length_append,List.length_singleton];omega⟩ (by dsimp only;omega) ⟨rfl,rfl,rfl,rfl,trivial⟩ (by exact fun w h=>h.sub subS)
  ·exact X.again ((z,O),i+1) ⟨by dsimp only;omega,g2,by dsimp only;omega⟩ (by dsimp only;omega) ⟨rfl,rfl,rfl,rfl,trivial⟩ (by exact fun w h=>h.sub subS)
 ·obtain rfl:i=l.length:=by omega
  repeat' (first|(refine nxV ?_)|(refine nSS ?_)|(refine nxX ?_)|(refine G.cN rfl (fun hc=>?_) (fun hc=>?_)<;>(try first|exact hc.elim|(exfalso;omega))))
  all_goals first
   |(exfalso;simp at hc;done)
   |(exact X.retN (vs:=[_]) (z,O) rfl ⟨rfl,rfl⟩ rfl ⟨g2,g3⟩ rfl (NewIn.rw (by exact memA) NewIn.nil))
end
end Go.Proofs.YtjmdeplmenbmmaaGreatDoor
