/- Joined texts: Lon, Loo, Rof, Roc, Mee, Meb. -/
import Derived.Test.YtjmdeplmenbmmaaGreatDoorW19
set_option linter.unusedVariables false
set_option maxHeartbeats 8000000
namespace Go.Proofs.YtjmdeplmenbmmaaGreatDoor
open Go.RowKit
abbrev bx2 (b bS:Nat):Hl:=Hl.blk b 182 [ptK bS]
section
variable {bS:Nat} {vc:Value} {ks:List CirT} {n k k':Int} {z:Sl} {o o':List RR.CellT} {c x:RR.CellT}
theorem look2_c {b:Nat} {r:Bool} (hc:ContL Tryz.prog (RoK vc ks) [srB bS vc n k z,rgR z o] 139 [ptK bS,ctV x] (fun _:Sl=>True) (fun _=>.bool r) (fun z'=>[srB bS vc n k' z',rgR z' o'])) :
  ContL Tryz.prog (RoK vc ks) [bx2 b bS,srB bS vc n k z,rgR z o] 203 ([ctV x]++(#[bxC' b]:Array Value).toList) (fun _:Sl=>True) (fun _=>.bool (!r)) (fun z'=>[bx2 b bS,srB bS vc n k' z',rgR z' o']):=fun w0 HR w hC hw=>by
 change St w0 (bx2 b bS::srB bS vc n k z::rgR z o::HR) w at hw
 refine enterU Tryz.func203 rfl rfl rfl hw ?_
 repeat' (first|(show RS _ _ _ _ _ _ _ (⟨some 6,.call _,_,_,_,_⟩::_);refine RS.callL (hc) hC ?_;rintro z1 -;dsimp only[List.cons_append,List.nil_append])|(refine nxV ?_)|(refine nSS ?_)|(refine nS1 fun _=>?_)|(refine nxX ?_)|done)
 exact X.ret (vs:=[_]) rfl ⟨rfl,rfl⟩ rfl (fun w hw=>⟨z1,trivial,rfl,hw.sub (H':=srB bS vc n k' z1::rgR z1 o'::bx2 b bS::HR) subS |>.perm (by exact(List.perm_middle (l₁:=[srB bS vc n k' z1,rgR z1 o'])))⟩)
theorem look_w4 {r:Bool} (hks:∀k∈ks,CirOk k) (hl:ks.length≤1000) (ok:RR.okC c) (hk:0≤k∧k≤1000000) (h:¬100000<k+1) (hA:(ks.any fun k=>!agrB k c)=false) (hn:(c.lv:Int)<n∧n≤16) (hS:surA ks c=false)
  (hcc:∀b v,ContL Tryz.prog (RoK vc ks) [Hl.nw v cT 3 (RR.kids c),bx2 b bS,srB bS vc n (k+1) z,rgR z o] 136 [v,.func (.func 203) #[] #[bxC' b]] (fun _:Sl=>True) (fun _=>.bool (!r)) (fun z'=>[Hl.nw v cT 3 (RR.kids c),bx2 b bS,srB bS vc n k' z',rgR z' o'])) :
  ContL Tryz.prog (RoK vc ks) [srB bS vc n k z,rgR z o] 139 [ptK bS,ctV c] (fun _:Sl=>True) (fun _=>.bool r) (fun z'=>[srB bS vc n k' z',rgR z' o']):=fun w0 HR w hC hw=>by
 change St w0 (srB bS vc n k z::rgR z o::HR) w at hw
 have q1:=agrT_c (vc:=vc) hks hl ok
 rw[hA] at q1
 have q2:=all_c (vc:=vc) hks hl ok
 rw[hS] at q2
 have q3:=kids_c ok (by omega)
 refine enterU Tryz.func139 rfl rfl rfl hw ?_
 repeat' (first|(refine nxN ?_)|(show YK _ _ _ _ _ ⟨_,.call { callee:=.value (.func 198),args:=_,argTypes:=_ },_,_,_,_⟩ _;refine YK.mk (zcI (q1 _) (fun w' hw'=>⟨CelW.ofSt hw' (by exact memA),RO.stay hC hw'.ext⟩) ⟨rfl,rfl,rfl⟩ (by decide +kernel)) ?_)|(show YG _ _ _ _ _ _ ⟨_,.call { callee:=.value (.func 202),args:=_,argTypes:=_ },_,_,_,_⟩ _;refine YG.mk (fun hb=>by(try(have hc:=And.left hb;have hb:=And.right hb;rw[hc]));(try rw[hb]);exact zcI (q2) (fun w' hw'=>RO.stay hC hw'.ext) ⟨rfl,rfl,rfl⟩ (by decide +kernel)) ?_)|(show RS _ _ _ _ _ _ _ (⟨some 52,.call _,_,_,_,_⟩::_);refine RS.callX (q3) ⟨rfl,rfl⟩ ?_;rintro v2 -;dsimp only[List.cons_append,List.nil_append])|(show RS _ _ _ _ _ _ _ (⟨some 57,.call _,_,_,_,_⟩::_);refine RS.callL (hcc _ _) hC ?_;rintro z1 -;dsimp only[List.cons_append,List.nil_append])|(refine nxV ?_)|(refine nSS ?_)|(refine nS1 fun _=>?_)|(refine nMM ?_)|(refine nxG ?_)|(refine G.mA 6 [.go 0,.go 1,.go 2,.go 3,.go 4,.go 5,.go 6,.go 7,.go 8,.go 9,.go 10,.go 11,.go 12,.go 13,.go 14] ?_)|(refine nxX ?_)|(refine G.cN rfl (fun hc=>?_) (fun hc=>?_)<;>(try first|exact hc.elim|(exfalso;omega))))
 all_goals first
  |(exfalso;omega)
  |(exfalso;simp at hc;done)
  |(exfalso;simp at hc;omega)
  |exact X.ret (vs:=[_]) rfl ⟨rfl,rfl⟩ rfl (fun w hw=>⟨z1,trivial,ret_bool (Bool.not_not _),hw.sub subS⟩)
end
theorem agr_any {ks:List CirT} {c:RR.CellT} {b:Bool} (h:agrA ks c=b):(ks.any fun k=>!agrB k c) = !b:=by
 unfold agrA at h
 rw[←h,Bool.not_not]
section
variable {bS:Nat} {vc:Value} {ks:List CirT} {n:Nat}
theorem ContL.unit {P:Program} {C:World→Prop} {Xs:List Hl} {f:FuncId} {args:List Value} {v:Value} {Y:List Hl} {Y':Sl→List Hl} (z:Sl) (h:ContL P C Xs f args (fun _:Unit=>True) (fun _=>v) (fun _=>Y)) (e:Y' z=Y):ContL P C Xs f args (fun _:Sl=>True) (fun _=>v) Y':=fun w0 HR w hC hw=>by
 refine(h w0 HR w hC hw).mono ?_
 rintro e' w' ⟨_,_,rfl,hs⟩
 exact⟨z,trivial,rfl,by rw[e];exact hs⟩
theorem look_c (hks:∀k∈ks,CirOk k) (hl:ks.length≤1000) (hn:n≤16):∀(d:Nat) {c:RR.CellT},RR.okC c→n≤c.lv+d→∀(z:Sl) (a:RR.LkS),a.1≤100000→RR.LkN a →
  ContL Tryz.prog (RoK vc ks) [srB bS vc n (a.1:Int) z,rgR z a.2] 139 [ptK bS,ctV c] (fun _:Sl=>True) (fun _=>.bool (RR.lookF (agrA ks) (surA ks) n d c a).1) (fun z'=>[srB bS vc n ((RR.lookF (agrA ks) (surA ks) n d c a).2.1:Int) z',rgR z' (RR.lookF (agrA ks) (surA ks) n d c a).2.2])
 |d,c,ok,hd,z,a,ha,hN=>by
  have hN1:=hN.1
  have hN2:=hN.2
  have hk:0≤(a.1:Int)∧(a.1:Int)≤1000000:=by omega
  unfold RR.lookF
  split
  ·rename_i h1
   exact ContL.unit z (look_w1 (bS:=bS) (vc:=vc) (ks:=ks) (n:=n) (c:=c) (z:=z) (o:=a.2) hk (by omega)) rfl
  rename_i h1
  split
  ·rename_i h2
   exact ContL.unit z (look_w2 (bS:=bS) (vc:=vc) (n:=n) (z:=z) (o:=a.2) hks hl ok hk (by omega) (agr_any h2)) rfl
  rename_i h2
  have hA:(ks.any fun k=>!agrB k c)=false:=agr_any (b:=true) (by simpa using h2)
  split
  ·rename_i h3
   exact look_w3 (bS:=bS) (vc:=vc) (n:=n) (z:=z) (o:=a.2) hks hl ok hk (by omega) (by omega) hA (h3.imp (fun h=>by omega) id)
  ·rename_i h3
   have hlv:c.lv<n:=Nat.lt_of_not_le fun h=>h3 (.inl h)
   have hS:surA ks c=false:=by
    cases hs:surA ks c with
    |false=>rfl
    |true=>exact absurd (.inr hs) h3
   cases d with
   |zero=>omega
   |succ d =>
    refine look_w4 (bS:=bS) (vc:=vc) (n:=n) (k:=(a.1:Int)) (z:=z) (o:=a.2) hks hl ok hk (by omega) hA (by omega) hS fun b v=>?_
    have hkl:∀x∈RR.kids c,n≤x.lv+d:=fun x hx=>by
     simp only[RR.kids,List.mem_cons,List.not_mem_nil,or_false] at hx
     rcases hx with rfl|rfl|rfl|rfl<;>(dsimp only;omega)
    have h0:a.1+1≤100000:=by omega
    exact coL_c (C:=RoK vc ks) (σ:=RR.LkS) (Xs:=fun z a=>[bx2 b bS,srB bS vc n (a.1:Int) z,rgR z a.2]) (I:=fun a=>a.1≤100000∧RR.LkN a) (f:=RR.lookF (agrA ks) (surA ks) n d) (fid:=203) (cap:=#[bxC' b]) (by decide +kernel) v (RR.kids c) (by show 4≤1000000;decide)
     (fun x hx z a hI=>look2_c (look_c hks hl hn d (RR.okC_kid ok (by omega) hx) (hkl x hx) z a hI.1 hI.2))
     (fun x hx a hI ht=>by
      have:=RR.lookF_n (A:=agrA ks) (S:=surA ks) (n:=n) d x a hI.1 hI.2
      exact⟨this.2 ht,this.1⟩) z (a.1+1,a.2) ⟨h0,⟨by dsimp only;omega,by dsimp only;omega⟩⟩
end
theorem srch_built (A:Option Addr) (m c:Nat) (n:Int):Tryz.prog.built 184 [(0,.slice A m c),(1,.int .i64 n)]=some [.slice A m c,.int .i64 n,.int .i64 0,.slice none 0 0].toArray:=by kernel_rfl
theorem rof_c {vc:Sl} {vs:Value} {ks:List CirT} {start:List RR.CellT} {n:Nat} (hks:∀k∈ks,CirOk k) (hl:ks.length≤1000) (hn:n≤16) (ok:∀x∈start,RR.okC x) (hs:start.length≤100000):ContX Tryz.prog [Hl.rd vc.v cKr 6 ks,Hl.rd vs cT 3 start] 59 [vc.v,vs,.int .i64 n] (fun _:Sl=>True) (fun z=>.tuple [if (RR.ofF (agrA ks) (surA ks) n start).1=0 then z.v else .slice none 0 0,.int .i64 (RR.ofF (agrA ks) (surA ks) n start).1].toArray) (fun z=>if (RR.ofF (agrA ks) (surA ks) n start).1=0 then [Hl.nw z.v cT 3 (RR.ofF (agrA ks) (surA ks) n start).2] else []):=fun w hw0=>by
 have hC:RoK vc.v ks w:=(hw0 _ List.mem_cons_self).1.1
 refine enter Tryz.func59 rfl rfl rfl hw0 ?_
 repeat' (first|(show YK _ _ _ _ _ ⟨_,.build 184 #[(0,_),(1,_)],_,_,_,_⟩ _;refine YK.ofV (y_build (parts:=[(0,_),(1,_)]) (vs:=[_,_]) ⟨rfl,rfl,rfl⟩ (srch_built _ _ _ _)) ?_)|(refine nxV ?_)|(refine nSS ?_)|(refine nS1 fun _=>?_)|(refine nxX ?_)|done)
 rename_i bS
 refine G.loop (ι:=(Sl×RR.LkS)×Nat) (fun y=>[(8,ptK bS),(15,vs),(16,.int .i64 start.length),(17,.int .i64 (y.2:Int))]) (fun y=>[srB bS vc.v n (y.1.2.1:Int) y.1.1,rgR y.1.1 y.1.2.2,Hl.rd vs cT 3 start]) (fun y=>y.2≤start.length∧y.1.2.1≤100000∧RR.LkN y.1.2∧(∀x∈y.1.2.2,RR.okC x)∧RR.lookL (RR.lookF (agrA ks) (surA ks) n 16) start (0,[])=RR.lookL (RR.lookF (agrA ks) (surA ks) n 16) (start.drop y.2) y.1.2) (fun y=>start.length-y.2) ((⟨none,0,0⟩,(0,[])),0) ⟨Nat.zero_le _,by decide,⟨by decide,by decide⟩,(fun x hx=>by cases hx),rfl⟩ ⟨rfl,rfl,rfl,rfl,trivial⟩ (fun w' h=>(St.nilRow 73 cT 3 (h.sub (H':=[srB bS vc.v n 0 ⟨none,0,0⟩,Hl.rd vs cT 3 start]) subS)).perm (List.Perm.swap _ _ _)) ?_
 rintro⟨⟨z,a⟩,i⟩ mx ⟨g1,g2,g3,go,g4⟩ hmx
 (try dsimp only at g1 g2 g3 go g4 hmx ⊢)
 rcases Nat.lt_or_ge i start.length with hi|hi
 ·have hd:start.drop i=nth start (i:Int)::start.drop (i+1):=by rw[nth_mem hi,List.getElem_cons_drop]
  rw[hd] at g4
  have okx:=ok (nth start (i:Int)) (by rw[nth_mem hi];exact List.getElem_mem hi)
  have q1:=look_c (bS:=bS) (vc:=vc.v) hks hl hn 16 okx (by omega) z a g2 g3
  have qn:=RR.lookF_n (A:=agrA ks) (S:=surA ks) (n:=n) 16 (nth start (i:Int)) a g2 g3
  replace g4:RR.lookL (RR.lookF (agrA ks) (surA ks) n 16) start (0,[])=if (RR.lookF (agrA ks) (surA ks) n 16 (nth start (i:Int)) a).1=true then RR.lookL (RR.lookF (agrA ks) (surA ks) n 16) (start.drop (i+1)) (RR.lookF (agrA ks) (surA ks) n 16 (nth start (i:Int)) a).2 else (false,(RR.lookF (agrA ks) (surA ks) n 16 (nth start (i:Int)) a).2):=g4
  have qo:=RR.lookF_ok (A:=agrA ks) (S:=surA ks) hn 16 okx go
  generalize RR.lookF (agrA ks) (surA ks) n 16 (nth start (i:Int)) a=r at *
  obtain⟨r1,r2⟩:=r
  dsimp only at q1 qn qo g4
  cases r1 with
  |true =>
   rw[if_pos rfl] at g4
   repeat' (first|(show RS _ _ _ _ _ _ _ (⟨some 23,.call _,_,_,_,_⟩::_);refine RS.callL (q1) hC ?_;rintro z1 -;dsimp only[List.cons_append,List.nil_append])|(refine nxV ?_)|(refine nSS ?_)|(refine nS1 fun _=>?_)|(refine nxX ?_)|(refine G.cN rfl (fun hc=>?_) (fun hc=>?_)<;>(try first|exact hc.elim|(exfalso;omega))))
   all_goals first
    |(exfalso;simp at hc;omega)
    |(exfalso;simp at hc;done)
    |exact X.again ((z1,r2),i+1) ⟨by dsimp only;omega,qn.2 rfl,qn.1,qo,g4⟩ (by dsimp only;omega) ⟨rfl,rfl,rfl,rfl,trivial⟩ (by exact fun w h=>h.sub subS)
  |false =>
   rw[if_neg (by decide)] at g4
   have he:RR.ofF (agrA ks) (surA ks) n start=(6,[]):=by
    unfold RR.ofF
    rw[g4]
    rfl
   rw[he]
   repeat' (first|(show RS _ _ _ _ _ _ _ (⟨some 23,.call _,_,_,_,_⟩::_);refine RS.callL (q1) hC ?_;rintro z1 -;dsimp only[List.cons_append,List.nil_append])|(refine nxV ?_)|(refine nSS ?_)|(refine nS1 fun _=>?_)|(refine nxX ?_)|(refine G.cN rfl (fun hc=>?_) (fun hc=>?_)<;>(try first|exact hc.elim|(exfalso;omega))))
   all_goals first
    |(exfalso;simp at hc;omega)
    |(exfalso;simp at hc;done)
    |exact X.retN (vs:=[_,_]) z rfl ⟨rfl,rfl,rfl⟩ rfl trivial rfl NewIn.nil
 ·obtain rfl:i=start.length:=by omega
  rw[List.drop_length] at g4
  replace g4:RR.lookL (RR.lookF (agrA ks) (surA ks) n 16) start (0,[])=(true,a):=g4
  have g31:=g3.1
  have g32:=g3.2
  have q1:=tidied_g z.v a.2 go (by omega)
  have he:RR.ofF (agrA ks) (surA ks) n start=if 4000<(RR.tid a.2).length then (4,[]) else (0,RR.tid a.2):=by
   unfold RR.ofF
   rw[g4]
   rfl
  rw[he]
  by_cases hlen:4000<(RR.tid a.2).length
  ·rw[if_pos hlen]
   have q2:ContX Tryz.prog [Hl.rd z.v cT 3 a.2] 140 [z.v] (fun _:Sl=>True) (fun z=>.tuple [.slice none 0 0,.int .i64 4].toArray) (fun z=>[]):=by
    intro w h
    refine(q1 w h).mono ?_
    rintro e w' ⟨x,hx,rfl,hb,hh⟩
    exact⟨x,hx,by simp only[if_pos hlen],hb,by simpa only[if_pos hlen] using hh⟩
   repeat' (first|(refine nxN ?_)|(show RS _ _ _ _ _ _ _ (⟨some 30,.call _,_,_,_,_⟩::_);refine RS.callX (q2) ⟨rfl,rfl⟩ ?_;rintro z2 -;dsimp only[List.cons_append,List.nil_append])|(refine nxV ?_)|(refine nSS ?_)|(refine nxX ?_)|(refine G.cN rfl (fun hc=>?_) (fun hc=>?_)<;>(try first|exact hc.elim|(exfalso;omega))))
   all_goals first
    |(exfalso;simp at hc;omega)
    |(exfalso;omega)
    |exact X.retN (vs:=[_,_]) z2 rfl ⟨rfl,rfl,rfl⟩ rfl trivial rfl NewIn.nil
  ·rw[if_neg hlen]
   have q2:ContX Tryz.prog [Hl.rd z.v cT 3 a.2] 140 [z.v] (fun _:Sl=>True) (fun z=>.tuple [z.v,.int .i64 0].toArray) (fun z=>[Hl.nw z.v cT 3 (RR.tid a.2)]):=by
    intro w h
    refine(q1 w h).mono ?_
    rintro e w' ⟨x,hx,rfl,hb,hh⟩
    exact⟨x,hx,by simp only[if_neg hlen],hb,by simpa only[if_neg hlen] using hh⟩
   repeat' (first|(refine nxN ?_)|(show RS _ _ _ _ _ _ _ (⟨some 30,.call _,_,_,_,_⟩::_);refine RS.callX (q2) ⟨rfl,rfl⟩ ?_;rintro z2 -;dsimp only[List.cons_append,List.nil_append])|(refine nxV ?_)|(refine nSS ?_)|(refine nxX ?_)|(refine G.cN rfl (fun hc=>?_) (fun hc=>?_)<;>(try first|exact hc.elim|(exfalso;omega))))
   all_goals first
    |(exfalso;simp at hc;omega)
    |(exfalso;omega)
    |exact X.retN (vs:=[_,_]) z2 rfl ⟨rfl,rfl,rfl⟩ rfl trivial rfl (NewIn.nw (by exact memA) NewIn.nil)
theorem given1_c {k:CirT} (hk:CirOk k):Cont Tryz.prog 199 [krV k] (.bool (!true)):=fun w=>by
 have q1:=cirval_c hk.lat hk.lon hk.rad
 refine enter0 Tryz.func199 rfl rfl rfl ?_
 repeat' (first|(show YK _ _ _ _ _ _ _;refine YK.mk (zcA (q1) ⟨rfl,rfl⟩) ?_)|(refine nxV ?_)|(refine nSS ?_)|(refine nS1 fun _=>?_)|(refine nxX ?_)|done)
 all_goals exact X.ret1
theorem any_false {α:Type} {l:List α} : (l.any fun _=>!true)=false:=by
 induction l with
 |nil=>rfl
 |cons a r ih=>rw[List.any_cons,ih];rfl
theorem given39_c {vc:Value} {ks:List CirT} (hks:∀k∈ks,CirOk k) (hl:ks.length≤40):ContR Tryz.prog [Hl.rd vc cKr 6 ks] 138 [vc] (.int .i64 0):=fun w hw0=>by
 have q2:=coKr_c (C:=fun _=>True) holds_true (fid:=199) (cap:=#[]) (p:=fun _=>!true) (by decide +kernel) vc ks (by omega) (fun k h w _=>given1_c (hks k h) w)
 rw[any_false] at q2
 refine enter Tryz.func138 rfl rfl rfl hw0 ?_
 repeat' (first|(show YK _ _ _ _ _ ⟨_,.call { callee:=.value (.func 198),args:=_,argTypes:=_ },_,_,_,_⟩ _;refine YK.mk (zcI (q2) (fun w' hw'=>⟨trivial,ro_rd hw' (by exact rdA)⟩) ⟨rfl,rfl,rfl⟩ (by decide +kernel)) ?_)|(refine nxV ?_)|(refine nSS ?_)|(refine nxX ?_)|(refine G.cN rfl (fun hc=>?_) (fun hc=>?_)<;>(try first|exact hc.elim|(exfalso;omega))))
 all_goals first
  |(exfalso;simp at hc;done)
  |(exfalso;omega)
  |(exfalso;simp at hc;omega)
  |exact X.ret1
theorem rchk_c {vc vs:Value} {ks:List CirT} {start:List RR.CellT} {n:Nat} (hks:∀k∈ks,CirOk k) (hl:ks.length≤40) (hn:n≤16) (ok:∀x∈start,RR.okC x) (hv:RR.IdxOk start) (hs:start.length≤4000):ContR Tryz.prog [Hl.rd vc cKr 6 ks,Hl.rd vs cT 3 start] 58 [vc,vs,.int .i64 n] (.int .i64 0):=fun w hw0=>by
 have q1:=given39_c (vc:=vc) hks hl
 have q2:=vreg_c vs start ok hv hs
 refine enter Tryz.func58 rfl rfl rfl hw0 ?_
 repeat' (first|(show YK _ _ _ _ _ _ _;refine YK.mk (zcR (q1) ⟨rfl,rfl⟩) ?_)|(refine nxV ?_)|(refine nSS ?_)|(show YG _ _ _ _ _ _ _ _;refine YG.mk (fun hb=>by(try(have hc:=And.left hb;have hb:=And.right hb;rw[hc]));(try rw[hb]);first|exact(zcR (q2) ⟨rfl,rfl⟩)|exact V.y vAuto) ?_)|(refine nxX ?_)|(refine G.cN rfl (fun hc=>?_) (fun hc=>?_)<;>(try first|exact hc.elim|(exfalso;omega))))
 all_goals first
  |(exfalso;simp at hc;done)
  |(exfalso;omega)
  |(exfalso;simp at hc;omega)
  |exact X.ret1
theorem rOf_c {vc:Sl} {vs:Value} {ks:List CirT} {start:List RR.CellT} {n:Nat} (hks:∀k∈ks,CirOk k) (hl:ks.length≤40) (hn:n≤16) (ok:∀x∈start,RR.okC x) (hv:RR.IdxOk start) (hs:start.length≤4000):ContX Tryz.prog [Hl.rd vc.v cKr 6 ks,Hl.rd vs cT 3 start] 23 [vc.v,vs,.int .i64 n] (fun _:Sl=>True) (fun z=>.tuple [if (RR.ofF (agrA ks) (surA ks) n start).1=0 then z.v else .slice none 0 0,.int .i64 (RR.ofF (agrA ks) (surA ks) n start).1].toArray) (fun z=>if (RR.ofF (agrA ks) (surA ks) n start).1=0 then [Hl.nw z.v cT 3 (RR.ofF (agrA ks) (surA ks) n start).2] else []):=fun w hw0=>by
 have q1:=rchk_c (vc:=vc.v) (vs:=vs) hks hl hn ok hv hs
 have q2:=rof_c (vc:=vc) (vs:=vs) hks (by omega) hn ok (by omega)
 generalize RR.ofF (agrA ks) (surA ks) n start=r at *
 obtain⟨r1,r2⟩:=r
 dsimp only at q2 ⊢
 by_cases hr:r1=0
 ·have q3:ContX Tryz.prog [Hl.rd vc.v cKr 6 ks,Hl.rd vs cT 3 start] 59 [vc.v,vs,.int .i64 n] (fun _:Sl=>True) (fun z=>.tuple [z.v,.int .i64 0].toArray) (fun z=>[Hl.nw z.v cT 3 r2]):=by
   intro w h
   refine(q2 w h).mono ?_
   rintro e w' ⟨x,hx,rfl,hb,hh⟩
   exact⟨x,hx,(by rw[hr];rfl),hb,by simpa only[if_pos hr] using hh⟩
  subst hr
  refine enter Tryz.func23 rfl rfl rfl hw0 ?_
  repeat' (first|(show RS _ _ _ _ _ _ _ (⟨some _,.call { callee:=.value (.func 59),args:=_,argTypes:=_ },_,_,_,_⟩::_);refine RS.callX q3 ⟨rfl,rfl,rfl,rfl⟩ ?_;rintro z2 -;dsimp only[List.cons_append,List.nil_append])|(show YK _ _ _ _ _ _ _;refine YK.mk (zcR (q1) ⟨rfl,rfl,rfl,rfl⟩) ?_)|(refine nxV ?_)|(refine nSS ?_)|(refine nxX ?_)|(refine G.cN rfl (fun hc=>?_) (fun hc=>?_)<;>(try first|exact hc.elim|(exfalso;omega))))
  all_goals first
   |(exfalso;simp at hc;done)
   |exact X.retN (vs:=[_,_]) z2 rfl ⟨rfl,rfl,rfl⟩ rfl trivial rfl (NewIn.nw (by exact memA) NewIn.nil)
 ·have q3:ContX Tryz.prog [Hl.rd vc.v cKr 6 ks,Hl.rd vs cT 3 start] 59 [vc.v,vs,.int .i64 n] (fun _:Sl=>True) (fun z=>.tuple [.slice none 0 0,.int .i64 r1].toArray) (fun z=>[]):=by
   intro w h
   refine(q2 w h).mono ?_
   rintro e w' ⟨x,hx,rfl,hb,hh⟩
   exact⟨x,hx,by simp only[if_neg hr],hb,by simpa only[if_neg hr] using hh⟩
  refine enter Tryz.func23 rfl rfl rfl hw0 ?_
  repeat' (first|(show RS _ _ _ _ _ _ _ (⟨some _,.call { callee:=.value (.func 59),args:=_,argTypes:=_ },_,_,_,_⟩::_);refine RS.callX q3 ⟨rfl,rfl,rfl,rfl⟩ ?_;rintro z2 -;dsimp only[List.cons_append,List.nil_append])|(show YK _ _ _ _ _ _ _;refine YK.mk (zcR (q1) ⟨rfl,rfl,rfl,rfl⟩) ?_)|(refine nxV ?_)|(refine nSS ?_)|(refine nxX ?_)|(refine G.cN rfl (fun hc=>?_) (fun hc=>?_)<;>(try first|exact hc.elim|(exfalso;omega))))
  all_goals first
   |(exfalso;simp at hc;done)
   |(refine X.retN (vs:=[_,_]) z2 rfl ⟨rfl,rfl,rfl⟩ rfl trivial ?_ ?_;(simp only[if_neg hr]);(simp only[if_neg hr];exact NewIn.nil))
theorem pair2_built (a b:Int):Tryz.prog.built 156 [(0,.int .i64 a),(1,.int .i64 b)]=some [.int .i64 a,.int .i64 b].toArray:=by kernel_rfl
theorem signI_id {L:Int} (h : -10800000≤L∧L<10800000):signI L=L:=by
 unfold signI TT.turnI
 split<;>omega
section
variable {L c d:Int}
theorem common_0 (hL : -10800000≤L∧L<10800000) (hc' : -10800000≤c∧c<10800000∧c≤d∧d-c<21600000) (ht:TT.turnI (c-L)=0):ContX Tryz.prog [] 244 [arcV L L,arcV c d] (fun _:Sl=>True) (fun z=>z.v) (fun z=>[Hl.nw z.v cPt 2 [(L,L)]]):=fun w hw0=>by
 have q1:=pall_c (c:=L) (d:=L) (by omega)
 have q2:=pall_c (c:=c) (d:=d) (by omega)
 have q3:=pbey_c (c:=L) (d:=L) (n:=c) (by omega) (by omega)
 rw[ht] at q3
 have q4:=signed_c (n:=L+max 0 0) (by omega)
 have he:((L,L):PtT)=(signI (L+max 0 0),signI (L+max 0 0)+min (L-L) (0+d-c)-max 0 0):=by
  rw[show L+max 0 0=L by omega,signI_id hL]
  exact Prod.ext rfl (by dsimp only;omega)
 rw[he]
 have hs : -10800000≤signI (L+max 0 0)∧signI (L+max 0 0)<10800000:=by rw[show L+max 0 0=L by omega,signI_id hL];omega
 clear he
 refine enter Tryz.func244 rfl rfl rfl hw0 ?_
 repeat' (first|(show VK _ _ _ _ _ ⟨_,.build 156 #[(0,_),(1,_)],_,_,_,_⟩ _;refine VK.mk (y_build (parts:=[(0,_),(1,_)]) (vs:=[_,_]) ⟨rfl,rfl,rfl⟩ (pair2_built _ _)) ?_)|(show YK _ _ _ _ _ ⟨_,.index 156 _ _,_,_,_,_⟩ _;first|refine YK.ofV (y_index (i:=0) (l:=2) (cs:=[.int .i64 0,.int .i64 (0-21600000)]) (by rfl) (by rfl) (by rfl) (by rfl) lenA (by decide +kernel)) ?_|refine YK.ofV (y_index (i:=1) (l:=2) (cs:=[.int .i64 0,.int .i64 (0-21600000)]) (by rfl) (by rfl) (by rfl) (by rfl) lenA (by decide +kernel)) ?_)|(show G _ _ _ _ _ _ (.loop _);refine G.loopN 3 (GR.step ?_))|(show X (Exit.then (Code.rounds _ _ _ _) _) _ _ _ _ .normal;refine X.round (GR.step ?_))|(show RS _ _ _ _ _ _ _ (⟨some 65,.buildSlice 241 1 _,_,_,_,_⟩::_);refine RS.lit1Pt (a:=(signI (L+max 0 0),signI (L+max 0 0)+min (L-L) (0+d-c)-max 0 0)) (fun v'=>?_) (by rfl))|(show YK _ _ _ _ _ _ _;first|refine YK.mk (zcA (q1) ⟨rfl,rfl⟩) ?_|refine YK.mk (zcA (q2) ⟨rfl,rfl⟩) ?_|refine YK.mk (zcA (q3) ⟨rfl,rfl,rfl⟩) ?_|refine YK.mk (zcA (q4) ⟨rfl,rfl⟩) ?_)|(refine nxV ?_)|(refine nSS ?_)|(refine nS1 fun _=>?_)|(refine nMM ?_)|(refine G.mA 6 [.go 0,.go 1,.go 2,.go 4,.go 5,.go 6,.go 10,.go 3,.go 7,.go 8,.go 9] ?_)|(refine G.mA 9 [.go 0,.go 1,.go 2,.go 3,.go 4,.go 5,.go 6,.go 7,.go 8,.go 9,.go 10,.go 11,.go 12,.go 13,.go 14,.go 15,.go 16] ?_)|(refine nxX ?_)|(refine G.cN rfl (fun hc=>?_) (fun hc=>?_)<;>(try first|exact hc.elim|(exfalso;omega))))
 all_goals first
  |(exfalso;simp at hc;done)
  |(exfalso;omega)
  |(exfalso;simp at hc;omega)
  |exact X.retN (vs:=[_]) _ rfl ⟨rfl,rfl⟩ rfl trivial rfl (NewIn.rw (by exact memA) NewIn.nil)
theorem common_1 (hL : -10800000≤L∧L<10800000) (hc' : -10800000≤c∧c<10800000∧c≤d∧d-c<21600000) {t:Int} (ht:TT.turnI (c-L)=t) (ht0:0<t∧t<21600000) (ht1:21600000≤t+(d-c)):ContX Tryz.prog [] 244 [arcV L L,arcV c d] (fun _:Sl=>True) (fun z=>z.v) (fun z=>[Hl.nw z.v cPt 2 [(L,L)]]):=fun w hw0=>by
 have q1:=pall_c (c:=L) (d:=L) (by omega)
 have q2:=pall_c (c:=c) (d:=d) (by omega)
 have q3:=pbey_c (c:=L) (d:=L) (n:=c) (by omega) (by omega)
 rw[ht] at q3
 have q4:=signed_c (n:=L+max 0 (t-21600000)) (by omega)
 have eL:L+max 0 (t-21600000)=L:=by omega
 have he:((L,L):PtT)=(signI (L+max 0 (t-21600000)),signI (L+max 0 (t-21600000))+min (L-L) (t-21600000+d-c)-max 0 (t-21600000)):=by
  rw[eL,signI_id hL]
  exact Prod.ext rfl (by dsimp only;omega)
 rw[he]
 have hs : -10800000≤signI (L+max 0 (t-21600000))∧signI (L+max 0 (t-21600000))<10800000:=by rw[eL,signI_id hL];omega
 clear he ht eL
 refine enter Tryz.func244 rfl rfl rfl hw0 ?_
 repeat' (first|(show VK _ _ _ _ _ ⟨_,.build 156 #[(0,_),(1,_)],_,_,_,_⟩ _;refine VK.mk (y_build (parts:=[(0,_),(1,_)]) (vs:=[_,_]) ⟨rfl,rfl,rfl⟩ (pair2_built _ _)) ?_)|(show YK _ _ _ _ _ ⟨_,.index 156 _ _,_,_,_,_⟩ _;first|refine YK.ofV (y_index (i:=0) (l:=2) (cs:=[.int .i64 t,.int .i64 (t-21600000)]) (by rfl) (by rfl) (by rfl) (by rfl) lenA (by decide +kernel)) ?_|refine YK.ofV (y_index (i:=1) (l:=2) (cs:=[.int .i64 t,.int .i64 (t-21600000)]) (by rfl) (by rfl) (by rfl) (by rfl) lenA (by decide +kernel)) ?_)|(show G _ _ _ _ _ _ (.loop _);refine G.loopN 3 (GR.step ?_))|(show X (Exit.then (Code.rounds _ _ _ _) _) _ _ _ _ .normal;refine X.round (GR.step ?_))|(show RS _ _ _ _ _ _ _ (⟨some 65,.buildSlice 241 1 _,_,_,_,_⟩::_);refine RS.lit1Pt (a:=(signI (L+max 0 (t-21600000)),signI (L+max 0 (t-21600000))+min (L-L) (t-21600000+d-c)-max 0 (t-21600000))) (fun v'=>?_) (by rfl))|(show YK _ _ _ _ _ _ _;first|refine YK.mk (zcA (q1) ⟨rfl,rfl⟩) ?_|refine YK.mk (zcA (q2) ⟨rfl,rfl⟩) ?_|refine YK.mk (zcA (q3) ⟨rfl,rfl,rfl⟩) ?_|refine YK.mk (zcA (q4) ⟨rfl,rfl⟩) ?_)|(refine nxV ?_)|(refine nSS ?_)|(refine nS1 fun _=>?_)|(refine nMM ?_)|(refine G.mA 6 [.go 0,.go 1,.go 2,.go 4,.go 5,.go 6,.go 10,.go 3,.go 7,.go 8,.go 9] ?_)|(refine G.mA 9 [.go 0,.go 1,.go 2,.go 3,.go 4,.go 5,.go 6,.go 7,.go 8,.go 9,.go 10,.go 11,.go 12,.go 13,.go 14,.go 15,.go 16] ?_)|(refine nxX ?_)|(refine G.cN rfl (fun hc=>?_) (fun hc=>?_)<;>(try first|exact hc.elim|(exfalso;omega))))
 all_goals first
  |(exfalso;simp at hc;done)
  |(exfalso;omega)
  |(exfalso;simp at hc;omega)
  |exact X.retN (vs:=[_]) _ rfl ⟨rfl,rfl⟩ rfl trivial rfl (NewIn.rw (by exact memA) NewIn.nil)
theorem common_no (hL : -10800000≤L∧L<10800000) (hc' : -10800000≤c∧c<10800000∧c≤d∧d-c<21600000) {t:Int} (ht:TT.turnI (c-L)=t) (ht0:0<t∧t<21600000) (ht1:t+(d-c)<21600000):Cont Tryz.prog 244 [arcV L L,arcV c d] (.slice none 0 0):=fun w=>by
 have q1:=pall_c (c:=L) (d:=L) (by omega)
 have q2:=pall_c (c:=c) (d:=d) (by omega)
 have q3:=pbey_c (c:=L) (d:=L) (n:=c) (by omega) (by omega)
 rw[ht] at q3
 clear ht
 refine enter0 Tryz.func244 rfl rfl rfl ?_
 repeat' (first|(show VK _ _ _ _ _ ⟨_,.build 156 #[(0,_),(1,_)],_,_,_,_⟩ _;refine VK.mk (y_build (parts:=[(0,_),(1,_)]) (vs:=[_,_]) ⟨rfl,rfl,rfl⟩ (pair2_built _ _)) ?_)|(show YK _ _ _ _ _ ⟨_,.index 156 _ _,_,_,_,_⟩ _;first|refine YK.ofV (y_index (i:=0) (l:=2) (cs:=[.int .i64 t,.int .i64 (t-21600000)]) (by rfl) (by rfl) (by rfl) (by rfl) lenA (by decide +kernel)) ?_|refine YK.ofV (y_index (i:=1) (l:=2) (cs:=[.int .i64 t,.int .i64 (t-21600000)]) (by rfl) (by rfl) (by rfl) (by rfl) lenA (by decide +kernel)) ?_)|(show G _ _ _ _ _ _ (.loop _);refine G.loopN 3 (GR.step ?_))|(show X (Exit.then (Code.rounds _ _ _ _) _) _ _ _ _ .normal;refine X.round (GR.step ?_))|(show YK _ _ _ _ _ _ _;first|refine YK.mk (zcA (q1) ⟨rfl,rfl⟩) ?_|refine YK.mk (zcA (q2) ⟨rfl,rfl⟩) ?_|refine YK.mk (zcA (q3) ⟨rfl,rfl,rfl⟩) ?_)|(refine nxV ?_)|(refine nSS ?_)|(refine nS1 fun _=>?_)|(refine nMM ?_)|(refine G.mA 6 [.go 0,.go 1,.go 2,.go 4,.go 5,.go 6,.go 10,.go 3,.go 7,.go 8,.go 9] ?_)|(refine G.mA 9 [.go 0,.go 1,.go 2,.go 3,.go 4,.go 5,.go 6,.go 7,.go 8,.go 9,.go 10,.go 11,.go 12,.go 13,.go 14,.go 15,.go 16] ?_)|(refine nxX ?_)|(refine G.cN rfl (fun hc=>?_) (fun hc=>?_)<;>(try first|exact hc.elim|(exfalso;omega))))
 all_goals first
  |(exfalso;simp at hc;done)
  |(exfalso;omega)
  |(exfalso;simp at hc;omega)
  |exact X.ret1
theorem paround1_c (hL : -10800000≤L∧L<10800000) {v:Value} : ContR Tryz.prog [Hl.rd v cPt 2 [(L,L)]] 245 [v] (arcV L L):=fun w hw0=>by
 have l1:(([((L,L):PtT)].length:Nat):Int)=1:=rfl
 have n1:(nth [((L,L):PtT)] 0).1=L:=rfl
 have n2:(nth [((L,L):PtT)] 0).2=L:=rfl
 have q0:=pev_c
 have q1:=pall_c (c:=L) (d:=L) (by omega)
 have q2:=pbey_c (c:=L) (d:=L) (n:=L) (by omega) (by omega)
 have e0:TT.turnI (L-L)=0:=by unfold TT.turnI;omega
 rw[e0] at q2
 refine enter Tryz.func245 rfl rfl rfl hw0 ?_
 repeat' (first|(show G _ _ _ _ _ _ (.loop _);refine G.loopN 2 (GR.step ?_))|(show X (Exit.then (Code.rounds _ _ _ _) _) _ _ _ _ .normal;refine X.round (GR.step ?_))|(show YK _ _ _ _ _ _ _;first|refine YK.mk (zcA (q0) rfl) ?_|refine YK.mk (zcA (q1) ⟨rfl,rfl⟩) ?_|refine YK.mk (zcA (q2) ⟨rfl,rfl,rfl⟩) ?_)|(refine nxV ?_)|(refine nSS ?_)|(refine nS1 fun _=>?_)|(refine nMM ?_)|(refine nxG ?_)|(refine G.mA 12 [.go 0,.go 1,.go 2,.go 3,.go 5,.go 6,.go 8,.go 9,.go 4,.go 7,.go 10,.go 11,.go 12] ?_)|(refine nxX ?_)|(refine G.cN rfl (fun hc=>?_) (fun hc=>?_)<;>(try first|exact hc.elim|(exfalso;omega))))
 all_goals first
  |(exfalso;simp at hc;done)
  |(exfalso;omega)
  |(exfalso;simp at hc;omega)
  |(refine X.ret (vs:=[_]) rfl ⟨⟨_,_,_,_,rfl,(by exact memA),lenA,by decide +kernel,rfl⟩,rfl⟩ rfl (fun w hw=>⟨?_,hw.ext⟩);exact congrArg Ending.returned (arcV_eq (by omega) (by omega)))
end
def hitB (L c d:Int):Bool:=decide (TT.turnI (c-L)=0)||decide (21600000≤TT.turnI (c-L)+(d-c))
theorem common_c {L c d:Int} (hL : -10800000≤L∧L<10800000) (hc' : -10800000≤c∧c<10800000∧c≤d∧d-c<21600000) (hh:hitB L c d=true):ContX Tryz.prog [] 244 [arcV L L,arcV c d] (fun _:Sl=>True) (fun z=>z.v) (fun z=>[Hl.nw z.v cPt 2 [(L,L)]]):=by
 unfold hitB at hh
 simp only[Bool.or_eq_true,decide_eq_true_eq] at hh
 by_cases h0:TT.turnI (c-L)=0
 ·exact common_0 hL hc' h0
 ·have hb:0≤TT.turnI (c-L)∧TT.turnI (c-L)<21600000:=by unfold TT.turnI;omega
  exact common_1 hL hc' rfl (by omega) (by omega)
theorem common_n {L c d:Int} (hL : -10800000≤L∧L<10800000) (hc' : -10800000≤c∧c<10800000∧c≤d∧d-c<21600000) (hh:hitB L c d=false):Cont Tryz.prog 244 [arcV L L,arcV c d] (.slice none 0 0):=by
 unfold hitB at hh
 simp only[Bool.or_eq_false_iff,decide_eq_false_iff_not] at hh
 have hb:0≤TT.turnI (c-L)∧TT.turnI (c-L)<21600000:=by unfold TT.turnI;omega
 exact common_no hL hc' rfl (by omega) (by omega)
section
variable {P L a b c d:Int}
theorem meet_yes (hP : -5400000≤P∧P≤5400000) (hL : -10800000≤L∧L<10800000) (ha : -5400000≤a∧a≤b∧b≤5400000) (hc' : -10800000≤c∧c<10800000∧c≤d∧d-c<21600000) (hh:hitB L c d=true) (hp:a≤P∧P≤b):Cont Tryz.prog 193 [v4 P P L L,v4 a b c d] (.tuple [v4 (max P a) (min P b) L L,.int .i64 0].toArray):=fun w=>by
 have q1:=pval2_c (a:=P) (b:=P) (c:=L) (d:=L) (by omega) (Or.inr (by omega))
 have q2:=pval2_c (a:=a) (b:=b) (c:=c) (d:=d) ha (Or.inr hc')
 have q3:=common_c hL hc' hh
 have q4:=fun v=>paround1_c (L:=L) hL (v:=v)
 have l1:(([((L,L):PtT)].length:Nat):Int)=1:=rfl
 clear hh
 refine enter0 Tryz.func193 rfl rfl rfl ?_
 repeat' (first|(show RS _ _ _ _ _ _ _ (⟨some 36,.call _,_,_,_,_⟩::_);refine RS.callX (q3) ⟨rfl,rfl,rfl⟩ ?_;rintro z1 -;dsimp only[List.cons_append,List.nil_append])|(show VK _ _ _ _ _ ⟨_,.load 34 _,_,_,_,_⟩ _;refine VK.mk (zlP (k:=2) (by rfl) (by exact memA) (by decide +kernel) (by rfl)) ?_)|(show YK _ _ _ _ _ ⟨_,.load 34 _,_,_,_,_⟩ _;refine YK.ofV (zlP (k:=2) (by rfl) (by exact memA) (by decide +kernel) (by rfl)) ?_)|(show VK _ _ _ _ _ ⟨_,.build 36 #[(0,_),(1,_)],_,_,_,_⟩ _;refine VK.mk (y_build (parts:=[(0,_),(1,_)]) (vs:=[_,_]) ⟨rfl,rfl,rfl⟩ (place_built _ _ _ _)) ?_)|(refine G.mixedM 7 [.go 0,.go 1,.go 2,.go 3,.go 4,.go 5] [true,true,false,true,true,true] ?_;dsimp only[maskH])|(show YK _ _ _ _ _ _ _;first|refine YK.mk (zcA (q1) ⟨rfl,rfl⟩) ?_|refine YK.mk (zcA (q2) ⟨rfl,rfl⟩) ?_|refine YK.mk (zcR (q4 z1.v) ⟨rfl,rfl⟩) ?_)|(refine nxV ?_)|(refine nSS ?_)|(refine nS1 fun _=>?_)|(refine nMM ?_)|(refine nxG ?_)|(refine nxX ?_)|(refine G.cN rfl (fun hc=>?_) (fun hc=>?_)<;>(try first|exact hc.elim|(exfalso;omega))))
 all_goals first
  |(exfalso;simp at hc;done)
  |(exfalso;omega)
  |(exfalso;simp at hc;omega)
  |exact X.ret (vs:=[_,_]) rfl ⟨⟨_,_,_,_,rfl,(by exact memA),lenA,by decide +kernel,rfl⟩,rfl,rfl⟩ rfl rE
theorem meet_no (hP : -5400000≤P∧P≤5400000) (hL : -10800000≤L∧L<10800000) (ha : -5400000≤a∧a≤b∧b≤5400000) (hc' : -10800000≤c∧c<10800000∧c≤d∧d-c<21600000) (hp:¬(a≤P∧P≤b)):Cont Tryz.prog 193 [v4 P P L L,v4 a b c d] (.tuple [v4 0 0 0 0,.int .i64 23].toArray):=fun w=>by
 have q1:=pval2_c (a:=P) (b:=P) (c:=L) (d:=L) (by omega) (Or.inr (by omega))
 have q2:=pval2_c (a:=a) (b:=b) (c:=c) (d:=d) ha (Or.inr hc')
 cases hh:hitB L c d with
 |true =>
  have q3:=common_c hL hc' hh
  have l1:(([((L,L):PtT)].length:Nat):Int)=1:=rfl
  clear hh
  refine enter0 Tryz.func193 rfl rfl rfl ?_
  repeat' (first|(show RS _ _ _ _ _ _ _ (⟨some 36,.call _,_,_,_,_⟩::_);refine RS.callX (q3) ⟨rfl,rfl,rfl⟩ ?_;rintro z1 -;dsimp only[List.cons_append,List.nil_append])|(show YK _ _ _ _ _ ⟨_,.load 34 _,_,_,_,_⟩ _;refine YK.ofV (zlP (k:=2) (by rfl) (by exact memA) (by decide +kernel) (by rfl)) ?_)|(show YK _ _ _ _ _ ⟨_,.build 36 #[],_,_,_,_⟩ _;refine YK.ofV (y_build (parts:=[]) (vs:=[]) rfl (pl0_built)) ?_)|(show YK _ _ _ _ _ _ _;first|refine YK.mk (zcA (q1) ⟨rfl,rfl⟩) ?_|refine YK.mk (zcA (q2) ⟨rfl,rfl⟩) ?_)|(refine nxV ?_)|(refine nSS ?_)|(refine nS1 fun _=>?_)|(refine nxG ?_)|(refine nxX ?_)|(refine G.cN rfl (fun hc=>?_) (fun hc=>?_)<;>(try first|exact hc.elim|(exfalso;omega))))
  all_goals first
   |(exfalso;simp at hc;done)
   |(exfalso;omega)
   |(exfalso;simp at hc;omega)
   |exact X.ret (vs:=[_,_]) rfl ⟨⟨_,_,_,_,rfl,(by exact memA),lenA,by decide +kernel,rfl⟩,rfl,rfl⟩ rfl rE
 |false =>
  have q3:=common_n hL hc' hh
  clear hh
  refine enter0 Tryz.func193 rfl rfl rfl ?_
  repeat' (first|(show YG _ _ _ _ _ _ ⟨_,.call { callee:=.builtin .len,args:=_,argTypes:=#[241] },_,_,_,_⟩ _;refine YG.mk (fun hb=>by(try(have hc:=And.left hb;have hb:=And.right hb;rw[hc]));(try rw[hb]);exact V.y (y_lenV (by rfl) (by decide +kernel))) ?_)|(show YK _ _ _ _ _ ⟨_,.load 34 _,_,_,_,_⟩ _;refine YK.ofV (zlP (k:=2) (by rfl) (by exact memA) (by decide +kernel) (by rfl)) ?_)|(show YK _ _ _ _ _ ⟨_,.build 36 #[],_,_,_,_⟩ _;refine YK.ofV (y_build (parts:=[]) (vs:=[]) rfl (pl0_built)) ?_)|(show YK _ _ _ _ _ _ _;first|refine YK.mk (zcA (q1) ⟨rfl,rfl⟩) ?_|refine YK.mk (zcA (q2) ⟨rfl,rfl⟩) ?_|refine YK.mk (zcA (q3) ⟨rfl,rfl,rfl⟩) ?_)|(refine nxV ?_)|(refine nSS ?_)|(refine nS1 fun _=>?_)|(refine nxG ?_)|(refine nxX ?_)|(refine G.cN rfl (fun hc=>?_) (fun hc=>?_)<;>(try first|exact hc.elim|(exfalso;omega))))
  all_goals first
   |(exfalso;simp at hc;done)
   |(exfalso;omega)
   |(exfalso;simp at hc;omega)
   |exact X.ret (vs:=[_,_]) rfl ⟨⟨_,_,_,_,rfl,(by exact memA),lenA,by decide +kernel,rfl⟩,rfl,rfl⟩ rfl rE
theorem meet_nl (hP : -5400000≤P∧P≤5400000) (hL : -10800000≤L∧L<10800000) (ha : -5400000≤a∧a≤b∧b≤5400000) (hc' : -10800000≤c∧c<10800000∧c≤d∧d-c<21600000) (hh:hitB L c d=false):Cont Tryz.prog 193 [v4 P P L L,v4 a b c d] (.tuple [v4 0 0 0 0,.int .i64 23].toArray):=fun w=>by
 have q1:=pval2_c (a:=P) (b:=P) (c:=L) (d:=L) (by omega) (Or.inr (by omega))
 have q2:=pval2_c (a:=a) (b:=b) (c:=c) (d:=d) ha (Or.inr hc')
 have q3:=common_n hL hc' hh
 clear hh
 refine enter0 Tryz.func193 rfl rfl rfl ?_
 repeat' (first|(show YG _ _ _ _ _ _ ⟨_,.call { callee:=.builtin .len,args:=_,argTypes:=#[241] },_,_,_,_⟩ _;refine YG.mk (fun hb=>by(try(have hc:=And.left hb;have hb:=And.right hb;rw[hc]));(try rw[hb]);exact V.y (y_lenV (by rfl) (by decide +kernel))) ?_)|(show YK _ _ _ _ _ ⟨_,.load 34 _,_,_,_,_⟩ _;refine YK.ofV (zlP (k:=2) (by rfl) (by exact memA) (by decide +kernel) (by rfl)) ?_)|(show YK _ _ _ _ _ ⟨_,.build 36 #[],_,_,_,_⟩ _;refine YK.ofV (y_build (parts:=[]) (vs:=[]) rfl (pl0_built)) ?_)|(show YK _ _ _ _ _ _ _;first|refine YK.mk (zcA (q1) ⟨rfl,rfl⟩) ?_|refine YK.mk (zcA (q2) ⟨rfl,rfl⟩) ?_|refine YK.mk (zcA (q3) ⟨rfl,rfl,rfl⟩) ?_)|(refine nxV ?_)|(refine nSS ?_)|(refine nS1 fun _=>?_)|(refine nxG ?_)|(refine nxX ?_)|(refine G.cN rfl (fun hc=>?_) (fun hc=>?_)<;>(try first|exact hc.elim|(exfalso;omega))))
 all_goals first
  |(exfalso;simp at hc;done)
  |(exfalso;omega)
  |(exfalso;simp at hc;omega)
  |exact X.ret (vs:=[_,_]) rfl ⟨⟨_,_,_,_,rfl,(by exact memA),lenA,by decide +kernel,rfl⟩,rfl,rfl⟩ rfl rE
def mtB (P L a b c d:Int):Bool:=decide (a≤P∧P≤b)&&hitB L c d
theorem rmeets_c (hP : -5400000≤P∧P≤5400000) (hL : -10800000≤L∧L<10800000) (ha : -5400000≤a∧a≤b∧b≤5400000) (hc' : -10800000≤c∧c<10800000∧c≤d∧d-c<21600000):Cont Tryz.prog 132 [v4 P P L L,v4 a b c d] (.bool (mtB P L a b c d)):=by
 have go:∀(e:Int) (p q r s:Int),Cont Tryz.prog 193 [v4 P P L L,v4 a b c d] (.tuple [v4 p q r s,.int .i64 e].toArray)→Cont Tryz.prog 132 [v4 P P L L,v4 a b c d] (.bool (decide (e=0))):=fun e p q r s q1 w=>by
  refine enter0 Tryz.func132 rfl rfl rfl ?_
  repeat' (first|(show YK _ _ _ _ _ _ _;refine YK.mk (zcA (q1) ⟨rfl,rfl,rfl⟩) ?_)|(refine nxV ?_)|(refine nSS ?_)|(refine nS1 fun _=>?_)|(refine nxX ?_)|done)
  all_goals exact X.ret1
 unfold mtB
 by_cases hp:a≤P∧P≤b
 ·rw[decide_eq_true hp]
  cases hh:hitB L c d with
  |true=>exact go 0 _ _ _ _ (meet_yes hP hL ha hc' hh hp)
  |false=>exact go 23 _ _ _ _ (meet_nl hP hL ha hc' hh)
 ·rw[decide_eq_false hp]
  exact go 23 _ _ _ _ (meet_no hP hL ha hc' hp)
theorem pins_no (hP : -5400000≤P∧P≤5400000) (hL : -10800000≤L∧L<10800000) (ha : -5400000≤a∧a<b∧b≤5400000) (hc' : -10800000≤c∧c<10800000∧c≤d∧d-c<21600000):Cont Tryz.prog 133 [v4 a b c d,v4 P P L L] (.bool false):=fun w=>by
 have q1:=pval2_c (a:=P) (b:=P) (c:=L) (d:=L) (by omega) (Or.inr (by omega))
 have q2:=pval2_c (a:=a) (b:=b) (c:=c) (d:=d) (by omega) (Or.inr hc')
 refine enter0 Tryz.func133 rfl rfl rfl ?_
 repeat' (first|(show YG _ _ _ _ _ _ ⟨_,.load 34 _,_,_,_,_⟩ _;refine YG.mk (fun hb=>by(try(have hc:=And.left hb;have hb:=And.right hb;rw[hc]));(try rw[hb]);exact V.y (zlP (k:=2) (by rfl) (by exact memA) (by decide +kernel) (by rfl))) ?_)|(show YG _ _ _ _ _ _ ⟨_,.call { callee:=.value (.func 194),args:=_,argTypes:=_ },_,_,_,_⟩ _;refine YG.mk (v:=.bool false) (fun hb=>by exfalso;simp only[Bool.and_eq_true,decide_eq_true_eq] at hb;omega) ?_)|(show YK _ _ _ _ _ _ _;first|refine YK.mk (zcA (q1) ⟨rfl,rfl⟩) ?_|refine YK.mk (zcA (q2) ⟨rfl,rfl⟩) ?_)|(refine nxV ?_)|(refine nSS ?_)|(refine nS1 fun _=>?_)|(refine nxG ?_)|(refine nxX ?_)|done)
 all_goals exact X.ret (vs:=[_]) rfl ⟨rfl,rfl⟩ rfl (fun w hw=>⟨ret_bool (by first|(simp;done)|(simp;omega)),hw.ext⟩)
end
end Go.Proofs.YtjmdeplmenbmmaaGreatDoor
