/- Joined texts: Rf6b, Rf6c, Rf6d, R4, R5. -/
import Derived.Test.YtjmdeplmenbmmaaGreatDoorW24
import Derived.Test.YtjmdeplmenbmmaaGreatDoorW22
import Derived.Test.YtjmdeplmenbmmaaGreatDoorW14
set_option linter.unusedVariables false
set_option maxHeartbeats 8000000
namespace Go.Proofs.YtjmdeplmenbmmaaGreatDoor
open Go.RowKit
theorem quick_c {r:Int} (h:0≤r∧r≤2700000) {c:Bool} {o:Nat} (hco:c=true∧o=0∨c=false∧o=1):Cont Tryz.prog 373 [.int .i64 r,.bool c] (.int .i64 (TT.quickF o r.toNat)):=by
 have q:=quickG_c (rn:=r.toNat) (by omega) hco
 rwa [Int.toNat_of_nonneg h.1] at q
theorem quickF_bd {o r:Nat} (ho:o≤1) (hr:r≤2700000):0≤TT.quickF o r∧TT.quickF o r≤4611686018427387904:=by
 have hq:=qf_of ho hr
 have h:=TT.sq_bd hq.dec 12 0
 have e:=hq.ans 12 (by omega) hq.fin
 have hb:TT.tq o (TT.radQ r) (TT.hi62 (TT.radQ r) (TT.radQ r)) 0≤4611686018427387904:=hq.bd
 rw[e];omega
def quickV (q r:Int):Int :=
 let c:=decide (q%2=1)
 let v:=if r>2700000 then TT.quickF (if c then 1 else 0) (5400000-r).toNat else TT.quickF (if c then 0 else 1) r.toNat
 if q≥2 then 0-v else v
theorem quickI_V (n:Int):TT.quickI n=quickV (TT.turnI n/5400000) (TT.turnI n%5400000):=rfl
theorem quickQ_c {n a q r:Int} (hn : -4611686018427387904≤n∧n≤4611686018427387904) (ha:n.tmod 21600000<0∧n.tmod 21600000+21600000=a∨0≤n.tmod 21600000∧n.tmod 21600000=a) (hb : -21600000<n.tmod 21600000∧n.tmod 21600000<21600000) (hq:a.tdiv 5400000=q) (hr:a.tmod 5400000=r) (q4:0≤q∧q≤3) (r0:0≤r∧r<5400000) :
  Cont Tryz.prog 362 [.int .i64 n] (.int .i64 (quickV q r)):=fun w=>by
 have hq':q=0∨q=1∨q=2∨q=3:=by omega
 by_cases hg:r>2700000
 ·have b0:=quickF_bd (o:=0) (r:=(5400000-r).toNat) (by omega) (by omega)
  have b1:=quickF_bd (o:=1) (r:=(5400000-r).toNat) (by omega) (by omega)
  have q1:=quick_c (r:=5400000-r) (by omega) (c:=true) (o:=0) (.inl ⟨rfl,rfl⟩)
  have q2:=quick_c (r:=5400000-r) (by omega) (c:=false) (o:=1) (.inr ⟨rfl,rfl⟩)
  have e0:quickV 0 r=TT.quickF 0 (5400000-r).toNat:=by unfold quickV;dsimp only;rw[if_pos hg,if_neg (show ¬(0:Int)≥2 by decide),if_neg (show ¬(decide ((0:Int)%2=1)=true) by decide)]
  have e1:quickV 1 r=TT.quickF 1 (5400000-r).toNat:=by unfold quickV;dsimp only;rw[if_pos hg,if_neg (show ¬(1:Int)≥2 by decide),if_pos (show decide ((1:Int)%2=1)=true by decide)]
  have e2:quickV 2 r=0-TT.quickF 0 (5400000-r).toNat:=by unfold quickV;dsimp only;rw[if_pos hg,if_pos (show (2:Int)≥2 by decide),if_neg (show ¬(decide ((2:Int)%2=1)=true) by decide)]
  have e3:quickV 3 r=0-TT.quickF 1 (5400000-r).toNat:=by unfold quickV;dsimp only;rw[if_pos hg,if_pos (show (3:Int)≥2 by decide),if_pos (show decide ((3:Int)%2=1)=true by decide)]
  generalize TT.quickF 0 (5400000-r).toNat=v0 at *
  generalize TT.quickF 1 (5400000-r).toNat=v1 at *
  rcases hq' with rfl|rfl|rfl|rfl<;>rcases ha with ⟨h1,h2⟩|⟨h1,h2⟩<;>subst h2<;>(
   first|rw[e0]|rw[e1]|rw[e2]|rw[e3]
   clear e0 e1 e2 e3
   refine enter0 Tryz.func362 rfl rfl rfl ?_
   repeat' (first|(show YK _ _ _ _ _ ⟨some 14,.binOp .quo _ _ _ _,_,_,_,_⟩ _;refine YK.ofV (y_quoN (by rfl) (by rfl) hq (by decide) (by omega)) ?_)|(show YK _ _ _ _ _ ⟨some 16,.binOp .rem _ _ _ _,_,_,_,_⟩ _;refine YK.ofV (y_remN (by rfl) (by rfl) hr (by decide)) ?_)|(show YK _ _ _ _ _ _ _;first|refine YK.mk (zcA (q1) ⟨rfl,rfl,rfl⟩) ?_|refine YK.mk (zcA (q2) ⟨rfl,rfl,rfl⟩) ?_)|(refine nxV ?_)|(refine nSS ?_)|(refine nxX ?_)|(refine G.cN rfl (fun hc=>?_) (fun hc=>?_)<;>(try first|exact hc.elim|(exfalso;omega))))
   all_goals exact X.ret1)
 ·have b0:=quickF_bd (o:=0) (r:=r.toNat) (by omega) (by omega)
  have b1:=quickF_bd (o:=1) (r:=r.toNat) (by omega) (by omega)
  have q1:=quick_c (r:=r) (by omega) (c:=true) (o:=0) (.inl ⟨rfl,rfl⟩)
  have q2:=quick_c (r:=r) (by omega) (c:=false) (o:=1) (.inr ⟨rfl,rfl⟩)
  have e0:quickV 0 r=TT.quickF 1 r.toNat:=by unfold quickV;dsimp only;rw[if_neg hg,if_neg (show ¬(0:Int)≥2 by decide),if_neg (show ¬(decide ((0:Int)%2=1)=true) by decide)]
  have e1:quickV 1 r=TT.quickF 0 r.toNat:=by unfold quickV;dsimp only;rw[if_neg hg,if_neg (show ¬(1:Int)≥2 by decide),if_pos (show decide ((1:Int)%2=1)=true by decide)]
  have e2:quickV 2 r=0-TT.quickF 1 r.toNat:=by unfold quickV;dsimp only;rw[if_neg hg,if_pos (show (2:Int)≥2 by decide),if_neg (show ¬(decide ((2:Int)%2=1)=true) by decide)]
  have e3:quickV 3 r=0-TT.quickF 0 r.toNat:=by unfold quickV;dsimp only;rw[if_neg hg,if_pos (show (3:Int)≥2 by decide),if_pos (show decide ((3:Int)%2=1)=true by decide)]
  generalize TT.quickF 0 r.toNat=v0 at *
  generalize TT.quickF 1 r.toNat=v1 at *
  rcases hq' with rfl|rfl|rfl|rfl<;>rcases ha with ⟨h1,h2⟩|⟨h1,h2⟩<;>subst h2<;>(
   first|rw[e0]|rw[e1]|rw[e2]|rw[e3]
   clear e0 e1 e2 e3
   refine enter0 Tryz.func362 rfl rfl rfl ?_
   repeat' (first|(show YK _ _ _ _ _ ⟨some 14,.binOp .quo _ _ _ _,_,_,_,_⟩ _;refine YK.ofV (y_quoN (by rfl) (by rfl) hq (by decide) (by omega)) ?_)|(show YK _ _ _ _ _ ⟨some 16,.binOp .rem _ _ _ _,_,_,_,_⟩ _;refine YK.ofV (y_remN (by rfl) (by rfl) hr (by decide)) ?_)|(show YK _ _ _ _ _ _ _;first|refine YK.mk (zcA (q1) ⟨rfl,rfl,rfl⟩) ?_|refine YK.mk (zcA (q2) ⟨rfl,rfl,rfl⟩) ?_)|(refine nxV ?_)|(refine nSS ?_)|(refine nxX ?_)|(refine G.cN rfl (fun hc=>?_) (fun hc=>?_)<;>(try first|exact hc.elim|(exfalso;omega))))
   all_goals exact X.ret1)
theorem turn_ha (n:Int):(n.tmod 21600000<0∧n.tmod 21600000+21600000=TT.turnI n∨0≤n.tmod 21600000∧n.tmod 21600000=TT.turnI n)∧-21600000<n.tmod 21600000∧n.tmod 21600000<21600000:=by
 have ht:=tmod_turn n
 unfold TT.turnI
 omega
theorem Quick_c {n:Int} (hn : -4611686018427387904≤n∧n≤4611686018427387904):Cont Tryz.prog 362 [.int .i64 n] (.int .i64 (TT.quickI n)):=by
 obtain⟨h1,h2⟩:=turn_ha n
 obtain⟨m0,m1⟩:=TT.turnI_bd n
 rw[quickI_V]
 exact quickQ_c hn h1 h2 (Int.tdiv_eq_ediv_of_nonneg m0) (Int.tmod_eq_emod_of_nonneg m0) (by omega) (by omega)
theorem flo_bd (n:Int) : -1073741824≤(TT.floI n).1∧(TT.floI n).1≤1073741824:=by
 have h:=TT.bnd_bd n
 rw[←TT.ends_bnd] at h
 have e:(TT.endsI n).1=(TT.floI n).1:=by unfold TT.endsI;split<;>rfl
 rw[e] at h
 omega
def exaV (k:Int):Int×Bool:=match k.toNat with
 |0=>(0,true)|1=>(536870912,true)|3=>(1073741824,true)|5=>(536870912,true)|6=>(0,true)|7=>(-536870912,true)|9=>(-1073741824,true)|11=>(-536870912,true)
 |_=>(0,false)
section
variable {P:Program} {n:Nat} {L:FL} {w0:World} {H:List Hl} {Q:Exit→Act→World→Prop} {ops:Array Oper} {rest:List Oper} {dd:Nat} {ty:TypeId} {pos:String} {af:Array Edge} {t e:TypeId} {bytes:Nat}
theorem RS.lit12K {a b c d f g h i j k l m:Int} (hh:∀v':Sl,RS P ops Q n ((dd,v'.v)::L) w0 (Hl.rw v'.v e cI 1 [a,b,c,d,f,g,h,i,j,k,l,m]::H) rest) [ht:RowTy P t e 1 bytes] (hd:Nat.blt dd n=true:=by rfl) :
  RS P ops Q n L w0 H (⟨some dd,.buildSlice t 12 #[(0,.const (.int .i64 a)),(1,.const (.int .i64 b)),(2,.const (.int .i64 c)),(3,.const (.int .i64 d)),(4,.const (.int .i64 f)),(5,.const (.int .i64 g)),(6,.const (.int .i64 h)),(7,.const (.int .i64 i)),(8,.const (.int .i64 j)),(9,.const (.int .i64 k)),(10,.const (.int .i64 l)),(11,.const (.int .i64 m))],ty,pos,af,none⟩::rest) :=
 RS.actX rfl (x_lit (parts:=[(0,.const (.int .i64 a)),(1,.const (.int .i64 b)),(2,.const (.int .i64 c)),(3,.const (.int .i64 d)),(4,.const (.int .i64 f)),(5,.const (.int .i64 g)),(6,.const (.int .i64 h)),(7,.const (.int .i64 i)),(8,.const (.int .i64 j)),(9,.const (.int .i64 k)),(10,.const (.int .i64 l)),(11,.const (.int .i64 m))]) (vs:=[.int .i64 a,.int .i64 b,.int .i64 c,.int .i64 d,.int .i64 f,.int .i64 g,.int .i64 h,.int .i64 i,.int .i64 j,.int .i64 k,.int .i64 l,.int .i64 m]) (f:=cI) (l:=[a,b,c,d,f,g,h,i,j,k,l,m]) ⟨rfl,rfl,rfl,rfl,rfl,rfl,rfl,rfl,rfl,rfl,rfl,rfl,rfl⟩ rfl rfl rfl rfl rfl rfl (rowTy_B ht.is) hd) fun v' _=>hh v'
theorem RS.lit4K {a b c d:Int} (hh:∀v':Sl,RS P ops Q n ((dd,v'.v)::L) w0 (Hl.rw v'.v e cI 1 [a,b,c,d]::H) rest) [ht:RowTy P t e 1 bytes] (hd:Nat.blt dd n=true:=by rfl) :
  RS P ops Q n L w0 H (⟨some dd,.buildSlice t 4 #[(0,.const (.int .i64 a)),(1,.const (.int .i64 b)),(2,.const (.int .i64 c)),(3,.const (.int .i64 d))],ty,pos,af,none⟩::rest) :=
 RS.actX rfl (x_lit (parts:=[(0,.const (.int .i64 a)),(1,.const (.int .i64 b)),(2,.const (.int .i64 c)),(3,.const (.int .i64 d))]) (vs:=[.int .i64 a,.int .i64 b,.int .i64 c,.int .i64 d]) (f:=cI) (l:=[a,b,c,d]) ⟨rfl,rfl,rfl,rfl,rfl⟩ rfl rfl rfl rfl rfl rfl (rowTy_B ht.is) hd) fun v' _=>hh v'
end
theorem exactK_c {n a k:Int} (hn : -4611686018427387904≤n∧n≤4611686018427387904) (ha:n.tmod 21600000<0∧n.tmod 21600000+21600000=a∨0≤n.tmod 21600000∧n.tmod 21600000=a) (hb : -21600000<n.tmod 21600000∧n.tmod 21600000<21600000) (hq:a.tdiv 1800000=k) (hr:a.tmod 1800000=0) (q4:0≤k∧k≤11) :
  Cont Tryz.prog 361 [.int .i64 n] (.tuple [.int .i64 (exaV k).1,.bool (exaV k).2].toArray):=fun w=>by
 have hk:k=0∨k=1∨k=2∨k=3∨k=4∨k=5∨k=6∨k=7∨k=8∨k=9∨k=10∨k=11:=by omega
 rcases hk with rfl|rfl|rfl|rfl|rfl|rfl|rfl|rfl|rfl|rfl|rfl|rfl<;>rcases ha with ⟨h1,h2⟩|⟨h1,h2⟩<;>subst h2<;>(
  refine enter0 Tryz.func361 rfl rfl rfl ?_
  repeat' (first|(show YK _ _ _ _ _ ⟨some 13,.binOp .rem _ _ _ _,_,_,_,_⟩ _;refine YK.ofV (y_remN (by rfl) (by rfl) hr (by decide)) ?_)|(show YK _ _ _ _ _ ⟨some 16,.binOp .quo _ _ _ _,_,_,_,_⟩ _;refine YK.ofV (y_quoN (by rfl) (by rfl) hq (by decide) (by omega)) ?_)|(show RS _ _ _ _ _ _ _ (⟨some 17,.buildSlice _ _ _,_,_,_,_⟩::_);refine RS.lit12K ?_;intro z1)|(show RS _ _ _ _ _ _ _ (⟨some 21,.buildSlice _ _ _,_,_,_,_⟩::_);refine RS.lit4K ?_;intro z2)|(refine nxV ?_)|(refine nSS ?_)|(refine nxG ?_)|(refine nxX ?_)|(refine G.cN rfl (fun hc=>?_) (fun hc=>?_)<;>(try first|exact hc.elim|(exfalso;omega))))
  all_goals first
   |(exfalso;revert hc;decide)
   |(exact X.ret (vs:=[_,_]) rfl ⟨rfl,rfl,rfl⟩ rfl rE))
theorem exactN_c {n a:Int} (hn : -4611686018427387904≤n∧n≤4611686018427387904) (ha:n.tmod 21600000<0∧n.tmod 21600000+21600000=a∨0≤n.tmod 21600000∧n.tmod 21600000=a) (hb : -21600000<n.tmod 21600000∧n.tmod 21600000<21600000) {r:Int} (hr:a.tmod 1800000=r) (hr0:r≠0) :
  Cont Tryz.prog 361 [.int .i64 n] (.tuple [.int .i64 0,.bool false].toArray):=fun w=>by
 rcases ha with ⟨h1,h2⟩|⟨h1,h2⟩<;>subst h2<;>(
  refine enter0 Tryz.func361 rfl rfl rfl ?_
  repeat' (first|(show YK _ _ _ _ _ ⟨some 13,.binOp .rem _ _ _ _,_,_,_,_⟩ _;refine YK.ofV (y_remN (by rfl) (by rfl) hr (by decide)) ?_)|(refine nxV ?_)|(refine nSS ?_)|(refine nxX ?_)|(refine G.cN rfl (fun hc=>?_) (fun hc=>?_)<;>(try first|exact hc.elim|(exfalso;omega))))
  exact X.ret (vs:=[_,_]) rfl ⟨rfl,rfl,rfl⟩ rfl rE)
theorem Exact_c {n:Int} (hn : -4611686018427387904≤n∧n≤4611686018427387904):Cont Tryz.prog 361 [.int .i64 n] (.tuple [.int .i64 (TT.exaI n).1,.bool (TT.exaI n).2].toArray):=by
 obtain⟨h1,h2⟩:=turn_ha n
 obtain⟨m0,m1⟩:=TT.turnI_bd n
 by_cases h:TT.turnI n%1800000=0
 ·have e:TT.exaI n=exaV (TT.turnI n/1800000):=by
   unfold TT.exaI exaV
   rw[if_neg (fun g=>g h)]
   generalize (TT.turnI n/1800000).toNat=k
   rfl
  rw[e]
  exact exactK_c hn h1 h2 (Int.tdiv_eq_ediv_of_nonneg m0) (by rw[Int.tmod_eq_emod_of_nonneg m0];exact h) (by omega)
 ·have e:TT.exaI n=(0,false):=by
   unfold TT.exaI
   rw[if_pos h]
  rw[e]
  exact exactN_c hn h1 h2 (Int.tmod_eq_emod_of_nonneg m0) h
theorem quickI_bd (n:Int) : -4611686018427387904≤TT.quickI n∧TT.quickI n≤4611686018427387904:=by
 obtain⟨m0,m1⟩:=TT.turnI_bd n
 rw[quickI_V]
 unfold quickV
 dsimp only
 have key:∀(b:Bool) (r:Nat),r≤2700000→0≤TT.quickF (if b=true then 1 else 0) r∧TT.quickF (if b=true then 1 else 0) r≤4611686018427387904:=fun b r hr=>quickF_bd (by cases b<;>decide) hr
 have key2:∀(b:Bool) (r:Nat),r≤2700000→0≤TT.quickF (if b=true then 0 else 1) r∧TT.quickF (if b=true then 0 else 1) r≤4611686018427387904:=fun b r hr=>quickF_bd (by cases b<;>decide) hr
 by_cases hg:TT.turnI n%5400000>2700000
 ·rw[if_pos hg]
  have:=key (decide (TT.turnI n/5400000%2=1)) (5400000-TT.turnI n%5400000).toNat (by omega)
  split<;>omega
 ·rw[if_neg hg]
  have:=key2 (decide (TT.turnI n/5400000%2=1)) (TT.turnI n%5400000).toNat (by omega)
  split<;>omega
theorem Floor6_c {n:Int} (hn : -4611686018427387904≤n∧n≤4611686018427387904):Cont Tryz.prog 357 [.int .i64 n] (.tuple [.int .i64 (TT.floI n).1,.bool (TT.floI n).2].toArray):=fun w=>by
 have q1:=Exact_c hn
 have q2:=Quick_c hn
 have hb:=quickI_bd n
 have hdec:=TT.decided (n:=n)
 have ef:TT.floI n=if (TT.exaI n).2=true then TT.exaI n else (TT.quickI n/4294967296,false):=rfl
 rw[ef]
 clear ef
 generalize TT.exaI n=x at *
 generalize TT.quickI n=v at *
 obtain⟨x1,x2⟩:=x
 cases x2 with
 |true =>
  rw[if_pos rfl]
  refine enter0 Tryz.func357 rfl rfl rfl ?_
  repeat' (first|(show YK _ _ _ _ _ _ _;refine YK.mk (zcA (q1) ⟨rfl,rfl⟩) ?_)|(refine nxV ?_)|(refine nSS ?_)|(refine nxX ?_)|(refine G.cN rfl (fun hc=>?_) (fun hc=>?_)<;>(try first|exact hc.elim|(exfalso;omega))))
  exact X.ret (vs:=[_,_]) rfl ⟨rfl,rfl,rfl⟩ rfl rE
 |false =>
  rw[if_neg (fun g=>by cases g)]
  have hd:=hdec rfl
  clear hdec
  refine enter0 Tryz.func357 rfl rfl rfl ?_
  repeat' (first|(show YK _ _ _ _ _ ⟨_,.binOp .shr _ _ _ _,_,_,_,_⟩ _;refine YK.ofV (y_shr (q:=4294967296) (by rfl) (by rfl) (by decide) (by decide)) ?_)|(show YK _ _ _ _ _ _ _;first|refine YK.mk (zcA (q1) ⟨rfl,rfl⟩) ?_|refine YK.mk (zcA (q2) ⟨rfl,rfl⟩) ?_)|(refine nxV ?_)|(refine nSS ?_)|(refine nxX ?_)|(refine G.cN rfl (fun hc=>?_) (fun hc=>?_)<;>(try first|exact hc.elim|(exfalso;omega))))
  all_goals exact X.ret (vs:=[_,_]) rfl ⟨rfl,rfl,rfl⟩ rfl rE
theorem ends6_c {n:Int} (hn : -4611686018427387904≤n∧n≤4611686018427387904):Cont Tryz.prog 339 [.int .i64 n] (.tuple [.int .i64 (TT.endsI n).1,.int .i64 (TT.endsI n).2].toArray):=fun w=>by
 have q1:=Floor6_c hn
 have hb:=flo_bd n
 unfold TT.endsI
 generalize TT.floI n=x at *
 obtain⟨x1,x2⟩:=x
 cases x2 with
 |true =>
  refine enter0 Tryz.func339 rfl rfl rfl ?_
  repeat' (first|(show YK _ _ _ _ _ _ _;refine YK.mk (zcA (q1) ⟨rfl,rfl⟩) ?_)|(refine nxV ?_)|(refine nSS ?_)|(refine nxX ?_)|(refine G.cN rfl (fun hc=>?_) (fun hc=>?_)<;>(try first|exact hc.elim|(exfalso;omega))))
  exact X.ret (vs:=[_,_]) rfl ⟨rfl,rfl,rfl⟩ rfl rE
 |false =>
  refine enter0 Tryz.func339 rfl rfl rfl ?_
  repeat' (first|(show YK _ _ _ _ _ _ _;refine YK.mk (zcA (q1) ⟨rfl,rfl⟩) ?_)|(refine nxV ?_)|(refine nSS ?_)|(refine nxX ?_)|(refine G.cN rfl (fun hc=>?_) (fun hc=>?_)<;>(try first|exact hc.elim|(exfalso;omega))))
  exact X.ret (vs:=[_,_]) rfl ⟨rfl,rfl,rfl⟩ rfl rE
theorem has6_c {lo hi n:Int} (h1 : -2305843009213693952≤lo∧lo≤2305843009213693952) (h3 : -21600000≤n∧n≤21600000):Cont Tryz.prog 340 [arcV lo hi,.int .i64 n] (.bool (TT.hasI lo hi n)):=fun w=>by
 obtain⟨ha,hb⟩:=turn_ha (n-lo)
 obtain⟨m0,m1⟩:=TT.turnI_bd (n-lo)
 unfold TT.hasI
 generalize TT.turnI (n-lo)=a at *
 rcases ha with ⟨g1,g2⟩|⟨g1,g2⟩<;>subst g2<;>(
  refine enter0 Tryz.func340 rfl rfl rfl ?_
  repeat' (first|(refine nxV ?_)|(refine nSS ?_)|(refine nS1 fun _=>?_)|(refine nxX ?_)|(refine G.cN rfl (fun hc=>?_) (fun hc=>?_)<;>(try first|exact hc.elim|(exfalso;omega))))
  exact X.ret1)
theorem sine6_c {lo hi:Int} (h1 : -2305843009213693952≤lo∧lo≤2305843009213693952) (h2 : -2305843009213693952≤hi∧hi≤2305843009213693952):Cont Tryz.prog 320 [arcV lo hi] (arcV (TT.encl lo hi).1 (TT.encl lo hi).2):=fun w=>by
 have q1:=ends6_c (n:=lo) (by omega)
 have q2:=ends6_c (n:=hi) (by omega)
 have q3:=has6_c (lo:=lo) (hi:=hi) (n:=5400000) h1 (by omega)
 have q4:=has6_c (lo:=lo) (hi:=hi) (n:=-5400000) h1 (by omega)
 rw[←TT.rsin_eq]
 unfold TT.rsinE
 generalize TT.endsI lo=x at *
 generalize TT.endsI hi=y at *
 refine enter0 Tryz.func320 rfl rfl rfl ?_
 repeat' (first|(show YK _ _ _ _ _ _ _;first|refine YK.mk (zcA (q1) ⟨rfl,rfl⟩) ?_|refine YK.mk (zcA (q2) ⟨rfl,rfl⟩) ?_|refine YK.mk (zcA (q3) ⟨rfl,rfl,rfl⟩) ?_|refine YK.mk (zcA (q4) ⟨rfl,rfl,rfl⟩) ?_)|(refine nxV ?_)|(refine nSS ?_)|(refine nS1 fun _=>?_)|(refine nxX ?_)|(refine G.cN rfl (fun hc=>?_) (fun hc=>?_)<;>(try first|exact hc.elim|(exfalso;omega))))
 all_goals (
  refine X.ret (vs:=[_]) rfl ⟨⟨_,_,_,_,rfl,(by exact memA),lenA,by decide +kernel,rfl⟩,rfl⟩ rfl (fun w hw=>⟨?_,hw.ext⟩)
  dsimp only
  first
   |(rw[if_pos (by assumption),if_pos (by assumption)];try rfl)
   |(rw[if_pos (by assumption),if_neg (ne_true_of_eq_false (by assumption))];try rfl)
   |(rw[if_neg (ne_true_of_eq_false (by assumption)),if_pos (by assumption)];try rfl)
   |(rw[if_neg (ne_true_of_eq_false (by assumption)),if_neg (ne_true_of_eq_false (by assumption))];try rfl))
theorem Cos6_c {lo hi:Int} (h1 : -1152921504606846976≤lo∧lo≤1152921504606846976) (h2 : -1152921504606846976≤hi∧hi≤1152921504606846976):Cont Tryz.prog 281 [arcV lo hi] (arcV (TT.cosE lo hi).1 (TT.cosE lo hi).2):=fun w=>by
 have q1:=sine6_c (lo:=lo+5400000) (hi:=hi+5400000) (by omega) (by omega)
 unfold TT.cosE
 refine enter0 Tryz.func281 rfl rfl rfl ?_
 repeat' (first|(show YK _ _ _ _ _ _ _;refine YK.mk (zcA (q1) ⟨rfl,rfl⟩) ?_)|(refine nxV ?_)|(refine nSS ?_)|(refine nS1 fun _=>?_)|(refine nxX ?_)|done)
 exact X.ret (vs:=[_]) rfl ⟨⟨_,_,_,_,rfl,(by exact memA),lenA,by decide +kernel,rfl⟩,rfl⟩ rfl rE
theorem Sin6_c {lo hi:Int} (h1 : -1152921504606846976≤lo∧lo≤1152921504606846976) (h2 : -1152921504606846976≤hi∧hi≤1152921504606846976):Cont Tryz.prog 318 [arcV lo hi] (arcV (TT.encl lo hi).1 (TT.encl lo hi).2):=fun w=>by
 have q1:=sine6_c (lo:=lo) (hi:=hi) (by omega) (by omega)
 refine enter0 Tryz.func318 rfl rfl rfl ?_
 repeat' (first|(show YK _ _ _ _ _ _ _;refine YK.mk (zcA (q1) ⟨rfl,rfl⟩) ?_)|(refine nxV ?_)|(refine nSS ?_)|(refine nS1 fun _=>?_)|(refine nxX ?_)|done)
 exact X.ret (vs:=[_]) rfl ⟨⟨_,_,_,_,rfl,(by exact memA),lenA,by decide +kernel,rfl⟩,rfl⟩ rfl rE
theorem least_c {a b:Int} : Cont Tryz.prog 353 [.int .i64 a,.int .i64 b] (.int .i64 (min a b)):=fun w=>by
 refine enter0 Tryz.func353 rfl rfl rfl ?_
 repeat' (first|(refine nxV ?_)|(refine nSS ?_)|(refine nxX ?_)|(refine G.cN rfl (fun hc=>?_) (fun hc=>?_)<;>(try first|exact hc.elim|(exfalso;omega))))
 all_goals exact X.ret (vs:=[_]) rfl ⟨rfl,rfl⟩ rfl (fun w hw=>⟨congrArg Ending.returned (congrArg (Value.int .i64) (by omega)),hw.ext⟩)
theorem most_c {a b:Int} : Cont Tryz.prog 354 [.int .i64 a,.int .i64 b] (.int .i64 (max a b)):=fun w=>by
 refine enter0 Tryz.func354 rfl rfl rfl ?_
 repeat' (first|(refine nxV ?_)|(refine nSS ?_)|(refine nxX ?_)|(refine G.cN rfl (fun hc=>?_) (fun hc=>?_)<;>(try first|exact hc.elim|(exfalso;omega))))
 all_goals exact X.ret (vs:=[_]) rfl ⟨rfl,rfl⟩ rfl (fun w hw=>⟨congrArg Ending.returned (congrArg (Value.int .i64) (by omega)),hw.ext⟩)
theorem tm_eq (n:Int):(n.tmod 1073741824<0→n.tdiv 1073741824-1=n/1073741824)∧(0≤n.tmod 1073741824→n.tdiv 1073741824=n/1073741824):=by
 by_cases h:n<0
 ·have e1:n.tdiv 1073741824 = -((-n)/1073741824):=by
   have:n = -(-n):=by omega
   rw[this,Int.neg_tdiv,Int.tdiv_eq_ediv_of_nonneg (by omega),Int.neg_neg]
  have e2:n.tmod 1073741824 = -((-n)%1073741824):=by
   have:n = -(-n):=by omega
   rw[this,Int.neg_tmod,Int.tmod_eq_emod_of_nonneg (by omega),Int.neg_neg]
  omega
 ·have e1:=Int.tdiv_eq_ediv_of_nonneg (a:=n) (b:=1073741824) (by omega)
  have e2:=Int.tmod_eq_emod_of_nonneg (a:=n) (b:=1073741824) (by omega)
  omega
theorem Floor4_c {n:Int} (h : -4611686018427387904≤n∧n≤4611686018427387904):Cont Tryz.prog 355 [.int .i64 n,.int .i64 1073741824] (.int .i64 (n/1073741824)):=fun w=>by
 obtain⟨g1,g2⟩:=tm_eq n
 obtain⟨q,hq⟩:∃q,n.tdiv 1073741824=q:=⟨_,rfl⟩
 obtain⟨r,hr⟩:∃r,n.tmod 1073741824=r:=⟨_,rfl⟩
 rw[hq,hr] at g1 g2
 have hb : -4611686018427387904≤q∧q≤4611686018427387904:=by omega
 refine enter0 Tryz.func355 rfl rfl rfl ?_
 repeat' (first|(show YK _ _ _ _ _ ⟨_,.binOp .quo _ _ _ _,_,_,_,_⟩ _;refine YK.ofV (y_quoN (by rfl) (by rfl) hq (by decide) (by omega)) ?_)|(show YK _ _ _ _ _ ⟨_,.binOp .rem _ _ _ _,_,_,_,_⟩ _;refine YK.ofV (y_remN (by rfl) (by rfl) hr (by decide)) ?_)|(refine nxV ?_)|(refine nSS ?_)|(refine nxX ?_)|(refine G.cN rfl (fun hc=>?_) (fun hc=>?_)<;>(try first|exact hc.elim|(exfalso;omega))))
 all_goals exact X.ret (vs:=[_]) rfl ⟨rfl,rfl⟩ rfl (fun w hw=>⟨congrArg Ending.returned (congrArg (Value.int .i64) (by omega)),hw.ext⟩)
theorem Ceil4_c {n:Int} (h : -4611686018427387904≤n∧n≤4611686018427387904):Cont Tryz.prog 356 [.int .i64 n,.int .i64 1073741824] (.int .i64 (-(-n/1073741824))):=fun w=>by
 have q1:=Floor4_c (n:=-n) (by omega)
 have hb : -4611686018427387904≤-n/1073741824∧-n/1073741824≤4611686018427387904:=by omega
 refine enter0 Tryz.func356 rfl rfl rfl ?_
 repeat' (first|(show YK _ _ _ _ _ _ _;refine YK.mk (zcA (q1) ⟨rfl,rfl,rfl⟩) ?_)|(refine nxV ?_)|(refine nSS ?_)|(refine nxX ?_)|done)
 exact X.ret1
theorem fit4_c {lo hi:Int} (h : -2147483648≤lo∧hi≤2147483648):Cont Tryz.prog 352 [.int .i64 lo,.int .i64 hi] (.tuple [arcV lo hi,.int .i64 0].toArray):=fun w=>by
 refine enter0 Tryz.func352 rfl rfl rfl ?_
 repeat' (first|(refine nxV ?_)|(refine nSS ?_)|(refine nS1 fun _=>?_)|(refine nxG ?_)|(refine nxX ?_)|(refine G.cN rfl (fun hc=>?_) (fun hc=>?_)<;>(try first|exact hc.elim|(exfalso;omega))))
 exact X.ret (vs:=[_,_]) rfl ⟨⟨_,_,_,_,rfl,(by exact memA),lenA,by decide +kernel,rfl⟩,rfl,rfl⟩ rfl rE
theorem Mul4_c {p q:Int×Int} (hp : -1073741824≤p.1∧p.1≤p.2∧p.2≤1073741824) (hq : -1073741824≤q.1∧q.1≤q.2∧q.2≤1073741824):Cont Tryz.prog 338 [arcV p.1 p.2,arcV q.1 q.2] (.tuple [arcV (TT.mulE p q).1 (TT.mulE p q).2,.int .i64 0].toArray):=fun w=>by
 have h1:=TT.abs_mul_le (A:=1073741824) (u:=1073741824) (a:=p.1) (t:=q.1) (by omega) (by omega)
 have h2:=TT.abs_mul_le (A:=1073741824) (u:=1073741824) (a:=p.1) (t:=q.2) (by omega) (by omega)
 have h3:=TT.abs_mul_le (A:=1073741824) (u:=1073741824) (a:=p.2) (t:=q.1) (by omega) (by omega)
 have h4:=TT.abs_mul_le (A:=1073741824) (u:=1073741824) (a:=p.2) (t:=q.2) (by omega) (by omega)
 have hb:=TT.mulE_bd hp hq
 have q4:=fit4_c (lo:=(TT.mulE p q).1) (hi:=(TT.mulE p q).2) (by omega)
 have e1:(TT.mulE p q).1=min (min (p.1*q.1) (p.1*q.2)) (min (p.2*q.1) (p.2*q.2))/1073741824:=rfl
 have e2:(TT.mulE p q).2 = -(-(max (max (p.1*q.1) (p.1*q.2)) (max (p.2*q.1) (p.2*q.2)))/1073741824):=rfl
 generalize TT.mulE p q=r at *
 obtain⟨r1,r2⟩:=r
 obtain⟨a,b⟩:=p
 obtain⟨c,d⟩:=q
 dsimp only at *
 subst e1 e2
 have q2:=Floor4_c (n:=min (min (a*c) (a*d)) (min (b*c) (b*d))) (by omega)
 have q3:=Ceil4_c (n:=max (max (a*c) (a*d)) (max (b*c) (b*d))) (by omega)
 refine enter0 Tryz.func338 rfl rfl rfl ?_
 repeat' (first|(show YK _ _ _ _ _ _ _;first|refine YK.mk (zcA (q2) ⟨rfl,rfl,rfl⟩) ?_|refine YK.mk (zcA (q3) ⟨rfl,rfl,rfl⟩) ?_|refine YK.mk (zcA (q4) ⟨rfl,rfl,rfl⟩) ?_|refine YK.mk (zcA (least_c) ⟨rfl,rfl,rfl⟩) ?_|refine YK.mk (zcA (most_c) ⟨rfl,rfl,rfl⟩) ?_)|(refine nxV ?_)|(refine nSS ?_)|(refine nS1 fun _=>?_)|(refine nMM ?_)|(refine G.mA 1 [.go 0,.go 1,.go 2,.go 3,.go 4,.go 5,.go 6,.go 7,.go 8,.go 9,.go 10,.go 11,.go 12,.go 13,.go 14,.go 15,.go 16,.go 17,.go 18,.go 19,.go 20,.go 21,.go 22,.go 23] ?_)|(refine nxX ?_)|done)
 exact X.ret (vs:=[_,_]) rfl ⟨⟨_,_,_,_,rfl,(by exact memA),lenA,by decide +kernel,rfl⟩,rfl,rfl⟩ rfl rE
theorem Add4_c {a b c d:Int} (h : -2147483648≤a∧a≤b∧b≤2147483648) (h' : -2147483648≤c∧c≤d∧d≤2147483648) (hs : -2147483648≤a+c∧b+d≤2147483648):Cont Tryz.prog 337 [arcV a b,arcV c d] (.tuple [arcV (a+c) (b+d),.int .i64 0].toArray):=fun w=>by
 have q2:=fit4_c (lo:=a+c) (hi:=b+d) (by omega)
 refine enter0 Tryz.func337 rfl rfl rfl ?_
 repeat' (first|(show YK _ _ _ _ _ _ _;refine YK.mk (zcA (q2) ⟨rfl,rfl,rfl⟩) ?_)|(refine nxV ?_)|(refine nSS ?_)|(refine nS1 fun _=>?_)|(refine nxX ?_)|done)
 exact X.ret (vs:=[_,_]) rfl ⟨⟨_,_,_,_,rfl,(by exact memA),lenA,by decide +kernel,rfl⟩,rfl,rfl⟩ rfl rE
theorem Sub5_c {a b c d:Int} (h : -100000000000≤a∧a≤b∧b≤100000000000) (h' : -100000000000≤c∧c≤d∧d≤100000000000):Cont Tryz.prog 319 [arcV a b,arcV c d] (arcV (a-d) (b-c)):=fun w=>by
 refine enter0 Tryz.func319 rfl rfl rfl ?_
 repeat' (first|(refine nxV ?_)|(refine nSS ?_)|(refine nS1 fun _=>?_)|(refine nxX ?_)|done)
 exact X.ret (vs:=[_]) rfl ⟨⟨_,_,_,_,rfl,(by exact memA),lenA,by decide +kernel,rfl⟩,rfl⟩ rfl rE
theorem rbound_c {i lv e:Nat} (hi:i≤200000) (hl:lv≤16) (he:i*10800000/2^lv=e):Cont Tryz.prog 235 [.int .i64 (i:Int),.int .i64 (lv:Int)] (.int .i64 (e:Int)):=fun w=>by
 refine enter0 Tryz.func235 rfl rfl rfl ?_
 repeat' (first|(show YK _ _ _ _ _ ⟨_,.binOp .shr _ _ _ _,_,_,_,_⟩ _;refine YK.ofV (y_shrA (m:=i*10800000) (j:=lv) (by rfl) (by rfl) (by omega) (by omega) he) ?_)|(refine nxV ?_)|(refine nSS ?_)|(refine nxX ?_)|done)
 exact X.ret1
theorem r38box_c {x:RR.CellT} (ok:RR.okC x):Cont Tryz.prog 179 [celV x.lv x.r x.c] (plV (bxA x) (bxB x) (bxC x) (bxD x)):=fun w=>by
 have hbd:=okC_bd ok
 have hk:=box_ok ok
 have q1:=rbound_c (i:=x.r) (lv:=x.lv) (e:=egN x.r x.lv) (by omega) (by omega) rfl
 have q2:=rbound_c (i:=x.r+1) (lv:=x.lv) (e:=egN (x.r+1) x.lv) (by omega) (by omega) rfl
 have q3:=rbound_c (i:=x.c) (lv:=x.lv) (e:=egN x.c x.lv) (by omega) (by omega) rfl
 have q4:=rbound_c (i:=x.c+1) (lv:=x.lv) (e:=egN (x.c+1) x.lv) (by omega) (by omega) rfl
 obtain⟨hk1,hk2⟩:=hk
 unfold bxA bxB bxC bxD at *
 generalize egN x.r x.lv=A at *
 generalize egN (x.r+1) x.lv=B at *
 generalize egN x.c x.lv=C at *
 generalize egN (x.c+1) x.lv=D at *
 refine enter0 Tryz.func179 rfl rfl rfl ?_
 repeat' (first|(show VK _ _ _ _ _ ⟨some 31,.build _ _,_,_,_,_⟩ _;refine VK.mk (y_build (parts:=[(0,.tmp 16),(1,.tmp 30)]) (vs:=[_,_]) ⟨rfl,rfl,rfl⟩ (built_pl _ _ _ _)) ?_)|(show YK _ _ _ _ _ _ _;first|refine YK.mk (zcA (q1) ⟨rfl,rfl,rfl⟩) ?_|refine YK.mk (zcA (q2) ⟨rfl,rfl,rfl⟩) ?_|refine YK.mk (zcA (q3) ⟨rfl,rfl,rfl⟩) ?_|refine YK.mk (zcA (q4) ⟨rfl,rfl,rfl⟩) ?_)|(refine nxV ?_)|(refine nSS ?_)|(refine nS1 fun _=>?_)|(refine nMM ?_)|(refine G.mA 1 [.go 0,.go 1,.go 2,.go 3,.go 6,.go 7,.go 8,.go 9,.go 10,.go 14,.go 15,.go 16,.go 17,.go 20,.go 21,.go 22,.go 23,.go 24,.go 4,.go 5,.go 11,.go 12,.go 13,.go 18,.go 19,.go 25,.go 26,.go 27,.go 28,.go 29] ?_)|(refine nxX ?_)|done)
 exact X.ret (vs:=[_]) rfl ⟨⟨_,_,_,_,rfl,(by exact memA),lenA,by decide +kernel,rfl⟩,rfl⟩ rfl rE
theorem r25times_c {p q:Int×Int} (hp : -1073741824≤p.1∧p.1≤p.2∧p.2≤1073741824) (hq : -1073741824≤q.1∧q.1≤q.2∧q.2≤1073741824):Cont Tryz.prog 317 [arcV p.1 p.2,arcV q.1 q.2] (arcV (TT.mulE p q).1 (TT.mulE p q).2):=fun w=>by
 have q1:=Mul4_c hp hq
 generalize TT.mulE p q=r at *
 refine enter0 Tryz.func317 rfl rfl rfl ?_
 repeat' (first|(show YK _ _ _ _ _ _ _;refine YK.mk (zcA (q1) ⟨rfl,rfl,rfl⟩) ?_)|(refine nxV ?_)|(refine nSS ?_)|(refine nS1 fun _=>?_)|(refine nxX ?_)|done)
 exact X.ret (vs:=[_]) rfl ⟨⟨_,_,_,_,rfl,(by exact memA),lenA,by decide +kernel,rfl⟩,rfl⟩ rfl rE
theorem r25plus_c {a b c d:Int} (h : -2147483648≤a∧a≤b∧b≤2147483648) (h' : -2147483648≤c∧c≤d∧d≤2147483648) (hs : -2147483648≤a+c∧b+d≤2147483648):Cont Tryz.prog 316 [arcV a b,arcV c d] (arcV (a+c) (b+d)):=fun w=>by
 have q1:=Add4_c h h' hs
 refine enter0 Tryz.func316 rfl rfl rfl ?_
 repeat' (first|(show YK _ _ _ _ _ _ _;refine YK.mk (zcA (q1) ⟨rfl,rfl,rfl⟩) ?_)|(refine nxV ?_)|(refine nSS ?_)|(refine nS1 fun _=>?_)|(refine nxX ?_)|done)
 exact X.ret (vs:=[_]) rfl ⟨⟨_,_,_,_,rfl,(by exact memA),lenA,by decide +kernel,rfl⟩,rfl⟩ rfl rE
theorem r35tri_c {a b c d r1 r2 x y e f:Int} (h1 : -100000000000≤c∧c≤d∧d≤100000000000) (h2 : -100000000000≤e∧e≤f∧f≤100000000000):Cont Tryz.prog 280 [v6 a b c d r1 r2,v4 x y e f] (v6 x y a b (e-d) (f-c)):=fun w=>by
 have q1:=Sub5_c h2 h1
 refine enter0 Tryz.func280 rfl rfl rfl ?_
 repeat' (first|(show VK _ _ _ _ _ ⟨_,.load 34 _,_,_,_,_⟩ _;refine VK.mk (zlP (k:=2) (by rfl) (by exact memA) (by decide +kernel) (by rfl)) ?_)|(show VK _ _ _ _ _ ⟨_,.build 124 #[(0,_),(1,_),(2,_)],_,_,_,_⟩ _;refine VK.mk (y_build (parts:=[(0,_),(1,_),(2,_)]) (vs:=[_,_,_]) ⟨rfl,rfl,rfl,rfl⟩ (tri_built _ _ _ _ _ _)) ?_)|(show YK _ _ _ _ _ _ _;refine YK.mk (zcA (q1) ⟨rfl,rfl,rfl⟩) ?_)|(refine nxV ?_)|(refine nSS ?_)|(refine nS1 fun _=>?_)|(refine nMM ?_)|(refine G.mA 1 [.go 0,.go 1,.go 2,.go 3,.go 4,.go 5,.go 6,.go 7,.go 8,.go 9,.go 10] ?_)|(refine nxX ?_)|done)
 exact X.ret (vs:=[_]) rfl ⟨⟨_,_,_,_,rfl,(by exact memA),lenA,by decide +kernel,rfl⟩,rfl⟩ rfl rE
section
variable {a b c d e f x y r1 r2:Int}
theorem r25sine_c (h1 : -5400000≤x∧x≤y∧y≤5400000) (h2 : -5400000≤a∧a≤b∧b≤5400000) (h3 : -100000000000≤c∧c≤d∧d≤100000000000):Cont Tryz.prog 279 [v6 x y a b c d] (arcV (sideS (x,y) (a,b) (c,d)).1 (sideS (x,y) (a,b) (c,d)).2):=fun w=>by
 have o1:=TT.encl_ord h1.2.1
 have o2:=TT.encl_ord h2.2.1
 have o3:=TT.cosE_ord h1.2.1
 have o4:=TT.cosE_ord h2.2.1
 have o5:=TT.cosE_ord h3.2.1
 have o6:=TT.mulE_bd o1 o2
 have o7:=TT.mulE_bd o3 o4
 have o8:=TT.mulE_bd o7 o5
 have q1:=Sin6_c (lo:=x) (hi:=y) (by omega) (by omega)
 have q2:=Sin6_c (lo:=a) (hi:=b) (by omega) (by omega)
 have q3:=Cos6_c (lo:=x) (hi:=y) (by omega) (by omega)
 have q4:=Cos6_c (lo:=a) (hi:=b) (by omega) (by omega)
 have q5:=Cos6_c (lo:=c) (hi:=d) (by omega) (by omega)
 have q6:=r25times_c o1 o2
 have q7:=r25times_c o3 o4
 have q8:=r25times_c o7 o5
 have q9:=r25plus_c (a:=(TT.mulE (TT.encl x y) (TT.encl a b)).1) (b:=(TT.mulE (TT.encl x y) (TT.encl a b)).2) (c:=(TT.mulE (TT.mulE (TT.cosE x y) (TT.cosE a b)) (TT.cosE c d)).1) (d:=(TT.mulE (TT.mulE (TT.cosE x y) (TT.cosE a b)) (TT.cosE c d)).2) (by omega) (by omega) (by omega)
 unfold sideS TT.addE
 dsimp only
 generalize TT.mulE (TT.mulE (TT.cosE x y) (TT.cosE a b)) (TT.cosE c d)=p3 at *
 generalize TT.mulE (TT.cosE x y) (TT.cosE a b)=p2 at *
 generalize TT.mulE (TT.encl x y) (TT.encl a b)=p1 at *
 generalize TT.encl x y=e1 at *
 generalize TT.encl a b=e2 at *
 generalize TT.cosE x y=e3 at *
 generalize TT.cosE a b=e4 at *
 generalize TT.cosE c d=e5 at *
 refine enter0 Tryz.func279 rfl rfl rfl ?_
 repeat' (first|(show VK _ _ _ _ _ ⟨_,.load 34 _,_,_,_,_⟩ _;refine VK.mk (zlP (k:=2) (by rfl) (by exact memA) (by decide +kernel) (by rfl)) ?_)|(show YK _ _ _ _ _ _ _;first|refine YK.mk (zcA (q1) ⟨rfl,rfl⟩) ?_|refine YK.mk (zcA (q2) ⟨rfl,rfl⟩) ?_|refine YK.mk (zcA (q3) ⟨rfl,rfl⟩) ?_|refine YK.mk (zcA (q4) ⟨rfl,rfl⟩) ?_|refine YK.mk (zcA (q5) ⟨rfl,rfl⟩) ?_|refine YK.mk (zcA (q6) ⟨rfl,rfl,rfl⟩) ?_|refine YK.mk (zcA (q7) ⟨rfl,rfl,rfl⟩) ?_|refine YK.mk (zcA (q8) ⟨rfl,rfl,rfl⟩) ?_|refine YK.mk (zcA (q9) ⟨rfl,rfl,rfl⟩) ?_)|(refine nxV ?_)|(refine nSS ?_)|(refine nS1 fun _=>?_)|(refine nMM ?_)|(refine G.mA 1 [.go 0,.go 1,.go 3,.go 4,.go 7,.go 8,.go 10,.go 11,.go 14,.go 15,.go 2,.go 5,.go 6,.go 9,.go 12,.go 13,.go 16,.go 17,.go 18,.go 19] ?_)|(refine nxX ?_)|done)
 exact X.ret (vs:=[_]) rfl ⟨⟨_,_,_,_,rfl,(by exact memA),lenA,by decide +kernel,rfl⟩,rfl⟩ rfl rE
end
section
variable {a b c d e f x y r1 r2 P L:Int}
theorem r35place_c:Cont Tryz.prog 19 [ptV P L] (v4 P P L L):=fun w=>by
 refine enter0 Tryz.func19 rfl rfl rfl ?_
 repeat' (first|(show YK _ _ _ _ _ ⟨_,.build 36 #[(0,_),(1,_)],_,_,_,_⟩ _;refine YK.ofV (y_build (parts:=[(0,_),(1,_)]) (vs:=[_,_]) ⟨rfl,rfl,rfl⟩ (place_built _ _ _ _)) ?_)|(refine nxV ?_)|(refine nSS ?_)|(refine nS1 fun _=>?_)|(refine nxX ?_)|done)
 exact X.ret (vs:=[_]) rfl ⟨⟨_,_,_,_,rfl,(by exact memA),lenA,by decide +kernel,rfl⟩,rfl⟩ rfl rE
theorem rvlat_c (h : -5400000≤a∧a≤b∧b≤5400000):Cont Tryz.prog 121 [arcV a b] (.bool true):=fun w=>by
 refine enter0 Tryz.func121 rfl rfl rfl ?_
 repeat' (first|(refine nxV ?_)|(refine nSS ?_)|(refine nS1 fun _=>?_)|(refine nxG ?_)|(refine nxX ?_)|done)
 all_goals exact X.ret (vs:=[_]) rfl ⟨rfl,rfl⟩ rfl (fun w hw=>⟨ret_bool (by simp;omega),hw.ext⟩)
theorem rvlon_c (h:lonOk c d):Cont Tryz.prog 122 [arcV c d] (.bool true):=fun w=>by
 have q1:=rall_c
 unfold lonOk at h
 refine enter0 Tryz.func122 rfl rfl rfl ?_
 repeat' (first|(show YK _ _ _ _ _ _ _;refine YK.mk (zcA (q1) rfl) ?_)|(refine nxV ?_)|(refine nSS ?_)|(refine nS1 fun _=>?_)|(refine nMM ?_)|(refine nxG ?_)|(refine G.mA 1 [.go 0,.go 1,.go 2,.go 3,.go 4,.go 5,.go 6,.go 7,.go 8,.go 9,.go 10,.go 11,.go 12,.go 13,.go 14,.go 15,.go 16,.go 17,.go 18,.go 19,.go 20,.go 21,.go 22,.go 23,.go 24,.go 25,.go 26,.go 27,.go 28] ?_)|(refine nxX ?_)|done)
 all_goals exact X.ret (vs:=[_]) rfl ⟨rfl,rfl⟩ rfl (fun w hw=>⟨ret_bool (by rcases h with ⟨rfl,rfl⟩|h;(simp[eqCells,vEq]);(simp;omega)),hw.ext⟩)
theorem rv08_c (h : -5400000≤a∧a≤b∧b≤5400000) (hl:lonOk c d):Cont Tryz.prog 53 [v4 a b c d] (.bool true):=fun w=>by
 have q1:=rvlat_c h
 have q2:=rvlon_c hl
 refine enter0 Tryz.func53 rfl rfl rfl ?_
 repeat' (first|(show YK _ _ _ _ _ ⟨_,.load 34 _,_,_,_,_⟩ _;refine YK.ofV (zlP (k:=2) (by rfl) (by exact memA) (by decide +kernel) (by rfl)) ?_)|(show YK _ _ _ _ _ _ _;first|refine YK.mk (zcA (q1) ⟨rfl,rfl⟩) ?_|refine YK.mk (zcA (q2) ⟨rfl,rfl⟩) ?_)|(refine nxV ?_)|(refine nSS ?_)|(refine nS1 fun _=>?_)|(refine nxX ?_)|done)
 all_goals exact X.ret1
theorem rv35_c {k:CirT} (hk:CirOk k):Cont Tryz.prog 120 [krV k] (.bool true):=fun w=>by
 obtain⟨h1,h2,h3⟩:=hk
 have q1:=rvlat_c h1
 have q2:=rvlon_c h2
 refine enter0 Tryz.func120 rfl rfl rfl ?_
 repeat' (first|(show YK _ _ _ _ _ ⟨_,.load 34 _,_,_,_,_⟩ _;refine YK.ofV (zlP (k:=2) (by rfl) (by exact memA) (by decide +kernel) (by rfl)) ?_)|(show YK _ _ _ _ _ _ _;first|refine YK.mk (zcA (q1) ⟨rfl,rfl⟩) ?_|refine YK.mk (zcA (q2) ⟨rfl,rfl⟩) ?_)|(refine nxV ?_)|(refine nSS ?_)|(refine nS1 fun _=>?_)|(refine nxG ?_)|(refine nxX ?_)|done)
 all_goals exact X.ret (vs:=[_]) rfl ⟨rfl,rfl⟩ rfl (fun w hw=>⟨ret_bool (by simp;omega),hw.ext⟩)
theorem r35side_c {k:CirT} (hk:CirOk k) (h4 : -5400000≤x∧x≤y∧y≤5400000) (h5:lonOk e f):Cont Tryz.prog 278 [krV k,v4 x y e f] (.int .i64 (sdV (sideS (x,y) (k.a,k.b) (e-k.d,f-k.c)) (TT.cosE k.r1 k.r2))):=fun w=>by
 obtain⟨h1,h2,h3⟩:=hk
 obtain⟨a,b,c,d,r1,r2⟩:=k
 dsimp only at h1 h2 h3 ⊢
 have hl:c≤d∧e≤f∧-10800000≤c∧d≤32400000∧-10800000≤e∧f≤32400000:=by
  unfold lonOk at h2 h5
  omega
 have q1:=r35tri_c (a:=a) (b:=b) (c:=c) (d:=d) (e:=e) (f:=f) (x:=x) (y:=y) (r1:=r1) (r2:=r2) (by omega) (by omega)
 have q2:=r25sine_c h4 h1 (c:=e-d) (d:=f-c) (by omega)
 have q3:=Cos6_c (lo:=r1) (hi:=r2) (by omega) (by omega)
 generalize sideS (x,y) (a,b) (e-d,f-c)=s at *
 generalize TT.cosE r1 r2=r at *
 dsimp only[krV]
 refine enter0 Tryz.func278 rfl rfl rfl ?_
 repeat' (first|(show YK _ _ _ _ _ ⟨_,.load 34 _,_,_,_,_⟩ _;refine YK.ofV (zlP (k:=2) (by rfl) (by exact memA) (by decide +kernel) (by rfl)) ?_)|(show YK _ _ _ _ _ _ _;first|refine YK.mk (zcA (q1) ⟨rfl,rfl,rfl⟩) ?_|refine YK.mk (zcA (q2) ⟨rfl,rfl⟩) ?_|refine YK.mk (zcA (q3) ⟨rfl,rfl⟩) ?_)|(refine nxV ?_)|(refine nSS ?_)|(refine nS1 fun _=>?_)|(refine nxX ?_)|(refine G.cN rfl (fun hc=>?_) (fun hc=>?_)<;>(try first|exact hc.elim|(exfalso;omega))))
 all_goals refine X.ret (vs:=[_]) rfl ⟨rfl,rfl⟩ rfl (fun w hw=>⟨?_,hw.ext⟩)
 all_goals refine congrArg (fun a=>Ending.returned (Value.int .i64 a)) ?_
 all_goals unfold sdV
 all_goals first
  |(rw[if_pos (by omega)];done)
  |(rw[if_neg (by omega),if_pos (by omega)];done)
  |(rw[if_neg (by omega),if_neg (by omega)];done)
end
theorem r39agr_c {k:CirT} (hk:CirOk k) {x:RR.CellT} (ok:RR.okC x):Cont Tryz.prog 240 [ctV x,krV k] (.bool (agrB k x)):=fun w=>by
 have q1:=r38box_c ok
 have q2:=r35side_c hk (box_ok ok).lat (lonOk_box ok)
 unfold agrB sidE
 generalize sideS (bxA x,bxB x) (k.a,k.b) (bxC x-k.d,bxD x-k.c)=s at *
 generalize bxA x=A at *
 generalize bxB x=B at *
 generalize bxC x=C at *
 generalize bxD x=D at *
 generalize TT.cosE k.r1 k.r2=r at *
 generalize sdV s r=z at *
 refine enter0 Tryz.func240 rfl rfl rfl ?_
 repeat' (first|(show VK _ _ _ _ _ ⟨_,.load 58 _,_,_,_,_⟩ _;refine VK.mk (zlP (k:=6) (by rfl) (by exact memA) (by decide +kernel) (by rfl)) ?_)|(show YK _ _ _ _ _ _ _;first|refine YK.mk (zcA (q1) ⟨rfl,rfl⟩) ?_|refine YK.mk (zcA (q2) ⟨rfl,rfl,rfl⟩) ?_)|(refine nxV ?_)|(refine nSS ?_)|(refine nS1 fun _=>?_)|(refine nMM ?_)|(refine G.mA 1 [.go 0,.go 1,.go 2,.go 3,.go 4,.go 5] ?_)|(refine nxX ?_)|done)
 all_goals exact X.ret1
end Go.Proofs.YtjmdeplmenbmmaaGreatDoor
