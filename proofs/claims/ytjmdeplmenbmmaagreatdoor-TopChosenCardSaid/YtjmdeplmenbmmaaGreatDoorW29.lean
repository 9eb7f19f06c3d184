/- Joined texts: Ssj, Sts, Rnk, Bst. -/
import Derived.Test.YtjmdeplmenbmmaaGreatDoorW28
import Derived.RangeFuncNested
import Derived.RangeFuncBound
import Derived.RangeFuncCalls
import Derived.RangeFuncLeaves
import Derived.RangeFuncBox
import Derived.Shelf.Abstract
import Derived.Shelf.RegionOpen
import Derived.WalkKit
import Derived.OwnWalkIn
import Derived.TacticsInMore
import Derived.LoopNIn
import Derived.LoopIn
import Derived.Maps.AppendAt
import Derived.Test.YtjmdeplmenbmmaaGreatDoorW22
import Derived.Test.YtjmdeplmenbmmaaGreatDoorW23
import Derived.Test.YtjmdeplmenbmmaaGreatDoorW24
import Derived.Test.YtjmdeplmenbmmaaGreatDoorW03
set_option linter.unusedVariables false
set_option maxHeartbeats 8000000
namespace Go.Proofs.YtjmdeplmenbmmaaGreatDoor
open Go.RowKit
abbrev rwE (v:Sl) (l:List SetE):Hl:=Hl.rw v.v 115 cSe 2 l
abbrev rkV:Value:=.func (.func 129) #[] #[]
theorem ranked1_in (x y:SetE):ContIn Tryz.prog (fun _=>True) 129 ([seV x,seV y]++(#[]:Array Value).toList) (.int .i64 (cmI x.size y.size)):=fun w _=>ranked1_c x y w
theorem cmI_neg {a b:Int} : cmI a b<0↔a<b:=by unfold cmI;split<;>(try split)<;>omega
theorem insE_c (v:Sl) (l:List SetE) (hl:1≤l.length∧l.length≤20):ContU Tryz.prog (rwE v l) 242 [v.v,.int .i64 0,.int .i64 l.length,rkV] (fun z:List SetE=>SameE l z∧SrtE z l.length) (fun _=>.tuple #[]) (fun z=>[rwE v z]):=fun w0 HR w hw=>by
 refine enterU Tryz.func242 rfl rfl rfl hw ?_
 repeat' (first|(refine nxV ?_)|(refine nSS ?_)|(refine nxX ?_)|done)
 refine G.loop (ι:=Nat×List SetE) (fun x=>[(0,v.v),(1,.int .i64 0),(2,.int .i64 l.length),(3,rkV),(8,.int .i64 (x.1:Int))]) (fun x=>rwE v x.2::HR) (fun x=>(1≤x.1∧x.1≤l.length)∧SameE l x.2∧SrtE x.2 x.1) (fun x=>l.length-x.1) (1,l) ⟨by dsimp only;omega,SameE.refl l,fun p q h1 h2=>by dsimp only at h2;omega⟩ ⟨rfl,rfl,rfl,rfl,rfl,trivial⟩ (fun w h=>h) ?_
 rintro⟨i,li⟩ mx ⟨g1,g2,g3⟩ hmx
 dsimp only at g1 g2 g3 hmx ⊢
 have hlen:=g2.1
 by_cases hib:i<l.length
 ·repeat' (first|(refine nxV ?_)|(refine nSS ?_)|(refine nxX ?_)|(refine G.cN rfl (fun hc=>?_) (fun hc=>?_)<;>(try first|exact hc.elim|(exfalso;omega))))
  refine G.loop (ι:=Nat×List SetE) (fun x=>[(0,v.v),(1,.int .i64 0),(2,.int .i64 l.length),(3,rkV),(8,.int .i64 (i:Int)),(9,.int .i64 (x.1:Int))]) (fun x=>rwE v x.2::HR) (fun x=>x.1≤i∧SameE l x.2∧InsE x.2 i x.1) (fun x=>x.1) (i,li) ⟨Nat.le_refl _,g2,InsE.start g3⟩ ⟨rfl,rfl,rfl,rfl,rfl,rfl,trivial⟩ (fun w h=>h) ?_
  rintro⟨j,lj⟩ my ⟨k1,k2,k3⟩ hmy
  dsimp only at k1 k2 k3 hmy ⊢
  have hlj:=k2.1
  have q1:=ranked1_in (nth lj (j:Int)) (nth lj ((j:Int)-1))
  repeat' (first|(show YG _ _ _ _ _ _ ⟨_,.call _,_,_,_,_⟩ _;refine YG.mk (fun hb=>by have hb2:=of_decide_eq_true hb;rw[hb];exact y_callV (f:=129) (by rfl) q1 (fun w hw=>trivial) ⟨rfl,rfl,rfl⟩ (by decide +kernel)) ?_)|(show RF _ _ _ _ _ _ _ _ _;refine RF.storeEl (f:=cSe) (l:=lj) (b:=nth lj ((j:Int)-1)) (by rfl) (by rfl) (by rfl) (by rfl) (by exact updA) (by omega) (fun _=>rfl) (by rfl) (by decide +kernel) (by decide +kernel) ?_)|(show RF _ _ _ _ _ _ _ _ _;refine RF.storeEl (f:=cSe) (l:=lj.set (j:Int).toNat (nth lj ((j:Int)-1))) (b:=nth lj (j:Int)) (by rfl) (by rfl) (by rfl) (by rfl) (by exact updA) (by rw[List.length_set];omega) (fun _=>rfl) (by rfl) (by decide +kernel) (by decide +kernel) ?_)|(refine G.mixedFH 6 [.go 0,.go 1,.go 2,.go 3,.go 4,.go 5,.go 6,.go 7,.go 8,.go 9,.go 10,.go 11,.go 12,.go 13,.go 14,.go 15,.go 16,.go 17] ?_)|(refine nxRF ?_)|(refine nxVF ?_)|(refine nxV ?_)|(refine nSS ?_)|(refine nMM ?_)|(refine nxG ?_)|(refine G.mA 4 [.go 0,.go 1,.go 2,.go 3,.go 4,.go 5,.go 6,.go 7,.go 8,.go 9,.go 10,.go 11,.go 12,.go 13,.go 14,.go 15,.go 16] ?_)|(refine nxX ?_)|(refine G.cN rfl (fun hc=>?_) (fun hc=>?_)<;>(try first|exact hc.elim|(exfalso;omega))))
  ·obtain⟨hc1,hc2⟩:=hc
   have hj0:0<j:=by omega
   have e1:(j:Int)-1=((j-1:Nat):Int):=by omega
   have e:(lj.set (j:Int).toNat (nth lj ((j:Int)-1))).set ((j:Int)-1).toNat (nth lj (j:Int))=swE lj j:=by
    rw[e1,Int.toNat_natCast,Int.toNat_natCast];rfl
   have hs:szE lj j<szE lj (j-1):=by
    have:=cmI_neg.1 hc2
    rw[e1] at this
    exact this
   exact X.again (j-1,swE lj j) ⟨by dsimp only;omega,k2.sw hj0 (by omega),k3.step hj0 k1 (by omega) hs⟩ (by dsimp only;omega) ⟨rfl,rfl,rfl,rfl,rfl,congrArg (fun z=>some (Value.int .i64 z)) e1,trivial⟩ (fun w h=>e ▸ h)
  ·have hs:j=0∨szE lj (j-1)≤szE lj j:=by
    rcases hc with h|h
    ·exact .inl (by omega)
    ·rcases Nat.eq_zero_or_pos j with h0|h0
     ·exact .inl h0
     ·refine .inr (Int.not_lt.1 fun hlt=>?_)
      have e1:(j:Int)-1=((j-1:Nat):Int):=by omega
      rw[e1] at h
      have:=cmI_neg.2 (show (nth lj (j:Int)).size<(nth lj ((j-1:Nat):Int)).size from hlt)
      omega
   exact X.again (i+1,lj) ⟨by dsimp only;omega,k2,k3.stop k1 hs⟩ (by dsimp only;omega) ⟨rfl,rfl,rfl,rfl,rfl,trivial⟩ (fun w h=>h)
 ·obtain rfl:i=l.length:=by omega
  repeat' (first|(refine nxV ?_)|(refine nSS ?_)|(refine nxX ?_)|(refine G.cN rfl (fun hc=>?_) (fun hc=>?_)<;>(try first|exact hc.elim|(exfalso;omega))))
  exact X.endN rfl (fun w hw=>⟨li,⟨g2,g3⟩,rfl,hw⟩)
theorem stabE_c (v:Sl) (l:List SetE) (hl:1≤l.length∧l.length≤19):ContU Tryz.prog (rwE v l) 190 [v.v,.int .i64 l.length,rkV] (fun z:List SetE=>SameE l z∧SrtE z l.length) (fun _=>.tuple #[]) (fun z=>[rwE v z]):=fun w0 HR w hw=>by
 have q1:=insE_c v l (by omega)
 refine enterU Tryz.func190 rfl rfl rfl hw ?_
 repeat' (first|(show G _ _ _ _ _ _ (.loop _);refine G.loopN 1 (GR.step ?_))|(refine RS.callU q1 ⟨rfl,rfl,rfl,rfl,rfl⟩ ?_;rintro z hz;dsimp only[List.cons_append,List.nil_append])|(refine nxV ?_)|(refine nSS ?_)|(refine nxX ?_)|(refine G.cN rfl (fun hc=>?_) (fun hc=>?_)<;>(try first|exact hc.elim|(exfalso;omega))))
 all_goals first
  |(exfalso;simp at hc;done)
  |(exfalso;omega)
  |(exfalso;simp at hc;omega)
  |(exact X.endN rfl (fun w hw=>⟨z,hz,rfl,hw⟩))
theorem sortE_c (v:Sl) (l:List SetE) (hl:1≤l.length∧l.length≤19):ContU Tryz.prog (rwE v l) 128 [v.v,rkV] (fun z:List SetE=>SameE l z∧SrtE z l.length) (fun _=>.tuple #[]) (fun z=>[rwE v z]):=fun w0 HR w hw=>by
 have q1:=stabE_c v l (by omega)
 refine enterU Tryz.func128 rfl rfl rfl hw ?_
 repeat' (first|(refine RS.callU q1 ⟨rfl,rfl,rfl,rfl⟩ ?_;rintro z hz;dsimp only[List.cons_append,List.nil_append])|(refine nxV ?_)|(refine nSS ?_)|(refine nxX ?_)|done)
 all_goals first
  |(exfalso;simp at hc;done)
  |(exact X.endN rfl (fun w hw=>⟨z,hz,rfl,hw⟩))
end Go.Proofs.YtjmdeplmenbmmaaGreatDoor
namespace Go.Proofs.YtjmdeplmenbmmaaGreatDoor
open Go.RowKit Go.Shelf
attribute [local go_sem] Oper.semAt_some
abbrev wSets (w:World) (n k:Int):World:=(w.alloc (.cells #[.int .i64 n] 3)).alloc (.cells #[.int .i64 k] 3)
abbrev setsV (b:Nat):Value:=.func (.func 188) #[] #[.pointer (some ⟨b+1,0,none⟩),.pointer (some ⟨b,0,none⟩)]
set_option maxRecDepth 100000 in
set_option maxHeartbeats 2000000 in
theorem sets_c (n k:Int) (w:World):Calls Tryz.prog 127 #[.int .i64 n,.int .i64 k] w fun e w'=>e=.returned (setsV w.heap.size)∧w'=wSets w n k:=by
 refine(callsIn_wide (n:=3)).1 ?_
 refine callsIn_of_wp Tryz.func127 rfl trivial ?_ rfl
 simp only[Tryz.ntmps127,List.size_toArray,List.length_cons,List.length_nil,Nat.reduceAdd,Nat.reduceSub,Array.replicate_succ,Array.replicate_zero,List.push_toArray,List.append_toArray,List.nil_append,List.cons_append]
 gi_wp2
 go_ret
 exact⟨rfl,rfl⟩
end Go.Proofs.YtjmdeplmenbmmaaGreatDoor
set_option maxHeartbeats 8000000
namespace Go.Proofs.YtjmdeplmenbmmaaGreatDoor
open Go.RowKit Go.Shelf
abbrev nats (s:List Nat):List Int:=s.map fun x:Nat=>(x:Int)
theorem nats_cells (s:List Nat):(nats s).flatMap cI=ints s:=by
 induction s with
 |nil=>rfl
 |cons b r ih=>simp[ints,nats] at ih ⊢;simp[ih]
theorem clone_calls (v:Value) (s:List Nat) (w:World) (h1:1≤s.length) (h2:s.length≤1000) (h3:∃g c,v=.slice (some ⟨g,0,none⟩) s.length c∧s.length≤c∧RowS w g s) :
  Calls Tryz.prog 189 #[v] w fun e w'=>∃v':Sl,e=.returned v'.v∧Below w.heap.size w w'∧w'.ownsRow w.heap.size 3 1 v'.v s.length (ints s):=by
 obtain⟨g,c,rfl,hc,hrow⟩:=h3
 have hro:RO w (.slice (some ⟨g,0,none⟩) s.length c) 1 (nats s).length ((nats s).flatMap cI):=by
  rw[nats_cells]
  unfold RowS at hrow
  refine⟨by simp[ints],some ⟨g,0,none⟩,c,by simp[nats],by simpa [nats] using hc,fun _=>⟨_,rfl,fun j u hu=>?_⟩,fun h=>by cases h⟩
  have e2:(⟨g,0,none⟩:Addr).add j=⟨g,j,none⟩:=by unfold Addr.add;split<;>simp_all
  rw[e2]
  unfold World.cell?
  dsimp only
  rw[hrow]
  simpa using hu
 have hst:St w [Hl.rd (.slice (some ⟨g,0,none⟩) s.length c) cI 1 (nats s)] w:=St.start w fun h hm=>by
  rcases List.mem_singleton.1 hm with rfl
  exact⟨⟨hro,fun h=>by cases h⟩,rfl⟩
 have hq:=cloneI_c (u:=.slice (some ⟨g,0,none⟩) s.length c) (l:=nats s) (by simp[nats];omega) w [] w hst
 refine Calls.mono hq ?_
 rintro e w' ⟨z,_,rfl,hw'⟩
 refine⟨z,rfl,hw'.ext,?_⟩
 have hr:=hw'.all (Hl.rw z.v 3 cI 1 (nats s)) List.mem_cons_self
 have hr2:w'.ownsRow w.heap.size 3 1 z.v (nats s).length ((nats s).flatMap cI):=hr
 rw[nats_cells] at hr2
 simpa [nats] using hr2
abbrev xNx (x:SetX):Hl:=Hl.nw x.1.v cI 1 (nats x.2)
theorem sets_own {n N K b:Nat} (hn:1≤n) (hN:N<5) (hK:K<N+1) (hK0:0<K) {w:World} (hb:b+1<w.heap.size) (c1:w.cell? ⟨b+1,0,none⟩=some (.int .i64 (K:Int))) (c2:w.cell? ⟨b,0,none⟩=some (.int .i64 (N:Int))) :
  SeqOwn Fence.wide n Tryz.prog 188 #[.pointer (some ⟨b+1,0,none⟩),.pointer (some ⟨b,0,none⟩)] encX (GoodH xNx) [b,b+1] (PrX N K) (fun xs=>xs.map (·.2)=setsS N K) (fun _=>True) w:=fun l J0 J Jx W hW aJ aA aC hY h0=>by
 refine sets1_in clone_calls n hn l b N K hN hK hK0 J0 J Jx W (Nat.lt_of_lt_of_le hb hW.size) aJ aA aC (fun g pre x A₀ A hg hP hJ hbl hG=>hY g pre x A₀ A hg hP hJ hbl ⟨hG.1,?_⟩) ((hW.cell (p:=⟨b+1,0,none⟩) hb).trans c1) ((hW.cell (p:=⟨b,0,none⟩) (by dsimp only;omega)).trans c2) h0
 have hr:=hG.2
 show RO A x.1.v 1 (nats x.2).length ((nats x.2).flatMap cI)∧_
 rw[nats_cells]
 have hl:(nats x.2).length=x.2.length:=by simp[nats]
 rw[hl]
 exact⟨RO.of_row hr,fun _ _ b hb=>(hr.lt b hb).1⟩
theorem sets_L (N K:Nat):ContL Tryz.prog (fun _=>True) [] 127 [.int .i64 N,.int .i64 K] (fun _:Nat=>True) (fun b=>setsV b) (fun b=>[Hl.blk (b+1) 3 [.int .i64 K],Hl.blk b 3 [.int .i64 N]]):=fun w0 HR w _ hw=>by
 refine Calls.mono (sets_c N K w) ?_
 rintro e w' ⟨rfl,rfl⟩
 refine⟨w.heap.size,trivial,rfl,?_⟩
 have h1:=hw.alloc 3 [.int .i64 (N:Int)]
 have h2:=h1.alloc 3 [.int .i64 (K:Int)]
 rw[World.size_alloc] at h2
 exact h2
theorem St.blkT {w0 W:World} {H:List Hl} {b:Nat} {t:TypeId} {cs:List Value} (h:St w0 (.blk b t cs::H) W):St w0 (oT b::H) W:=by
 refine⟨h.ext,fun x hx=>?_,fun x hx c hb hxb=>?_,h.apart.2⟩
 ·rcases List.mem_cons.1 hx with rfl|hx
  ·have:=h.all _ List.mem_cons_self
   exact⟨this.1,_,this.2,rfl⟩
  ·exact h.all x (List.mem_cons_of_mem _ hx)
 ·have:=(h.apart.1 x hx c hb hxb).1
  cases this
section
variable {B:Nat} {H:List Hl}
theorem AllCells.nil:AllCells B []:=fun h hm=>by cases hm
theorem AllCells.cons {x:Hl} (hx:OnCells x) (h:AllCells B H):AllCells B (x::H):=fun y hm=>by
 rcases List.mem_cons.1 hm with rfl|hm
 ·exact .inl hx
 ·exact h y hm
theorem AllCells.old {x:Hl} (hx:∀b,x.spot=some b→b<B) (h:AllCells B H):AllCells B (x::H):=fun y hm=>by
 rcases List.mem_cons.1 hm with rfl|hm
 ·exact .inr hx
 ·exact h y hm
theorem AllCells.blk {b:Nat} {t:TypeId} {cs:List Value} (h:AllCells B H):AllCells B (.blk b t cs::H):=h.cons (onCells_blk _ _ _)
theorem AllCells.ro {nw:Bool} {v:Value} {s n:Nat} {xs:List Value} (h:AllCells B H):AllCells B (.ro nw v s n xs::H):=h.cons (onCells_ro _ _ _ _ _)
theorem AllCells.row {v:Value} {e:TypeId} {s n:Nat} {xs:List Value} (h:AllCells B H):AllCells B (.row v e s n xs::H):=h.cons (onCells_row _ _ _ _ _)
end
instance {m:Nat} {P:Program} {fn:Func} {ι:Type} {post:ι→Prop} {vx:ι→Value} {Hn:ι→List Hl} {w:World} : NoOut (bodyPostM Fence.wide m P fn (RetX post vx Hn w)):=⟨fun⟨_,_,_,_,h,_⟩=>by cases h⟩
abbrev bodOf (l:List SeenT) (s:List Nat):List SeenT:=s.map fun i:Nat=>nth l (i:Int)
section
variable {v:Value} {P L w:Int} {n K:Nat} {F:SeenT→CirT} {l:List SeenT}
abbrev errS (P L:Int) (n:Nat) (F:SeenT→CirT) (l:List SeenT) (s:List Nat):Int:=(rgF P L n ((bodOf l s).map F)).1
abbrev sizS (P L:Int) (n:Nat) (F:SeenT→CirT) (l:List SeenT) (s:List Nat):Nat:=exN P L n ((bodOf l s).map F)
theorem RS.lit1Se {P:Program} {ops:Array Oper} {Q:Exit→Act→World→Prop} {n:Nat} {L:FL} {w0:World} {H:List Hl} {dd:Tmp} {ty:TypeId} {pos:String} {af:Array Edge} {t e:TypeId} {bytes:Nat} {x:Operand} {a:SetE} {rest:List Oper} (h:∀v':Sl,RS P ops Q n ((dd,v'.v)::L) w0 (Hl.rw v'.v e cSe 2 [a]::H) rest) (hx:evO L x=some (seV a)) [ht:RowTy P t e 2 bytes] (hd:Nat.blt dd n=true:=by rfl) :
  RS P ops Q n L w0 H (⟨some dd,.buildSlice t 1 #[(0,x)],ty,pos,af,none⟩::rest):=RS.actX rfl (x_litS (parts:=[(0,x)]) (vs:=[seV a]) (cs:=cSe a) (f:=cSe) (l:=[a]) ⟨hx,rfl⟩ rfl rfl rfl rfl (fun zs hz=>by
   match zs,hz with
   |[_,_],_=>rfl) rfl rfl rfl (rowTy_B ht.is) hd) fun v' _=>h v'
abbrev esOf (P L:Int) (n:Nat) (F:SeenT→CirT) (l:List SeenT) (pre:List SetX):List SetE:=pre.map fun x=>⟨(sizS P L n F l x.2:Nat),x.1⟩
def ErrK (P L:Int) (n K:Nat) (F:SeenT→CirT) (l:List SeenT) (e:Int):Prop:=∃a s,(a=(setsS l.length K).take a.length∧(setsS l.length K)[a.length]?=some s)∧errS P L n F l s=e∧e≠0∧∀y∈a,errS P L n F l y=0
def BstK (P L:Int) (n K:Nat) (F:SeenT→CirT) (l:List SeenT) (x:SetE) (ix:List Int):Prop:=∃s∈setsS l.length K,ix=nats s∧x.size=(sizS P L n F l s:Nat)∧∀s'∈setsS l.length K,sizS P L n F l s≤sizS P L n F l s'
abbrev RkZ:=(Sl×List SetE×SetE×List Int) ⊕ Int
def rkPost (P L:Int) (n K:Nat) (F:SeenT→CirT) (l:List SeenT):RkZ→Prop
 |.inl z=>(∀s∈setsS l.length K,errS P L n F l s=0)∧BstK P L n K F l z.2.2.1 z.2.2.2
 |.inr e=>ErrK P L n K F l e
def rkVal:RkZ→Value
 |.inl z=>.tuple [z.1.v,.int .i64 0].toArray
 |.inr e=>.tuple [.slice none 0 0,.int .i64 e].toArray
def rkNew:RkZ→List Hl
 |.inl z=>[Hl.nw z.1.v cSe 2 (z.2.2.1::z.2.1),Hl.nw z.2.2.1.sl.v cI 1 z.2.2.2]
 |.inr _=>[]
theorem X.retP {P:Program} {m:Nat} {nT:Nat} {L:FL} {w0:World} {fn:Func} {R:Ending→World→Prop} {rs:List ResultVar} {vs:List Value} {v:Value} (Ds:List Nat) {H R':List Hl} (hp:Pick (Ds.map oD) H R') (hf:fn.results=rs.toArray) (hr:RVS P L R' rs vs) (hv:(match vs with|[v]=>v|_=>.tuple vs.toArray)=v)
  (h:∀w,St w0 R' w→R (.returned v) w):X (Qs (Ds.map colD) (bodyPostM Fence.wide m P fn R)) nT L w0 H .ret:=by
 have:=X.retS (P:=P) (m:=m) (nT:=nT) (L:=L) (w0:=w0) Ds hf hr hv h
 unfold X at this ⊢
 exact fun a w ha hw=>this a w ha (hw.picked hp)
theorem tailC (B:Nat) (l:List SetX):AllCells B (l.map xNx):=fun h hm=>by
 obtain⟨x,_,rfl⟩:=List.mem_map.1 hm
 exact .inl (onCells_ro _ _ _ _ _)
theorem ranked_w (hF:CirF P L w F) (hv:∀x∈l,svalB x=true) (hl:l.length<5) (hK:K<l.length+1) (hK0:0<K) (hp:pointB P L=true) (hw:0≤w∧w≤60000) (hn:n≤16):ContX Tryz.prog [Hl.rd v cSn 5 l] 56 [v,ptV P L,.int .i64 K,.int .i64 w,.int .i64 n] (rkPost P L n K F l) rkVal rkNew:=fun w' hw0=>by
 obtain⟨hvl,A,cap,rfl,hcap,_⟩:=(hw0 (Hl.rd v cSn 5 l) List.mem_cons_self).1.1
 obtain⟨v,hve⟩:∃v:Sl,v=⟨A,l.length,cap⟩:=⟨_,rfl⟩
 have hvv:v.v=.slice A l.length cap:=by rw[hve]
 rw[←hvv] at hw0 ⊢
 have q1:=chchk_c (v:=v.v) (n:=n) hv (by omega) hp hw hn
 refine enterM (m:=12) (nT:=85) Tryz.func56 rfl rfl rfl hw0 ?_
  /- refine enter Tryz.func56 -/
 repeat' (first|(show GI _ _ _ _ _ _ _ _ _ (.seq (.region _ _ _) _);apply GI.seq)|(show GI _ _ _ _ _ _ _ _ _ (.seq (.seq _ _) _);apply GI.seq)|(show GI _ _ _ _ _ _ _ _ _ (.region _ _ false);refine GI.region (by decide +kernel) ?_)|(show GI _ _ _ _ _ _ _ _ _ (.cond _ _ _);refine GI.cN rfl (fun hc=>?_) (fun hc=>?_)<;>(try first|exact hc.elim|(exfalso;omega)))|(apply GI.skip)|(apply XD.next)|(show RS _ _ _ _ _ _ _ (⟨some 40,.call _,_,_,_,_⟩::_);refine RS.callL (sets_L l.length K) trivial ?_;rintro b -;dsimp only[List.cons_append,List.nil_append])|(show YK _ _ _ _ _ _ _;refine YK.mk (zcR (q1) ⟨rfl,rfl,rfl,rfl,rfl⟩) ?_)|(refine nxV ?_)|(refine nSS ?_)|(refine nS1 fun _=>?_)|(refine nxG ?_)|done)
 rename_i b5 b6 b8 b9 b10 b11 _ b13
 refine GI.weakL [(0,v.v),(2,.int .i64 (K:Int)),(5,.pointer (some ⟨b5,0,none⟩)),(6,.pointer (some ⟨b6,0,none⟩)),(8,.pointer (some ⟨b8,0,none⟩)),(9,.pointer (some ⟨b9,0,none⟩)),(10,.pointer (some ⟨b10,0,none⟩)),(11,.pointer (some ⟨b11,0,none⟩)),(13,.pointer (some ⟨b13,0,none⟩)),(40,setsV b)] ⟨rfl,rfl,rfl,rfl,rfl,rfl,rfl,rfl,rfl,rfl,trivial⟩ ?_
 refine GI.range (α:=SetX) (ι:=Nat) (κ:=Unit) (by decide) rfl (by decide +kernel) (xN:=xNx) (encs:=encX) (fun _=>rfl) (fun _=>onCells_ro _ _ _ _ _) (k1:=b) (k2:=b+1) (Pr:=PrX l.length K) (S:=fun xs=>xs.map (·.2)=setsS l.length K) (Sp:=fun _=>True) (fun w h=>sets_own (by decide) hl hK hK0 (Hl.lt (h.all _ List.mem_cons_self) rfl) (h.cell List.mem_cons_self 0) (h.cell (List.mem_cons_of_mem _ List.mem_cons_self) 0)) (fun _=>rfl)
  (fun pre z=>z=pre.length) (fun z=>[Hl.blk b13 3 [.int .i64 (z:Int)],Hl.blk b11 27 [.int .i64 0],Hl.blk b10 111 [.slice none 0 0],Hl.blk b9 3 [.int .i64 (n:Int)],Hl.blk b8 3 [.int .i64 w],Hl.blk b6 23 [.int .i64 P,.int .i64 L],Hl.blk b5 49 [v.v],Hl.rd v.v cSn 5 l]) (fun _ _=>False) (fun _=>[]) (fun _ _ _=>.blk (.blk (.blk (.blk (.blk (.blk (.blk (.ro .nil)))))))) (fun _ _ _=>.nil) 0 rfl (fun w h=>(h.blkT.perm (List.Perm.swap _ _ _)).blkT) (fun x=>[(41,x.1.v),(0,v.v),(2,.int .i64 (K:Int)),(5,.pointer (some ⟨b5,0,none⟩)),(6,.pointer (some ⟨b6,0,none⟩)),(8,.pointer (some ⟨b8,0,none⟩)),(9,.pointer (some ⟨b9,0,none⟩)),(10,.pointer (some ⟨b10,0,none⟩)),(11,.pointer (some ⟨b11,0,none⟩)),(13,.pointer (some ⟨b13,0,none⟩)),(40,setsV b)]) (fun a l x W K ha hK=>asg_skip ha (by decide) hK) ?body ?done ?stop
 case body =>
  rintro r D g pre x z oD oL oG o1 o2 hP rfl
  have hp6:=(sets_at hl hK hK0 hP.2).2.2
  repeat' (first|(show GI _ _ _ _ _ _ _ _ _ (.seq (.region _ _ _) _);apply GI.seq)|(show GI _ _ _ _ _ _ _ _ _ (.region _ _ false);refine GI.region (by decide +kernel) ?_)|(show GI _ _ _ _ _ _ _ _ _ (.cond _ _ _);refine GI.cN rfl (fun hc=>?_) (fun hc=>?_)<;>(try first|exact hc.elim|(exfalso;omega)))|(show GI _ _ _ _ _ _ _ _ _ (.block _ (.seq _ _));apply GI.block)|(apply GI.skip)|(apply XD.next)|(apply XD.block_normal)|(refine nxV ?_)|(refine nSS ?_)|done)
  all_goals first
   |(exfalso;omega)
   |exact X.nextR (pre.length+1) (by simp) (by exact fun w h=>h.sub subS)
 case stop =>
  rintro D pre y _ hy
  exact hy.elim
 case done =>
  rintro D xs z hS rfl
  apply XD.next
  clear q1
  repeat' (first|(show GI _ _ _ _ _ _ _ _ _ (.seq (.region _ _ _) _);apply GI.seq)|(show GI _ _ _ _ _ _ _ _ _ (.seq (.seq _ _) _);apply GI.seq)|(show GI _ _ _ _ _ _ _ _ _ (.region _ _ false);refine GI.region (by decide +kernel) ?_)|(apply XD.next)|(show RS _ _ _ _ _ _ _ (⟨some 49,.call _,_,_,_,_⟩::_);refine RS.callL (sets_L l.length K) trivial ?_;rintro b2 -;dsimp only[List.cons_append,List.nil_append])|(refine nxV ?_)|(refine nSS ?_)|(refine nS1 fun _=>?_)|done)
  rename_i b14
  refine GI.weakL [(0,v.v),(2,.int .i64 (K:Int)),(5,.pointer (some ⟨b5,0,none⟩)),(6,.pointer (some ⟨b6,0,none⟩)),(8,.pointer (some ⟨b8,0,none⟩)),(9,.pointer (some ⟨b9,0,none⟩)),(10,.pointer (some ⟨b10,0,none⟩)),(11,.pointer (some ⟨b11,0,none⟩)),(14,.pointer (some ⟨b14,0,none⟩)),(49,setsV b2)] ⟨rfl,rfl,rfl,rfl,rfl,rfl,rfl,rfl,rfl,rfl,trivial⟩ ?_
  refine GI.range (α:=SetX) (ι:=Sl×List SetX) (κ:=Int) (by decide) rfl (by decide +kernel) (xN:=xNx) (encs:=encX) (fun _=>rfl) (fun _=>onCells_ro _ _ _ _ _) (k1:=b2) (k2:=b2+1) (Pr:=PrX l.length K) (S:=fun xs=>xs.map (·.2)=setsS l.length K) (Sp:=fun _=>True) (fun w h=>sets_own (by decide) hl hK hK0 (Hl.lt (h.all _ List.mem_cons_self) rfl) (h.cell List.mem_cons_self 0) (h.cell (List.mem_cons_of_mem _ List.mem_cons_self) 0)) (fun _=>rfl)
   (fun pre z=>z.2=pre∧∀x∈pre,errS P L n F l x.2=0) (fun z=>Hl.rw z.1.v 115 cSe 2 (esOf P L n F l z.2)::Hl.blk b14 111 [z.1.v]::oD D::Hl.blk b13 3 [.int .i64 (xs.length:Int)]::Hl.blk b11 27 [.int .i64 0]::Hl.blk b10 111 [.slice none 0 0]::Hl.blk b9 3 [.int .i64 (n:Int)]::Hl.blk b8 3 [.int .i64 w]::Hl.blk b6 23 [.int .i64 P,.int .i64 L]::Hl.blk b5 49 [v.v]::Hl.rd v.v cSn 5 l::z.2.reverse.map xNx) (fun pre e=>∃pre' x,pre=pre'++[x]∧PrX l.length K pre' x∧errS P L n F l x.2=e∧e≠0∧∀y∈pre',errS P L n F l y.2=0) (fun e=>[oD D,Hl.blk b11 27 [.int .i64 e],Hl.blk b10 111 [.slice none 0 0]])
   ?cx ?cy (⟨none,0,0⟩,[]) ⟨rfl,fun x hx=>by cases hx⟩ ?hst (fun x=>[(15,x.1.v),(50,x.1.v),(0,v.v),(2,.int .i64 (K:Int)),(5,.pointer (some ⟨b5,0,none⟩)),(6,.pointer (some ⟨b6,0,none⟩)),(8,.pointer (some ⟨b8,0,none⟩)),(9,.pointer (some ⟨b9,0,none⟩)),(10,.pointer (some ⟨b10,0,none⟩)),(11,.pointer (some ⟨b11,0,none⟩)),(14,.pointer (some ⟨b14,0,none⟩)),(49,setsV b2)]) (fun a l x W K ha hK=>asg_one ha (by decide) (by decide) hK) ?body2 ?done2 ?stop2
  case cx =>
   intro w1 h z
   refine .row (.blk (.old ?_ (.blk (.blk (.blk (.blk (.blk (.blk (.blk (.ro (tailC _ _)))))))))))
   intro c hc
   have:=Hl.lt (h.all (oD D) (by simp)) rfl
   simp only[Hl.spot,Option.some.injEq] at hc
   omega
  case cy =>
   intro w1 h e
   refine .old ?_ (.blk (.blk .nil))
   intro c hc
   have:=Hl.lt (h.all (oD D) (by simp)) rfl
   simp only[Hl.spot,Option.some.injEq] at hc
   omega
  case hst =>
   intro w1 h
   have h1:=(h.blkT.perm (List.Perm.swap _ _ _)).blkT
   have h2:=St.nilRow 115 cSe 2 h1
   exact(h2.perm ((List.Perm.swap _ _ _).trans ((List.Perm.swap _ _ _).cons _)))
  case stop2 =>
   rintro D2 pre e _ ⟨pre',x,rfl,hP,he,hne,hz⟩
   all_goals repeat' (first|apply XD.next|apply XD.then_ret|apply XD.block_ret)
   have hek:ErrK P L n K F l e:=by
    refine⟨pre'.map (·.2),x.2,⟨?_,?_⟩,he,hne,fun y hy=>?_⟩
    ·rw[List.length_map];exact hP.1
    ·rw[List.length_map];exact hP.2
    ·obtain⟨y',hy',rfl⟩:=List.mem_map.1 hy
     exact hz y' hy'
   exact X.retP [D2,D] (by(repeat(first|exact Pick.nil|(apply Pick.cons;(case a=>(first|exact At.here|exact At.there (At.here)|exact At.there (At.there (At.here))|exact At.there (At.there (At.there (At.here)))|exact At.there (At.there (At.there (At.there (At.here))))|exact At.there (At.there (At.there (At.there (At.there (At.here)))))|exact At.there (At.there (At.there (At.there (At.there (At.there (At.here))))))|exact At.there (At.there (At.there (At.there (At.there (At.there (At.there (At.here)))))))|exact At.there (At.there (At.there (At.there (At.there (At.there (At.there (At.there (At.here))))))))|exact At.there (At.there (At.there (At.there (At.there (At.there (At.there (At.there (At.there (At.here))))))))))))))) (vs:=[_,_]) rfl ⟨⟨_,_,rfl,by exact memA,by decide +kernel⟩,⟨_,_,rfl,by exact memA,by decide +kernel⟩,rfl⟩ rfl (fun w1 h=>⟨.inr e,hek,rfl,h.ext,fun y hy=>by cases hy⟩)
  case done2 =>
   rintro D2 ys ⟨zv,zp⟩ hS2 ⟨hz1,hz⟩
   dsimp only at hz1 ⊢
   subst hz1
   apply XD.next
   have hyl:zp.length=(setsS l.length K).length:=by rw[←hS2,List.length_map]
   have hks:=setsS_ok l.length hl K hK hK0
   have hel:(esOf P L n F l zp).length=zp.length:=by simp[esOf]
   generalize hE:esOf P L n F l zp=E at *
   repeat' (first|(show GI _ _ _ _ _ _ _ _ _ (.seq (.region _ _ _) _);apply GI.seq)|(show GI _ _ _ _ _ _ _ _ _ (.region _ _ false);refine GI.region (by decide +kernel) ?_)|(apply GI.ret)|(apply XD.next)|(show RS _ _ _ _ _ _ _ (⟨some 83,.call _,_,_,_,_⟩::_);refine RS.callU (sortE_c zv E (by omega)) ⟨rfl,rfl,rfl⟩ ?_;rintro zz hzz;dsimp only[List.cons_append,List.nil_append])|(refine nxV ?_)|(refine nSS ?_)|done)
   obtain⟨⟨sa,sb,sc⟩,hsrt⟩:=hzz
   obtain⟨x0,rest,rfl⟩:∃x0 rest,zz=x0::rest:=by
    cases zz with
    |nil=>simp at sa;omega
    |cons x0 rest=>exact⟨x0,rest,rfl⟩
   obtain⟨x,hx,hxe⟩:∃x∈zp,(⟨(sizS P L n F l x.2:Nat),x.1⟩:SetE)=x0:=by
    have:=sb x0 List.mem_cons_self
    rw[←hE] at this
    exact List.mem_map.1 this
   have hall:∀s∈setsS l.length K,errS P L n F l s=0:=fun s hs=>by
    rw[←hS2] at hs
    obtain⟨y,hy,rfl⟩:=List.mem_map.1 hs
    exact hz y hy
   have hbst:BstK P L n K F l x0 (nats x.2):=by
    refine⟨x.2,by rw[←hS2];exact List.mem_map.2 ⟨x,hx,rfl⟩,rfl,by rw[←hxe],fun s' hs'=>?_⟩
    rw[←hS2] at hs'
    obtain⟨y,hy,rfl⟩:=List.mem_map.1 hs'
    have hyE:(⟨(sizS P L n F l y.2:Nat),y.1⟩:SetE)∈x0::rest:=sc _ (by rw[←hE];exact List.mem_map.2 ⟨y,hy,rfl⟩)
    obtain⟨q,hq,hqe⟩:=List.mem_iff_getElem.1 hyE
    have h0:szE (x0::rest) 0=(sizS P L n F l x.2:Nat):=by
     show (nth (x0::rest) ((0:Nat):Int)).size=_
     rw[nth_mem (by simp),←hxe];rfl
    have h1:szE (x0::rest) q=(sizS P L n F l y.2:Nat):=by
     show (nth (x0::rest) (q:Int)).size=_
     rw[nth_mem hq,hqe]
    rcases Nat.eq_zero_or_pos q with hq0|hq0
    ·subst hq0
     rw[h0] at h1
     omega
    ·have:=hsrt 0 q hq0 (by omega)
     rw[h0,h1] at this
     omega
   have hm:Hl.nw x0.sl.v cI 1 (nats x.2)∈zp.reverse.map xNx:=List.mem_map.2 ⟨x,List.mem_reverse.2 hx,by rw[←hxe]⟩
   exact X.retP [D2,D] (by(repeat(first|exact Pick.nil|(apply Pick.cons;(case a=>(first|exact At.here|exact At.there (At.here)|exact At.there (At.there (At.here))|exact At.there (At.there (At.there (At.here)))|exact At.there (At.there (At.there (At.there (At.here))))|exact At.there (At.there (At.there (At.there (At.there (At.here)))))|exact At.there (At.there (At.there (At.there (At.there (At.there (At.here))))))|exact At.there (At.there (At.there (At.there (At.there (At.there (At.there (At.here)))))))|exact At.there (At.there (At.there (At.there (At.there (At.there (At.there (At.there (At.here))))))))|exact At.there (At.there (At.there (At.there (At.there (At.there (At.there (At.there (At.there (At.here))))))))))))))) (vs:=[_,_]) rfl ⟨⟨_,_,rfl,by exact memA,by decide +kernel⟩,⟨_,_,rfl,by exact memA,by decide +kernel⟩,rfl⟩ rfl (fun w1 h=>⟨.inl (zv,rest,x0,nats x.2),⟨hall,hbst⟩,rfl,h.ext,NewIn.spec (NewIn.rw (by exact memA) ⟨fun _ _ hw=>⟨hw.all _ (by repeat(first|exact hm|apply List.mem_cons_of_mem)),rfl⟩,NewIn.nil⟩) h⟩)
  case body2 =>
   rintro r D2 g pre x ⟨zv,zp⟩ oD2 oL oG o1 o2 hP ⟨hz1,hz⟩
   dsimp only at hz1 ⊢
   subst hz1
   have hp6:=(sets_at hl hK hK0 hP.2).2.2
   obtain⟨hsl,_,hsb⟩:=set_ok hl hK hK0 (List.mem_of_getElem? hP.2)
   obtain⟨xv,s⟩:=x
   dsimp only at hP hsl hsb ⊢
   repeat' (first|(show GI _ _ _ _ _ _ _ _ _ (.seq (.region _ _ _) _);apply GI.seq)|(show GI _ _ _ _ _ _ _ _ _ (.seq (.seq _ _) _);apply GI.seq)|(show GI _ _ _ _ _ _ _ _ _ (.region _ _ false);refine GI.region (by decide +kernel) ?_)|(show GI _ _ _ _ _ _ _ _ _ (.block _ (.loop _));apply GI.block)|(show GI _ _ _ _ _ _ _ _ _ (.block _ (.seq _ _));apply GI.block)|(apply XD.next)|(refine nxV ?_)|(refine nSS ?_)|done)
   refine GI.loop (ι:=Sl×Nat) (fun y=>[(15,xv.v),(16,y.1.v),(51,xv.v),(52,.int .i64 ((nats s).length:Int)),(53,.int .i64 (y.2:Int)),(0,v.v),(2,.int .i64 (K:Int)),(5,.pointer (some ⟨b5,0,none⟩)),(6,.pointer (some ⟨b6,0,none⟩)),(8,.pointer (some ⟨b8,0,none⟩)),(9,.pointer (some ⟨b9,0,none⟩)),(10,.pointer (some ⟨b10,0,none⟩)),(11,.pointer (some ⟨b11,0,none⟩)),(14,.pointer (some ⟨b14,0,none⟩))]) (fun y=>Hl.rw y.1.v 53 cSn 5 (bodOf l (s.take y.2))::oE D2 oD2::oE (D2+1) oL::oE g oG::oE b2 o1::oE (b2+1) o2::xNx (xv,s)::Hl.rw zv.v 115 cSe 2 (esOf P L n F l zp)::Hl.blk b14 111 [zv.v]::oD D::Hl.blk b13 3 [.int .i64 (xs.length:Int)]::Hl.blk b11 27 [.int .i64 0]::Hl.blk b10 111 [.slice none 0 0]::Hl.blk b9 3 [.int .i64 (n:Int)]::Hl.blk b8 3 [.int .i64 w]::Hl.blk b6 23 [.int .i64 P,.int .i64 L]::Hl.blk b5 49 [v.v]::Hl.rd v.v cSn 5 l::zp.reverse.map xNx) (fun y=>y.2≤s.length) (fun y=>s.length-y.2) (⟨none,0,0⟩,0) (Nat.zero_le _) ⟨rfl,rfl,rfl,rfl,rfl,rfl,rfl,rfl,rfl,rfl,rfl,rfl,rfl,rfl,trivial⟩ (fun w h=>St.nilRow 53 cSn 5 h) ?_
   rintro⟨sv,i⟩ mx g1 hmx
   (try dsimp only at g1 hmx ⊢)
   have hnl:(nats s).length=s.length:=by simp[nats]
   rcases Nat.lt_or_ge i s.length with hi|hi
   ·have en:nth (nats s) (i:Int)=((s.getD i 0:Nat):Int):=nthM hi
    have hlt:s.getD i 0<l.length:=by
     rw[List.getD_eq_getElem?_getD,List.getElem?_eq_getElem hi]
     exact hsb _ (List.getElem_mem _)
    have hO:bodOf l (s.take (i+1))=bodOf l (s.take i)++[nth l (s.getD i 0:Nat)]:=by
     show (s.take (i+1)).map _=(s.take i).map _++[_]
     rw[List.take_succ_eq_append_getElem hi,List.map_append,List.getD_eq_getElem?_getD,List.getElem?_eq_getElem hi]
     rfl
    have hlen:(bodOf l (s.take i)).length=i:=by simp[bodOf];omega
    generalize bodOf l (s.take i)=O at *
    generalize s.getD i 0=y at *
    repeat' (first|(show GI _ _ _ _ _ _ _ _ _ (.seq (.region _ _ _) _);apply GI.seq)|(show GI _ _ _ _ _ _ _ _ _ (.seq (.cond _ _ _) _);apply GI.seq)|(show GI _ _ _ _ _ _ _ _ _ (.seq (.block _ (.seq _ _)) _);apply GI.seq)|(show GI _ _ _ _ _ _ _ _ _ (.region _ _ false);refine GI.region (by decide +kernel) ?_)|(show GI _ _ _ _ _ _ _ _ _ (.cond _ _ _);refine GI.cN rfl (fun hc=>?_) (fun hc=>?_)<;>(try first|exact hc.elim|(exfalso;omega)))|(show GI _ _ _ _ _ _ _ _ _ (.block _ (.seq _ _));apply GI.block)|(apply GI.skip)|(apply XD.next)|(apply XD.block_normal)|(show RS _ _ _ _ _ _ _ (⟨some 62,.buildSlice 49 1 _,_,_,_,_⟩::_);refine RS.lit1Sn (a:=nth l (nth (nats s) (i:Int))) (fun v'=>?_) rfl)|(show RS _ _ _ _ _ _ _ (⟨some 63,_,_,_,_,_⟩::_);refine RS.appendA (f:=cSn) (l:=O) (l':=[nth l (nth (nats s) (i:Int))]) ?_;intro z1)|(refine nxV ?_)|(refine nSS ?_)|done)
    all_goals first
     |(exfalso;omega)
     |exact XD.again (z1,i+1) (by dsimp only;omega) (by dsimp only;omega) ⟨rfl,rfl,rfl,rfl,rfl,rfl,rfl,rfl,rfl,rfl,rfl,rfl,rfl,rfl,trivial⟩ (by dsimp only;rw[hO,←en];exact fun w h=>h.sub subS)
   ·obtain rfl:i=s.length:=by omega
    rw[List.take_length]
    have hv':∀y∈bodOf l s,svalB y=true:=fun y hy=>by
     obtain⟨j,hj,rfl⟩:=List.mem_map.1 hy
     have hjl:=hsb j hj
     have e:nth l (j:Int)=l[j]:=nth_mem hjl
     rw[e]
     exact hv _ (List.getElem_mem _)
    have hbl:(bodOf l s).length=s.length:=by simp[bodOf]
    have q2:=fun vv=>exp_c (v:=vv) hF hv' (by omega) hp hw hn
    have hsz:esOf P L n F l (zp++[(xv,s)])=esOf P L n F l zp++[⟨(sizS P L n F l s:Nat),xv⟩]:=by simp[esOf]
    have hxb:(zp++[(xv,s)]).length≤6:=by simp;omega
    have hel:(esOf P L n F l zp).length≤6:=by simp[esOf];omega
    rcases Classical.em (errS P L n F l s=0) with he|he
    ·have q3:=q2
     unfold errS at he
     rw[he] at q3
     clear q2
     generalize hE:esOf P L n F l zp=E at *
     have hse:seV ⟨(sizS P L n F l s:Nat),xv⟩=.agg [.int .i64 (sizS P L n F l s:Nat),xv.v].toArray:=rfl
     repeat' (first|(show GI _ _ _ _ _ _ _ _ _ (.seq (.region _ _ _) _);apply GI.seq)|(show GI _ _ _ _ _ _ _ _ _ (.seq (.seq _ _) _);apply GI.seq)|(show GI _ _ _ _ _ _ _ _ _ (.seq (.cond _ _ _) _);apply GI.seq)|(show GI _ _ _ _ _ _ _ _ _ (.region _ _ false);refine GI.region (by decide +kernel) ?_)|(show GI _ _ _ _ _ _ _ _ _ (.cond _ _ _);refine GI.cN rfl (fun hc=>?_) (fun hc=>?_)<;>(try first|exact hc.elim|(exfalso;omega)))|(apply GI.skip)|(apply GI.exit)|(apply XD.next)|(apply XD.then_exit)|(apply XD.block_out)|(apply XD.block_normal)|(show YK _ _ _ _ _ ⟨_,.load 23 _,_,_,_,_⟩ _;refine YK.ofV (zlP (k:=2) (by rfl) (by exact memA) (by decide +kernel) (by rfl)) ?_)|(show RS _ _ _ _ _ _ _ (⟨some 80,.buildSlice 111 1 _,_,_,_,_⟩::_);refine RS.lit1Se (a:=⟨(sizS P L n F l s:Nat),xv⟩) (fun v'=>?_) rfl)|(show RS _ _ _ _ _ _ _ (⟨some 81,_,_,_,_,_⟩::_);refine RS.appendA (f:=cSe) (l:=E) (l':=[⟨(sizS P L n F l s:Nat),xv⟩]) ?_;intro z1)|(show YK _ _ _ _ _ _ _;refine YK.mk (zcR (q3 _) ⟨rfl,rfl,rfl,rfl,rfl⟩) ?_)|(refine nxV ?_)|(refine nSS ?_)|done)
     all_goals first
      |(exfalso;simp at hc;done)
      |(exfalso;omega)
      |skip
     refine X.nextR (z1,zp++[(xv,s)]) ⟨rfl,fun x hx=>?_⟩ (fun W h=>?_)
     ·rcases List.mem_append.1 hx with hx|hx
      ·exact hz x hx
      ·rcases List.mem_singleton.1 hx with rfl
       exact he
     ·have hrev:(zp++[(xv,s)]).reverse.map xNx=xNx (xv,s)::zp.reverse.map xNx:=by simp
      dsimp only
      rw[hsz,hrev]
      exact(h.sub (.cons _ (.cons _ (List.Sublist.refl _)))).perm ((((((List.perm_middle (l₁:=[Hl.rw z1.v 115 cSe 2 (E++[⟨(sizS P L n F l s:Nat),xv⟩]),Hl.blk b14 111 [z1.v],oD D,Hl.blk b13 3 [.int .i64 (xs.length:Int)],Hl.blk b11 27 [.int .i64 0],Hl.blk b10 111 [.slice none 0 0],Hl.blk b9 3 [.int .i64 (n:Int)],Hl.blk b8 3 [.int .i64 w],Hl.blk b6 23 [.int .i64 P,.int .i64 L],Hl.blk b5 49 [v.v],Hl.rd v.v cSn 5 l])).symm.cons _).cons _).cons _).cons _).cons _)
    ·have q3:=q2
     generalize heq:errS P L n F l s=er at he
     unfold errS at heq
     rw[heq] at q3
     clear q2
     generalize hE:esOf P L n F l zp=E at *
     repeat' (first|(show GI _ _ _ _ _ _ _ _ _ (.seq (.region _ _ _) _);apply GI.seq)|(show GI _ _ _ _ _ _ _ _ _ (.seq (.seq _ _) _);apply GI.seq)|(show GI _ _ _ _ _ _ _ _ _ (.seq (.cond _ _ _) _);apply GI.seq)|(show GI _ _ _ _ _ _ _ _ _ (.region _ _ false);refine GI.region (by decide +kernel) ?_)|(show GI _ _ _ _ _ _ _ _ _ (.cond _ _ _);refine GI.cN rfl (fun hc=>?_) (fun hc=>?_)<;>(try first|exact hc.elim|(exfalso;omega)))|(apply GI.exit)|(apply GI.ret)|(apply XD.next)|(apply XD.then_ret)|(apply XD.then_exit)|(apply XD.block_out)|(apply XD.block_ret)|(show YK _ _ _ _ _ ⟨_,.load 23 _,_,_,_,_⟩ _;refine YK.ofV (zlP (k:=2) (by rfl) (by exact memA) (by decide +kernel) (by rfl)) ?_)|(show YK _ _ _ _ _ _ _;refine YK.mk (zcR (q3 _) ⟨rfl,rfl,rfl,rfl,rfl⟩) ?_)|(refine nxV ?_)|(refine nSS ?_)|done)
     all_goals first
      |(exfalso;simp at hc;done)
      |(exfalso;omega)
      |skip
     exact X.leaveR er ⟨zp,(xv,s),rfl,hP,heq,he,hz⟩ (fun W h=>h.sub (by repeat(first|exact List.Sublist.refl _|exact List.nil_sublist _|apply List.Sublist.cons_cons|apply List.Sublist.cons)))
end
end Go.Proofs.YtjmdeplmenbmmaaGreatDoor
set_option maxHeartbeats 8000000
namespace Go.Proofs.YtjmdeplmenbmmaaGreatDoor
open Go.RowKit
section
variable {v:Value} {l:List SeenT} {P L k w n:Int}
theorem best_no {e:Int} (he:e≠0) (hr:ContX Tryz.prog [Hl.rd v cSn 5 l] 56 [v,ptV P L,.int .i64 k,.int .i64 w,.int .i64 n] (fun _:Unit=>True) (fun _=>.tuple [.slice none 0 0,.int .i64 e].toArray) (fun _=>[])) :
  ContR Tryz.prog [Hl.rd v cSn 5 l] 21 [v,ptV P L,.int .i64 k,.int .i64 w,.int .i64 n] (.tuple [.slice none 0 0,.int .i64 0,.int .i64 e].toArray):=fun w' hw0=>by
 refine enter Tryz.func21 rfl rfl rfl hw0 ?_
 repeat' (first|(show RS _ _ _ _ _ _ _ (⟨some 21,.call _,_,_,_,_⟩::_);refine RS.callX (hr) ⟨rfl,rfl,rfl,rfl,rfl,rfl⟩ ?_;rintro z -;dsimp only[List.cons_append,List.nil_append])|(refine nxV ?_)|(refine nSS ?_)|(refine nS1 fun _=>?_)|(refine nxX ?_)|(refine G.cN rfl (fun hc=>?_) (fun hc=>?_)<;>(try first|exact hc.elim|(exfalso;omega))))
 all_goals first
  |(exfalso;exact he (by simpa using hc))
  |exact X.ret (vs:=[_,_,_]) rfl ⟨rfl,rfl,rfl,rfl⟩ rfl rE
theorem best_ok {R:SetE→List Int→Prop} (hr:ContX Tryz.prog [Hl.rd v cSn 5 l] 56 [v,ptV P L,.int .i64 k,.int .i64 w,.int .i64 n] (fun z:Sl×List SetE×SetE×List Int=>R z.2.2.1 z.2.2.2) (fun z=>.tuple [z.1.v,.int .i64 0].toArray) (fun z=>[Hl.nw z.1.v cSe 2 (z.2.2.1::z.2.1),Hl.nw z.2.2.1.sl.v cI 1 z.2.2.2])) :
  ContX Tryz.prog [Hl.rd v cSn 5 l] 21 [v,ptV P L,.int .i64 k,.int .i64 w,.int .i64 n] (fun y:SetE×List Int=>R y.1 y.2) (fun y=>.tuple [y.1.sl.v,.int .i64 y.1.size,.int .i64 0].toArray) (fun y=>[Hl.nw y.1.sl.v cI 1 y.2]):=fun w' hw0=>by
 have e0:∀(x:SetE) (r:List SetE),nth (x::r) 0=x:=fun x r=>rfl
 refine enter Tryz.func21 rfl rfl rfl hw0 ?_
 repeat' (first|(show RS _ _ _ _ _ _ _ (⟨some 21,.call _,_,_,_,_⟩::_);refine RS.callX (hr) ⟨rfl,rfl,rfl,rfl,rfl,rfl⟩ ?_;rintro⟨z,r,s,ix⟩ hR;dsimp only[List.cons_append,List.nil_append])|(refine nxV ?_)|(refine nSS ?_)|(refine nS1 fun _=>?_)|(refine nMM ?_)|(refine G.mA 4 [.go 0,.go 1,.go 2,.go 3,.go 4,.go 5,.go 6,.go 7,.go 8,.go 9,.go 10] ?_)|(refine nxX ?_)|(refine G.cN rfl (fun hc=>?_) (fun hc=>?_)<;>(try first|exact hc.elim|(exfalso;omega))))
 all_goals first
  |(exfalso;simp at hc;done)
  |exact X.retN (vs:=[_,_,_]) ((s,ix):SetE×List Int) rfl ⟨rfl,rfl,rfl,rfl⟩ rfl hR rfl (NewIn.nw (by exact memA) NewIn.nil)
end
end Go.Proofs.YtjmdeplmenbmmaaGreatDoor
