/- Joined texts: Si1, Gir. -/
import Derived.Test.YtjmdeplmenbmmaaGreatDoorW03
import Derived.Test.YtjmdeplmenbmmaaGreatDoorW22
import Derived.Test.YtjmdeplmenbmmaaGreatDoorChecked
set_option linter.unusedVariables false
namespace Go.Proofs.YtjmdeplmenbmmaaGreatDoor
open Go.RowKit Go.Shelf
attribute [local go_sem] Oper.semAt_some
theorem setsS_step:∀n,n<5→∀k,k<n+1→0<k→((List.range 7).all fun p=>match (setsS n k)[p]? with
  |none=>true
  |some s=>nextS n k s==(setsS n k)[p+1]?&&(setsS n k).idxOf s==p)=true:=by decide +kernel
theorem setsS_head:∀n,n<5→∀k,k<n+1→0<k→(setsS n k)[0]?=some (List.range k):=by decide +kernel
theorem sets_at {n k p:Nat} {s:List Nat} (hn:n<5) (hk:k<n+1) (h0:0<k) (h:(setsS n k)[p]?=some s):nextS n k s=(setsS n k)[p+1]?∧(setsS n k).idxOf s=p∧p<6:=by
 have h6:=(setsS_ok n hn k hk h0).2.1
 have hp:=(List.getElem?_eq_some_iff.1 h).1
 have:=List.all_eq_true.1 (setsS_step n hn k hk h0) p (List.mem_range.2 (by omega))
 rw[h] at this
 simp only[Bool.and_eq_true,beq_iff_eq] at this
 exact⟨this.1,this.2,by omega⟩
abbrev ints (s:List Nat):List Value:=s.map fun x:Nat=>Value.int .i64 (x:Int)
def RowS (W:World) (g:Nat) (s:List Nat):Prop:=W.heap[g]?=some (.cells (ints s).toArray 3 (0,0))
section
variable {W:World} {g i:Nat} {s:List Nat}
theorem RowS.cell (h:RowS W g s) (hi:i<s.length):W.cell? ⟨g,i,none⟩=some (.int .i64 (s.getD i 0:Nat)):=by
 unfold World.cell?
 dsimp only
 rw[h]
 simp[hi]
theorem RowS.free (h:RowS W g s):W.frozen? ⟨g,i,none⟩=false:=by
 unfold RowS at h
 simp[World.frozen?,h]
theorem RowS.put (h:RowS W g s) (x:Nat):RowS (W.setCell ⟨g,i,none⟩ (.int .i64 (x:Int))) g (s.set i x):=by
 unfold RowS at *
 unfold World.setCell
 simp only[Array.getElem?_modify,h]
 simp[List.map_set]
theorem RowS.ro {K:Nat} (h:RowS W g s) (hl:s.length=K):RO W (.slice (some ⟨g,0,none⟩) K K) 1 (s.map fun x:Nat=>(x:Int)).length ((s.map fun x:Nat=>(x:Int)).flatMap cI):=by
 subst hl
 have e1:((s.map fun x:Nat=>(x:Int)).flatMap cI)=ints s:=by
  clear h
  induction s with
  |nil=>rfl
  |cons b r ih=>simp[ints] at ih ⊢;simp[ih]
 rw[e1,List.length_map]
 refine⟨by simp,_,_,rfl,Nat.le_refl _,fun _=>⟨_,rfl,fun j u hu=>?_⟩,fun h=>by cases h⟩
 have e2:(⟨g,0,none⟩:Addr).add j=⟨g,j,none⟩:=by unfold Addr.add;split<;>simp_all
 rw[e2]
 unfold World.cell?
 dsimp only
 rw[h]
 simpa using hu
theorem RowS.lt (h:RowS W g s):g<W.heap.size:=(Array.getElem?_eq_some_iff.1 h).1
end
theorem nthM {s:List Nat} {t:Nat} (h:t<s.length):nth (s.map fun x:Nat=>(x:Int)) (t:Int)=((s.getD t 0:Nat):Int):=by
 have e:=nth_some (l:=s.map fun x:Nat=>(x:Int)) (m:=(t:Int)) (by omega) (by rw[List.length_map];omega)
 rw[Int.toNat_natCast,List.getElem?_map,List.getElem?_eq_getElem h] at e
 rw[List.getD_eq_getElem?_getD,List.getElem?_eq_getElem h]
 exact(Option.some.inj e).symm
def decS (g:Nat) (W:World):List Nat:=match W.heap[g]? with
 |some (.cells cs _ _)=>cs.toList.map fun v=>(intOf v).toNat
 |_=>[]
theorem RowS.dec {W:World} {g:Nat} {s:List Nat} (h:RowS W g s):decS g W=s:=by
 unfold RowS at h
 unfold decS
 rw[h]
 dsimp only
 rw[List.map_map]
 simp[intOf,Function.comp_def]
set_option maxRecDepth 100000 in
theorem mk_run (W:World) (k:Nat) (hk:k≤1000):(Instr.makeSlice 65 (.int .i64 (k:Int)) (.int .i64 (k:Int))).run Tryz.prog W=.ok (.slice (some ⟨W.heap.size,0,none⟩) k k) (W.alloc (.cells (ints (List.replicate k 0)).toArray 3)):=by
 obtain⟨i0,hi,hz0,hz1,hz2⟩:=info_parts (show (Tryz.prog.info? 3).map (fun i=>(i.zero,i.size,i.bytes))=some (some (.int .i64 0),1,8) by kernel_rfl)
 have:=run_makeSlice (P:=Tryz.prog) W 65 3 i0 (.int .i64 0) Tryz.underlying65 hi hz0 .i64 .i64 (k:Int) (k:Int) (by omega) (by omega) (by rw[hz1];simp;omega) (by rw[hz2];omega) (by omega)
 rw[this,Int.toNat_natCast,hz1,Nat.mul_one]
 congr 2
 congr 1
 unfold madeCells
 apply Array.ext
 ·simp
 ·intro j h1 h2
  simp[Value.cells,Nat.mod_one]
theorem wpListIn_make_run {F:Fence} {n:Nat} {P:Program} {w:World} {ops:Array Oper} {rest:List Oper} {o:Oper} {a:Act} {Q:Exit→Act→World→Prop}
  (hg:o.guard=none) (l c:Operand) (t:TypeId) (hop:o.op=Op.makeSlice t l c) {vl vc:Value} (hl:a.eval l=vl) (hc:a.eval c=vc) {v:Value} {w':World} (hrun:(Instr.makeSlice t vl vc).run P w=.ok v w')
  (hK:wpListIn F n P ops Q rest (a.put o.dst v) w'):wpListIn F n P ops Q (o::rest) a w:=by
 refine wpListIn_plain hg fun K hK'=>?_
 unfold Oper.wpIn
 refine⟨?_,?_⟩
 ·simp[Oper.about,hop]
 ·rw[Oper.semAt_plain F _ _ (by rw[hop];intro c hc';cases hc')]
  simp[execOp,hop,hl,hc,hrun,Result.andThen]
  exact hK' _ _ hK
abbrev SetX:=Sl×List Nat
abbrev encX (x:SetX):Array Value:=#[x.1.v]
def GoodX (m g:Nat) (x:SetX) (W:World):Prop:=g<m∧W.ownsRow m 3 1 x.1.v x.2.length (ints x.2)
def PrX (N K:Nat) (pre:List SetX) (x:SetX):Prop:=pre.map (·.2)=(setsS N K).take pre.length∧(setsS N K)[pre.length]?=some x.2
structure It (J:Nat→List SetX→World→Prop) (b N K B:Nat) (g:Nat) (pre:List SetX) (s:List Nat) (W:World):Prop where
 hJ:J g pre W
 row:RowS W g s
 ck:W.cell? ⟨b+1,0,none⟩=some (.int .i64 (K:Int))
 cn:W.cell? ⟨b,0,none⟩=some (.int .i64 (N:Int))
 hb:b+1<B
 hg:B≤g
section
variable {J:Nat→List SetX→World→Prop} {b N K B g:Nat} {pre:List SetX} {s:List Nat} {W:World}
theorem It.put (hJ:∀g s A i v,B≤g→J g s A→J g s (A.setCell ⟨g,i,none⟩ v)) (h:It J b N K B g pre s W) (i x:Nat):It J b N K B g pre (s.set i x) (W.setCell ⟨g,i,none⟩ (.int .i64 (x:Int))):=by
 have h1:=h.hb
 have h2:=h.hg
 exact⟨hJ _ _ _ _ _ h.hg h.hJ,h.row.put x,(World.cell?_of_block (Below.heap_setCell W _ _ (b+1) (by dsimp only;omega))).trans h.ck,(World.cell?_of_block (Below.heap_setCell W _ _ b (by dsimp only;omega))).trans h.cn,h.hb,h.hg⟩
theorem It.below (hJ:∀g,AbidesFrom B (J g)) (h:It J b N K B g pre s W) {W':World} (hb:Below W.heap.size W W'):It J b N K B g pre s W':=by
 have h1:=h.hb
 have h2:=h.hg
 have h3:=h.row.lt
 refine⟨hJ g pre W W' none h.hJ ⟨hb.os,hb.tape,hb.output,hb.size,fun k hk _=>hb.block k hk⟩ (fun r e=>by cases e),(hb.block g h3).trans h.row,(hb.cell (p:=⟨b+1,0,none⟩) (by dsimp only;omega)).trans h.ck,(hb.cell (p:=⟨b,0,none⟩) (by dsimp only;omega)).trans h.cn,h.hb,h.hg⟩
end
theorem out67 {us:List Value} (h:us.length=67) {f:Nat→Value} (hf:∀i,us.getD i undef=f i):us.toArray=#[f 0,f 1,f 2,f 3,f 4,f 5,f 6,f 7,f 8,f 9,f 10,f 11,f 12,f 13,f 14,f 15,f 16,f 17,f 18,f 19,f 20,f 21,f 22,f 23,f 24,f 25,f 26,f 27,f 28,f 29,f 30,f 31,f 32,f 33,f 34,f 35,f 36,f 37,f 38,f 39,f 40,f 41,f 42,f 43,f 44,f 45,f 46,f 47,f 48,f 49,f 50,f 51,f 52,f 53,f 54,f 55,f 56,f 57,f 58,f 59,f 60,f 61,f 62,f 63,f 64,f 65,f 66]:=by
 have e:us=(List.range 67).map f:=by
  apply List.ext_getElem
  ·simp[h]
  ·intro i h1 h2
   simp[←hf,List.getElem?_eq_getElem h1]
 rw[e]
 rfl
def LastI (N K:Nat) (s:List Nat) (i:Int):Prop:=(i = -1∧lastS N K s K=none)∨∃t:Nat,i=t∧lastS N K s K=some t
set_option maxRecDepth 100000 in
set_option maxHeartbeats 4000000 in
theorem sets1_in (hclone:∀(v:Value) (s:List Nat) (w:World),1≤s.length→s.length≤1000→(∃g c,v=.slice (some ⟨g,0,none⟩) s.length c∧s.length≤c∧RowS w g s)→Calls Tryz.prog 189 #[v] w fun e w'=>∃v':Sl,e=.returned v'.v∧Below w.heap.size w w'∧w'.ownsRow w.heap.size 3 1 v'.v s.length (ints s))
  (n:Nat) (hn:1≤n) (l b N K:Nat) (hN:N<5) (hK:K<N+1) (hK0:0<K) (J0:World→Prop) (J:Nat→List SetX→World→Prop) (Jx:List SetX→World→Prop) (W:World) (hb:b+1<W.heap.size)
  (aJ:∀g,AbidesFrom W.heap.size (J g)) (aA:∀A o,o.isCells=true→W.heap.size≤A.heap.size→J0 A→J A.heap.size [] (A.alloc o)) (aC:∀g s A i v,W.heap.size≤g→J g s A→J g s (A.setCell ⟨g,i,none⟩ v))
  (hY:∀g pre x A₀ A,W.heap.size≤g→PrX N K pre x→J g pre A₀→Below A₀.heap.size A₀ A→GoodX A₀.heap.size g x A→YieldAt Fence.wide (n-1) Tryz.prog l (encX x) A fun e B=>(e=.returned (.bool true)∧J g (pre++[x]) B∧KeepL (g::[b,b+1]) A B)∨(e=.returned (.bool false)∧Jx (pre++[x]) B))
  (c1:W.cell? ⟨b+1,0,none⟩=some (.int .i64 (K:Int))) (c2:W.cell? ⟨b,0,none⟩=some (.int .i64 (N:Int))) (h0:J0 W) :
  CallsIn Fence.wide n Tryz.prog 188 #[.func (.yield l) #[] #[],.pointer (some ⟨b+1,0,none⟩),.pointer (some ⟨b,0,none⟩)] W fun e B=>(∃v,e=.returned v) ∧
   ((∃(xs:List SetX) (g:Nat),xs.map (·.2)=setsS N K∧J g xs B)∨(∃pre:List SetX,True∧Jx pre B)):=by
 refine callsIn_of_wp Tryz.func188 rfl trivial ?_ rfl
 simp only[Tryz.ntmps188,List.size_toArray,List.length_cons,List.length_nil,Nat.reduceAdd,Nat.reduceSub,Array.replicate_succ,Array.replicate_zero,List.push_toArray,List.append_toArray,List.nil_append,List.cons_append]
 gi_wp2_with (gi_at_make;refine wpListIn_make_run rfl _ _ _ rfl rfl rfl (mk_run W K (by omega)) ?_)
 have iA:It J b N K W.heap.size W.heap.size [] (List.replicate K 0) (W.alloc (.cells (ints (List.replicate K 0)).toArray 3)):=⟨aA _ _ rfl (Nat.le_refl _) h0,World.alloc_heap_new _ _,(World.cell?_of_block (a:=⟨b+1,0,none⟩) (Below.heap_alloc W _ (b+1) (by omega))).trans c1,(World.cell?_of_block (a:=⟨b,0,none⟩) (Below.heap_alloc W _ b (by omega))).trans c2,hb,Nat.le_refl _⟩
 gi_loopw [12] (fun i wr=>∃j:Nat,j≤K∧i=.int .i64 (j:Int)∧It J b N K W.heap.size W.heap.size [] (List.range j++List.replicate (K-j) 0) wr) (fun i _=>K-(intOf i).toNat)
 case atStart=>exact⟨0,Nat.zero_le _,rfl,by simpa using iA⟩
 case round =>
  obtain⟨j,hj,rfl,hI⟩:=hrel
  by_cases hlt:j<K
  ·have f1:=hI.row.free (i:=j)
   have f2:=hI.row.cell (i:=j) (by simp;omega)
   have hI2:=hI.put aC j j
   have e1:(List.range j++List.replicate (K-j) 0).set j j=List.range (j+1)++List.replicate (K-(j+1)) 0:=by
    rw[List.set_append_right _ _ (by simp),List.length_range,Nat.sub_self,List.range_succ,List.append_assoc]
    congr 1
    rw[show K-j=(K-(j+1))+1 by omega,List.replicate_succ]
    rfl
   rw[e1] at hI2
   clear e1
   gi_wp2
   go_roundw
   case rel=>exact⟨j+1,by omega,by simp,hI2⟩
   case measure=>simp[intOf];omega
  ·have e:K=j:=by omega
   subst e
   rw[Nat.sub_self,List.replicate_zero,List.append_nil] at hI
   gi_wp2
   gi_loopw [] (fun wr=>∃(pre:List SetX) (s:List Nat),pre.map (·.2)=(setsS N K).take pre.length∧(setsS N K)[pre.length]?=some s∧It J b N K W.heap.size W.heap.size pre s wr) (fun wr=>(setsS N K).length-(setsS N K).idxOf (decS W.heap.size wr))
   case atStart=>exact⟨[],List.range K,by simp,setsS_head N hN K hK hK0,hI⟩
   case round =>
    clear hI iA
    rename_i wo
    obtain⟨pre,s,hpre,hs,hI⟩:=hrel
    obtain⟨hnx,hix,hp6⟩:=sets_at hN hK hK0 hs
    obtain⟨hsl,_,hsb⟩:=set_ok hN hK hK0 (List.mem_of_getElem? hs)
    have hq:=hclone (.slice (some ⟨W.heap.size,0,none⟩) K K) s wr (by omega) (by omega) ⟨W.heap.size,K,by rw[hsl],by omega,hI.row⟩
    gi_wp2_with (refine⟨trivial,?_⟩;gi_at_call 189;refine(callsIn_wide.2 hq).mono ?_;rintro e w' ⟨v',rfl,hb',hr'⟩;have hI1:=hI.below aJ hb';obtain⟨fn,tmps,assign,body,hy,hR⟩:=hY W.heap.size pre (v',s) wr w' (Nat.le_refl _) ⟨hpre,hs⟩ hI.hJ hb' ⟨hI.row.lt,hr'⟩;dsimp only[encX] at hy)
    refine hR.mono ?_
    rintro e W3 (⟨rfl,hJ3,hk3⟩|⟨rfl,hJx3⟩)
    ·have hI3:It J b N K W.heap.size W.heap.size (pre++[(v',s)]) s W3:=⟨hJ3,(hk3 _ (by simp)).trans hI1.row,(World.cell?_of_block (hk3 (b+1) (by simp))).trans hI1.ck,(World.cell?_of_block (hk3 b (by simp))).trans hI1.cn,hb,Nat.le_refl _⟩
     have hdec:=hI.row.dec
     clear hR hy hI1 hb' hr' hq hI hJ3 hk3
     have ck3:=hI3.ck
     have cn3:=hI3.cn
     have hpre3:(pre++[(v',s)]).map (·.2)=(setsS N K).take (pre.length+1):=by
      rw[List.map_append,hpre,List.take_add_one,hs];rfl
     generalize hp3:pre++[(v',s)]=pre3 at *
     have hlen3:pre3.length=pre.length+1:=by rw[←hp3];simp
     have hmx:Tryz.prog.follows .mixedOrders=true:=by kernel_rfl
     gi_wp2
     refine bridge (n:=67) (L:=[(0,.func (.yield l) #[] #[]),(1,.pointer (some ⟨b+1,0,none⟩)),(2,.pointer (some ⟨b,0,none⟩)),(4,.slice (some ⟨W.heap.size,0,none⟩) K K),(6,.int .i64 ((K:Int)-1)),(3,undef),(5,u5),(8,.int .i64 K),(9,.slice (some ⟨W.heap.size,0,none⟩) K K),(10,.slice (some ⟨W.heap.size,0,none⟩) K K),(11,.int .i64 K),(12,.int .i64 K),(13,.bool false),(14,u14),(15,u15),(16,u16),(17,u17),(18,u18),(19,u19)]) (H:=[Hl.rd (.slice (some ⟨W.heap.size,0,none⟩) K K) cI 1 (s.map fun x:Nat=>(x:Int)),Hl.rd (bxS (b+1)) c1X 1 [.int .i64 K],Hl.rd (bxS b) c1X 1 [.int .i64 N]])
      (Q':=fun e a' w'=>e=.exit 4∧∃i:Int,LastI N K s i∧Fr 67 [(0,.func (.yield l) #[] #[]),(1,.pointer (some ⟨b+1,0,none⟩)),(2,.pointer (some ⟨b,0,none⟩)),(4,.slice (some ⟨W.heap.size,0,none⟩) K K),(6,.int .i64 i),(3,undef),(5,u5),(8,.int .i64 K),(9,.slice (some ⟨W.heap.size,0,none⟩) K K),(10,.slice (some ⟨W.heap.size,0,none⟩) K K),(11,.int .i64 K),(12,.int .i64 K),(13,.bool false),(14,u14),(15,u15),(16,u16),(17,u17),(18,u18),(19,u19)] a'∧Below W3.heap.size W3 w') (Fr.of rfl ⟨rfl,rfl,rfl,rfl,rfl,rfl,rfl,rfl,rfl,rfl,rfl,rfl,rfl,rfl,rfl,rfl,rfl,rfl,rfl,trivial⟩) (St.start _ ?roF) ?walk ?next
     case roF =>
      intro h hm
      rcases List.mem_cons.1 hm with rfl|hm
      ·exact⟨⟨hI3.row.ro hsl,fun h=>by cases h⟩,rfl⟩
      rcases List.mem_cons.1 hm with rfl|hm
      ·exact⟨⟨ro_bx hI3.ck,fun h=>by cases h⟩,rfl⟩
      rcases List.mem_singleton.1 hm with rfl
      exact⟨⟨ro_bx hI3.cn,fun h=>by cases h⟩,rfl⟩
     case walk =>
      clear hI3 ck3 cn3 c1 c2 hclone
            /- refine enter Tryz.func188 -/
      refine G.loop (ι:=Nat) (fun t=>[(0,.func (.yield l) #[] #[]),(1,.pointer (some ⟨b+1,0,none⟩)),(2,.pointer (some ⟨b,0,none⟩)),(4,.slice (some ⟨W.heap.size,0,none⟩) K K),(6,.int .i64 ((t:Int)-1)),(3,undef),(5,u5),(8,.int .i64 K),(9,.slice (some ⟨W.heap.size,0,none⟩) K K),(10,.slice (some ⟨W.heap.size,0,none⟩) K K),(11,.int .i64 K),(12,.int .i64 K),(13,.bool false),(14,u14),(15,u15),(16,u16),(17,u17),(18,u18),(19,u19)]) (fun _=>[Hl.rd (.slice (some ⟨W.heap.size,0,none⟩) K K) cI 1 (s.map fun x:Nat=>(x:Int)),Hl.rd (bxS (b+1)) c1X 1 [.int .i64 K],Hl.rd (bxS b) c1X 1 [.int .i64 N]]) (fun t=>t≤K∧lastS N K s K=lastS N K s t) (fun t=>t) K ⟨Nat.le_refl _,rfl⟩ ⟨rfl,rfl,rfl,rfl,rfl,rfl,rfl,rfl,rfl,rfl,rfl,rfl,rfl,rfl,rfl,rfl,rfl,rfl,rfl,trivial⟩ (fun w h=>h) ?_
      rintro t mx ⟨g1,g2⟩ hmx
      (try dsimp only at g1 g2 hmx ⊢)
      rcases t with _|t
      ·rw[show ((0:Nat):Int)-1 = -1 by decide]
       repeat' (first|(show VK _ _ _ _ _ ⟨_,.load _ (.tmp 2),_,_,_,_⟩ _;refine VK.mk (y_bx b (.int .i64 N) (by rfl) (by exact rdA) (by decide +kernel)) ?_)|(show VK _ _ _ _ _ ⟨_,.load _ (.tmp 1),_,_,_,_⟩ _;refine VK.mk (y_bx (b+1) (.int .i64 K) (by rfl) (by exact rdA) (by decide +kernel)) ?_)|(refine nxV ?_)|(show RM _ _ _ _ _ _ _ _ _ _;first|(refine RM.spl 29 rfl (fun hq=>?_) (fun hq=>?_))|(refine nMM ?_)|done)|(refine G.mA 8 [.go 0,.go 1,.go 2,.go 3,.go 4,.go 5,.go 6,.go 7,.go 8,.go 9,.go 10,.go 11,.go 12,.go 13] ?_)|(refine nxX ?_)|(refine G.cN rfl (fun hc=>?_) (fun hc=>?_)<;>(try first|exact hc.elim|(exfalso;omega))))
       all_goals first
        |(exfalso;omega)
        |(unfold X;intro a w hf hw;exact⟨rfl,_,.inl ⟨rfl,by rw[g2];rfl⟩,hf.weaken (Sub.spec ⟨rfl,rfl,rfl,rfl,rfl,rfl,rfl,rfl,rfl,rfl,rfl,rfl,rfl,rfl,rfl,rfl,rfl,rfl,rfl,trivial⟩),hw.ext⟩)
      ·have et:((t+1:Nat):Int)-1=(t:Int):=by omega
       rw[et]
       have en:nth (s.map fun x:Nat=>(x:Int)) (t:Int)=((s.getD t 0:Nat):Int):=nthM (by omega)
       have hsb2:s.getD t 0<N:=by
        rw[List.getD_eq_getElem?_getD,List.getElem?_eq_getElem (show t<s.length by omega)]
        exact hsb _ (List.getElem_mem _)
       have g3:lastS N K s (t+1)=if s.getD t 0=N-K+t then lastS N K s t else some t:=rfl
       have hlm:(s.map fun x:Nat=>(x:Int)).length=K:=by rw[List.length_map];exact hsl
       generalize s.getD t 0=y at *
       repeat' (first|(show VK _ _ _ _ _ ⟨_,.load _ (.tmp 2),_,_,_,_⟩ _;refine VK.mk (y_bx b (.int .i64 N) (by rfl) (by exact rdA) (by decide +kernel)) ?_)|(show VK _ _ _ _ _ ⟨_,.load _ (.tmp 1),_,_,_,_⟩ _;refine VK.mk (y_bx (b+1) (.int .i64 K) (by rfl) (by exact rdA) (by decide +kernel)) ?_)|(refine nxV ?_)|(refine nSS ?_)|(show RM _ _ _ _ _ _ _ _ _ _;first|(refine RM.spl 29 rfl (fun hq=>?_) (fun hq=>?_))|(refine nMM ?_)|done)|(refine G.mA 8 [.go 0,.go 1,.go 2,.go 3,.go 4,.go 5,.go 6,.go 7,.go 8,.go 9,.go 10,.go 11,.go 12,.go 13] ?_)|(refine nxX ?_)|(refine G.cN rfl (fun hc=>?_) (fun hc=>?_)<;>(try first|exact hc.elim|(exfalso;omega))))
       all_goals first
        |(exfalso;omega)
        |skip
       ·exact X.again t ⟨by omega,by rw[g2,g3,if_pos (by omega)]⟩ (by omega) ⟨rfl,rfl,rfl,rfl,rfl,rfl,rfl,rfl,rfl,rfl,rfl,rfl,rfl,rfl,rfl,rfl,rfl,rfl,rfl,trivial⟩ (by exact fun w h=>h.sub subS)
       ·unfold X
        intro a w hf hw
        exact⟨rfl,_,.inr ⟨t,rfl,by rw[g2,g3,if_neg (by omega)]⟩,hf.weaken (Sub.spec ⟨rfl,rfl,rfl,rfl,rfl,rfl,rfl,rfl,rfl,rfl,rfl,rfl,rfl,rfl,rfl,rfl,rfl,rfl,rfl,trivial⟩),hw.ext⟩
     case next =>
      rintro e a4 W4 ⟨rfl,i,hi,hfr,hb4⟩
      have hI4:=hI3.below aJ hb4
      obtain⟨us,hus,rfl,hat⟩:=hfr.out
      obtain⟨f,hf⟩:∃f:Nat→Value,∀i,us.getD i undef=f i:=⟨_,fun _=>rfl⟩
      have e0:=(hf 0).symm.trans (hat 0 _ rfl)
      have e1:=(hf 1).symm.trans (hat 1 _ rfl)
      have e2:=(hf 2).symm.trans (hat 2 _ rfl)
      have e4:=(hf 4).symm.trans (hat 4 _ rfl)
      have e6:=(hf 6).symm.trans (hat 6 _ rfl)
      have e3:=(hf 3).symm.trans (hat 3 _ rfl)
      have e5:=(hf 5).symm.trans (hat 5 _ rfl)
      have e8:=(hf 8).symm.trans (hat 8 _ rfl)
      have e9:=(hf 9).symm.trans (hat 9 _ rfl)
      have e10:=(hf 10).symm.trans (hat 10 _ rfl)
      have e11:=(hf 11).symm.trans (hat 11 _ rfl)
      have e12:=(hf 12).symm.trans (hat 12 _ rfl)
      have e13:=(hf 13).symm.trans (hat 13 _ rfl)
      have e14:=(hf 14).symm.trans (hat 14 _ rfl)
      have e15:=(hf 15).symm.trans (hat 15 _ rfl)
      have e16:=(hf 16).symm.trans (hat 16 _ rfl)
      have e17:=(hf 17).symm.trans (hat 17 _ rfl)
      have e18:=(hf 18).symm.trans (hat 18 _ rfl)
      have e19:=(hf 19).symm.trans (hat 19 _ rfl)
      rw[out67 hus hf,e0,e1,e2,e4,e6,e3,e5,e8,e9,e10,e11,e12,e13,e14,e15,e16,e17,e18,e19]
      clear e0 e1 e2 e4 e6 e3 e5 e8 e9 e10 e11 e12 e13 e14 e15 e16 e17 e18 e19 hat hf hfr hus hb4 hI3 ck3 cn3
      rcases hi with ⟨rfl,hno⟩|⟨t,rfl,ht⟩
      ·have hend:(setsS N K).take (pre.length+1)=setsS N K:=by
        have h1:(setsS N K)[pre.length+1]?=none:=by rw[←hnx];unfold nextS;rw[hno];rfl
        exact List.take_of_length_le (List.getElem?_eq_none_iff.1 h1)
       gi_wp2
       refine bodyPost_ret (results_none rfl _ _ _) rfl ?_
       exact⟨⟨_,rfl⟩,.inl ⟨pre3,_,hpre3.trans hend,hI4.hJ⟩⟩
      ·have htK:=lastS_lt ht
       have hn2:=nextS_some hsl ht
       have c5:=hI4.row.cell (i:=t) (by omega)
       have f5:=hI4.row.free (i:=t)
       have c6:=hI4.ck
       have hI5:=hI4.put aC t (s.getD t 0+1)
       rw[←stepS_one (by omega)] at hI5
       have hsb2:s.getD t 0<N:=by
        rw[List.getD_eq_getElem?_getD,List.getElem?_eq_getElem (show t<s.length by omega)]
        exact hsb _ (List.getElem_mem _)
       generalize s.getD t 0=y at c5 hI5 hsb2
       gi_wp2
       gi_loopw [7] (fun j wr=>∃q:Nat,t<q∧q≤K∧j=.int .i64 (q:Int)∧It J b N K W.heap.size W.heap.size pre3 (stepS s t q) wr) (fun j _=>K-(intOf j).toNat)
       case atStart=>exact⟨t+1,by omega,by omega,by simp,by simpa using hI5⟩
       case round =>
        clear hI5 c5 f5 c6 hI4
        obtain⟨q,hq1,hq2,rfl,hI⟩:=hrel
        have ck:=hI.ck
        have hql:(stepS s t q).length=K:=by rw[stepS_len (by omega) (by omega)];exact hsl
        by_cases hlt:q<K
        ·have c7:=hI.row.cell (i:=q-1) (by omega)
         have f7:=hI.row.free (i:=q)
         have c8:=hI.row.cell (i:=q) (by omega)
         have hI6:=hI.put aC q ((stepS s t q).getD (q-1) 0+1)
         rw[stepS_next hq1 (by omega)] at hI6
         have hb7:(stepS s t q).getD (q-1) 0<N+1+q:=by
          rw[List.getD_eq_getElem?_getD,List.getElem?_eq_getElem (show q-1<(stepS s t q).length by omega)]
          exact stepS_bd hsb _ (List.getElem_mem _)
         generalize (stepS s t q).getD (q-1) 0=y at *
         gi_wp2
         go_roundw
         case rel=>exact⟨q+1,by omega,by omega,by simp,by simpa using hI6⟩
         case measure=>simp[intOf];omega
        ·have e:K=q:=by omega
         subst e
         gi_wp2
         have hs2:(setsS N K)[pre.length+1]?=some (stepS s t K):=by rw[←hnx,hn2]
         obtain⟨_,hix2,_⟩:=sets_at hN hK hK0 hs2
         have hlt2:=(List.getElem?_eq_some_iff.1 hs2).1
         go_roundw
         case rel=>exact⟨pre3,stepS s t K,by rw[hlen3];exact hpre3,by rw[hlen3];exact hs2,hI⟩
         case measure=>rw[hI.row.dec,hdec,hix2,hix];omega
    ·gi_wp2
     refine bodyPost_ret (results_none rfl _ _ _) rfl ?_
     exact⟨⟨_,rfl⟩,.inr ⟨_,trivial,hJx3⟩⟩
end Go.Proofs.YtjmdeplmenbmmaaGreatDoor
set_option maxHeartbeats 4000000
namespace Go.Proofs.YtjmdeplmenbmmaaGreatDoor
open Go.RowKit Go.Shelf
def calmB (P:Program) (o:Oper):Bool:=match o.op with
 |.move _|.assign _|.pick ..|.alloc _|.box ..|.build ..|.buildSlice ..|.load ..|.store ..|.binOp ..|.unOp ..|.indexAddr ..|.extract ..=>true
 |.call c=>match c.callee with
  |.builtin b=>b==.len||b==.append
  |.value (.func f)=>isGo P f
  |_=>false
 |_=>false
theorem no_v {P:Program} {s:Sem Value} {w w':World} {d:Deferred} : (do let x ←s;pure (Next.value x):Sem Next).run P w≠.ok (.defer d) w':=by
 rw[Sem.run_bind]
 intro h
 cases hs:s.run P w with
 |ok x w2=>rw[hs] at h;simp at h
 |halt x w2=>rw[hs] at h;cases h
theorem no_u {P:Program} {s:Sem Unit} {w w':World} {d:Deferred} : (do s;pure Next.skip:Sem Next).run P w≠.ok (.defer d) w':=by
 rw[Sem.run_bind]
 intro h
 cases hs:s.run P w with
 |ok x w2=>rw[hs] at h;simp at h
 |halt x w2=>rw[hs] at h;cases h
theorem no_p {P:Program} {s:Sem Bool} {f:Bool→Value} {w w':World} {d:Deferred} : (do let x ←s;pure (Next.value (f x)):Sem Next).run P w≠.ok (.defer d) w':=by
 rw[Sem.run_bind]
 intro h
 cases hs:s.run P w with
 |ok x w2=>rw[hs] at h;simp at h
 |halt x w2=>rw[hs] at h;cases h
theorem calm_no {P:Program} {o:Oper} (hc:calmB P o=true) {a:Act} {w w':World} {d:Deferred} : (execOp a.eval o).run P w≠.ok (.defer d) w':=by
 obtain⟨dst,op,ty,pos,af,gd⟩:=o
 unfold calmB at hc
 cases op<;>first|exact absurd hc Bool.false_ne_true|skip
 case call c =>
  obtain⟨callee,args,tys⟩:=c
  cases callee with
  |builtin b =>
   simp only[Bool.or_eq_true,beq_iff_eq] at hc
   rcases hc with rfl|rfl
   ·exact no_v (s:=Builtin.len_ tys ty (args.map a.eval))
   ·exact no_v (s:=Builtin.append_ tys ty (args.map a.eval))
  |value x =>
   cases x with
   |func f =>
    intro h
    rw[show execOp a.eval ⟨dst,.call { callee:=.value (.func f),args:=args,argTypes:=tys },ty,pos,af,gd⟩=callFunc f (#[]++args.map a.eval++#[]) from rfl,run_isGo hc] at h
    cases h
   |_=>exact absurd hc Bool.false_ne_true
  |_=>exact absurd hc Bool.false_ne_true
 case pick x y z=>exact no_p (s:=asBool (a.eval x)) (f:=fun b=>if b=true then a.eval y else a.eval z)
 all_goals first
  |exact no_v
  |exact no_u
  |(intro h;cases h)
def calmL (P:Program) (l:List Oper):Bool:=l.all (calmB P)
theorem calmL_spec {P:Program} {l:List Oper} (h:calmL P l=true):∀o∈l,calmB P o=true:=fun o ho=>List.all_eq_true.1 h o ho
theorem calm_def {P:Program} {o:Oper} (hc:calmB P o=true):∀c,o.op≠.defer c:=fun c e=>by
 unfold calmB at hc
 rw[e] at hc
 cases hc
def wF (r:Option Nat):Fence:={ Fence.wide with round:=r }
def Qs (ds:List Deferred) (Q:Exit→Act→World→Prop):Exit→Act→World→Prop:=fun e a w=>Q e { a with defers:=ds } w
section
variable {P:Program} {Q:Exit→Act→World→Prop} {n m:Nat} {r:Option Nat} {ds:List Deferred} {L:FL} {w0:World} {H:List Hl}
theorem put_ds (a:Act) (d:Option Tmp) (v:Value):({ a with defers:=ds } : Act).put d v={ a.put d v with defers:=ds }:=by cases d<;>rfl
theorem list_in {ops:Array Oper} (hno:¬LetsOut Q):∀{l:List Oper} {a:Act} {w:World},(∀o∈l,calmB P o=true)→wpList P ops (Qs ds Q) l a w→wpListIn (wF r) m P ops Q l { a with defers:=ds } w
 |[],_,_,_,h=>h
 |o::l,a,w,hd,h=>by
  unfold wpList at h
  unfold wpListIn
  have hl:∀{a w},wpList P ops (Qs ds Q) l a w→wpListIn (wF r) m P ops Q l { a with defers:=ds } w:=list_in hno fun o ho=>hd o (List.mem_cons_of_mem _ ho)
  have ev:({ a with defers:=ds } : Act).eval=a.eval:=rfl
  split
  ·rename_i hw
   rw[if_pos hw] at h
   rcases h with h|h
   ·refine⟨fun _ _=>trivial,?_⟩
    rw[Oper.semAt_eq _ _ _ (calm_def (hd o List.mem_cons_self)),ev]
    unfold Oper.wp at h
    have hnd:∀d w',(execOp a.eval o).run P w≠.ok (.defer d) w':=fun d w' e=>calm_no (hd o List.mem_cons_self) e
    revert h hnd
    generalize (execOp a.eval o).run P w=x
    intro h hnd
    cases x with
    |ok nx w' =>
     cases nx with
     |value v =>
      show wpListIn _ _ _ _ _ _ (Act.put _ _ _) _
      rw[put_ds]
      exact hl h
     |skip =>
      show wpListIn _ _ _ _ _ _ (Act.put _ _ _) _
      rw[put_ds]
      exact hl h
     |defer d=>exact absurd rfl (hnd d w')
     |enter f args =>
      refine⟨(fun h=>by cases h),?_⟩
      have h2:CallsIn Fence.wide (m-1) P f args w' _:=callsIn_wide.2 h
      refine CallsIn.mono h2 ?_
      intro e w'' he
      cases e with
      |returned v =>
       show wpListIn _ _ _ _ _ _ (Act.put _ _ _) _
       rw[put_ds]
       exact hl he
      |panicked ch=>exact he
      |outgrown=>exact absurd he (fun⟨a1,w1,h1⟩=>hno ⟨_,_,h1⟩)
     |row row args=>exact⟨(fun h=>by cases h),fun c cs _=>let ⟨v,w',q,s⟩:=h c cs;⟨v,w',(by show wpListIn _ _ _ _ _ _ (Act.put _ _ _) _;rw[put_ds];exact hl q),stepsIn_wide.2 s⟩⟩
     |_=>exact(h:False).elim
    |halt y w'=>cases y<;>first|exact h|exact(h:False).elim
   ·exact absurd h.2 (fun⟨a1,w1,h1⟩=>hno ⟨_,_,h1⟩)
  ·rename_i hw
   rw[if_neg hw] at h
   refine⟨fun _ _=>trivial,?_⟩
   rw[put_ds]
   exact hl h
def GI (P:Program) (r:Option Nat) (m:Nat) (ds:List Deferred) (Q:Exit→Act→World→Prop) (n:Nat) (L:FL) (w0:World) (H:List Hl) (c:Code):Prop :=
 ∀a w,Fr n L a→St w0 H w→c.wpIn (wF r) m P Q { a with defers:=ds } w
class NoOut (Q:Exit→Act→World→Prop):Prop where
 no:¬LetsOut Q
instance {K:Act→World→Prop} {Q:Exit→Act→World→Prop} [h:NoOut Q]:NoOut (Exit.then K Q):=⟨fun⟨a,w,q⟩=>h.no ⟨a,w,q⟩⟩
instance {i:Nat} {Q:Exit→Act→World→Prop} [h:NoOut Q]:NoOut (Exit.inBlock i Q):=⟨fun⟨a,w,q⟩=>h.no ⟨a,w,q⟩⟩
theorem GI.seq {x y:Code} (h:GI P r m ds (Exit.then (fun a w=>y.wpIn (wF r) m P Q a w) Q) n L w0 H x):GI P r m ds Q n L w0 H (.seq x y):=fun a w ha hw=>wpIn_seq (h a w ha hw)
theorem GI.cond {x y:Code} {c:Operand} {b:Bool} (hc:evO L c=some (.bool b)) (h1:b=true→GI P r m ds Q n L w0 H x) (h2:b=false→GI P r m ds Q n L w0 H y):GI P r m ds Q n L w0 H (.cond c x y):=fun a w ha hw =>
 wpIn_cond_split (ha.eval hc) (fun e=>h1 e a w ha hw) (fun e=>h2 e a w ha hw)
theorem GI.cN {x y:Code} {c:Operand} {b:Bool} {p q:Prop} (hc:evO L c=some (.bool b)) (h1:p→GI P r m ds Q n L w0 H x) (h2:q→GI P r m ds Q n L w0 H y)
  (hp:(b=true)↔p:=by first|(simp only[eqCells,vEq,Bool.and_eq_true,Bool.or_eq_true,Bool.and_eq_false_iff,Bool.or_eq_false_iff,decide_eq_true_eq,decide_eq_false_iff_not,Bool.not_eq_true',Bool.not_eq_false',Int.not_le,Int.not_lt,Bool.not_true,Bool.not_false,beq_self_eq_true,Bool.or_false,Bool.false_or,Bool.or_self,Bool.and_true,Bool.true_and,Bool.and_self,Bool.or_true,Bool.true_or,Bool.and_false,Bool.false_and,decide_true,eq_self,Bool.false_eq_true,Bool.true_eq_false,reduceCtorEq];exact Iff.rfl)|exact Iff.rfl) (hq:(b=false)↔q:=by first|(simp only[eqCells,vEq,Bool.and_eq_true,Bool.or_eq_true,Bool.and_eq_false_iff,Bool.or_eq_false_iff,decide_eq_true_eq,decide_eq_false_iff_not,Bool.not_eq_true',Bool.not_eq_false',Int.not_le,Int.not_lt,Bool.not_true,Bool.not_false,beq_self_eq_true,Bool.or_false,Bool.false_or,Bool.or_self,Bool.and_true,Bool.true_and,Bool.and_self,Bool.or_true,Bool.true_or,Bool.and_false,Bool.false_and,decide_true,eq_self,Bool.false_eq_true,Bool.true_eq_false,reduceCtorEq];exact Iff.rfl)|exact Iff.rfl):GI P r m ds Q n L w0 H (.cond c x y):=GI.cond hc (fun h=>h1 (hp.1 h)) (fun h=>h2 (hq.1 h))
theorem GI.block {id:Nat} {c:Code} (h:GI P r m ds (Exit.inBlock id Q) n L w0 H c):GI P r m ds Q n L w0 H (.block id c):=fun a w ha hw=>wpIn_block (h a w ha hw)
theorem GI.skip (h:X (Qs ds Q) n L w0 H .normal):GI P r m ds Q n L w0 H .skip:=fun a w ha hw=>wpIn_skip (by unfold X at h;exact h a w ha hw)
theorem GI.exit {id:Nat} (h:X (Qs ds Q) n L w0 H (.exit id)):GI P r m ds Q n L w0 H (.exit id):=fun a w ha hw=>wpIn_exit (by unfold X at h;exact h a w ha hw)
theorem GI.ret (h:X (Qs ds Q) n L w0 H .ret):GI P r m ds Q n L w0 H .ret:=fun a w ha hw=>wpIn_ret (by unfold X at h;exact h a w ha hw)
theorem GI.region {id:Nat} {l:List Oper} (hd:calmL P l=true) [hno:NoOut Q] (h:RS P l.toArray (Qs ds Q) n L w0 H l):GI P r m ds Q n L w0 H (.region id l.toArray false):=fun a w ha hw=>by
 unfold RS at h
 exact wpIn_region_lit (list_in hno.no (calmL_spec hd) (h a w ha hw))
theorem GI.weakL (L1:FL) {c:Code} (hL:Sub L L1) (h:GI P r m ds Q n L1 w0 H c):GI P r m ds Q n L w0 H c:=fun a w ha hw=>h a w (ha.weaken hL.spec) hw
theorem XD.next {y:Code} (h:GI P r m ds Q n L w0 H y):X (Qs ds (Exit.then (fun a w=>y.wpIn (wF r) m P Q a w) Q)) n L w0 H .normal:=by
 unfold X
 exact h
theorem XD.then_ret {K:Act→World→Prop} (h:X (Qs ds Q) n L w0 H .ret):X (Qs ds (Exit.then K Q)) n L w0 H .ret:=by unfold X at *;exact h
theorem XD.then_exit {K:Act→World→Prop} {i:Nat} (h:X (Qs ds Q) n L w0 H (.exit i)):X (Qs ds (Exit.then K Q)) n L w0 H (.exit i):=by unfold X at *;exact h
theorem XD.block_normal {id:Nat} (h:X (Qs ds Q) n L w0 H .normal):X (Qs ds (Exit.inBlock id Q)) n L w0 H .normal:=by unfold X at *;exact h
theorem XD.block_ret {id:Nat} (h:X (Qs ds Q) n L w0 H .ret):X (Qs ds (Exit.inBlock id Q)) n L w0 H .ret:=by unfold X at *;exact h
theorem XD.block_out {id:Nat} (h:X (Qs ds Q) n L w0 H .normal):X (Qs ds (Exit.inBlock id Q)) n L w0 H (.exit id):=by
 unfold X at *
 intro a w ha hw
 simp only[Qs,Exit.inBlock,if_true]
 exact h a w ha hw
theorem XD.block_exit {id i:Nat} (hne:Nat.beq i id=false) (h:X (Qs ds Q) n L w0 H (.exit i)):X (Qs ds (Exit.inBlock id Q)) n L w0 H (.exit i):=by
 unfold X at *
 intro a w ha hw
 have:i≠id:=fun e=>by subst e;simp at hne
 simp only[Qs,Exit.inBlock,this,if_false]
 exact h a w ha hw
theorem GI.loop {ι:Type} {c:Code} (Lx:ι→FL) (Hx:ι→List Hl) (pre:ι→Prop) (μ:ι→Nat) (x0:ι) (h0:pre x0) (hL:Sub L (Lx x0)) (hH:∀w,St w0 H w→St w0 (Hx x0) w)
  (round:∀x mx,pre x→μ x=mx→GI P r m ds (Exit.then (fun a w=>∃x' a',pre x'∧μ x'<mx∧a={ a' with defers:=ds }∧Fr n (Lx x') a'∧St w0 (Hx x') w) Q) n (Lx x) w0 (Hx x) c):GI P r m ds Q n L w0 H (.loop c):=fun a w ha hw=>by
 classical
 let J (x:ι) (a:Act) (w:World):Prop:=pre x∧∃a',a={ a' with defers:=ds }∧Fr n (Lx x) a'∧St w0 (Hx x) w
 let p (a:Act) (w:World) (k:Nat):Prop:=∃x,J x a w∧μ x=k
 have hmin:∀a w,(∃k,p a w k)→∃k,p a w k∧∀j,p a w j→k≤j:=fun a w=>least (p a w)
 refine wpIn_loop (fun a w=>∃k,p a w k) (fun a w=>if h:∃k,p a w k then Classical.choose (hmin a w h) else 0) ⟨_,x0,⟨h0,a,rfl,ha.weaken hL.spec,hH w hw⟩,rfl⟩ fun a w hI=>?_
 have hs:=Classical.choose_spec (hmin a w hI)
 obtain⟨x,⟨hp,a0,rfl,hf,hst⟩,hk⟩:=hs.1
 refine wpIn_mono (round x _ hp hk a0 w hf hst) ?_
 intro e a' w' hq
 cases e with
 |normal =>
  obtain⟨x',a1,h1,h2,h3,h4,h5⟩:=hq
  have hI':∃k,p a' w' k:=⟨_,x',⟨h1,a1,h3,h4,h5⟩,rfl⟩
  refine⟨hI',?_⟩
  have hs':=Classical.choose_spec (hmin a' w' hI')
  have:=hs'.2 _ ⟨x',⟨h1,a1,h3,h4,h5⟩,rfl⟩
  rw[dif_pos hI',dif_pos hI]
  omega
 |_=>exact hq
theorem XD.again {ι:Type} {Lx:ι→FL} {Hx:ι→List Hl} {pre:ι→Prop} {μ:ι→Nat} {mx:Nat} (x':ι) (hp:pre x') (hμ:μ x'<mx) (hL:Sub L (Lx x')) (hH:∀w,St w0 H w→St w0 (Hx x') w) :
  X (Qs ds (Exit.then (fun a w=>∃x' a',pre x'∧μ x'<mx∧a={ a' with defers:=ds }∧Fr n (Lx x') a'∧St w0 (Hx x') w) Q)) n L w0 H .normal:=by
 unfold X
 exact fun a w ha hw=>⟨x',a,hp,hμ,rfl,ha.weaken hL.spec,hH w hw⟩
end
end Go.Proofs.YtjmdeplmenbmmaaGreatDoor
