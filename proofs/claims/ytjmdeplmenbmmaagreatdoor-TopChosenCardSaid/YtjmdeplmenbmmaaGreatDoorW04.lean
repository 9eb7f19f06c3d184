/- Joined texts: RowSt, Span, SpCm. -/
import Derived.Test.YtjmdeplmenbmmaaGreatDoorW02
import Derived.Laws.IdiomCopy
import Derived.Maps.AppendAt
import Derived.Test.YtjmdeplmenbmmaaGreatDoorW03
import Derived.Handy
import Derived.WalkKit
import Derived.LoopN
import Derived.StillTailTactics
import Derived.Sort.Grow
set_option linter.unusedVariables false
set_option maxHeartbeats 1000000
namespace Go.Proofs.YtjmdeplmenbmmaaGreatDoor
open Go.RowKit
def setAt:List Value→Nat→List Value→List Value
 |xs,_,[]=>xs
 |xs,o,u::r=>setAt (xs.set o u) (o+1) r
theorem setAt_app:∀(us xs ys:List Value) (o:Nat),setAt (xs++ys) (xs.length+o) us=xs++setAt ys o us
 |[],xs,ys,o=>rfl
 |u::r,xs,ys,o=>by
  show setAt ((xs++ys).set (xs.length+o) u) (xs.length+o+1) r=xs++setAt (ys.set o u) (o+1) r
  rw[List.set_append_right _ _ (by omega),show xs.length+o-xs.length=o by omega,Nat.add_assoc,setAt_app r]
theorem setAt_all:∀(us us0 ys:List Value),us0.length=us.length→setAt (us0++ys) 0 us=us++ys
 |[],us0,ys,h=>by cases us0 with
  |nil=>rfl
  |cons a r=>simp at h
 |u::r,[],ys,h=>by simp at h
 |u::r,a::t,ys,h=>by
  show setAt ((a::(t++ys)).set 0 u) (0+1) r=u::(r++ys)
  have:=setAt_app r [u] (t++ys) 0
  rw[setAt_all r t ys (by simpa using h)] at this
  exact this
section
variable {P:Program} {n:Nat} {L:FL} {w0:World} {H HS:List Hl} {Q:Exit→Act→World→Prop} {ops:Array Oper} {rest:List Oper} {ord:List Mv} {i:Nat} {ty:TypeId} {pos:String} {af:Array Edge} {gd:Option (Nat×Bool)} {x y:Operand} {t e:TypeId} {α:Type} {f:α→List Value} {s:Nat} {l:List α} {v:Value} {m:Int}
theorem flat_setAt (hf:∀a,(f a).length=s):∀(l:List α) (m:Nat) (b:α),m<l.length→setAt (l.flatMap f) (m*s) (f b)=(l.set m b).flatMap f
 |[],m,b,h=>by simp at h
 |a::r,0,b,h=>by
  rw[Nat.zero_mul,List.flatMap_cons,List.set_cons_zero,List.flatMap_cons]
  exact setAt_all (f b) (f a) _ (by rw[hf,hf])
 |a::r,m+1,b,h=>by
  rw[List.flatMap_cons,List.set_cons_succ,List.flatMap_cons,Nat.succ_mul,Nat.add_comm,←hf a,setAt_app,hf a,flat_setAt hf r m b (by simpa using h)]
theorem own_setAt {base g cap nl:Nat} : ∀(us xs:List Value) (o:Nat) (w:World),w.ownsRow base e s (.slice (some ⟨g,0,none⟩) nl cap) nl xs→(w.setCells g o us).ownsRow base e s (.slice (some ⟨g,0,none⟩) nl cap) nl (setAt xs o us)∧w.grownBy (w.setCells g o us) (some g)
 |[],xs,o,w,h=>⟨h,World.grownBy.refl w _⟩
 |u::r,xs,o,w,h=>by
  obtain⟨h1,h2⟩:=h.stored o u
  obtain⟨h3,h4⟩:=own_setAt r (xs.set o u) (o+1) _ h1
  exact⟨h3,h2.trans h4⟩
theorem x_storeElRow [Inhabited α] {b:α} {H':List Hl} (hx:evO L x=some (elA v s m 0)) (hy:evO L y=some (.agg (f b).toArray)) (hu1:(f b).all (·.oneCell')=true) (hu:Upd (Hl.rw v e f s l) (Hl.rw v e f s (l.set m.toNat b)) H H') (hm:0≤m∧m<l.length)
  (hf:∀a,(f a).length=s) (hs0:Nat.blt 0 s=true) (hs:rowB P t s=true) :
  EX P n L w0 H ⟨none,.store t x y,ty,pos,af,gd⟩ (fun _:Unit=>True) (fun _=>L) (fun _=>H') :=
 EX.of_skip fun a w ha hw=>by
  have hc':0<s:=by simpa [Nat.blt_eq] using hs0
  have hown:w.ownsRow w0.heap.size e s v l.length (l.flatMap f):=hw.all _ hu.mem
  obtain⟨ad,cap,rfl,hcell⟩:=(RdT.rw hu.mem).at_ hf hm (by omega) hw
  rcases hown.2 with ⟨h',_⟩|⟨g,cap',cur,h',hb',hg,hnc,hcm,hcs,htake⟩
  ·simp at h'
  ·simp only[Value.slice.injEq,Option.some.injEq] at h'
   obtain⟨rfl,_,rfl⟩:=h'
   have hlb:=hf b
   have hj:m.toNat*s+s≤l.length*s:=by
    have h2:(m.toNat+1)*s≤l.length*s:=Nat.mul_le_mul_right _ (by omega)
    rwa [Nat.succ_mul] at h2
   have hlen:=flat_len hf l
   have hadd:(⟨g,0,none⟩:Addr).add (m.toNat*s)=⟨g,m.toNat*s,none⟩:=by unfold Addr.add;split<;>simp_all
   have hst:=own_setAt (f b) (l.flatMap f) (m.toNat*s) w hown
   rw[flat_setAt hf l m.toNat b (by omega)] at hst
   have hrun:=run_storeCells_cells (P:=P) g (m.toNat*s) (f b) 0 w (fun j hj'=>by
     have hold:w.cell? ⟨g,m.toNat*s+0+j,none⟩=(l.flatMap f)[m.toNat*s+0+j]?:=hown.cellAt _ (by omega)
     rw[hold,List.getElem?_eq_getElem (by omega)];rfl) (fun j _=>hown.frozenAt _) (fun u hu=>List.all_eq_true.1 hu1 u hu)
   refine⟨w.setCells g (m.toNat*s) (f b),(),by simp[execOp,ha.eval hx,ha.eval hy,elA,Instr.storeAt,Instr.sureAddr,storeVar,Value.cells,run_sizeOf_of (info_of_rowB hs),hlb,hadd,hrun],trivial,rfl,?_⟩
   refine hw.turn hu rfl hst.2 ?_ fun b hb=>.inl hb
   show World.ownsRow _ _ _ _ _ _ _
   rw[List.length_set]
   exact hst.1
theorem RS.storeElRow [Inhabited α] {b:α} {H':List Hl} (h:RS P ops Q n L w0 H' rest) (hx:evO L x=some (elA v s m 0)) (hy:evO L y=some (.agg (f b).toArray)) (hu1:(f b).all (·.oneCell')=true) (hu:Upd (Hl.rw v e f s l) (Hl.rw v e f s (l.set m.toNat b)) H H') (hm:0≤m∧m<l.length)
  (hf:∀a,(f a).length=s) (hs0:Nat.blt 0 s=true) (hs:rowB P t s=true) :
  RS P ops Q n L w0 H (⟨none,.store t x y,ty,pos,af,none⟩::rest):=RS.actX rfl (x_storeElRow hx hy hu1 hu hm hf hs0 hs) fun _ _=>h
end
/-! ### Regions that draw their order and store: what reads memory comes up before the stores; what reads none may come up behind them -/
def freeB (o:Oper):Bool:=match o.op with
 |.move _|.assign _|.indexAddr ..|.fieldAddr ..|.extract ..|.binOp ..=>true
 |_=>false
def lateF (md:Region.Mode) (ops:Array Oper) (j:Nat):Bool:=(List.range ops.size).all fun i=>i==j||Region.waitsFor md ops j i||!((ops[i]?).map fun o=>pureB o&&!freeB o).getD false
section
variable {P:Program} {ops:Array Oper} {md:Region.Mode} {S:World→Prop} {Q:Exit→Act→World→Prop}
def wpAnyF (P:Program) (md:Region.Mode) (ops:Array Oper) (Q:Exit→Act→World→Prop) (S:World→Prop):Nat→Array Bool→Act→World→Prop
 |0,listed,a,w=>Region.ready md ops listed=[]∧Q .normal a w
 |f+1,listed,a,w=>(Region.ready md ops listed=[]→Q .normal a w) ∧
  ∀i∈Region.ready md ops listed,wpOp P ops Q i (fun a' w'=>(lateF md ops i=false→S w→S w')∧wpAnyF P md ops Q S f (listed.setIfInBounds i true) a' w') a w
theorem wpAny_of_F:∀(f:Nat) (listed:Array Bool) (a:Act) (w:World),wpAnyF P md ops Q S f listed a w→wpAny P md ops Q f listed a w
 |0,_,_,_,h=>h
 |f+1,_,_,_,h=>⟨h.1,fun i hi=>wpOp_mono (fun a' w' h'=>wpAny_of_F f _ a' w' h'.2) (h.2 i hi)⟩
theorem lateF_waits {i j:Nat} {oi:Oper} (hi:ops[i]?=some oi) (hp:pureB oi=true) (hq:freeB oi=false) (hne:i≠j) (hl:lateF md ops j=true):Region.waitsFor md ops j i=true:=by
 have hlt:i<ops.size:=(Array.getElem?_eq_some_iff.1 hi).1
 have:=List.all_eq_true.1 hl i (List.mem_range.2 hlt)
 simpa [hi,hp,hq,hne] using this
theorem wpAnyF_read {i:Nat} {oi:Oper} {v:Value} (hi:ops[i]?=some oi) (hp:pureB oi=true) (hq:freeB oi=false) (hsel:∀(j:Nat) (o:Oper) cs b,ops[j]?=some o→o.op≠.select cs b) (hQ:∀c a w,¬Q (.panic c) a w) :
  ∀(f:Nat) (listed:Array Bool) (a:Act) (w:World),
   (∀j oj,ops[j]?=some oj→j≠i→listed.getD j true=false→(∀e∈oj.after,Region.binds md e=true→e.on≠i)→oi.apart ops oj=true) →
   i∈Region.ready md ops listed→YS P ops S oi v a→S w →
   wpAnyF P md ops Q S f (listed.setIfInBounds i true) (a.put oi.dst v) w→wpAnyF P md ops Q S (f+1) listed a w
 |0,listed,a,w,_,hr,hy,hS,hK=>by
  refine⟨fun h=>(by rw[h] at hr;cases hr),fun j hj=>?_⟩
  by_cases e:j=i
  ·subst e;exact hy.wpOp hi hS ⟨fun _ h=>h,hK⟩
  ·have:=ready_mono hj e
   rw[hK.1] at this
   cases this
 |f+1,listed,a,w,hfree,hr,hy,hS,hK=>by
  refine⟨fun h=>(by rw[h] at hr;cases hr),fun j hj=>?_⟩
  by_cases e:j=i
  ·subst e;exact hy.wpOp hi hS ⟨fun _ h=>h,hK⟩
  ·obtain⟨hju,oj,hoj,hall⟩:=mem_ready.1 hj
   have hiu:=getD_both (mem_ready.1 hr).1
   have hnot:∀e∈oj.after,Region.binds md e=true→e.on≠i:=fun e he hb heq=>by
    have h1:=hall e he hb
    rw[heq,hiu] at h1
    cases h1
   have hnl:lateF md ops j=false:=by
    cases hl:lateF md ops j with
    |false=>rfl
    |true =>
     obtain⟨o',ho',e',he',hb',hon⟩:=Region.waitsFor_spec (lateF_waits hi hp hq (Ne.symm e) hl)
     have:o'=oj:=Option.some.inj (ho'.symm.trans hoj)
     subst this
     exact absurd hon (hnot e' he' hb')
   have h2:=wpOp_putS hoj (hfree j oj hoj e hju hnot) (fun cs b=>hsel i oi cs b hi) (fun cs b=>hsel j oj cs b hoj) hQ hy (hK.2 j (ready_mono hj e))
   refine wpOp_mono (fun a' w' h3=>⟨h3.2.1,wpAnyF_read hi hp hq hsel hQ f _ a' w' ?_ (ready_mono hr (Ne.symm e)) h3.1 (h3.2.1 hnl hS) ?_⟩) h2
   ·intro k ok hk hki hku hno
    refine hfree k ok hk hki ?_ hno
    by_cases hjk:j=k
    ·subst hjk;exact hju
    ·rwa [getD_set_ne true hjk] at hku
   ·rw[Array.setIfInBounds_comm _ _ e]
    exact h3.2.2
theorem wpAnyF_free {i:Nat} {oi:Oper} {v:Value} (hi:ops[i]?=some oi) (hsel:∀(j:Nat) (o:Oper) cs b,ops[j]?=some o→o.op≠.select cs b) (hQ:∀c a w,¬Q (.panic c) a w) :
  ∀(f:Nat) (listed:Array Bool) (a:Act) (w:World),
   (∀j oj,ops[j]?=some oj→j≠i→listed.getD j true=false→(∀e∈oj.after,Region.binds md e=true→e.on≠i)→oi.apart ops oj=true) →
   i∈Region.ready md ops listed→YS P ops (fun _=>True) oi v a →
   wpAnyF P md ops Q S f (listed.setIfInBounds i true) (a.put oi.dst v) w→wpAnyF P md ops Q S (f+1) listed a w
 |0,listed,a,w,_,hr,hy,hK=>by
  refine⟨fun h=>(by rw[h] at hr;cases hr),fun j hj=>?_⟩
  by_cases e:j=i
  ·subst e;exact hy.wpOp hi trivial ⟨fun _ h=>h,hK⟩
  ·have:=ready_mono hj e
   rw[hK.1] at this
   cases this
 |f+1,listed,a,w,hfree,hr,hy,hK=>by
  refine⟨fun h=>(by rw[h] at hr;cases hr),fun j hj=>?_⟩
  by_cases e:j=i
  ·subst e;exact hy.wpOp hi trivial ⟨fun _ h=>h,hK⟩
  ·obtain⟨hju,oj,hoj,hall⟩:=mem_ready.1 hj
   have hiu:=getD_both (mem_ready.1 hr).1
   have hnot:∀e∈oj.after,Region.binds md e=true→e.on≠i:=fun e he hb heq=>by
    have h1:=hall e he hb
    rw[heq,hiu] at h1
    cases h1
   have h2:=wpOp_putS hoj (hfree j oj hoj e hju hnot) (fun cs b=>hsel i oi cs b hi) (fun cs b=>hsel j oj cs b hoj) hQ hy (hK.2 j (ready_mono hj e))
   refine wpOp_mono (fun a' w' h3=>⟨h3.2.1,wpAnyF_free hi hsel hQ f _ a' w' ?_ (ready_mono hr (Ne.symm e)) h3.1 ?_⟩) h2
   ·intro k ok hk hki hku hno
    refine hfree k ok hk hki ?_ hno
    by_cases hjk:j=k
    ·subst hjk;exact hju
    ·rwa [getD_set_ne true hjk] at hku
   ·rw[Array.setIfInBounds_comm _ _ e]
    exact h3.2.2
theorem wp_region_F {id:Nat} {a:Act} {w:World} {l:List Oper} (hm:P.follows .mixedOrders=true) (h:wpAnyF P .any l.toArray (Calm Q) S l.length (Array.replicate l.length false) a w.drew):(Code.region id l.toArray true).wp P Q a w:=by
 refine Code.wp_mono Calm.out (wp_region_any hm (wpAny_of_F (S:=S) _ _ _ _ ?_))
 simpa using h
end
section
variable {P:Program} {n:Nat} {L:FL} {w0:World} {H HS:List Hl} {Q:Exit→Act→World→Prop} {ops:Array Oper} {ord:List Mv} {i d:Nat} {ty:TypeId} {pos:String} {af:Array Edge} {gd:Option (Nat×Bool)} {x y:Operand} {t e:TypeId} {α:Type} {f:α→List Value} {s:Nat} {l:List α} {v:Value} {m:Int} {o:Oper} {op:Op}
def RF (P:Program) (ops:Array Oper) (Q:Exit→Act→World→Prop) (HS:List Hl) (n:Nat) (L:FL) (w0:World) (H:List Hl) (ord:List Mv):Prop :=
 ∀l0,mixedB .any ops ord [] l0=true→Region.noSelect ops=true→∀f a w,cnt l0≤f→Fr n L a→St w0 H w→wpAnyF P .any ops (Calm Q) (St w0 HS) f l0 a w
def VFr (P:Program) (n:Nat) (L:FL) (w0:World) (H:List Hl) (o:Oper) (v:Value):Prop:=∀w,St w0 H w→∀a w',Fr n L a→(execOp a.eval o).run P w'=.ok (.value v) w'
theorem RF.step (h:RF P ops Q HS n ((d,v)::L) w0 H ord) (ho:ops[i]?=some ⟨some d,op,ty,pos,af,none⟩:=by rfl) (hp:(pureB ⟨some d,op,ty,pos,af,none⟩&&!freeB ⟨some d,op,ty,pos,af,none⟩)=true:=by rfl) (hs:∀w,St w0 H w→St w0 HS w) (hy:V P n L w0 HS ⟨some d,op,ty,pos,af,none⟩ v) (hd:Nat.blt d n=true:=by rfl) :
  RF P ops Q HS n L w0 H (.go i::ord):=by
 intro l0 hB hsel f a w hf ha hw
 simp only[Bool.and_eq_true,Bool.not_eq_true'] at hp
 simp only[mixedB,ho,hp.1,if_true,Bool.and_eq_true,Bool.not_eq_true',List.contains_iff_mem] at hB
 obtain⟨⟨⟨⟨hr,hni⟩,hds⟩,hfr,_⟩,hB⟩:=hB
 obtain⟨g,rfl,hg⟩:=cnt_ready hf hr
 refine wpAnyF_read ho hp.1 hp.2 (Region.noSelect_spec hsel) (fun c a w h=>h) g l0 a w (Region.free_spec ho hfr) hr (.inl ⟨rfl,fun w hw=>by unfold V at hy;exact hy a w ha hw⟩) (hs w hw) ?_
 exact h _ hB hsel g _ _ hg (ha.put (by simpa [Nat.blt_eq] using hd)) hw
theorem RF.free (h:RF P ops Q HS n ((d,v)::L) w0 H ord) (ho:ops[i]?=some ⟨some d,op,ty,pos,af,none⟩:=by rfl) (hp:pureB ⟨some d,op,ty,pos,af,none⟩=true:=by rfl) (hy:VFr P n L w0 H ⟨some d,op,ty,pos,af,none⟩ v) (hd:Nat.blt d n=true:=by rfl) :
  RF P ops Q HS n L w0 H (.go i::ord):=by
 intro l0 hB hsel f a w hf ha hw
 simp only[mixedB,ho,hp,if_true,Bool.and_eq_true,Bool.not_eq_true',List.contains_iff_mem] at hB
 obtain⟨⟨⟨⟨hr,hni⟩,hds⟩,hfr,_⟩,hB⟩:=hB
 obtain⟨g,rfl,hg⟩:=cnt_ready hf hr
 refine wpAnyF_free ho (Region.noSelect_spec hsel) (fun c a w h=>h) g l0 a w (Region.free_spec ho hfr) hr (.inl ⟨rfl,fun w' _=>hy w hw a w' ha⟩) ?_
 exact h _ hB hsel g _ _ hg (ha.put (by simpa [Nat.blt_eq] using hd)) hw
theorem RF.act {L':FL} {H':List Hl} (h:RF P ops Q HS n L' w0 H' ord) (ho:ops[i]?=some o) (hp:pureB o=false) (hg:o.guard=none) (he:EX P n L w0 H o (fun _:Unit=>True) (fun _=>L') (fun _=>H')) (hl:lateF .any ops i=true):RF P ops Q HS n L w0 H (.go i::ord):=by
 intro l0 hB hsel f a w hf ha hw
 simp only[mixedB,ho,hp,Bool.false_eq_true,if_false,Bool.and_eq_true,List.contains_iff_mem,subsB] at hB
 obtain⟨⟨⟨⟨hr,hni⟩,hds⟩,hso⟩,hB⟩:=hB
 obtain⟨g,rfl,hgc⟩:=cnt_ready hf hr
 refine⟨fun e=>(by rw[e] at hr;cases hr),fun k hk=>?_⟩
 have h3:=List.all_eq_true.1 hso k hk
 simp only[List.contains_nil,Bool.or_false,beq_iff_eq] at h3
 subst h3
 unfold wpOp
 rw[ho]
 simp only[Region.wanted,hg,if_true]
 refine .inl (he a w ha hw _ _ fun a' w' ⟨_,_,ha',hw'⟩=>⟨fun hl'=>(by rw[hl] at hl';cases hl'),h _ hB hsel g a' w' hgc ha' hw'⟩)
theorem RF.call (h:RF P ops Q HS n ((d,v)::L) w0 H ord) (ho:ops[i]?=some ⟨some d,op,ty,pos,af,none⟩:=by rfl) (hp:pureB ⟨some d,op,ty,pos,af,none⟩=false:=by rfl) (hs:∀w,St w0 H w→St w0 HS w) (hy:Y P n L w0 H ⟨some d,op,ty,pos,af,none⟩ v) (hd:Nat.blt d n=true:=by rfl) :
  RF P ops Q HS n L w0 H (.go i::ord):=by
 intro l0 hB hsel f a w hf ha hw
 simp only[mixedB,ho,hp,Bool.false_eq_true,if_false,Bool.and_eq_true,List.contains_iff_mem,subsB] at hB
 obtain⟨⟨⟨⟨hr,hni⟩,hds⟩,hso⟩,hB⟩:=hB
 obtain⟨g,rfl,hgc⟩:=cnt_ready hf hr
 refine⟨fun e=>(by rw[e] at hr;cases hr),fun k hk=>?_⟩
 have h3:=List.all_eq_true.1 hso k hk
 simp only[List.contains_nil,Bool.or_false,beq_iff_eq] at h3
 subst h3
 unfold wpOp
 rw[ho]
 simp only[Region.wanted,if_true]
 exact .inl (wp_of_Y hy ha hw fun w' hw'=>⟨fun _ _=>hs _ (hw.step hw'),h _ hB hsel g _ w' hgc (ha.put (by simpa [Nat.blt_eq] using hd)) (hw.step hw')⟩)
theorem RF.finish (h:X Q n L w0 H .normal):RF P ops Q HS n L w0 H []:=by
 unfold X at h
 intro l0 hB hsel f a w hf ha hw
 simp only[mixedB,Bool.and_eq_true,List.isEmpty_iff] at hB
 cases f with
 |zero=>exact⟨hB.2,h a w ha hw⟩
 |succ f=>exact⟨fun _=>h a w ha hw,fun k hk=>by rw[hB.2] at hk;cases hk⟩
theorem G.mixedF (id:Nat) (ord:List Mv) (HS:List Hl) {l:List Oper} (h:RF P l.toArray Q HS n L w0 H ord) (hm:P.follows .mixedOrders=true:=by decide +kernel) (hB:regionB l ord=true:=by decide +kernel):G P Q n L w0 H (.region id l.toArray true):=by
 unfold G
 intro a w ha hw
 simp only[regionB,Bool.and_eq_true] at hB
 refine wp_region_F (S:=St w0 HS) hm (h _ hB.2 hB.1 _ a w.drew ?_ ha hw.drew)
 refine Nat.le_trans (List.length_filter_le _ _) ?_
 simp
theorem vf_indexAddr {k:IntKind} (hx:evO L x=some v) (hy:evO L y=some (.int k m)) (h:RdT H v f s l) (hf:∀a,(f a).length=s) (hm:0≤m∧m<l.length) (hs:Nat.blt 0 s=true) (ht:sliceB P t s=true) :
  VFr P n L w0 H ⟨some d,.indexAddr t x y,ty,pos,af,gd⟩ (elA v s m 0):=fun w hw a w' ha=>by
 obtain⟨hl,A,c,rfl,_,hc,_⟩:=h _ _ hw
 obtain⟨e,i,hu,hi,rfl⟩:=sliceB_spec ht
 have hs':0<i.size:=by simpa [Nat.blt_eq] using hs
 obtain⟨ad,rfl,_⟩:=hc (flat_ne hf hs' hm)
 simp[execOp,ha.eval hx,ha.eval hy,Instr.indexAt,asIntOf,run_underlying hu,hm.1,hm.2,sizeOf,typeInfo,hi,elA]
theorem vf_of (h:∀w0,V P n L w0 [] o v):VFr P n L w0 H o v:=fun w _ a w' ha=>by
 have:=h w'
 unfold V at this
 exact this a w' ha ⟨Below.refl _ _,fun _ h=>(by cases h),trivial⟩
def VFrK (P:Program) (n:Nat) (L:FL) (w0:World) (H:List Hl) (o:Oper) (K:Value→Prop):Prop:=∃v,VFr P n L w0 H o v∧K v
theorem VFrK.mk {K:Value→Prop} (hy:VFr P n L w0 H o v) (h:K v):VFrK P n L w0 H o K:=⟨v,hy,h⟩
theorem RF.stepK (ho:ops[i]?=some ⟨some d,op,ty,pos,af,none⟩) (hp:(pureB ⟨some d,op,ty,pos,af,none⟩&&!freeB ⟨some d,op,ty,pos,af,none⟩)=true) (hd:Nat.blt d n=true) (hs:∀w,St w0 H w→St w0 HS w) (h:VK P n L w0 HS ⟨some d,op,ty,pos,af,none⟩ fun v=>RF P ops Q HS n ((d,v)::L) w0 H ord) :
  RF P ops Q HS n L w0 H (.go i::ord):=by
 unfold VK at h
 obtain⟨v,h1,h2⟩:=h
 exact RF.step h2 ho hp hs h1 hd
theorem RF.freeK (ho:ops[i]?=some ⟨some d,op,ty,pos,af,none⟩) (hp:(pureB ⟨some d,op,ty,pos,af,none⟩&&freeB ⟨some d,op,ty,pos,af,none⟩)=true) (hd:Nat.blt d n=true) (h:VFrK P n L w0 H ⟨some d,op,ty,pos,af,none⟩ fun v=>RF P ops Q HS n ((d,v)::L) w0 H ord) :
  RF P ops Q HS n L w0 H (.go i::ord):=by
 obtain⟨v,h1,h2⟩:=h
 exact RF.free h2 ho (by simp only[Bool.and_eq_true] at hp;exact hp.1) h1 hd
theorem RF.callK (ho:ops[i]?=some ⟨some d,op,ty,pos,af,none⟩) (hp:pureB ⟨some d,op,ty,pos,af,none⟩=false) (_hr:steadyB ⟨some d,op,ty,pos,af,none⟩=true) (hd:Nat.blt d n=true) (hs:∀w,St w0 H w→St w0 HS w) (h:YK P n L w0 H ⟨some d,op,ty,pos,af,none⟩ fun v=>RF P ops Q HS n ((d,v)::L) w0 H ord) :
  RF P ops Q HS n L w0 H (.go i::ord):=by
 unfold YK at h
 obtain⟨v,h1,h2⟩:=h
 exact RF.call h2 ho hp hs h1 hd
theorem RF.storeA {b k:Nat} {cs:List Value} {H':List Hl} {u:Value} {t':TypeId} (ho:ops[i]?=some ⟨none,.store t x y,ty,pos,af,none⟩) (hx:evO L x=some (.pointer (some ⟨b,k,none⟩))) (hy:evO L y=some u) (hu:u.oneCell'=true)
  (hm:Upd (.blk b t' cs) (.blk b t' (cs.set k u)) H H') (hi:Nat.blt k cs.length=true) (hs:scalarB P t=true) (hl:lateF .any ops i=true) (h:RF P ops Q HS n L w0 H' ord) :
  RF P ops Q HS n L w0 H (.go i::ord):=RF.act h ho rfl rfl (x_store hx hy hu hm hi hs) hl
theorem RF.storeEl [Inhabited α] {b:α} {H':List Hl} (ho:ops[i]?=some ⟨none,.store t x y,ty,pos,af,none⟩) (hx:evO L x=some (elA v s m 0)) (hy:evO L y=some (.agg (f b).toArray)) (hu1:(f b).all (·.oneCell')=true) (hu:Upd (Hl.rw v e f s l) (Hl.rw v e f s (l.set m.toNat b)) H H') (hm:0≤m∧m<l.length)
  (hf:∀a,(f a).length=s) (hs0:Nat.blt 0 s=true) (hs:rowB P t s=true) (hl:lateF .any ops i=true) (h:RF P ops Q HS n L w0 H' ord) :
  RF P ops Q HS n L w0 H (.go i::ord):=RF.act h ho rfl rfl (x_storeElRow hx hy hu1 hu hm hf hs0 hs) hl
theorem G.mixedFH (id:Nat) (ord:List Mv) {l:List Oper} (h:RF P l.toArray Q H n L w0 H ord) (hm:P.follows .mixedOrders=true:=by decide +kernel) (hB:regionB l ord=true:=by decide +kernel):G P Q n L w0 H (.region id l.toArray true):=G.mixedF id ord H h hm hB
end
attribute [irreducible] RF VFrK
theorem nxVF {p q:Prop} (h:q) (s:q→p:=by intro h;(show VFrK _ _ _ _ _ _ _);first
 |exact VFrK.mk (vf_of fun _=>vAuto) h
 |(apply VFrK.mk;(case hy=>apply vf_indexAddr;(case hx=>rfl);(case hy=>rfl);(case h=>exact rdA);(case hf=>exact fun _=>rfl);(case hm=>clear h;exact omlA);(case hs=>rfl);(case ht=>decide +kernel));(case h=>exact h))):p:=s h
theorem nxRF {p q:Prop} (h:q) (s:q→p:=by intro h;(show RF _ _ _ _ _ _ _ _ _);first
 |(apply RF.freeK;(case ho=>exact rfl);(case hp=>exact rfl);(case hd=>exact rfl);(case h=>exact h))
 |(apply RF.stepK;(case ho=>exact rfl);(case hp=>exact rfl);(case hd=>exact rfl);(case hs=>exact subA);(case h=>exact h))
 |(apply RF.callK;(case ho=>exact rfl);(case hp=>exact rfl);(case _hr=>exact rfl);(case hd=>exact rfl);(case hs=>exact subA);(case h=>exact h))
 |(apply RF.storeA;(case ho=>rfl);(case hx=>rfl);(case hy=>rfl);(case hu=>rfl);(case hm=>exact updA);(case hi=>rfl);(case hs=>decide +kernel);(case hl=>decide +kernel);(case h=>exact h))
 |(apply RF.storeRowA;(case ho=>rfl);(case hx=>rfl);(case hy=>rfl);(case hu=>rfl);(case hm=>exact updA);(case hlc=>(repeat(first|exact .nil|apply LenIs.cons)));(case hl2=>(repeat(first|exact .nil|apply LenIs.cons)));(case hs=>decide +kernel);(case hl=>decide +kernel);(case h=>exact h))
 |(apply RF.finish;exact h)):p:=s h
end Go.Proofs.YtjmdeplmenbmmaaGreatDoor
set_option maxHeartbeats 8000000
namespace Go.Proofs.YtjmdeplmenbmmaaGreatDoor
open Go.RowKit
section
variable {P:Program} {n:Nat} {L:FL} {w0:World} {H:List Hl} {d:Option Tmp} {ty:TypeId} {pos:String} {af:Array Edge} {g:Option (Nat×Bool)} {x y:Operand} {t t':TypeId} {k':IntKind}
theorem y_shrA {m j a:Nat} {c:Int} (hx:evO L x=some (.int .i64 (m:Int))) (hy:evO L y=some (.int k' c)) (hc:c=(j:Int)) (hj:j≤64) (ha:m/2^j=a):V P n L w0 H ⟨d,.binOp .shr t x y t',ty,pos,af,g⟩ (.int .i64 (a:Int)):=by
 subst hc
 have h:=y_shr (P:=P) (n:=n) (w0:=w0) (H:=H) (d:=d) (ty:=ty) (pos:=pos) (af:=af) (g:=g) (t:=t) (t':=t') (q:=((2^j:Nat):Int)) hx hy (by omega) (by show (2:Int)^(min (j:Int).toNat 64)=_;rw[Int.toNat_natCast,Nat.min_eq_left hj];simp)
 rw[←ha]
 exact h
theorem y_shlA {m j a:Nat} {c:Int} (hx:evO L x=some (.int .i64 (m:Int))) (hy:evO L y=some (.int k' c)) (hc:c=(j:Int)) (hj:j≤64) (ha:m*2^j=a) (hb:a≤4611686018427387904):V P n L w0 H ⟨d,.binOp .shl t x y t',ty,pos,af,g⟩ (.int .i64 (a:Int)):=by
 subst hc
 have e:(m:Int)*((2^j:Nat):Int)=(a:Int):=by rw[←ha];simp
 exact y_shl (q:=((2^j:Nat):Int)) hx hy (by omega) (by show (2:Int)^(min (j:Int).toNat 64)=_;rw[Int.toNat_natCast,Nat.min_eq_left hj];simp) (by rw[e];exact IntWalk.i64_in _ (by omega))
theorem and_low {a k:Nat} (h:a≤4611686018427387904) (hk:2^k≤4611686018427387904):bits .and .i64 (a:Int) ((2^k-1:Nat):Int)=((a%2^k:Nat):Int):=by
 have e:∀m:Nat,m<18446744073709551616→(BitVec.ofInt 64 (m:Int)).toNat=m:=fun m hm=>by
  rw[BitVec.toNat_ofInt]
  have:=Int.emod_eq_of_lt (a:=(m:Int)) (b:=((2^64:Nat):Int)) (by omega) (by omega)
  omega
 have h0:=Nat.mod_le a (2^k)
 have h1:(BitVec.ofInt 64 (a:Int) &&& BitVec.ofInt 64 ((2^k-1:Nat):Int)).toNat=a%2^k:=by
  rw[BitVec.toNat_and,e _ (by omega),e _ (by omega)]
  exact Nat.and_two_pow_sub_one_eq_mod a k
 show IntKind.i64.wrap ((BitVec.ofInt 64 (a:Int) &&& BitVec.ofInt 64 ((2^k-1:Nat):Int)).toNat:Int)=_
 rw[h1,IntWalk.i64_in _ (by omega)]
theorem y_and1 {a:Nat} (hx:evO L x=some (.int .i64 (a:Int))) (hy:evO L y=some (.int .i64 1)) (h:a≤4611686018427387904):V P n L w0 H ⟨d,.binOp .and t x y t',ty,pos,af,g⟩ (.int .i64 ((a%2:Nat):Int)):=by
 have:=y_band (P:=P) (n:=n) (w0:=w0) (H:=H) (d:=d) (ty:=ty) (pos:=pos) (af:=af) (g:=g) (t:=t) (t':=t') hx hy
 have e:bits .and .i64 (a:Int) 1=((a%2:Nat):Int):=and_low (k:=1) h (by decide)
 rwa [e] at this
theorem y_and3 {a:Nat} (hx:evO L x=some (.int .i64 (a:Int))) (hy:evO L y=some (.int .i64 3)) (h:a≤4611686018427387904):V P n L w0 H ⟨d,.binOp .and t x y t',ty,pos,af,g⟩ (.int .i64 ((a%4:Nat):Int)):=by
 have:=y_band (P:=P) (n:=n) (w0:=w0) (H:=H) (d:=d) (ty:=ty) (pos:=pos) (af:=af) (g:=g) (t:=t) (t':=t') hx hy
 have e:bits .and .i64 (a:Int) 3=((a%4:Nat):Int):=and_low (k:=2) h (by decide)
 rwa [e] at this
theorem y_orA {a b c:Nat} (hx:evO L x=some (.int .i64 (a:Int))) (hy:evO L y=some (.int .i64 (b:Int))) (h:a ||| b=c) (h1:a≤4611686018427387904) (h2:b≤4611686018427387904) (h3:c≤4611686018427387904):V P n L w0 H ⟨d,.binOp .or t x y t',ty,pos,af,g⟩ (.int .i64 (c:Int)):=by
 have:=y_bor (P:=P) (n:=n) (w0:=w0) (H:=H) (d:=d) (ty:=ty) (pos:=pos) (af:=af) (g:=g) (t:=t) (t':=t') hx hy
 have e0:∀m:Nat,m<18446744073709551616→(BitVec.ofInt 64 (m:Int)).toNat=m:=fun m hm=>by
  rw[BitVec.toNat_ofInt]
  have:=Int.emod_eq_of_lt (a:=(m:Int)) (b:=((2^64:Nat):Int)) (by omega) (by omega)
  omega
 have e:bits .or .i64 (a:Int) (b:Int)=(c:Int):=by
  have h1:(BitVec.ofInt 64 (a:Int) ||| BitVec.ofInt 64 (b:Int)).toNat=c:=by
   rw[BitVec.toNat_or,e0 _ (by omega),e0 _ (by omega),h]
  show IntKind.i64.wrap ((BitVec.ofInt 64 (a:Int) ||| BitVec.ofInt 64 (b:Int)).toNat:Int)=_
  rw[h1,IntWalk.i64_in _ (by omega)]
 rwa [e] at this
end
abbrev spnV (a b:Int):Value:=.agg [.int .i64 a,.int .i64 b].toArray
theorem mc_bd {x:RR.CellT} (ok:RR.okC x) {j:Nat} (h:j≤x.lv):RR.mc (x.lv-j) (x.r/2^j) (x.c/2^j)<8589934592:=by
 obtain⟨h1,h2,h3⟩:=ok
 have e:2^x.lv=2^(x.lv-j)*2^j:=by rw[←Nat.pow_add];congr 1;omega
 have g1:x.r/2^j<2^(x.lv-j):=(Nat.div_lt_iff_lt_mul (Nat.pow_pos (by decide))).2 (by rw[←e];exact h2)
 have g2:x.c/2^j<2*2^(x.lv-j):=(Nat.div_lt_iff_lt_mul (Nat.pow_pos (by decide))).2 (by rw[Nat.mul_assoc,←e];exact h3)
 have g3:=RR.mc_lt _ _ _ g1 g2
 have g4:4^(x.lv-j)≤4^16:=Nat.pow_le_pow_right (by decide) (by omega)
 omega
theorem sz_two {lv:Nat} (h:lv≤16):1*2^(2*(16-lv))=RR.sz lv:=by
 unfold RR.sz
 rw[Nat.one_mul,Nat.pow_mul]
theorem sz_bd (lv:Nat):1≤RR.sz lv∧RR.sz lv≤4294967296:=by
 refine⟨RR.sz_pos lv,?_⟩
 have:RR.sz lv≤4^16:=Nat.pow_le_pow_right (by decide) (by omega)
 omega
theorem okC_bd {x:RR.CellT} (ok:RR.okC x):x.lv≤16∧x.r<65536∧x.c<131072:=by
 obtain⟨h1,h2,h3⟩:=ok
 have g:2^x.lv≤2^16:=Nat.pow_le_pow_right (by decide) h1
 omega
theorem spanOf_c {x:RR.CellT} (ok:RR.okC x):Cont Tryz.prog 205 [celV x.lv x.r x.c] (spnV (RR.fr x) (RR.to x)):=fun w=>by
 have hbd:=okC_bd ok
 have hsp:=RR.okC_span ok
 have hs:=sz_two hbd.1
 have hsb:=sz_bd x.lv
 have hc0:x.c/2^x.lv=x.c/2^x.lv:=rfl
 generalize hA:x.c/2^x.lv=a0 at hc0
 have hA2:a0≤131072:=by rw[←hA];exact Nat.le_trans (Nat.div_le_self _ _) (by omega)
 refine enter0 Tryz.func205 rfl rfl rfl ?_
 repeat' (first|(show YK _ _ _ _ _ ⟨_,.binOp .shr _ _ _ _,_,_,_,_⟩ _;refine YK.ofV (y_shrA (m:=x.c) (j:=x.lv) (by rfl) (by rfl) (by omega) (by omega) hA) ?_)|(refine nxV ?_)|(refine nSS ?_)|(refine nS1 fun _=>?_)|(refine nxX ?_)|done)
 rename_i b1 b2
 have hM0:=fun j (h:j≤x.lv)=>mc_bd ok h
 refine G.loop (ι:=Nat) (fun j=>[(1,.pointer (some ⟨b1,0,none⟩)),(2,.pointer (some ⟨b2,0,none⟩)),(3,.int .i64 ((RR.mc (x.lv-j) (x.r/2^j) (x.c/2^j):Nat):Int)),(4,.int .i64 ((j:Int)-1))]) (fun _=>[Hl.blk b2 235 [.int .i64 0,.int .i64 0],Hl.blk b1 73 [.int .i64 x.lv,.int .i64 x.r,.int .i64 x.c]]) (fun j=>j≤x.lv) (fun j=>j) x.lv (Nat.le_refl _) ⟨rfl,rfl,(by rw[RR.mc_top,hA];rfl),rfl,trivial⟩ (by exact fun w h=>h.sub subS) ?_
 rintro j mx hj hmx
 have hM:=hM0 j hj
 cases j with
 |succ j =>
  have hd:=RR.mc_down (lv:=x.lv) (r:=x.r) (c:=x.c) (j:=j) (by omega)
  have hr1:x.r/2^j≤x.r:=Nat.div_le_self _ _
  have hc1:x.c/2^j≤x.c:=Nat.div_le_self _ _
  generalize hR:x.r/2^j=rr at *
  generalize hC:x.c/2^j=cc at *
  generalize RR.mc (x.lv-(j+1)) (x.r/2^(j+1)) (x.c/2^(j+1))=M at *
  repeat' (first|(show VK _ _ _ _ _ ⟨_,.binOp .shr _ _ _ _,_,_,_,_⟩ _;refine VK.mk (y_shrA (m:=x.r) (j:=j) (by rfl) (by rfl) (by omega) (by omega) hR) ?_)|(show VK _ _ _ _ _ ⟨_,.binOp .shr _ _ _ _,_,_,_,_⟩ _;refine VK.mk (y_shrA (m:=x.c) (j:=j) (by rfl) (by rfl) (by omega) (by omega) hC) ?_)|(show VK _ _ _ _ _ ⟨_,.binOp .and _ _ _ _,_,_,_,_⟩ _;refine VK.mk (y_and1 (a:=rr) (by rfl) (by rfl) (by omega)) ?_)|(show VK _ _ _ _ _ ⟨_,.binOp .and _ _ _ _,_,_,_,_⟩ _;refine VK.mk (y_and1 (a:=cc) (by rfl) (by rfl) (by omega)) ?_)|(refine nxV ?_)|(refine nSS ?_)|(refine nMM ?_)|(refine G.mA 5 [.go 0,.go 1,.go 2,.go 3,.go 4,.go 5,.go 6,.go 7,.go 8,.go 9,.go 10,.go 11,.go 12,.go 13,.go 14,.go 15] ?_)|(refine nxX ?_)|(refine G.cN rfl (fun hc=>?_) (fun hc=>?_)<;>(try first|exact hc.elim|(exfalso;omega))))
  refine X.again j (by omega) (by omega) ⟨rfl,rfl,?_,?_,trivial⟩ (by exact fun w h=>h.sub subS)
  ·rw[hR,hC,hd]
   exact congrArg (fun z=>some (Value.int .i64 z)) (by omega)
  ·exact congrArg (fun z=>some (Value.int .i64 z)) (by omega)
 |zero =>
  have e1:RR.mc (x.lv-0) (x.r/2^0) (x.c/2^0)=RR.mc x.lv x.r x.c:=by simp
  rw[e1] at hM ⊢
  have f1:((RR.mc x.lv x.r x.c:Nat):Int)*((RR.sz x.lv:Nat):Int)=((RR.fr x:Nat):Int):=by unfold RR.fr;simp
  have f2:(((RR.mc x.lv x.r x.c:Nat):Int)+1)*((RR.sz x.lv:Nat):Int)=((RR.to x:Nat):Int):=by unfold RR.to;simp
  have g1:RR.fr x<RR.to x:=hsp.1
  have g2:RR.to x≤8589934592:=hsp.2
  clear hsp
  generalize RR.fr x=A at *
  generalize RR.to x=B at *
  generalize RR.mc x.lv x.r x.c=M at *
  generalize RR.sz x.lv=S at *
  repeat' (first|(show YK _ _ _ _ _ ⟨_,.binOp .shl _ _ _ _,_,_,_,_⟩ _;refine YK.ofV (y_shlA (m:=1) (j:=2*(16-x.lv)) (by rfl) (by rfl) (by omega) (by omega) hs (by omega)) ?_)|(refine nxV ?_)|(refine nSS ?_)|(refine nxX ?_)|(refine G.cN rfl (fun hc=>?_) (fun hc=>?_)<;>(try first|exact hc.elim|(exfalso;omega))))
  refine X.ret (vs:=[_]) rfl ⟨⟨_,_,_,_,rfl,(by exact memA),lenA,by decide +kernel,rfl⟩,rfl⟩ rfl (fun w hw=>⟨?_,hw.ext⟩)
  dsimp only
  rw[f2,f1]
theorem cellOf_c {n lv:Nat} (hl:lv≤16) (hn:n<2*4^lv):Cont Tryz.prog 204 [.int .i64 (n:Int),.int .i64 (lv:Int)] (celV lv (RR.drow lv n) (RR.dcol lv n)):=fun w=>by
 have h4:4^lv≤4^16:=Nat.pow_le_pow_right (by decide) hl
 have hn2:n<8589934592:=by omega
 refine enter0 Tryz.func204 rfl rfl rfl ?_
 repeat' (first|(refine nxV ?_)|(refine nSS ?_)|(refine nS1 fun _=>?_)|(refine nxX ?_)|done)
 rename_i b1 b2
 refine G.loop (ι:=Nat) (fun k=>[(0,.int .i64 (n:Int)),(1,.int .i64 (lv:Int)),(4,.pointer (some ⟨b1,0,none⟩)),(5,.pointer (some ⟨b2,0,none⟩)),(10,.int .i64 (lv:Int)),(11,.int .i64 (k:Int))]) (fun k=>[Hl.blk b2 73 [.int .i64 lv,.int .i64 (RR.drow k n:Nat),.int .i64 (RR.dlow k n:Nat)],Hl.blk b1 73 [.int .i64 0,.int .i64 0,.int .i64 0]]) (fun k=>k≤lv) (fun k=>lv-k) 0 (Nat.zero_le _) ⟨rfl,rfl,rfl,rfl,rfl,rfl,trivial⟩ (by exact fun w h=>h.sub subS) ?_
 rintro k mx hk hmx
 (try dsimp only at hk hmx ⊢)
 have p1:=RR.drow_lt k n
 have p2:=RR.dlow_lt k n
 have p3:2^k≤2^16:=Nat.pow_le_pow_right (by decide) (by omega)
 rcases Nat.lt_or_ge k lv with hi|hi
 ·have s1:=RR.drow_step k n
  have s2:=RR.dlow_step k n
  have e4:n/2^(2*k)=n/4^k:=by rw[Nat.pow_mul]
  have hq:n/2^(2*k)≤n:=Nat.div_le_self _ _
  rw[←e4] at s1 s2
  generalize hQ:n/2^(2*k)=q at *
  have o1:=RR.or_up (b:=q%4/2) p1
  have o2:=RR.or_up (b:=q%4%2) p2
  rw[←s1] at o1
  rw[show q%4%2=q%2 by omega,←s2] at o2
  have t1:=RR.drow_lt (k+1) n
  have t2:=RR.dlow_lt (k+1) n
  have t3:2^(k+1)≤2^17:=Nat.pow_le_pow_right (by decide) (by omega)
  have u1:q%4/2*2^k≤65536:=by
   have:q%4/2*2^k≤1*2^k:=Nat.mul_le_mul_right _ (by omega)
   omega
  have u2:q%2*2^k≤65536:=by
   have:q%2*2^k≤1*2^k:=Nat.mul_le_mul_right _ (by omega)
   omega
  have e2:q%4%2=q%2:=by omega
  generalize hd1:q%4/2=d1 at *
  generalize hd2:q%2=d2 at *
  generalize hz1:d1*2^k=z1 at *
  generalize hz2:d2*2^k=z2 at *
  generalize RR.drow k n=A at *
  generalize RR.dlow k n=B at *
  generalize hA':RR.drow (k+1) n=A' at *
  generalize hB':RR.dlow (k+1) n=B' at *
  repeat' (first|(show YK _ _ _ _ _ ⟨_,.binOp .shr _ _ _ _,_,_,_,_⟩ _;refine YK.ofV (y_shrA (m:=n) (j:=2*k) (by rfl) (by rfl) (by omega) (by omega) hQ) ?_)|(show VFrK _ _ _ _ _ ⟨_,.binOp .shr _ _ _ _,_,_,_,_⟩ _;refine VFrK.mk (vf_of fun _=>y_shrA (m:=q%4) (j:=1) (by rfl) (by rfl) (by omega) (by omega) hd1) ?_)|(show YK _ _ _ _ _ ⟨_,.binOp .and _ _ _ _,_,_,_,_⟩ _;refine YK.ofV (y_and3 (a:=q) (by rfl) (by rfl) (by omega)) ?_)|(show VFrK _ _ _ _ _ ⟨_,.binOp .and _ _ _ _,_,_,_,_⟩ _;refine VFrK.mk (vf_of fun _=>y_and1 (a:=q%4) (by rfl) (by rfl) (by omega)) ?_)|(show VFrK _ _ _ _ _ ⟨_,.binOp .shl _ _ _ _,_,_,_,_⟩ _;refine VFrK.mk (vf_of fun _=>y_shlA (m:=d1) (j:=k) (by rfl) (by rfl) (by omega) (by omega) hz1 (by omega)) ?_)|(show VFrK _ _ _ _ _ ⟨_,.binOp .shl _ _ _ _,_,_,_,_⟩ _;refine VFrK.mk (vf_of fun _=>y_shlA (m:=q%4%2) (j:=k) (by rfl) (by rfl) (by omega) (by omega) (e2.symm ▸ hz2) (by omega)) ?_)|(show VFrK _ _ _ _ _ ⟨_,.binOp .or _ _ _ _,_,_,_,_⟩ _;refine VFrK.mk (vf_of fun _=>y_orA (by rfl) (by rfl) o1 (by omega) (by omega) (by omega)) ?_)|(show VFrK _ _ _ _ _ ⟨_,.binOp .or _ _ _ _,_,_,_,_⟩ _;refine VFrK.mk (vf_of fun _=>y_orA (by rfl) (by rfl) o2 (by omega) (by omega) (by omega)) ?_)|(refine G.mixedFH 6 [.go 0,.go 1,.go 2,.go 3,.go 4,.go 5,.go 6,.go 7,.go 8] ?_)|(refine G.mixedFH 7 [.go 0,.go 1,.go 2,.go 3,.go 4,.go 5,.go 6,.go 7,.go 8] ?_)|(refine nxRF ?_)|(refine nxVF ?_)|(refine nxV ?_)|(refine nSS ?_)|(refine nxX ?_)|(refine G.cN rfl (fun hc=>?_) (fun hc=>?_)<;>(try first|exact hc.elim|(exfalso;omega))))
  exact X.again (k+1) (by omega) (by omega) ⟨rfl,rfl,rfl,rfl,rfl,rfl,trivial⟩ (by rw[hA',hB'];exact fun w h=>h.sub subS)
 ·obtain rfl:k=lv:=by omega
  have s3:=RR.dcol_low k n
  have e4:n/2^(2*k)=n/4^k:=by rw[Nat.pow_mul]
  have hq:n/2^(2*k)≤n:=Nat.div_le_self _ _
  have o3:=RR.or_up (b:=n/2^(2*k)) p2
  rw[←e4] at s3
  rw[←s3] at o3
  have hdc:=(RR.mc_drow k n hn).2.2
  have p4:n/2^(2*k)*2^k≤131072:=by omega
  generalize hQ:n/2^(2*k)=q at *
  generalize hz:q*2^k=zz at *
  generalize RR.dlow k n=B at *
  generalize RR.drow k n=A at *
  generalize RR.dcol k n=C at *
  repeat' (first|(show VFrK _ _ _ _ _ ⟨_,.binOp .shr _ _ _ _,_,_,_,_⟩ _;refine VFrK.mk (vf_of fun _=>y_shrA (m:=n) (j:=2*k) (by rfl) (by rfl) (by omega) (by omega) hQ) ?_)|(show VFrK _ _ _ _ _ ⟨_,.binOp .shl _ _ _ _,_,_,_,_⟩ _;refine VFrK.mk (vf_of fun _=>y_shlA (m:=q) (j:=k) (by rfl) (by rfl) (by omega) (by omega) hz (by omega)) ?_)|(show VFrK _ _ _ _ _ ⟨_,.binOp .or _ _ _ _,_,_,_,_⟩ _;refine VFrK.mk (vf_of fun _=>y_orA (by rfl) (by rfl) o3 (by omega) (by omega) (by omega)) ?_)|(refine G.mixedFH 9 [.go 0,.go 1,.go 2,.go 3,.go 4,.go 5,.go 6,.go 7,.go 8,.go 9,.go 10] ?_)|(refine nxRF ?_)|(refine nxVF ?_)|(refine nxV ?_)|(refine nSS ?_)|(refine nxX ?_)|(refine G.cN rfl (fun hc=>?_) (fun hc=>?_)<;>(try first|exact hc.elim|(exfalso;omega))))
  dsimp only[List.set_cons_succ,List.set_cons_zero]
  exact X.ret (vs:=[_]) rfl ⟨⟨_,_,_,_,rfl,(by exact memA),lenA,by decide +kernel,rfl⟩,rfl⟩ rfl rE
end Go.Proofs.YtjmdeplmenbmmaaGreatDoor
namespace Go.Proofs.YtjmdeplmenbmmaaGreatDoor
open Go.RowKit Go.Sort
def cmpS3 (a b:Int):Int:=if a<b then -1 else if a>b then 1 else 0
set_option maxHeartbeats 1000000 in
theorem cmpS3_world (a b:Int) (W:World):Calls Tryz.prog 130 #[.int .i64 a,.int .i64 b] W fun e w'=>e=.returned (.int .i64 (cmpS3 a b))∧w'=W:=by
 go_enter Tryz.func130,Tryz.ntmps130
 go_wp2
 all_goals go_ret
 all_goals refine⟨?_,rfl⟩
 all_goals (congr 2;unfold cmpS3;(repeat' split)<;>first|rfl|omega|(simp_all;omega)|trace_state)
def orI (x y:Int):Int:=if x=0 then y else x
set_option maxHeartbeats 1000000 in
theorem or_world (b:Nat) (x y:Int) (W:World) (h0:W.cell? ⟨b,0,none⟩=some (.int .i64 x)) (h1:W.cell? ⟨b,1,none⟩=some (.int .i64 y)):Calls Tryz.prog 208 #[.slice (some ⟨b,0,none⟩) 2 2] W fun e w'=>e=.returned (.int .i64 (orI x y))∧w'=W:=by
 go_enter Tryz.func208,Tryz.ntmps208
 go_wp2
 refine wp_loop_rounds 3 ?_
 rw[rounds_succ]
 go_wp2
 ·rename_i hx
  have hx':x≠0:=by simpa using hx
  go_ret
  exact⟨by unfold orI;rw[if_neg hx'];rfl,rfl⟩
 ·rename_i hx
  have hx':x=0:=by simpa using hx
  rw[rounds_succ]
  go_wp2
  ·go_ret
   exact⟨by unfold orI;rw[if_pos hx'];rfl,rfl⟩
  ·rename_i hy
   have hy':y=0:=by simpa using hy
   rw[rounds_succ]
   go_wp2
   go_ret
   exact⟨by unfold orI;rw[if_pos hx',hy'];rfl,rfl⟩
theorem al_old {W:World} {o:Obj} {k i:Nat} (h:k<W.heap.size):(W.alloc o).cell? ⟨k,i,none⟩=W.cell? ⟨k,i,none⟩:=by
 show (match (W.alloc o).heap[k]? with|some (.cells c _ _)=>if (none:Option Nat).isSome then none else c[i]?|_=>none)=(match W.heap[k]? with|some (.cells c _ _)=>if (none:Option Nat).isSome then none else c[i]?|_=>none)
 rw[Below.heap_alloc W o k h]
theorem al_new {W:World} {cs:Array Value} {t:TypeId} {fr:Nat×Nat} {i:Nat} : (W.alloc (.cells cs t fr)).cell? ⟨W.heap.size,i,none⟩=cs[i]?:=by
 show (match (W.heap.push (.cells cs t fr))[W.heap.size]? with|some (.cells c _ _)=>if (none:Option Nat).isSome then none else c[i]?|_=>none)=_
 rw[Array.getElem?_push_size];rfl
def cfI (a b c d:Int):Int:=orI (cmpS3 a c) (cmpS3 d b)
set_option maxRecDepth 100000 in
set_option maxHeartbeats 1000000 in
theorem cover1_world (a b c d:Int) (W:World):Calls Tryz.prog 207 #[.agg #[.int .i64 a,.int .i64 b],.agg #[.int .i64 c,.int .i64 d]] W fun e w'=>e=.returned (.int .i64 (cfI a b c d))∧∃q os',w'=grow (W.drewN q) os':=by
 go_enter Tryz.func207,Tryz.ntmps207
 go_wp2
 go_still_tail 10,(by kernel_rfl)
 change wpStill _ _ (((W.alloc (Obj.cells #[Value.int IntKind.i64 a,Value.int IntKind.i64 b] 235)).alloc (Obj.cells #[Value.int IntKind.i64 c,Value.int IntKind.i64 d] 235)).drew) _ _ _
 have hs1:(W.alloc (Obj.cells #[Value.int IntKind.i64 a,Value.int IntKind.i64 b] 235)).heap.size=W.heap.size+1:=Array.size_push _
 obtain⟨W2,hW2⟩:∃W2,W2=((W.alloc (Obj.cells #[Value.int IntKind.i64 a,Value.int IntKind.i64 b] 235)).alloc (Obj.cells #[Value.int IntKind.i64 c,Value.int IntKind.i64 d] 235)).drew:=⟨_,rfl⟩
 have c0:W2.cell? ⟨W.heap.size,0,none⟩=some (.int .i64 a):=by rw[hW2];exact(al_old (by rw[hs1];omega)).trans al_new
 have c1:W2.cell? ⟨W.heap.size,1,none⟩=some (.int .i64 b):=by rw[hW2];exact(al_old (by rw[hs1];omega)).trans al_new
 have d0:W2.cell? ⟨W.heap.size+1,0,none⟩=some (.int .i64 c):=by rw[hW2,←hs1];exact al_new
 have d1:W2.cell? ⟨W.heap.size+1,1,none⟩=some (.int .i64 d):=by rw[hW2,←hs1];exact al_new
 rw[←hW2]
 repeat still_step
 still_call (cmpS3_world _ _ _)
 repeat still_step
 still_call (cmpS3_world _ _ _)
 refine wpStill_nil ?_
 have hs2:W2.heap.size=W.heap.size+1+1:=by rw[hW2];exact(Array.size_push _).trans (congrArg (· + 1) hs1)
 have hnew:∀(cs:Array Value) (t:TypeId) (fr:Nat×Nat) (i:Nat),(W2.alloc (.cells cs t fr)).cell? ⟨W.heap.size+1+1,i,none⟩=cs[i]?:=fun cs t fr i=>by rw[←hs2];exact al_new
 rw[hW2] at hnew
 go_wp2_with (go_at_call 208;refine(or_world _ _ _ _ ((hnew _ _ _ 0).trans rfl) ((hnew _ _ _ 1).trans rfl)).mono ?_;rintro e w' ⟨rfl,rfl⟩)
 go_ret
 refine⟨rfl,1,#[Obj.cells #[Value.int IntKind.i64 a,Value.int IntKind.i64 b] 235,Obj.cells #[Value.int IntKind.i64 c,Value.int IntKind.i64 d] 235,Obj.cells #[Value.int IntKind.i64 (cmpS3 a c),Value.int IntKind.i64 (cmpS3 d b)] 3],?_⟩
 have e:∀(h:Array Obj) (x y z:Obj),((h.push x).push y).push z=h++#[x,y,z]:=fun h x y z=>by apply Array.ext';simp
 show ({ W with heap:=((W.heap.push _).push _).push _,drawn:=W.drawn+1 } : World)={ W with heap:=W.heap++_,drawn:=W.drawn+1 }
 rw[e]
end Go.Proofs.YtjmdeplmenbmmaaGreatDoor
