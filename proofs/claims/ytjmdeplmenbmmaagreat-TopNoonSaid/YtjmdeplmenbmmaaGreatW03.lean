/- Joined texts: RowSt, Star, Bytes, LitS. -/
import Derived.Test.YtjmdeplmenbmmaaGreatW02
import Derived.Laws.IdiomCopy
import Derived.Maps.AppendAt
import Derived.Laws.BytesString
set_option linter.unusedVariables false
set_option maxHeartbeats 1000000
namespace Go.Proofs.YtjmdeplmenbmmaaGreat
open Go.RowKit
def setAt:List Value→Nat→List Value→List Value
 |xs,_,[]=>xs
 |xs,o,u::r=>setAt (xs.set o u) (o+1) r
/-! ### Regions that draw their order and store: what reads memory comes up before the stores; what reads none may come up behind them -/
def freeB (o:Oper):Bool:=match o.op with
 |.move _|.assign _|.indexAddr ..|.fieldAddr ..|.extract ..|.binOp ..|.nilCheck _=>true
 |_=>false
def lateF (md:Region.Mode) (ops:Array Oper) (j:Nat):Bool:=let d:=downL md ops 40 [] [j];(List.range ops.size).all fun i=>i==j||!((ops[i]?).map fun o=>pureB o&&!freeB o).getD false||d.contains i||(downL md ops 40 [] [i]).contains j
section
variable {P:Program} {ops:Array Oper} {md:Region.Mode} {S:World→Prop} {Q:Exit→Act→World→Prop}
def wpAnyF (P:Program) (md:Region.Mode) (ops:Array Oper) (Q:Exit→Act→World→Prop) (S:World→Prop):Nat→Array Bool→Act→World→Prop
 |0,listed,a,w=>Region.ready md ops listed=[]∧Q .normal a w
 |f+1,listed,a,w=>(Region.ready md ops listed=[]→Q .normal a w) ∧
  ∀i∈Region.ready md ops listed,wpOp P ops Q i (fun a' w'=>(lateF md ops i=false→S w→S w')∧wpAnyF P md ops Q S f (listed.setIfInBounds i true) a' w') a w
theorem wpAny_of_F:∀(f:Nat) (listed:Array Bool) (a:Act) (w:World),wpAnyF P md ops Q S f listed a w→wpAny P md ops Q f listed a w
 |0,_,_,_,h=>h
 |f+1,_,_,_,h=>⟨h.1,fun i hi=>wpOp_mono (fun a' w' h'=>wpAny_of_F f _ a' w' h'.2) (h.2 i hi)⟩
theorem lateF_waits {i j:Nat} {oi:Oper} (hi:ops[i]?=some oi) (hp:pureB oi=true) (hq:freeB oi=false) (hne:i≠j) (hl:lateF md ops j=true):Re md ops j i∨Re md ops i j:=by
 have hlt:i<ops.size:=(Array.getElem?_eq_some_iff.1 hi).1
 have:=List.all_eq_true.1 hl i (List.mem_range.2 hlt)
 simp only[hi,Option.map_some,Option.getD_some,hp,hq,Bool.not_false,Bool.and_true,Bool.not_true,Bool.or_false,Bool.or_eq_true,beq_iff_eq,hne,false_or,List.contains_iff_mem] at this
 rcases this with this|this
 ·rcases downL_mem this with h|⟨y,hy,h⟩
  ·cases h
  ·rcases List.mem_singleton.1 hy with rfl
   exact .inl h
 ·rcases downL_mem this with h|⟨y,hy,h⟩
  ·cases h
  ·rcases List.mem_singleton.1 hy with rfl
   exact .inr h
theorem wpAnyF_read {i:Nat} {oi:Oper} {v:Value} (hi:ops[i]?=some oi) (hp:pureB oi=true) (hq:freeB oi=false) (hsel:∀(j:Nat) (o:Oper) cs b,ops[j]?=some o→o.op≠.select cs b) (hQ:∀c a w,¬Q (.panic c) a w) :
  ∀(f:Nat) (listed:Array Bool) (a:Act) (w:World),
   (∀j oj,ops[j]?=some oj→j≠i→listed.getD j true=false→(∀e∈oj.after,Region.binds md e=true→e.on≠i)→oi.apart ops oj=true) →
   (∀k,Re md ops k i→listed.getD k true=false) →
   (∀k,Re md ops i k→listed.getD k true=true) →
   i∈Region.ready md ops listed→YS P ops S oi v a→S w →
   wpAnyF P md ops Q S f (listed.setIfInBounds i true) (a.put oi.dst v) w→wpAnyF P md ops Q S (f+1) listed a w
 |0,listed,a,w,_,_,_,hr,hy,hS,hK=>by
  refine⟨fun h=>(by rw[h] at hr;cases hr),fun j hj=>?_⟩
  by_cases e:j=i
  ·subst e;exact hy.wpOp hi hS ⟨fun _ h=>h,hK⟩
  ·have:=ready_mono hj e
   rw[hK.1] at this
   cases this
 |f+1,listed,a,w,hfree,hqu,hup,hr,hy,hS,hK=>by
  refine⟨fun h=>(by rw[h] at hr;cases hr),fun j hj=>?_⟩
  by_cases e:j=i
  ·subst e;exact hy.wpOp hi hS ⟨fun _ h=>h,hK⟩
  ·obtain⟨hju,oj,hoj,hall⟩:=mem_ready.1 hj
   have hiu:=getD_both (mem_ready.1 hr).1
   have hnot:∀e∈oj.after,Region.binds md e=true→e.on≠i:=fun e he hb heq=>by
    have h1:=hall e he hb
    rw[heq,hiu] at h1
    cases h1
   have hno:¬Re md ops j i:=by
    rintro(hl1|⟨hl1,hl2⟩)
    ·obtain⟨o',ho',e',he',hb',hon⟩:=Region.waitsFor_spec hl1
     have:o'=oj:=Option.some.inj (ho'.symm.trans hoj)
     subst this
     exact absurd hon (hnot e' he' hb')
    ·obtain⟨o',ho',e',he',hb',hon⟩:=Region.waitsFor_spec hl1
     have:o'=oj:=Option.some.inj (ho'.symm.trans hoj)
     subst this
     have h1:=hall e' he' hb'
     have h2:=hqu _ hl2
     rw[hon] at h1
     rw[getD_both h2] at h1
     cases h1
   have hnl:lateF md ops j=false:=by
    cases hl:lateF md ops j with
    |false=>rfl
    |true =>
     rcases lateF_waits hi hp hq (Ne.symm e) hl with h|h
     ·exact absurd h hno
     ·have:=hup j h
      rw[hju] at this
      cases this
   have h2:=wpOp_putS hoj (hfree j oj hoj e hju hnot) (fun cs b=>hsel i oi cs b hi) (fun cs b=>hsel j oj cs b hoj) hQ hy (hK.2 j (ready_mono hj e))
   refine wpOp_mono (fun a' w' h3=>⟨h3.2.1,wpAnyF_read hi hp hq hsel hQ f _ a' w' ?_ ?_ (fun k hk=>getD_set_true0 (hup k hk)) (ready_mono hr (Ne.symm e)) h3.1 (h3.2.1 hnl hS) ?_⟩) h2
   ·intro k ok hk hki hku hno
    refine hfree k ok hk hki ?_ hno
    by_cases hjk:j=k
    ·subst hjk;exact hju
    ·rwa [getD_set_ne true hjk] at hku
   ·intro k hk
    have hjk:j≠k:=by
     rintro rfl
     exact hno hk
    rw[getD_set_ne true hjk]
    exact hqu k hk
   ·rw[Array.setIfInBounds_comm _ _ e]
    exact h3.2.2
theorem wpAnyF_free {i:Nat} {oi:Oper} {v:Value} (hi:ops[i]?=some oi) (hsel:∀(j:Nat) (o:Oper) cs b,ops[j]?=some o→o.op≠.select cs b) (hQ:∀c a w,¬Q (.panic c) a w) :
  ∀(f:Nat) (listed:Array Bool) (a:Act) (w:World),
   (∀j oj,ops[j]?=some oj→j≠i→listed.getD j true=false→(∀e∈oj.after,Region.binds md e=true→e.on≠i)→oi.apart ops oj=true) →
   i∈Region.ready md ops listed→YS P ops (fun _=>True) oi v a →
   wpAnyF P md ops Q S f (listed.setIfInBounds i true) (a.put oi.dst v) w→wpAnyF P md ops Q S (f+1) listed a w
 |0,listed,a,w,_,hr,hy,hK=>by
  refine⟨fun h=>(by rw[h] at hr;cases hr),fun j hj=>?_⟩
  by_cases e:j=i
  ·subst e;exact hy.wpOp hi trivial ⟨fun _ h=>h,hK⟩
  ·have:=ready_mono hj e
   rw[hK.1] at this
   cases this
 |f+1,listed,a,w,hfree,hr,hy,hK=>by
  refine⟨fun h=>(by rw[h] at hr;cases hr),fun j hj=>?_⟩
  by_cases e:j=i
  ·subst e;exact hy.wpOp hi trivial ⟨fun _ h=>h,hK⟩
  ·obtain⟨hju,oj,hoj,hall⟩:=mem_ready.1 hj
   have hiu:=getD_both (mem_ready.1 hr).1
   have hnot:∀e∈oj.after,Region.binds md e=true→e.on≠i:=fun e he hb heq=>by
    have h1:=hall e he hb
    rw[heq,hiu] at h1
    cases h1
   have h2:=wpOp_putS hoj (hfree j oj hoj e hju hnot) (fun cs b=>hsel i oi cs b hi) (fun cs b=>hsel j oj cs b hoj) hQ hy (hK.2 j (ready_mono hj e))
   refine wpOp_mono (fun a' w' h3=>⟨h3.2.1,wpAnyF_free hi hsel hQ f _ a' w' ?_ (ready_mono hr (Ne.symm e)) h3.1 ?_⟩) h2
   ·intro k ok hk hki hku hno
    refine hfree k ok hk hki ?_ hno
    by_cases hjk:j=k
    ·subst hjk;exact hju
    ·rwa [getD_set_ne true hjk] at hku
   ·rw[Array.setIfInBounds_comm _ _ e]
    exact h3.2.2
theorem wp_region_F {id:Nat} {a:Act} {w:World} {l:List Oper} (hm:P.follows .mixedOrders=true) (h:wpAnyF P .any l.toArray (Calm Q) S l.length (Array.replicate l.length false) a w.drew):(Code.region id l.toArray true).wp P Q a w:=by
 refine Code.wp_mono Calm.out (wp_region_any hm (wpAny_of_F (S:=S) _ _ _ _ ?_))
 simpa using h
end
section
variable {P:Program} {n:Nat} {L:FL} {w0:World} {H HS:List Hl} {Q:Exit→Act→World→Prop} {ops:Array Oper} {ord:List Mv} {i d:Nat} {ty:TypeId} {pos:String} {af:Array Edge} {gd:Option (Nat×Bool)} {x y:Operand} {t e:TypeId} {α:Type} {f:α→List Value} {s:Nat} {l:List α} {v:Value} {m:Int} {o:Oper} {op:Op}
def RF (P:Program) (ops:Array Oper) (Q:Exit→Act→World→Prop) (HS:List Hl) (n:Nat) (L:FL) (w0:World) (H:List Hl) (ord:List Mv):Prop :=
 ∀l0,mixedB .any ops ord [] l0=true→Region.noSelect ops=true→∀f a w,cnt l0≤f→Fr n L a→St w0 H w→wpAnyF P .any ops (Calm Q) (St w0 HS) f l0 a w
def VFr (P:Program) (n:Nat) (L:FL) (w0:World) (H:List Hl) (o:Oper) (v:Value):Prop:=∀w,St w0 H w→∀a w',Fr n L a→(execOp a.eval o).run P w'=.ok (.value v) w'
theorem RF.step (h:RF P ops Q HS n ((d,v)::L) w0 H ord) (ho:ops[i]?=some ⟨some d,op,ty,pos,af,none⟩:=by rfl) (hp:(pureB ⟨some d,op,ty,pos,af,none⟩&&!freeB ⟨some d,op,ty,pos,af,none⟩)=true:=by rfl) (hs:∀w,St w0 H w→St w0 HS w) (hy:V P n L w0 HS ⟨some d,op,ty,pos,af,none⟩ v) (hd:Nat.blt d n=true:=by rfl) :
  RF P ops Q HS n L w0 H (.go i::ord):=by
 intro l0 hB hsel f a w hf ha hw
 simp only[Bool.and_eq_true,Bool.not_eq_true'] at hp
 simp only[mixedB,ho,hp.1,if_true,Bool.and_eq_true,Bool.not_eq_true',List.contains_iff_mem] at hB
 obtain⟨⟨⟨⟨hr,hni⟩,hds⟩,hfr,hqt⟩,hB⟩:=hB
 have hPS:PS w0 n ([]:List Pd) L H l0 a w l0:=⟨ha,hw,rfl⟩
 obtain⟨g,rfl,hg⟩:=cnt_ready hf hr
 refine wpAnyF_read ho hp.1 hp.2 (Region.noSelect_spec hsel) (fun c a w h=>h) g l0 a w (Region.free_spec ho hfr) (quiet_spec (ps:=[]) hqt hPS) (quiet_up (ps:=[]) hqt hPS hr) hr (.inl ⟨rfl,fun w hw=>by unfold V at hy;exact hy a w ha hw⟩) (hs w hw) ?_
 exact h _ hB hsel g _ _ hg (ha.put (by simpa [Nat.blt_eq] using hd)) hw
theorem RF.free (h:RF P ops Q HS n ((d,v)::L) w0 H ord) (ho:ops[i]?=some ⟨some d,op,ty,pos,af,none⟩:=by rfl) (hp:pureB ⟨some d,op,ty,pos,af,none⟩=true:=by rfl) (hy:VFr P n L w0 H ⟨some d,op,ty,pos,af,none⟩ v) (hd:Nat.blt d n=true:=by rfl) :
  RF P ops Q HS n L w0 H (.go i::ord):=by
 intro l0 hB hsel f a w hf ha hw
 simp only[mixedB,ho,hp,if_true,Bool.and_eq_true,Bool.not_eq_true',List.contains_iff_mem] at hB
 obtain⟨⟨⟨⟨hr,hni⟩,hds⟩,hfr,_⟩,hB⟩:=hB
 obtain⟨g,rfl,hg⟩:=cnt_ready hf hr
 refine wpAnyF_free ho (Region.noSelect_spec hsel) (fun c a w h=>h) g l0 a w (Region.free_spec ho hfr) hr (.inl ⟨rfl,fun w' _=>hy w hw a w' ha⟩) ?_
 exact h _ hB hsel g _ _ hg (ha.put (by simpa [Nat.blt_eq] using hd)) hw
theorem RF.act {L':FL} {H':List Hl} (h:RF P ops Q HS n L' w0 H' ord) (ho:ops[i]?=some o) (hp:pureB o=false) (hg:o.guard=none) (he:EX P n L w0 H o (fun _:Unit=>True) (fun _=>L') (fun _=>H')) (hl:lateF .any ops i=true):RF P ops Q HS n L w0 H (.go i::ord):=by
 intro l0 hB hsel f a w hf ha hw
 simp only[mixedB,ho,hp,Bool.false_eq_true,if_false,Bool.and_eq_true,List.contains_iff_mem,subsB] at hB
 obtain⟨⟨⟨⟨hr,hni⟩,hds⟩,hso⟩,hB⟩:=hB
 obtain⟨g,rfl,hgc⟩:=cnt_ready hf hr
 refine⟨fun e=>(by rw[e] at hr;cases hr),fun k hk=>?_⟩
 have h3:=List.all_eq_true.1 hso k hk
 simp only[List.contains_nil,Bool.or_false,beq_iff_eq] at h3
 subst h3
 unfold wpOp
 rw[ho]
 simp only[Region.wanted,hg,if_true]
 refine .inl (he a w ha hw _ _ fun a' w' ⟨_,_,ha',hw'⟩=>⟨fun hl'=>(by rw[hl] at hl';cases hl'),h _ hB hsel g a' w' hgc ha' hw'⟩)
theorem RF.actX {ι:Type} {post:ι→Prop} {L':ι→FL} {H':ι→List Hl} (ho:ops[i]?=some o) (hp:pureB o=false) (hg:o.guard=none) (he:EX P n L w0 H o post L' H') (hs:(∀x w,St w0 (H' x) w→St w0 HS w)∨lateF .any ops i=true)
  (h:∀x,post x→RF P ops Q HS n (L' x) w0 (H' x) ord):RF P ops Q HS n L w0 H (.go i::ord):=by
 intro l0 hB hsel f a w hf ha hw
 simp only[mixedB,ho,hp,Bool.false_eq_true,if_false,Bool.and_eq_true,List.contains_iff_mem,subsB] at hB
 obtain⟨⟨⟨⟨hr,hni⟩,hds⟩,hso⟩,hB⟩:=hB
 obtain⟨g,rfl,hgc⟩:=cnt_ready hf hr
 refine⟨fun e=>(by rw[e] at hr;cases hr),fun k hk=>?_⟩
 have h3:=List.all_eq_true.1 hso k hk
 simp only[List.contains_nil,Bool.or_false,beq_iff_eq] at h3
 subst h3
 unfold wpOp
 rw[ho]
 simp only[Region.wanted,hg,if_true]
 refine .inl (he a w ha hw _ _ fun a' w' ⟨x,hx,ha',hw'⟩=>⟨fun hl' _=>?_,h x hx _ hB hsel g a' w' hgc ha' hw'⟩)
 rcases hs with hs|hs
 ·exact hs x w' hw'
 ·rw[hs] at hl';cases hl'
theorem RF.call (h:RF P ops Q HS n ((d,v)::L) w0 H ord) (ho:ops[i]?=some ⟨some d,op,ty,pos,af,none⟩:=by rfl) (hp:pureB ⟨some d,op,ty,pos,af,none⟩=false:=by rfl) (hs:∀w,St w0 H w→St w0 HS w) (hy:Y P n L w0 H ⟨some d,op,ty,pos,af,none⟩ v) (hd:Nat.blt d n=true:=by rfl) :
  RF P ops Q HS n L w0 H (.go i::ord):=by
 intro l0 hB hsel f a w hf ha hw
 simp only[mixedB,ho,hp,Bool.false_eq_true,if_false,Bool.and_eq_true,List.contains_iff_mem,subsB] at hB
 obtain⟨⟨⟨⟨hr,hni⟩,hds⟩,hso⟩,hB⟩:=hB
 obtain⟨g,rfl,hgc⟩:=cnt_ready hf hr
 refine⟨fun e=>(by rw[e] at hr;cases hr),fun k hk=>?_⟩
 have h3:=List.all_eq_true.1 hso k hk
 simp only[List.contains_nil,Bool.or_false,beq_iff_eq] at h3
 subst h3
 unfold wpOp
 rw[ho]
 simp only[Region.wanted,if_true]
 exact .inl (wp_of_Y hy ha hw fun w' hw'=>⟨fun _ _=>hs _ (hw.step hw'),h _ hB hsel g _ w' hgc (ha.put (by simpa [Nat.blt_eq] using hd)) (hw.step hw')⟩)
theorem RF.finish (h:X Q n L w0 H .normal):RF P ops Q HS n L w0 H []:=by
 unfold X at h
 intro l0 hB hsel f a w hf ha hw
 simp only[mixedB,Bool.and_eq_true,List.isEmpty_iff] at hB
 cases f with
 |zero=>exact⟨hB.2,h a w ha hw⟩
 |succ f=>exact⟨fun _=>h a w ha hw,fun k hk=>by rw[hB.2] at hk;cases hk⟩
theorem G.mixedF (id:Nat) (ord:List Mv) (HS:List Hl) {l:List Oper} (h:RF P l.toArray Q HS n L w0 H ord) (hm:P.follows .mixedOrders=true:=by decide +kernel) (hB:regionB l ord=true:=by decide +kernel):G P Q n L w0 H (.region id l.toArray true):=by
 unfold G
 intro a w ha hw
 simp only[regionB,Bool.and_eq_true] at hB
 refine wp_region_F (S:=St w0 HS) hm (h _ hB.2 hB.1 _ a w.drew ?_ ha hw.drew)
 refine Nat.le_trans (List.length_filter_le _ _) ?_
 simp
theorem vf_indexAddr {k:IntKind} (hx:evO L x=some v) (hy:evO L y=some (.int k m)) (h:RdT H v f s l) (hf:∀a,(f a).length=s) (hm:0≤m∧m<l.length) (hs:Nat.blt 0 s=true) (ht:sliceB P t s=true) :
  VFr P n L w0 H ⟨some d,.indexAddr t x y,ty,pos,af,gd⟩ (elA v s m 0):=fun w hw a w' ha=>by
 obtain⟨hl,A,c,rfl,_,hc,_⟩:=h _ _ hw
 obtain⟨e,i,hu,hi,rfl⟩:=sliceB_spec ht
 have hs':0<i.size:=by simpa [Nat.blt_eq] using hs
 obtain⟨ad,rfl,_⟩:=hc (flat_ne hf hs' hm)
 simp[execOp,ha.eval hx,ha.eval hy,Instr.indexAt,asIntOf,run_underlying hu,hm.1,hm.2,sizeOf,typeInfo,hi,elA]
theorem vf_of (h:∀w0,V P n L w0 [] o v):VFr P n L w0 H o v:=fun w _ a w' ha=>by
 have:=h w'
 unfold V at this
 exact this a w' ha ⟨Below.refl _ _,fun _ h=>(by cases h),trivial⟩
def VFrK (P:Program) (n:Nat) (L:FL) (w0:World) (H:List Hl) (o:Oper) (K:Value→Prop):Prop:=∃v,VFr P n L w0 H o v∧K v
theorem VFrK.mk {K:Value→Prop} (hy:VFr P n L w0 H o v) (h:K v):VFrK P n L w0 H o K:=⟨v,hy,h⟩
theorem RF.stepK (ho:ops[i]?=some ⟨some d,op,ty,pos,af,none⟩) (hp:(pureB ⟨some d,op,ty,pos,af,none⟩&&!freeB ⟨some d,op,ty,pos,af,none⟩)=true) (hd:Nat.blt d n=true) (hs:∀w,St w0 H w→St w0 HS w) (h:VK P n L w0 HS ⟨some d,op,ty,pos,af,none⟩ fun v=>RF P ops Q HS n ((d,v)::L) w0 H ord) :
  RF P ops Q HS n L w0 H (.go i::ord):=by
 unfold VK at h
 obtain⟨v,h1,h2⟩:=h
 exact RF.step h2 ho hp hs h1 hd
theorem RF.freeK (ho:ops[i]?=some ⟨some d,op,ty,pos,af,none⟩) (hp:(pureB ⟨some d,op,ty,pos,af,none⟩&&freeB ⟨some d,op,ty,pos,af,none⟩)=true) (hd:Nat.blt d n=true) (h:VFrK P n L w0 H ⟨some d,op,ty,pos,af,none⟩ fun v=>RF P ops Q HS n ((d,v)::L) w0 H ord) :
  RF P ops Q HS n L w0 H (.go i::ord):=by
 obtain⟨v,h1,h2⟩:=h
 exact RF.free h2 ho (by simp only[Bool.and_eq_true] at hp;exact hp.1) h1 hd
theorem RF.callK (ho:ops[i]?=some ⟨some d,op,ty,pos,af,none⟩) (hp:pureB ⟨some d,op,ty,pos,af,none⟩=false) (_hr:steadyB ⟨some d,op,ty,pos,af,none⟩=true) (hd:Nat.blt d n=true) (hs:∀w,St w0 H w→St w0 HS w) (h:YK P n L w0 H ⟨some d,op,ty,pos,af,none⟩ fun v=>RF P ops Q HS n ((d,v)::L) w0 H ord) :
  RF P ops Q HS n L w0 H (.go i::ord):=by
 unfold YK at h
 obtain⟨v,h1,h2⟩:=h
 exact RF.call h2 ho hp hs h1 hd
theorem RF.storeA {b k:Nat} {cs:List Value} {H':List Hl} {u:Value} {t':TypeId} (ho:ops[i]?=some ⟨none,.store t x y,ty,pos,af,none⟩) (hx:evO L x=some (.pointer (some ⟨b,k,none⟩))) (hy:evO L y=some u) (hu:u.oneCell'=true)
  (hm:Upd (.blk b t' cs) (.blk b t' (cs.set k u)) H H') (hi:Nat.blt k cs.length=true) (hs:scalarB P t=true) (hl:lateF .any ops i=true) (h:RF P ops Q HS n L w0 H' ord) :
  RF P ops Q HS n L w0 H (.go i::ord):=RF.act h ho rfl rfl (x_store hx hy hu hm hi hs) hl
theorem G.mixedFH (id:Nat) (ord:List Mv) {l:List Oper} (h:RF P l.toArray Q H n L w0 H ord) (hm:P.follows .mixedOrders=true:=by decide +kernel) (hB:regionB l ord=true:=by decide +kernel):G P Q n L w0 H (.region id l.toArray true):=G.mixedF id ord H h hm hB
end
attribute [irreducible] RF VFrK
theorem nxVF {p q:Prop} (h:q) (s:q→p:=by intro h;(show VFrK _ _ _ _ _ _ _);first
 |exact VFrK.mk (vf_of fun _=>vAuto) h
 |(apply VFrK.mk;(case hy=>apply vf_indexAddr;(case hx=>rfl);(case hy=>rfl);(case h=>exact rdA);(case hf=>exact fun _=>rfl);(case hm=>clear h;exact omlA);(case hs=>rfl);(case ht=>decide +kernel));(case h=>exact h))):p:=s h
theorem nxRF {p q:Prop} (h:q) (s:q→p:=by intro h;(show RF _ _ _ _ _ _ _ _ _);first
 |(apply RF.freeK;(case ho=>exact rfl);(case hp=>exact rfl);(case hd=>exact rfl);(case h=>exact h))
 |(apply RF.stepK;(case ho=>exact rfl);(case hp=>exact rfl);(case hd=>exact rfl);(case hs=>exact subA);(case h=>exact h))
 |(apply RF.callK;(case ho=>exact rfl);(case hp=>exact rfl);(case _hr=>exact rfl);(case hd=>exact rfl);(case hs=>exact subA);(case h=>exact h))
 |(apply RF.storeA;(case ho=>rfl);(case hx=>rfl);(case hy=>rfl);(case hu=>rfl);(case hm=>exact updA);(case hi=>rfl);(case hs=>decide +kernel);(case hl=>decide +kernel);(case h=>exact h))
 |(apply RF.storeRowA;(case ho=>rfl);(case hx=>rfl);(case hy=>rfl);(case hu=>rfl);(case hm=>exact updA);(case hlc=>(repeat(first|exact .nil|apply LenIs.cons)));(case hl2=>(repeat(first|exact .nil|apply LenIs.cons)));(case hs=>decide +kernel);(case hl=>decide +kernel);(case h=>exact h))
 |(apply RF.finish;exact h)):p:=s h
end Go.Proofs.YtjmdeplmenbmmaaGreat
set_option maxHeartbeats 4000000
namespace Go.Proofs.YtjmdeplmenbmmaaGreat
open Go.RowKit
def letterB (b:Int):Bool:=decide (97≤b)&&decide (b≤122)||decide (65≤b)&&decide (b≤90)
def digitB (b:Int):Bool:=decide (48≤b)&&decide (b≤57)
def wordB (b:Int):Bool:=letterB b||digitB b||decide (b=95)
theorem letter_c (b:Int):Cont Tryz.prog 142 [.int .u8 b] (.bool (letterB b)):=fun w=>by
 refine enter0 Tryz.func142 rfl rfl rfl ?_
 repeat' (first|(refine nxV ?_)|(refine nSS ?_)|(refine nS1 fun _=>?_)|(refine nMM ?_)|(refine nM1 fun _=>?_)|(refine nxG ?_)|(refine nxX ?_)|(refine G.cN rfl (fun hc=>?_) (fun hc=>?_)<;>(try first|exact hc.elim|(exfalso;omega))))
 refine X.ret (vs:=[_]) rfl ⟨rfl,rfl⟩ rfl (fun w hw=>⟨ret_bool ?_,hw.ext⟩)
 unfold letterB
 simp
theorem digit_c (b:Int):Cont Tryz.prog 186 [.int .u8 b] (.bool (digitB b)):=fun w=>by
 refine enter0 Tryz.func186 rfl rfl rfl ?_
 repeat' (first|(refine nxV ?_)|(refine nSS ?_)|(refine nS1 fun _=>?_)|(refine nMM ?_)|(refine nM1 fun _=>?_)|(refine nxG ?_)|(refine nxX ?_)|(refine G.cN rfl (fun hc=>?_) (fun hc=>?_)<;>(try first|exact hc.elim|(exfalso;omega))))
 refine X.ret (vs:=[_]) rfl ⟨rfl,rfl⟩ rfl (fun w hw=>⟨ret_bool ?_,hw.ext⟩)
 unfold digitB
 simp
theorem word_c (b:Int):Cont Tryz.prog 141 [.int .u8 b] (.bool (wordB b)):=fun w=>by
 have h1:=letter_c b
 have h2:=digit_c b
 refine enter0 Tryz.func141 rfl rfl rfl ?_
 repeat' (first|(show YK _ _ _ _ _ _ _;first|refine YK.mk (zcA (h1) ⟨rfl,rfl⟩) ?_|refine YK.mk (zcA (h2) ⟨rfl,rfl⟩) ?_)|(refine nxV ?_)|(refine nSS ?_)|(refine nS1 fun _=>?_)|(refine nMM ?_)|(refine nM1 fun _=>?_)|(show YG _ _ _ _ _ _ _ _;refine YG.mk (fun hb=>by(try(have hc:=And.left hb;have hb:=And.right hb;rw[hc]));(try rw[hb]);first|exact(zcA (h1) ⟨rfl,rfl⟩)|exact(zcA (h2) ⟨rfl,rfl⟩)|exact V.y vAuto) ?_)|(refine nxG ?_)|(refine nxX ?_)|(refine G.cN rfl (fun hc=>?_) (fun hc=>?_)<;>(try first|exact hc.elim|(exfalso;omega))))
 refine X.ret (vs:=[_]) rfl ⟨rfl,rfl⟩ rfl (fun w hw=>⟨ret_bool ?_,hw.ext⟩)
 unfold wordB
 simp
def allP (p:Int→Bool) (l:List UInt8):Bool:=!l.isEmpty&&l.all fun b=>p b.toNat
theorem allP_f {p:Int→Bool} {l:List UInt8} {i:Nat} (hi:i<l.length) (h:p (nth l (i:Int)).toNat=false):allP p l=false:=by
 unfold allP
 rw[Bool.and_eq_false_iff]
 right
 rw[List.all_eq_false]
 exact⟨nth l (i:Int),List.mem_of_getElem? (nth_some (by omega) (by omega)),by simp[h]⟩
theorem allP_t {p:Int→Bool} {l:List UInt8} (h:∀i:Nat,i<l.length→p (nth l (i:Int)).toNat=true):allP p l=decide (¬l=[]):=by
 unfold allP
 have h1:(l.all fun b=>p b.toNat)=true:=by
  rw[List.all_eq_true]
  intro b hb
  obtain⟨i,hi,rfl⟩:=List.getElem_of_mem hb
  have e:=nth_some (l:=l) (m:=(i:Int)) (by omega) (by omega)
  rw[Int.toNat_natCast,List.getElem?_eq_getElem hi] at e
  rw[Option.some.inj e]
  exact h i hi
 rw[h1]
 cases l<;>simp
theorem all_c {f:FuncId} (p:Int→Bool) (hp:∀b:Int,Cont Tryz.prog f [.int .u8 b] (.bool (p b))) (hg:isGo Tryz.prog f=true) (l:List UInt8) (hl:l.length≤1000000):Cont Tryz.prog 140 [strV l,.func (.func f) #[] #[]] (.bool (allP p l)):=fun w=>by
 refine enter0 Tryz.func140 rfl rfl rfl ?_
 repeat' (first|(show YK _ _ _ _ _ ⟨_,.call { callee:=.builtin .len,args:=_,argTypes:=#[9] },_,_,_,_⟩ _;refine YK.ofV (y_lenS (by rfl) StrTy.is) ?_)|(show VK _ _ _ _ _ ⟨_,.call { callee:=.builtin .len,args:=_,argTypes:=#[9] },_,_,_,_⟩ _;refine VK.mk (y_lenS (by rfl) StrTy.is) ?_)|(show YG _ _ _ _ _ _ ⟨_,.call { callee:=.builtin .len,args:=_,argTypes:=#[9] },_,_,_,_⟩ _;refine YG.mk (fun hb=>by(try(have hc:=And.left hb;have hb:=And.right hb;rw[hc]));(try rw[hb]);exact V.y (y_lenS (by rfl) StrTy.is)) ?_)|(show VG _ _ _ _ _ _ ⟨_,.call { callee:=.builtin .len,args:=_,argTypes:=#[9] },_,_,_,_⟩ _;refine VG.mk (fun hb=>by(try(have hc:=And.left hb;have hb:=And.right hb;rw[hc]));(try rw[hb]);exact y_lenS (by rfl) StrTy.is) ?_)|(refine nxV ?_)|(refine nSS ?_)|(refine nS1 fun _=>?_)|(refine nMM ?_)|(refine nM1 fun _=>?_)|(refine nxG ?_)|(refine nxVS ?_)|(refine nxGS ?_)|(refine nxX ?_)|(refine G.cN rfl (fun hc=>?_) (fun hc=>?_)<;>(try first|exact hc.elim|(exfalso;omega))))
 refine G.loop (ι:=Nat) (fun i=>[(0,strV l),(1,.func (.func f) #[] #[]),(7,.int .i64 l.length),(8,.int .i64 (i:Int))]) (fun _=>[]) (fun i=>i≤l.length∧∀k:Nat,k<i→p (nth l (k:Int)).toNat=true) (fun i=>l.length-i) 0 ⟨Nat.zero_le _,fun k hk=>by omega⟩ ⟨rfl,rfl,rfl,rfl,trivial⟩ (fun w h=>h) ?_
 rintro i mx ⟨g1,g2⟩ hmx
 rcases Nat.lt_or_ge i l.length with hi|hi
 ·have q1:ContIn Tryz.prog (fun _=>True) f ([.int .u8 (nth l (i:Int)).toNat]++(#[]:Array Value).toList) (.bool (p (nth l (i:Int)).toNat)):=fun w _=>hp _ w
  cases hb:p (nth l (i:Int)).toNat with
  |true =>
   rw[hb] at q1
   repeat' (first|(show YK _ _ _ _ _ ⟨_,.call { callee:=.builtin .len,args:=_,argTypes:=#[9] },_,_,_,_⟩ _;refine YK.ofV (y_lenS (by rfl) StrTy.is) ?_)|(show VK _ _ _ _ _ ⟨_,.call { callee:=.builtin .len,args:=_,argTypes:=#[9] },_,_,_,_⟩ _;refine VK.mk (y_lenS (by rfl) StrTy.is) ?_)|(show YG _ _ _ _ _ _ ⟨_,.call { callee:=.builtin .len,args:=_,argTypes:=#[9] },_,_,_,_⟩ _;refine YG.mk (fun hb=>by(try(have hc:=And.left hb;have hb:=And.right hb;rw[hc]));(try rw[hb]);exact V.y (y_lenS (by rfl) StrTy.is)) ?_)|(show VG _ _ _ _ _ _ ⟨_,.call { callee:=.builtin .len,args:=_,argTypes:=#[9] },_,_,_,_⟩ _;refine VG.mk (fun hb=>by(try(have hc:=And.left hb;have hb:=And.right hb;rw[hc]));(try rw[hb]);exact y_lenS (by rfl) StrTy.is) ?_)|(show YK _ _ _ _ _ ⟨_,.call { callee:=.value _,args:=_,argTypes:=_ },_,_,_,_⟩ _;refine YK.mk (y_callV (f:=f) (by rfl) q1 (fun _ _=>trivial) ⟨rfl,rfl⟩ hg) ?_)|(refine nxV ?_)|(refine nSS ?_)|(refine nS1 fun _=>?_)|(refine nMM ?_)|(refine nM1 fun _=>?_)|(refine nxG ?_)|(refine nxVS ?_)|(refine nxGS ?_)|(refine nxX ?_)|(refine G.cN rfl (fun hc=>?_) (fun hc=>?_)<;>(try first|exact hc.elim|(exfalso;omega))))
   refine X.again (i+1) ⟨by omega,fun k hk=>?_⟩ (by omega) ⟨rfl,rfl,rfl,rfl,trivial⟩ (fun w h=>h)
   rcases Nat.lt_or_ge k i with h|h
   ·exact g2 k h
   ·rw[show k=i by omega];exact hb
  |false =>
   rw[hb] at q1
   repeat' (first|(show YK _ _ _ _ _ ⟨_,.call { callee:=.builtin .len,args:=_,argTypes:=#[9] },_,_,_,_⟩ _;refine YK.ofV (y_lenS (by rfl) StrTy.is) ?_)|(show VK _ _ _ _ _ ⟨_,.call { callee:=.builtin .len,args:=_,argTypes:=#[9] },_,_,_,_⟩ _;refine VK.mk (y_lenS (by rfl) StrTy.is) ?_)|(show YG _ _ _ _ _ _ ⟨_,.call { callee:=.builtin .len,args:=_,argTypes:=#[9] },_,_,_,_⟩ _;refine YG.mk (fun hb=>by(try(have hc:=And.left hb;have hb:=And.right hb;rw[hc]));(try rw[hb]);exact V.y (y_lenS (by rfl) StrTy.is)) ?_)|(show VG _ _ _ _ _ _ ⟨_,.call { callee:=.builtin .len,args:=_,argTypes:=#[9] },_,_,_,_⟩ _;refine VG.mk (fun hb=>by(try(have hc:=And.left hb;have hb:=And.right hb;rw[hc]));(try rw[hb]);exact y_lenS (by rfl) StrTy.is) ?_)|(show YK _ _ _ _ _ ⟨_,.call { callee:=.value _,args:=_,argTypes:=_ },_,_,_,_⟩ _;refine YK.mk (y_callV (f:=f) (by rfl) q1 (fun _ _=>trivial) ⟨rfl,rfl⟩ hg) ?_)|(refine nxV ?_)|(refine nSS ?_)|(refine nS1 fun _=>?_)|(refine nMM ?_)|(refine nM1 fun _=>?_)|(refine nxG ?_)|(refine nxVS ?_)|(refine nxGS ?_)|(refine nxX ?_)|(refine G.cN rfl (fun hc=>?_) (fun hc=>?_)<;>(try first|exact hc.elim|(exfalso;omega))))
   exact X.ret (vs:=[_]) rfl ⟨rfl,rfl⟩ rfl (fun w hw=>⟨ret_bool (allP_f hi hb).symm,hw.ext⟩)
 ·repeat' (first|(show YK _ _ _ _ _ ⟨_,.call { callee:=.builtin .len,args:=_,argTypes:=#[9] },_,_,_,_⟩ _;refine YK.ofV (y_lenS (by rfl) StrTy.is) ?_)|(show VK _ _ _ _ _ ⟨_,.call { callee:=.builtin .len,args:=_,argTypes:=#[9] },_,_,_,_⟩ _;refine VK.mk (y_lenS (by rfl) StrTy.is) ?_)|(show YG _ _ _ _ _ _ ⟨_,.call { callee:=.builtin .len,args:=_,argTypes:=#[9] },_,_,_,_⟩ _;refine YG.mk (fun hb=>by(try(have hc:=And.left hb;have hb:=And.right hb;rw[hc]));(try rw[hb]);exact V.y (y_lenS (by rfl) StrTy.is)) ?_)|(show VG _ _ _ _ _ _ ⟨_,.call { callee:=.builtin .len,args:=_,argTypes:=#[9] },_,_,_,_⟩ _;refine VG.mk (fun hb=>by(try(have hc:=And.left hb;have hb:=And.right hb;rw[hc]));(try rw[hb]);exact y_lenS (by rfl) StrTy.is) ?_)|(refine nxV ?_)|(refine nSS ?_)|(refine nS1 fun _=>?_)|(refine nMM ?_)|(refine nM1 fun _=>?_)|(refine nxG ?_)|(refine nxVS ?_)|(refine nxGS ?_)|(refine nxX ?_)|(refine G.cN rfl (fun hc=>?_) (fun hc=>?_)<;>(try first|exact hc.elim|(exfalso;omega))))
  refine X.ret (vs:=[_]) rfl ⟨rfl,rfl⟩ rfl (fun w hw=>⟨ret_bool ?_,hw.ext⟩)
  rw[allP_t (fun k hk=>g2 k (by omega))]
  simp
theorem and_ff (x:Bool):¬((x&&false)=true):=by simp
def nameB (l:List UInt8):Bool:=decide ((l.length:Int)≤20)&&allP wordB l&&letterB (nth l 0).toNat
theorem isName_c (l:List UInt8) (hl:l.length≤1000000):Cont Tryz.prog 76 [strV l] (.bool (nameB l)):=fun w=>by
 have q1:=all_c wordB word_c (by decide +kernel) l hl
 have q2:=letter_c ((nth l 0).toNat:Int)
 have hne:allP wordB l=true→0<l.length:=fun h=>by
  cases l with
  |nil=>cases h
  |cons b r=>simp
 refine enter0 Tryz.func76 rfl rfl rfl ?_
 cases hb:allP wordB l with
 |true =>
  rw[hb] at q1
  have:=hne hb
  repeat' (first|(show YK _ _ _ _ _ ⟨_,.call { callee:=.builtin .len,args:=_,argTypes:=#[9] },_,_,_,_⟩ _;refine YK.ofV (y_lenS (by rfl) StrTy.is) ?_)|(show VK _ _ _ _ _ ⟨_,.call { callee:=.builtin .len,args:=_,argTypes:=#[9] },_,_,_,_⟩ _;refine VK.mk (y_lenS (by rfl) StrTy.is) ?_)|(show YG _ _ _ _ _ _ ⟨_,.call { callee:=.builtin .len,args:=_,argTypes:=#[9] },_,_,_,_⟩ _;refine YG.mk (fun hb=>by(try(have hc:=And.left hb;have hb:=And.right hb;rw[hc]));(try rw[hb]);exact V.y (y_lenS (by rfl) StrTy.is)) ?_)|(show VG _ _ _ _ _ _ ⟨_,.call { callee:=.builtin .len,args:=_,argTypes:=#[9] },_,_,_,_⟩ _;refine VG.mk (fun hb=>by(try(have hc:=And.left hb;have hb:=And.right hb;rw[hc]));(try rw[hb]);exact y_lenS (by rfl) StrTy.is) ?_)|(show YK _ _ _ _ _ _ _;first|refine YK.mk (zcA (q1) ⟨rfl,rfl,rfl⟩) ?_|refine YK.mk (zcA (q2) ⟨rfl,rfl⟩) ?_)|(refine nxV ?_)|(refine nSS ?_)|(refine nS1 fun _=>?_)|(refine nMM ?_)|(refine nM1 fun _=>?_)|(show YG _ _ _ _ _ _ _ _;refine YG.mk (fun hb=>by(try(have hc:=And.left hb;have hb:=And.right hb;rw[hc]));(try rw[hb]);first|exact(zcA (q1) ⟨rfl,rfl,rfl⟩)|exact(zcA (q2) ⟨rfl,rfl⟩)|exact V.y vAuto) ?_)|(refine nxG ?_)|(refine nxVS ?_)|(refine nxGS ?_)|(refine nxX ?_)|(refine G.cN rfl (fun hc=>?_) (fun hc=>?_)<;>(try first|exact hc.elim|(exfalso;omega))))
  refine X.ret (vs:=[_]) rfl ⟨rfl,rfl⟩ rfl (fun w hw=>⟨ret_bool ?_,hw.ext⟩)
  simp[nameB,hb]
 |false =>
  rw[hb] at q1
  repeat' (first|(show YK _ _ _ _ _ ⟨_,.call { callee:=.builtin .len,args:=_,argTypes:=#[9] },_,_,_,_⟩ _;refine YK.ofV (y_lenS (by rfl) StrTy.is) ?_)|(show VK _ _ _ _ _ ⟨_,.call { callee:=.builtin .len,args:=_,argTypes:=#[9] },_,_,_,_⟩ _;refine VK.mk (y_lenS (by rfl) StrTy.is) ?_)|(show YG _ _ _ _ _ _ ⟨_,.call { callee:=.builtin .len,args:=_,argTypes:=#[9] },_,_,_,_⟩ _;refine YG.mk (fun hb=>by(try(have hc:=And.left hb;have hb:=And.right hb;rw[hc]));(try rw[hb]);exact V.y (y_lenS (by rfl) StrTy.is)) ?_)|(show VG _ _ _ _ _ _ ⟨_,.call { callee:=.builtin .len,args:=_,argTypes:=#[9] },_,_,_,_⟩ _;refine VG.mk (fun hb=>by(try(have hc:=And.left hb;have hb:=And.right hb;rw[hc]));(try rw[hb]);exact y_lenS (by rfl) StrTy.is) ?_)|(show YG _ _ _ _ _ _ _ _;refine YG.mk (v:=.bool false) (fun hb=>absurd hb (and_ff _)) ?_)|(show VG _ _ _ _ _ _ _ _;refine VG.mk (v:=.bool false) (fun hb=>absurd hb (and_ff _)) ?_)|(show YK _ _ _ _ _ _ _;first|refine YK.mk (zcA (q1) ⟨rfl,rfl,rfl⟩) ?_|refine YK.mk (zcA (q2) ⟨rfl,rfl⟩) ?_)|(refine nxV ?_)|(refine nSS ?_)|(refine nS1 fun _=>?_)|(refine nMM ?_)|(refine nM1 fun _=>?_)|(show YG _ _ _ _ _ _ _ _;refine YG.mk (fun hb=>by(try(have hc:=And.left hb;have hb:=And.right hb;rw[hc]));(try rw[hb]);first|exact(zcA (q1) ⟨rfl,rfl,rfl⟩)|exact(zcA (q2) ⟨rfl,rfl⟩)|exact V.y vAuto) ?_)|(refine nxG ?_)|(refine nxVS ?_)|(refine nxGS ?_)|(refine nxX ?_)|(refine G.cN rfl (fun hc=>?_) (fun hc=>?_)<;>(try first|exact hc.elim|(exfalso;omega))))
  refine X.ret (vs:=[_]) rfl ⟨rfl,rfl⟩ rfl (fun w hw=>⟨ret_bool ?_,hw.ext⟩)
  simp[nameB,hb]
theorem findr_some {p:Nat→Bool} {m j:Nat} (hj:j<m) (h1:∀k,k<j→p k=false) (h2:p j=true):(List.range m).find? p=some j :=
 List.find?_range_eq_some.2 ⟨h2,List.mem_range.2 hj,fun k hk=>by rw[h1 k hk];rfl⟩
theorem findr_none {p:Nat→Bool} {m:Nat} (h1:∀k,k<m→p k=false):(List.range m).find? p=none :=
 List.find?_range_eq_none.2 fun k hk=>by rw[h1 k hk];rfl
abbrev boxS (B:Nat):Value:=.slice (some ⟨B,0,none⟩) 1 1
abbrev c1S (v:Value):List Value:=[v]
theorem boxS_of {w0 w:World} {H:List Hl} {b:Nat} {t:TypeId} {v:Value} (hw:St w0 H w) (hm:Hl.blk b t [v]∈H):RO w (boxS b) 1 1 [v]:=by
 refine⟨rfl,some ⟨b,0,none⟩,1,rfl,Nat.le_refl _,fun _=>⟨_,rfl,fun j u hu=>?_⟩,fun g=>by cases g⟩
 match j,hu with
 |0,hu=>exact(hw.cell hm 0).trans hu
theorem boxS_m (xv:Value):(0:Int)≤0∧(0:Int)<([xv].length:Nat):=⟨by decide,by simp⟩
section
variable {P:Program} {n:Nat} {L:FL} {w0:World} {H:List Hl} {dd:Tmp} {ty:TypeId} {pos:String} {af:Array Edge} {gd:Option (Nat×Bool)} {t e:TypeId} {s bytes:Nat} {α:Type} {f:α→List Value} {l:List α}
theorem x_litS {parts:List (Nat×Operand)} {vs cs:List Value} {k:Nat} (ha:AE L (parts.map (·.2)) vs) (hi:parts.map (·.1)=List.range' 0 k) (hk:Nat.ble (k*s) 16777216=true) (hk2:Nat.ble k 16777216=true) (hk0:Nat.blt 0 (k*s)=true)
  (hfill:∀zs:List Value,zs.length=k*s→Instr.fill (fun i=>some (i*s,s)) zs.toArray ((List.range' 0 k).zip vs)=some cs.toArray) (hcl:cs.length=k*s)
  (hc:cs=l.flatMap f) (hlk:l.length=k) (ht:rowTyB P t e s bytes=true) (hd:Nat.blt dd n=true) :
  EX P n L w0 H ⟨some dd,.buildSlice t k parts.toArray,ty,pos,af,gd⟩ (fun _:Sl=>True) (fun v'=>(dd,v'.v)::L) (fun v'=>Hl.rw v'.v e f s l::H) :=
 EX.of_run (fun a w hfr hw=>by
  obtain⟨i,z,hu1,hi1,hz1,hs,hby,hzs,h0⟩:=rowTyB_spec ht
  have hk':k*s≤16777216:=Nat.le_of_ble_eq_true hk
  have hk2:k≤16777216:=Nat.le_of_ble_eq_true hk2
  have hk3:¬(16777216<k*s):=by omega
  have hk4:¬(k*s=0):=by have:=Nat.le_of_ble_eq_true hk0;omega
  have hparts:(Array.map (fun x=>match x with|(i,x)=>(i,a.eval x)) parts.toArray).toList=(List.range' 0 k).zip vs:=by
   have:=ha.map hfr
   subst this
   rw[←hi]
   simp only[List.map_toArray,List.toList_toArray]
   clear hc hi ha hfill
   induction parts with
   |nil=>rfl
   |cons p r ih=>simp[ih]
  have hrun:(Instr.buildSlice t k (Array.map (fun x=>match x with|(i,x)=>(i,a.eval x)) parts.toArray)).run P w=.ok (.slice (some ⟨w.heap.size,0,none⟩) k k) (w.alloc (.cells cs.toArray e)):=by
   unfold Instr.buildSlice
   have hsz:(P.info? e).map (·.size)=some s:=by simp[hi1,hs]
   have hzv:(zeroValue e).run P w=.ok z w:=by simp[zeroValue,typeInfo,hi1,hz1]
   simp only[Sem.run_bind,run_underlying hu1,Result.andThen_ok,run_sizeOf_of hsz,hparts]
   have h5:=hfill ((Array.map (fun x=>z.cells[x%z.cells.size]!) (Array.range (k*s))).toList) (by simp)
   simp only[Array.toArray_toList] at h5
   simp[hk3,hk4,hzv,h5,newRow]
  refine⟨.slice (some ⟨w.heap.size,0,none⟩) k k,w.alloc (.cells cs.toArray e),⟨some ⟨w.heap.size,0,none⟩,k,k⟩,by simp only[execOp,Sem.run_bind,hrun,Result.andThen_ok,Sem.run_pure],trivial,rfl,?_⟩
  have h6:=hw.newRow e cs.toArray s k (by simp[hcl]) (by simp only[maxLen];omega)
  subst hc
  rw[←hlk] at h6 ⊢
  exact h6) hd
end
end Go.Proofs.YtjmdeplmenbmmaaGreat
