/- Joined texts: Gir, Rst, Rgp, Rgq, Pix. -/
import Derived.Test.YtjmdeplmenbmmaaGreatW09
import Derived.Test.YtjmdeplmenbmmaaGreatW06
import Derived.Test.YtjmdeplmenbmmaaGreatW04
set_option linter.unusedVariables false
set_option maxHeartbeats 4000000
namespace Go.Proofs.YtjmdeplmenbmmaaGreat
open Go.RowKit Go.Shelf
def calmB (P:Program) (o:Oper):Bool:=match o.op with
 |.move _|.assign _|.pick ..|.alloc _|.box ..|.build ..|.buildSlice ..|.load ..|.store ..|.binOp ..|.unOp ..|.indexAddr ..|.extract ..|.fieldAddr ..=>true
 |.call c=>match c.callee with
  |.builtin b=>b==.len||b==.append||b==.min||b==.max
  |.value (.func f)=>isGo P f
  |_=>false
 |_=>false
theorem no_v {P:Program} {s:Sem Value} {w w':World} {d:Deferred} : (do let x ←s;pure (Next.value x):Sem Next).run P w≠.ok (.defer d) w':=by
 rw[Sem.run_bind]
 intro h
 cases hs:s.run P w with
 |ok x w2=>rw[hs] at h;simp at h
 |halt x w2=>rw[hs] at h;cases h
theorem no_u {P:Program} {s:Sem Unit} {w w':World} {d:Deferred} : (do s;pure Next.skip:Sem Next).run P w≠.ok (.defer d) w':=by
 rw[Sem.run_bind]
 intro h
 cases hs:s.run P w with
 |ok x w2=>rw[hs] at h;simp at h
 |halt x w2=>rw[hs] at h;cases h
theorem no_p {P:Program} {s:Sem Bool} {f:Bool→Value} {w w':World} {d:Deferred} : (do let x ←s;pure (Next.value (f x)):Sem Next).run P w≠.ok (.defer d) w':=by
 rw[Sem.run_bind]
 intro h
 cases hs:s.run P w with
 |ok x w2=>rw[hs] at h;simp at h
 |halt x w2=>rw[hs] at h;cases h
theorem calm_no {P:Program} {o:Oper} (hc:calmB P o=true) {a:Act} {w w':World} {d:Deferred} : (execOp a.eval o).run P w≠.ok (.defer d) w':=by
 obtain⟨dst,op,ty,pos,af,gd⟩:=o
 unfold calmB at hc
 cases op<;>first|exact absurd hc Bool.false_ne_true|skip
 case call c =>
  obtain⟨callee,args,tys⟩:=c
  cases callee with
  |builtin b =>
   simp only[Bool.or_eq_true,beq_iff_eq] at hc
   rcases hc with ((rfl|rfl)|rfl)|rfl
   ·exact no_v (s:=Builtin.len_ tys ty (args.map a.eval))
   ·exact no_v (s:=Builtin.append_ tys ty (args.map a.eval))
   ·exact no_v
   ·exact no_v
  |value x =>
   cases x with
   |func f =>
    intro h
    rw[show execOp a.eval ⟨dst,.call { callee:=.value (.func f),args:=args,argTypes:=tys },ty,pos,af,gd⟩=callFunc f (#[]++args.map a.eval++#[]) from rfl,run_isGo hc] at h
    cases h
   |_=>exact absurd hc Bool.false_ne_true
  |_=>exact absurd hc Bool.false_ne_true
 case pick x y z=>exact no_p (s:=asBool (a.eval x)) (f:=fun b=>if b=true then a.eval y else a.eval z)
 all_goals first
  |exact no_v
  |exact no_u
  |(intro h;cases h)
def calmL (P:Program) (l:List Oper):Bool:=l.all (calmB P)
theorem calmL_spec {P:Program} {l:List Oper} (h:calmL P l=true):∀o∈l,calmB P o=true:=fun o ho=>List.all_eq_true.1 h o ho
theorem calm_def {P:Program} {o:Oper} (hc:calmB P o=true):∀c,o.op≠.defer c:=fun c e=>by
 unfold calmB at hc
 rw[e] at hc
 cases hc
def wF (r:Option Nat):Fence:={ Fence.wide with round:=r }
def Qs (ds:List Deferred) (Q:Exit→Act→World→Prop):Exit→Act→World→Prop:=fun e a w=>Q e { a with defers:=ds } w
section
variable {P:Program} {Q:Exit→Act→World→Prop} {n m:Nat} {r:Option Nat} {ds:List Deferred} {L:FL} {w0:World} {H:List Hl}
theorem put_ds (a:Act) (d:Option Tmp) (v:Value):({ a with defers:=ds } : Act).put d v={ a.put d v with defers:=ds }:=by cases d<;>rfl
theorem list_in {ops:Array Oper} (hno:¬LetsOut Q):∀{l:List Oper} {a:Act} {w:World},(∀o∈l,calmB P o=true)→wpList P ops (Qs ds Q) l a w→wpListIn (wF r) m P ops Q l { a with defers:=ds } w
 |[],_,_,_,h=>h
 |o::l,a,w,hd,h=>by
  unfold wpList at h
  unfold wpListIn
  have hl:∀{a w},wpList P ops (Qs ds Q) l a w→wpListIn (wF r) m P ops Q l { a with defers:=ds } w:=list_in hno fun o ho=>hd o (List.mem_cons_of_mem _ ho)
  have ev:({ a with defers:=ds } : Act).eval=a.eval:=rfl
  split
  ·rename_i hw
   rw[if_pos hw] at h
   rcases h with h|h
   ·refine⟨fun _ _=>trivial,?_⟩
    rw[Oper.semAt_eq _ _ _ (calm_def (hd o List.mem_cons_self)),ev]
    unfold Oper.wp at h
    have hnd:∀d w',(execOp a.eval o).run P w≠.ok (.defer d) w':=fun d w' e=>calm_no (hd o List.mem_cons_self) e
    revert h hnd
    generalize (execOp a.eval o).run P w=x
    intro h hnd
    cases x with
    |ok nx w' =>
     cases nx with
     |value v =>
      show wpListIn _ _ _ _ _ _ (Act.put _ _ _) _
      rw[put_ds]
      exact hl h
     |skip =>
      show wpListIn _ _ _ _ _ _ (Act.put _ _ _) _
      rw[put_ds]
      exact hl h
     |defer d=>exact absurd rfl (hnd d w')
     |enter f args =>
      refine⟨(fun h=>by cases h),?_⟩
      have h2:CallsIn Fence.wide (m-1) P f args w' _:=callsIn_wide.2 h
      refine CallsIn.mono h2 ?_
      intro e w'' he
      cases e with
      |returned v =>
       show wpListIn _ _ _ _ _ _ (Act.put _ _ _) _
       rw[put_ds]
       exact hl he
      |panicked ch=>exact he
      |outgrown=>exact absurd he (fun⟨a1,w1,h1⟩=>hno ⟨_,_,h1⟩)
     |row row args=>exact⟨(fun h=>by cases h),fun c cs _=>let ⟨v,w',q,s⟩:=h c cs;⟨v,w',(by show wpListIn _ _ _ _ _ _ (Act.put _ _ _) _;rw[put_ds];exact hl q),stepsIn_wide.2 s⟩⟩
     |_=>exact(h:False).elim
    |halt y w'=>cases y<;>first|exact h|exact(h:False).elim
   ·exact absurd h.2 (fun⟨a1,w1,h1⟩=>hno ⟨_,_,h1⟩)
  ·rename_i hw
   rw[if_neg hw] at h
   refine⟨fun _ _=>trivial,?_⟩
   rw[put_ds]
   exact hl h
def GI (P:Program) (r:Option Nat) (m:Nat) (ds:List Deferred) (Q:Exit→Act→World→Prop) (n:Nat) (L:FL) (w0:World) (H:List Hl) (c:Code):Prop :=
 ∀a w,Fr n L a→St w0 H w→c.wpIn (wF r) m P Q { a with defers:=ds } w
class NoOut (Q:Exit→Act→World→Prop):Prop where
 no:¬LetsOut Q
instance {K:Act→World→Prop} {Q:Exit→Act→World→Prop} [h:NoOut Q]:NoOut (Exit.then K Q):=⟨fun⟨a,w,q⟩=>h.no ⟨a,w,q⟩⟩
instance {i:Nat} {Q:Exit→Act→World→Prop} [h:NoOut Q]:NoOut (Exit.inBlock i Q):=⟨fun⟨a,w,q⟩=>h.no ⟨a,w,q⟩⟩
theorem GI.seq {x y:Code} (h:GI P r m ds (Exit.then (fun a w=>y.wpIn (wF r) m P Q a w) Q) n L w0 H x):GI P r m ds Q n L w0 H (.seq x y):=fun a w ha hw=>wpIn_seq (h a w ha hw)
theorem GI.cond {x y:Code} {c:Operand} {b:Bool} (hc:evO L c=some (.bool b)) (h1:b=true→GI P r m ds Q n L w0 H x) (h2:b=false→GI P r m ds Q n L w0 H y):GI P r m ds Q n L w0 H (.cond c x y):=fun a w ha hw =>
 wpIn_cond_split (ha.eval hc) (fun e=>h1 e a w ha hw) (fun e=>h2 e a w ha hw)
theorem GI.cN {x y:Code} {c:Operand} {b:Bool} {p q:Prop} (hc:evO L c=some (.bool b)) (h1:p→GI P r m ds Q n L w0 H x) (h2:q→GI P r m ds Q n L w0 H y)
  (hp:(b=true)↔p:=by first|(simp only[eqCells,vEq,Bool.and_eq_true,Bool.or_eq_true,Bool.and_eq_false_iff,Bool.or_eq_false_iff,decide_eq_true_eq,decide_eq_false_iff_not,Bool.not_eq_true',Bool.not_eq_false',Int.not_le,Int.not_lt,Bool.not_true,Bool.not_false,beq_self_eq_true,Bool.or_false,Bool.false_or,Bool.or_self,Bool.and_true,Bool.true_and,Bool.and_self,Bool.or_true,Bool.true_or,Bool.and_false,Bool.false_and,decide_true,eq_self,Bool.false_eq_true,Bool.true_eq_false,reduceCtorEq];exact Iff.rfl)|exact Iff.rfl) (hq:(b=false)↔q:=by first|(simp only[eqCells,vEq,Bool.and_eq_true,Bool.or_eq_true,Bool.and_eq_false_iff,Bool.or_eq_false_iff,decide_eq_true_eq,decide_eq_false_iff_not,Bool.not_eq_true',Bool.not_eq_false',Int.not_le,Int.not_lt,Bool.not_true,Bool.not_false,beq_self_eq_true,Bool.or_false,Bool.false_or,Bool.or_self,Bool.and_true,Bool.true_and,Bool.and_self,Bool.or_true,Bool.true_or,Bool.and_false,Bool.false_and,decide_true,eq_self,Bool.false_eq_true,Bool.true_eq_false,reduceCtorEq];exact Iff.rfl)|exact Iff.rfl):GI P r m ds Q n L w0 H (.cond c x y):=GI.cond hc (fun h=>h1 (hp.1 h)) (fun h=>h2 (hq.1 h))
theorem GI.block {id:Nat} {c:Code} (h:GI P r m ds (Exit.inBlock id Q) n L w0 H c):GI P r m ds Q n L w0 H (.block id c):=fun a w ha hw=>wpIn_block (h a w ha hw)
theorem GI.skip (h:X (Qs ds Q) n L w0 H .normal):GI P r m ds Q n L w0 H .skip:=fun a w ha hw=>wpIn_skip (by unfold X at h;exact h a w ha hw)
theorem GI.ret (h:X (Qs ds Q) n L w0 H .ret):GI P r m ds Q n L w0 H .ret:=fun a w ha hw=>wpIn_ret (by unfold X at h;exact h a w ha hw)
theorem GI.region {id:Nat} {l:List Oper} (hd:calmL P l=true) [hno:NoOut Q] (h:RS P l.toArray (Qs ds Q) n L w0 H l):GI P r m ds Q n L w0 H (.region id l.toArray false):=fun a w ha hw=>by
 unfold RS at h
 exact wpIn_region_lit (list_in hno.no (calmL_spec hd) (h a w ha hw))
theorem GI.weakL (L1:FL) {c:Code} (hL:Sub L L1) (h:GI P r m ds Q n L1 w0 H c):GI P r m ds Q n L w0 H c:=fun a w ha hw=>h a w (ha.weaken hL.spec) hw
theorem XD.next {y:Code} (h:GI P r m ds Q n L w0 H y):X (Qs ds (Exit.then (fun a w=>y.wpIn (wF r) m P Q a w) Q)) n L w0 H .normal:=by
 unfold X
 exact h
theorem XD.then_ret {K:Act→World→Prop} (h:X (Qs ds Q) n L w0 H .ret):X (Qs ds (Exit.then K Q)) n L w0 H .ret:=by unfold X at *;exact h
theorem XD.block_normal {id:Nat} (h:X (Qs ds Q) n L w0 H .normal):X (Qs ds (Exit.inBlock id Q)) n L w0 H .normal:=by unfold X at *;exact h
theorem XD.block_exit {id i:Nat} (hne:Nat.beq i id=false) (h:X (Qs ds Q) n L w0 H (.exit i)):X (Qs ds (Exit.inBlock id Q)) n L w0 H (.exit i):=by
 unfold X at *
 intro a w ha hw
 have:i≠id:=fun e=>by subst e;simp at hne
 simp only[Qs,Exit.inBlock,this,if_false]
 exact h a w ha hw
end
abbrev oE (b:Nat) (o:Obj):Hl:=.oth b fun o'=>o'=o
def OnCells (h:Hl):Prop:=∀(base:Nat) (w:World) (b:Nat),h.holds base w→h.spot=some b→∃o:Obj,w.heap[b]?=some o∧o.isCells=true
theorem onCells_blk (b:Nat) (t:TypeId) (cs:List Value):OnCells (.blk b t cs):=fun base w c hh hs=>by
 simp only[Hl.spot,Option.some.injEq] at hs
 subst hs
 exact⟨_,hh.2,rfl⟩
def AllCells (B:Nat) (H:List Hl):Prop:=∀h∈H,OnCells h∨∀b,h.spot=some b→b<B
section
variable {w0 W W':World} {H:List Hl}
theorem St.grownO {B:Nat} (h:St w0 H W) (hB:w0.heap.size≤B) (hc:AllCells B H) {row:Option Nat} (hg:W.grownBy W' row) (hr:∀r,row=some r→B≤r∧∃o:Obj,W.heap[r]?=some o∧o.isCells=false):St w0 H W':=by
 refine⟨h.ext.grown hg h.ext.size (fun k e=>Nat.le_trans hB (hr k e).1),fun x hx=>Hl.keep (h.all x hx) fun b hb=>hg.block b (Hl.lt (h.all x hx) hb) fun e=>?_,h.apart⟩
 obtain⟨hge,o',ho',hno⟩:=hr b e.symm
 rcases hc x hx with hx2|hx2
 ·obtain⟨o,ho,hcc⟩:=hx2 _ W b (h.all x hx) hb
  rw[ho] at ho'
  cases ho'
  rw[hcc] at hno
  cases hno
 ·have:=hx2 b hb
  omega
theorem St.at {g:Nat} {o:Obj} (h:St w0 H W) (hm:oE g o∈H):W.heap[g]?=some o:=by
 obtain⟨_,o',h2,rfl⟩:=h.all _ hm
 exact h2
theorem St.odd {D:Nat} {o:Obj} (h:St w0 H W) (hc:∀x∈H,x.spot≠some D) (hD:w0.heap.size≤D) (ho:W.heap[D]?=some o):St w0 (oE D o::H) W:=by
 refine⟨h.ext,fun x hx=>?_,fun x hx b hb hxb=>?_,h.apart⟩
 ·rcases List.mem_cons.1 hx with rfl|hx
  ·exact⟨hD,o,ho,rfl⟩
  ·exact h.all x hx
 ·simp only[Hl.spot,Option.some.injEq] at hb
  subst hb
  exact absurd hxb (hc x hx)
theorem St.notSpot {D B:Nat} {o:Obj} (h:St w0 H W) (hc:AllCells B H) (hD:B≤D) (ho:W.heap[D]?=some o) (hno:o.isCells=false):∀x∈H,x.spot≠some D:=fun x hx hxb=>by
 rcases hc x hx with hx2|hx2
 ·obtain⟨o',ho',hcc⟩:=hx2 _ W D (h.all x hx) hxb
  rw[ho] at ho'
  cases ho'
  rw[hno] at hcc
  cases hcc
 ·have:=hx2 D hxb
  omega
end
section
variable {P:Program} {n:Nat} {α ι κ:Type}
def outR (w0:World) (D g k1 k2:Nat) (oD oL oG o1 o2:Obj) (pr:List α→ι→Prop) (Hx:ι→List Hl) (px:List α→κ→Prop) (Hy:κ→List Hl) (xs:List α):Exit→Act→World→Prop
 |.normal,_,W'=>∃z,pr xs z∧St w0 (oE D oD::oE (D+1) oL::oE g oG::oE k1 o1::oE k2 o2::Hx z) W'
 |.ret,_,W'=>∃y,px xs y∧St w0 (oE D oD::oE (D+1) oL::Hy y) W'
 |_,_,_=>False
instance {w0:World} {D g k1 k2:Nat} {oD oL oG o1 o2:Obj} {pr:List α→ι→Prop} {Hx:ι→List Hl} {px:List α→κ→Prop} {Hy:κ→List Hl} {xs:List α} : NoOut (outR w0 D g k1 k2 oD oL oG o1 o2 pr Hx px Hy xs):=⟨fun⟨_,_,q⟩=>q⟩
abbrev colD (D:Nat):Deferred:={ target:=.collected D,args:=#[] }
abbrev oD (D:Nat):Hl:=oE D (.deferred (some []))
theorem St.close {w0 W:World} {H:List Hl} {D:Nat} (h:St w0 (oD D::H) W):St w0 H (W.putObj D (.deferred none)):=by
 have hD:=(h.all _ List.mem_cons_self).1
 refine⟨⟨h.ext.os,h.ext.tape,h.ext.output,by simpa using h.ext.size,fun k hk=>(World.putObj_heap_other (by have:w0.heap.size≤D:=hD;omega)).trans (h.ext.block k hk)⟩,fun x hx=>Hl.keep (h.all x (List.mem_cons_of_mem _ hx)) fun b hb=>World.putObj_heap_other fun e=>?_,h.apart.2⟩
 subst e
 have:=(h.apart.1 x hx b rfl hb).1
 cases this
theorem enterM {m:Nat} {f:FuncId} {fn:Func} {c:Code} {vs:List Value} {w:World} {R:Ending→World→Prop} {nT:Nat} (hf:P.funcs[f]?=some fn) (hb:fn.body=some c) (hn:fn.ntmps=nT) (hl:Nat.ble vs.length nT=true) {Hp:List Hl} (hH:∀h∈Hp,h.holds w.heap.size w∧h.excl=false)
  (h:GI P none m [] (bodyPostM Fence.wide m P fn R) nT (argsL 0 vs) w Hp c):Calls P f vs.toArray w R:=by
 refine(callsIn_wide (n:=m)).1 (callsIn_of_wp_marks hf hb trivial ?_ rfl)
 refine h { tmps:=vs.toArray++Array.replicate (fn.ntmps-vs.toArray.size) undef,defers:=[] } w ⟨?_,rfl,fun i v hi=>?_⟩ (St.start w hH)
 ·have:=Nat.le_of_ble_eq_true hl
  simp[hn];omega
 ·have:=(lk_argsL vs 0 i v hi).2
  have hlt:=(List.getElem?_eq_some_iff.1 this).1
  simp at this
  have hlt':i<vs.length:=by omega
  have h2:=(List.getElem?_eq_some_iff.1 this).2
  simpa [Array.getElem?_append,hlt'] using h2
end
def SeqPl {α:Type} (F:Fence) (n:Nat) (P:Program) (gf:Nat) (lb:Array Value) (encs:α→Array Value) (ks:List Nat) (C:World→Prop) (Pr:List α→α→Prop) (S Sp:List α→Prop) (w0:World):Prop :=
 ∀(l:Nat) (J:List α→World→Prop) (Jx:List α→World→Prop) (W:World),Below w0.heap.size w0 W→AbidesFrom W.heap.size J→(∀pre A,J pre A→C A) →
  (∀pre x A,Pr pre x→J pre A→YieldAt F (n-1) P l (encs x) A fun e B=>(e=.returned (.bool true)∧J (pre++[x]) B∧KeepL ks A B)∨(e=.returned (.bool false)∧Jx (pre++[x]) B)) →
  J [] W→CallsIn F n P gf (#[.func (.yield l) #[] #[]]++lb) W fun e B=>(∃v,e=.returned v)∧((∃xs,S xs∧J xs B)∨(∃pre,Sp pre∧Jx pre B))
section
variable {P:Program} {F:Fence} {n:Nat} {α:Type}
def outP (D:Nat) (ks:List Nat) (I Ix:List α→World→Prop) (xs:List α) (W:World):Exit→Act→World→Prop
 |.normal,_,W'=>KeepL (D::(D+1)::ks) W W'∧I xs W'
 |.ret,_,W'=>KeepL [D,D+1] W W'∧Ix xs W'
 |_,_,_=>False
end
section
variable {P:Program} {n:Nat} {α ι κ:Type}
def outQ (w0:World) (D:Nat) (oD oL:Obj) (pr:List α→ι→Prop) (Hx:ι→List Hl) (px:List α→κ→Prop) (Hy:κ→List Hl) (xs:List α):Exit→Act→World→Prop
 |.normal,_,W'=>∃z,pr xs z∧St w0 (oE D oD::oE (D+1) oL::Hx z) W'
 |.ret,_,W'=>∃y,px xs y∧St w0 (oE D oD::oE (D+1) oL::Hy y) W'
 |_,_,_=>False
instance {w0:World} {D:Nat} {oD oL:Obj} {pr:List α→ι→Prop} {Hx:ι→List Hl} {px:List α→κ→Prop} {Hy:κ→List Hl} {xs:List α} : NoOut (outQ w0 D oD oL pr Hx px Hy xs):=⟨fun⟨_,_,q⟩=>q⟩
theorem X.nextQ {w0:World} {D:Nat} {oD oL:Obj} {pr:List α→ι→Prop} {Hx:ι→List Hl} {px:List α→κ→Prop} {Hy:κ→List Hl} {xs:List α} {nT:Nat} {L:FL} {H:List Hl} (z:ι) (hp:pr xs z) (hH:∀W,St w0 H W→St w0 (oE D oD::oE (D+1) oL::Hx z) W):X (Qs [] (outQ w0 D oD oL pr Hx px Hy xs)) nT L w0 H .normal:=by
 unfold X
 exact fun _ W _ hw=>⟨z,hp,hH W hw⟩
end
section
variable {P:Program} {F:Fence} {n:Nat} {α:Type}
theorem range_pq {g:Operand} {ps:Array Tmp} {assign body:Code} {Q:Exit→Act→World→Prop} {a:Act} {w:World} (hro:F.round=none) (h1:1≤n) {gf:Nat} {lb:Array Value} (hg:a.eval g=.func (.func gf) #[] lb) (hF:F.fn gf) (eg:∀args w,(callFunc gf args).run P w=.ok (.enter gf args) w)
  {encs:α→Array Value} {ks:List Nat} {C:World→Prop} {Pr:List α→α→Prop} (hn:∀k∈ks,k<w.heap.size) {S Sp:List α→Prop} (hs:SeqPl F (n-1) P gf lb encs ks C Pr S Sp w) (hps:∀x,(encs x).size=ps.size)
  (I:List α→World→Prop) (Ix:List α→World→Prop) (oI:OwnFrom w.heap.size I) (oX:OwnFrom w.heap.size Ix) (hIC:∀pre W,I pre W→C W) (h0:I [] w) (A₁:Nat→List α→α→Act→World→Prop) (oA:∀D pre x a' W o r,W.heap[D+1]?=some (.loop r)→A₁ D pre x a' W→A₁ D pre x a' (W.putObj (D+1) (.loop o)))
  (hassign:∀(l D:Nat) (pre:List α) (x:α) (W:World),w.heap.size≤D→Pr pre x→I pre W→W.heap[D]?=some (.deferred (some []))→(∃r,W.heap[D+1]?=some (.loop r))→assign.wpIn (F.inRound l) (n-1-1) P (Exit.then (fun a' W'=>A₁ D pre x a' W'∧KeepL (D::(D+1)::ks) W W') (fun _ _ _=>False)) { tmps:=(ps.zip (encs x)).foldl (fun t (p,v)=>t.setIfInBounds p v) a.tmps,defers:=[] } W)
  (hbody:∀(l D:Nat) (pre:List α) (x:α) (W:World) (a':Act),A₁ D pre x a' W→w.heap.size≤D→Pr pre x→W.heap[D]?=some (.deferred (some []))→(∃r,W.heap[D+1]?=some (.loop r))→body.wpIn (F.inRound l) (n-1-1) P (outP D ks I Ix (pre++[x]) W) a' W)
  (hdone:∀(D:Nat) (xs:List α) (W:World),w.heap.size≤D→S xs→I xs W→W.heap[D]?=some (.deferred (some []))→Q .normal { a with defers:={ target:=.collected D,args:=#[] }::a.defers } W)
  (hstop:∀(D:Nat) (pre:List α) (W:World),w.heap.size≤D→Sp pre→Ix pre W→W.heap[D]?=some (.deferred (some []))→Code.ret.wpIn F n P Q { a with defers:={ target:=.collected D,args:=#[] }::a.defers } W) :
  (Code.rangeFunc g ps assign body).wpIn F n P Q a w:=by
 refine wpIn_rangeFunc fun fn hfn=>?_
 rw[hro]
 obtain⟨D,hD⟩:∃D,w.heap.size=D:=⟨_,rfl⟩
 obtain⟨rec,hrec⟩:∃rec:LoopState→Option Code→Loop,rec=fun st pe=>{ state:=st,pending:=pe,fn,tmps:=a.tmps,params:=ps,assign,body,defers:=D }:=⟨_,rfl⟩
 have hstart:=run_enterLoop_outer (P:=P) (w:=w) fn a.tmps ps assign body
 rw[hD] at hstart hn oI oX hdone hstop hbody hassign
 obtain⟨W1,hW1⟩:∃W1,(w.alloc (.deferred (some []))).alloc (.loop (rec .ready none))=W1:=⟨_,rfl⟩
 have hb1:Below w.heap.size w W1:=by
  rw[←hW1];exact((Below.refl _ w).alloc (Nat.le_refl _) _).alloc (by simp) _
 have bk1:Book D (rec .ready none) W1:=by
  rw[←hW1,←hD]
  refine⟨?_,(Below.heap_alloc _ _ _ (by simp)).trans (World.alloc_heap_new w _)⟩
  have:=World.alloc_heap_new (w.alloc (.deferred (some []))) (.loop (rec .ready none))
  rwa [World.size_alloc] at this
 have i1:I [] W1:=by rw[←hW1];exact oI.alloc _ (oI.alloc _ h0)
 have hsz:W1.heap.size=D+2:=by rw[←hW1];simp[hD]
 have turn:∀{s:List α} {A:World} {r r':Loop},I s A→Book D r A→I s (A.putObj (D+1) (.loop r')):=fun hi hb=>oI.putObj _ hi (by omega) hb.lp rfl
 have turnX:∀{s:List α} {A:World} {r r':Loop},Ix s A→Book D r A→Ix s (A.putObj (D+1) (.loop r')):=fun hi hb=>oX.putObj _ hi (by omega) hb.lp rfl
 have low:∀(A:World) (o:Obj),KeepL ks A (A.putObj (D+1) o):=fun A o k hk=>World.putObj_heap_other (by have:=hn k hk;omega)
 refine⟨D+1,[{ target:=.collected D,args:=#[] }],W1,{ target:=.fn (.func gf) lb,args:=#[.func (.yield (D+1)) #[] #[]] },W1,gf,#[.func (.yield (D+1)) #[] #[]]++lb,W1,?_,?_,?_,?_,fun _=>h1,?_⟩
 ·rw[hstart,←hW1,hrec]
 ·simp only[resolve,hg]
  simp[go_sem]
 ·intro f' hf';simp[Target.leads] at hf';subst hf';exact hF
 ·simp[invoke,go_sem,eg]
 refine(hs (D+1) (fun s A=>I s A∧Book D (rec .ready none) A) (fun s A=>Ix s A∧Book D (rec .done (some .ret)) A) W1 hb1 ?_ (fun pre A h=>hIC pre A h.1) ?_ ⟨i1,bk1⟩).mono ?_
 ·rintro s A B row ⟨hi,hb⟩ hgr hr
  exact⟨oI s A B row hi hgr (fun k e=>by obtain⟨h2,o,ho,hw⟩:=hr k e;exact⟨by omega,o,ho,Obj.not_cells_of_walk hw⟩),hb.grown hgr (fun k e=>(hr k e).2)⟩
 ·rintro pre x A hM ⟨hi,hb⟩
  have hlt:D+1<A.heap.size:=(Array.getElem?_eq_some_iff.1 hb.lp).1
  have hy:=run_yield (P:=P) (args:=encs x) hb.lp (by rw[hrec];exact hps x)
  rw[hrec] at hy
  refine⟨fn,_,assign,body,hy,roundIn_of_wpIn hfn (wpIn_mono (hassign _ D pre x A (Nat.le_refl _) hM hi hb.df ⟨_,hb.lp⟩) ?_)⟩
  rintro ee a' A' hq
  cases ee with
  |exit id=>exact hq.elim
  |goto t=>exact hq.elim
  |panic ch=>exact hq.elim
  |outgrown=>exact hq.elim
  |ret=>exact hq.elim
  |normal =>
  obtain⟨hA1,hkA⟩:=hq
  have hbA:Book D (rec .ready none) A':=⟨(hkA _ (by simp)).trans hb.lp,(hkA _ (by simp)).trans hb.df⟩
  have bk2:Book D (rec .busy none) (A'.putObj (D+1) (.loop (rec .busy none))):=hbA.turn
  have hbeg:(Instr.beginRound (D+1)).run P A'=.ok () (A'.putObj (D+1) (.loop (rec .busy none))):=by
   have:=run_beginRound (P:=P) hbA.lp (by rw[hrec])
   rw[this,hrec]
  refine⟨_,hbeg,?_⟩
  have low1:KeepL ks A (A'.putObj (D+1) (.loop (rec .busy none))):=KeepL.trans (fun k hk=>hkA k (List.mem_cons_of_mem _ (List.mem_cons_of_mem _ hk))) (low A' (.loop (rec .busy none)))
  have i2:=oA D pre x a' A' (rec .busy none) _ hbA.lp hA1
  generalize A'.putObj (D+1) (.loop (rec .busy none))=A2 at bk2 low1 i2 ⊢
  refine wpIn_mono (hbody _ D pre x _ a' i2 (Nat.le_refl _) hM bk2.df ⟨_,bk2.lp⟩) ?_
  rintro e a3 W3 hp
  cases e with
  |normal =>
   obtain⟨k3,i3⟩:=hp
   have bk3:Book D (rec .busy none) W3:=⟨(k3 _ (by simp)).trans bk2.lp,(k3 _ (by simp)).trans bk2.df⟩
   have b3:KeepL ks A2 W3:=fun k hk=>k3 k (List.mem_cons_of_mem _ (List.mem_cons_of_mem _ hk))
   have hend:=run_endRound (P:=P) none bk3.lp
   have low3:=low W3 (.loop (rec .ready none))
   refine⟨_,_,hend,.inl ⟨rfl,⟨?_,?_⟩,?_⟩⟩
   ·exact turn i3 bk3
   ·have:=bk3.turn (r':=rec .ready none)
    rw[hrec] at this ⊢;exact this
   ·rw[hrec] at low3
    exact(low1.trans b3).trans (by rw[hrec];exact low3)
  |ret =>
   obtain⟨k3,i3⟩:=hp
   have bk3:Book D (rec .busy none) W3:=⟨(k3 _ (by simp)).trans bk2.lp,(k3 _ (by simp)).trans bk2.df⟩
   have hend:=run_endRound (P:=P) (some .ret) bk3.lp
   refine⟨_,_,hend,.inr ⟨rfl,turnX i3 bk3,?_⟩⟩
   have:=bk3.turn (r':=rec .done (some .ret))
   rw[hrec] at this ⊢;exact this
  |exit id=>exact hp.elim
  |goto t=>exact hp.elim
  |panic ch=>exact hp.elim
  |outgrown=>exact hp.elim
 ·rintro e W2 ⟨⟨v,rfl⟩,(⟨xs,hS,hi,hb⟩|⟨pre,hSp,hi,hb⟩)⟩
  ·have:=run_endLoop (P:=P) hb.lp (by rw[hrec];simp)
   have bk:=hb.turn (r':=rec .exhausted none)
   refine⟨none,_,?_,hdone D xs _ (Nat.le_refl _) hS (turn hi hb) bk.df⟩
   rw[this,hrec]
  ·have:=run_endLoop (P:=P) hb.lp (by rw[hrec];simp)
   have bk:=hb.turn (r':=rec .exhausted (some .ret))
   refine⟨some .ret,_,?_,hstop D pre _ (Nat.le_refl _) hSp (turnX hi hb) bk.df⟩
   rw[this,hrec]
end
theorem St.turnE {w0 W:World} {H:List Hl} {D:Nat} {oL o:Obj} {x:Hl} (h:St w0 (x::oE (D+1) oL::H) W) (ho:D+1<W.heap.size) (hx:x.spot≠some (D+1)):St w0 (x::oE (D+1) o::H) (W.putObj (D+1) o):=by
 have hge:w0.heap.size≤D+1:=(h.all (oE (D+1) oL) (List.mem_cons_of_mem _ List.mem_cons_self)).1
 refine h.turn (x:=oE (D+1) oL) (y:=oE (D+1) o) (.there _ (.here _)) rfl ?_ ⟨hge,o,World.putObj_heap_same ho,rfl⟩ fun b hb=>.inl hb
 exact⟨rfl,rfl,rfl,by simp,fun k _ hk=>World.putObj_heap_other fun e=>hk (by rw[e];rfl)⟩
section
variable {P:Program} {n:Nat} {α ι ι₁ κ:Type}
def outA (w0:World) (nT D:Nat) (oD oL:Obj) (L₁:ι₁→FL) (Hx₁:ι₁→List Hl):Exit→Act→World→Prop
 |.normal,a,W'=>∃z1,Fr nT (L₁ z1) a∧St w0 (oE D oD::oE (D+1) oL::Hx₁ z1) W'
 |_,_,_=>False
instance {w0:World} {nT D:Nat} {oD oL:Obj} {L₁:ι₁→FL} {Hx₁:ι₁→List Hl} : NoOut (outA w0 nT D oD oL L₁ Hx₁):=⟨fun⟨_,_,q⟩=>q⟩
theorem X.asgd {w0:World} {D:Nat} {oD oL:Obj} {L₁:ι₁→FL} {Hx₁:ι₁→List Hl} {nT:Nat} {L:FL} {H:List Hl} (z1:ι₁) (hL:Sub L (L₁ z1)) (hH:∀W,St w0 H W→St w0 (oE D oD::oE (D+1) oL::Hx₁ z1) W):X (Qs [] (outA w0 nT D oD oL L₁ Hx₁)) nT L w0 H .normal:=by
 unfold X
 exact fun a W ha hw=>⟨z1,Fr.weaken (L:=L) ⟨ha.size,rfl,ha.at_⟩ hL.spec,hH W hw⟩
theorem GI.rangeQ {m:Nat} {ds:List Deferred} {Q:Exit→Act→World→Prop} {nT:Nat} {L:FL} {w0:World} {H:List Hl} {id:Nat} {gv:Operand} {ps:Array Tmp} {assign body:Code} {gf:Nat} {lb:Array Value} [hno:NoOut Q] (h1:1≤m) (hg:evO L gv=some (.func (.func gf) #[] lb)) (eg:isGo P gf=true)
  {encs:α→Array Value} (kb:List (Nat×TypeId×List Value)) {C:World→Prop} (hC:∀W,Below w0.heap.size w0 W→C W) {Pr:List α→α→Prop} {S Sp:List α→Prop} (hs:∀w,St w0 H w→SeqPl Fence.wide (m-1) P gf lb encs (kb.map (·.1)) C Pr S Sp w) (hps:∀x,(encs x).size=ps.size)
  (pr:List α→ι→Prop) (Hx:ι→List Hl) (px:List α→κ→Prop) (Hy:κ→List Hl) (hk:∀z,∀x∈kb,Hl.blk x.1 x.2.1 x.2.2∈Hx z) (cx:∀w,St w0 H w→∀z,AllCells w.heap.size (Hx z)) (cy:∀w,St w0 H w→∀y,AllCells w.heap.size (Hy y)) (z0:ι) (h0:pr [] z0) (hst:∀w,St w0 H w→St w0 (Hx z0) w) (La:α→FL) (L₁:α→ι→ι₁→FL) (Hx₁:α→ι→ι₁→List Hl) (hk1:∀x z z1,∀y∈kb,Hl.blk y.1 y.2.1 y.2.2∈Hx₁ x z z1)
  (hla:∀(a:Act) (x:α),Fr nT L a→Fr nT (La x) { tmps:=(ps.zip (encs x)).foldl (fun t (p,v)=>t.setIfInBounds p v) a.tmps,defers:=[] })
  (hassign:∀(r D:Nat) (pre:List α) (x:α) (z:ι) (oD oL:Obj),Pr pre x→pr pre z→GI P (some r) (m-1-1) [] (outA w0 nT D oD oL (L₁ x z) (Hx₁ x z)) nT (La x) w0 (oE D oD::oE (D+1) oL::Hx z) assign)
  (hbody:∀(r D:Nat) (pre:List α) (x:α) (z:ι) (z1:ι₁) (oD oL:Obj),Pr pre x→pr pre z→GI P (some r) (m-1-1) [] (outQ w0 D oD oL pr Hx px Hy (pre++[x])) nT (L₁ x z z1) w0 (oE D oD::oE (D+1) oL::Hx₁ x z z1) body)
  (hdone:∀(D:Nat) (xs:List α) (z:ι),S xs→pr xs z→X (Qs (colD D::ds) Q) nT L w0 (oD D::Hx z) .normal)
  (hstop:∀(D:Nat) (pre:List α) (y':κ),Sp pre→px pre y'→X (Qs (colD D::ds) Q) nT L w0 (oD D::Hy y') .ret) :
  GI P none m ds Q nT L w0 H (.block id (.rangeFunc gv ps assign body)):=fun a w ha hw=>by
 refine wpIn_block ?_
 have hsz:=hw.ext.size
 have cx:=cx w hw
 have cy:=cy w hw
 have hst:=hst w hw
 have hnk:∀k∈kb.map (·.1),k<w.heap.size:=by
  intro k hm
  obtain⟨x,hx,rfl⟩:=List.mem_map.1 hm
  exact Hl.lt (hst.all _ (hk z0 x hx)) rfl
 refine range_pq (a:={ a with defers:=ds }) (w:=w) rfl h1 (ha.eval hg) trivial (fun args w'=>run_isGo eg args w') hnk (hs w hw) hps (fun pre W=>∃z,pr pre z∧St w0 (Hx z) W) (fun pre W=>∃y,px pre y∧St w0 (Hy y) W) ?oI ?oX (fun pre W ⟨z,_,h⟩=>hC W h.ext) ⟨z0,h0,hst⟩ (fun D pre x a' W=>∃z z1 oL,pr pre z∧Fr nT (L₁ x z z1) a'∧St w0 (oE D (.deferred (some []))::oE (D+1) oL::Hx₁ x z z1) W) ?oA ?asg ?body ?done ?stop
 case oI =>
  rintro s A B row ⟨z,hz,h⟩ hgr hr
  exact⟨z,hz,h.grownO hsz (cx z) hgr hr⟩
 case oX =>
  rintro s A B row ⟨y,hy,h⟩ hgr hr
  exact⟨y,hy,h.grownO hsz (cy y) hgr hr⟩
 case oA =>
  rintro D pre x a' W o r hl ⟨z,z1,oL,hz,hf,h⟩
  exact⟨z,z1,_,hz,hf,h.turnE (Array.getElem?_eq_some_iff.1 hl).1 (by simp[Hl.spot])⟩
 case asg =>
  rintro l D pre x W hD hP ⟨z,hz,h⟩ hdf ⟨rr,hlp⟩
  have s6:=h.odd (D:=D+1) (h.notSpot (cx z) (by omega) hlp rfl) (by omega) hlp
  have s7:=s6.odd (D:=D) (fun y hm=>by
   rcases List.mem_cons.1 hm with rfl|hm
   ·simp[Hl.spot]
   ·exact h.notSpot (cx z) hD hdf rfl y hm) (by omega) hdf
  have hq0:=hassign l D pre x z _ _ hP hz _ W (hla a x ha) s7
  refine wpIn_mono hq0 ?_
  rintro e a' W' hq
  cases e with
  |normal =>
   obtain⟨z1,hf,s'⟩:=hq
   refine⟨⟨z,z1,_,hz,hf,s'⟩,fun k hkm=>?_⟩
   rcases List.mem_cons.1 hkm with rfl|hkm
   ·exact(s'.at (by simp)).trans hdf.symm
   rcases List.mem_cons.1 hkm with rfl|hkm
   ·exact(s'.at (o:=.loop rr) (by simp)).trans hlp.symm
   obtain⟨y,hy,rfl⟩:=List.mem_map.1 hkm
   exact((s'.sub (H':=Hx₁ x z z1) (.cons _ (.cons _ (List.Sublist.refl _)))).blk (hk1 x z z1 y hy)).trans (h.blk (hk z y hy)).symm
  |exit id=>exact hq.elim
  |goto t=>exact hq.elim
  |panic ch=>exact hq.elim
  |outgrown=>exact hq.elim
  |ret=>exact hq.elim
 case body =>
  rintro l D pre x W a₀ ⟨z,z1,oL,hz,ha₀,s7⟩ hD hP hdf ⟨rr,hlp⟩
  have ea:({ a₀ with defers:=[] } : Act)=a₀:=by
   obtain⟨ts,dd⟩:=a₀
   have hdd:dd=[]:=ha₀.defs
   subst hdd
   rfl
  have hbd:=hbody l D pre x z z1 _ _ hP hz a₀ W ha₀ s7
  rw[ea] at hbd
  refine wpIn_mono hbd ?_
  rintro e a' W' hq
  cases e with
  |normal =>
   obtain⟨z',hz',s'⟩:=hq
   have s8:=s'.sub (.cons _ (.cons _ (List.Sublist.refl _)))
   refine⟨fun k hkm=>?_,z',hz',s8⟩
   rcases List.mem_cons.1 hkm with rfl|hkm
   ·exact(s'.at (by simp)).trans hdf.symm
   rcases List.mem_cons.1 hkm with rfl|hkm
   ·exact(s'.at (o:=oL) (by simp)).trans (s7.at (o:=oL) (by simp)).symm
   obtain⟨y,hy,rfl⟩:=List.mem_map.1 hkm
   exact(s8.blk (hk z' y hy)).trans ((s7.sub (H':=Hx₁ x z z1) (.cons _ (.cons _ (List.Sublist.refl _)))).blk (hk1 x z z1 y hy)).symm
  |ret =>
   obtain⟨y,hy,s'⟩:=hq
   refine⟨fun k hkm=>?_,y,hy,s'.sub (.cons _ (.cons _ (List.Sublist.refl _)))⟩
   simp at hkm
   rcases hkm with rfl|rfl
   ·exact(s'.at (by simp)).trans hdf.symm
   ·exact(s'.at (o:=oL) (by simp)).trans (s7.at (o:=oL) (by simp)).symm
  |exit id=>exact hq.elim
  |goto t=>exact hq.elim
  |panic ch=>exact hq.elim
  |outgrown=>exact hq.elim
 case done =>
  rintro D xs W hD hS ⟨z,hz,h⟩ hK
  have hdn:=hdone D xs z hS hz
  unfold X at hdn
  exact hdn a W ha (h.odd (h.notSpot (cx z) hD hK rfl) (by omega) hK)
 case stop =>
  rintro D pre W hD hSp ⟨y,hy,h⟩ hK
  have hst2:=hstop D pre y hSp hy
  unfold X at hst2
  refine wpIn_ret ?_
  exact hst2 a W ha (h.odd (h.notSpot (cy y) hD hK rfl) (by omega) hK)
end
end Go.Proofs.YtjmdeplmenbmmaaGreat
set_option maxHeartbeats 8000000
namespace Go.Proofs.YtjmdeplmenbmmaaGreat
open Go.RowKit
def signI (n:Int):Int:=if TT.turnI n≥10800000 then TT.turnI n-21600000 else TT.turnI n
theorem wrap_c {n:Int} (h : -4611686018427387904≤n∧n≤4611686018427387904):Cont Tryz.prog 96 [.int .i64 n] (.int .i64 (TT.turnI n)):=fun w=>by
 have ht:=tmod_turn n
 have hb : -21600000<n.tmod 21600000∧n.tmod 21600000<21600000:=by omega
 refine enter0 Tryz.func96 rfl rfl rfl ?_
 repeat' (first|(refine nxV ?_)|(refine nSS ?_)|(refine nS1 fun _=>?_)|(refine nMM ?_)|(refine nM1 fun _=>?_)|(refine nxG ?_)|(refine nxX ?_)|(refine G.cN rfl (fun hc=>?_) (fun hc=>?_)<;>(try first|exact hc.elim|(exfalso;omega))))
 all_goals refine X.ret (vs:=[_]) rfl ⟨rfl,rfl⟩ rfl (fun w hw=>⟨congrArg Ending.returned (congrArg (Value.int .i64) ?_),hw.ext⟩)
 all_goals (unfold TT.turnI;omega)
theorem signed_c {n:Int} (h : -4611686018427387904≤n∧n≤4611686018427387904):Cont Tryz.prog 68 [.int .i64 n] (.int .i64 (signI n)):=fun w=>by
 have q1:=wrap_c h
 have hb:=TT.turnI_bd n
 unfold signI
 generalize TT.turnI n=m at *
 by_cases hc:m≥10800000
 ·rw[if_pos hc]
  refine enter0 Tryz.func68 rfl rfl rfl ?_
  repeat' (first|(show YK _ _ _ _ _ _ _;first|refine YK.mk (zcA (q1) ⟨rfl,rfl⟩) ?_)|(refine nxV ?_)|(refine nSS ?_)|(refine nS1 fun _=>?_)|(refine nMM ?_)|(refine nM1 fun _=>?_)|(show YG _ _ _ _ _ _ _ _;refine YG.mk (fun hb=>by(try(have hc:=And.left hb;have hb:=And.right hb;rw[hc]));(try rw[hb]);first|exact(zcA (q1) ⟨rfl,rfl⟩)|exact V.y vAuto) ?_)|(refine nxG ?_)|(refine nxX ?_)|(refine G.cN rfl (fun hc=>?_) (fun hc=>?_)<;>(try first|exact hc.elim|(exfalso;omega))))
  exact X.ret1
 ·rw[if_neg hc]
  refine enter0 Tryz.func68 rfl rfl rfl ?_
  repeat' (first|(show YK _ _ _ _ _ _ _;first|refine YK.mk (zcA (q1) ⟨rfl,rfl⟩) ?_)|(refine nxV ?_)|(refine nSS ?_)|(refine nS1 fun _=>?_)|(refine nMM ?_)|(refine nM1 fun _=>?_)|(show YG _ _ _ _ _ _ _ _;refine YG.mk (fun hb=>by(try(have hc:=And.left hb;have hb:=And.right hb;rw[hc]));(try rw[hb]);first|exact(zcA (q1) ⟨rfl,rfl⟩)|exact V.y vAuto) ?_)|(refine nxG ?_)|(refine nxX ?_)|(refine G.cN rfl (fun hc=>?_) (fun hc=>?_)<;>(try first|exact hc.elim|(exfalso;omega))))
  exact X.ret1
theorem signI_bd (n:Int) : -10800000≤signI n∧signI n<10800000:=by
 have:=TT.turnI_bd n
 unfold signI
 split<;>omega
def pointB (la lo:Int):Bool:=decide (-5400000≤la)&&decide (la≤5400000)&&decide (-10800000≤lo)&&decide (lo<10800000)
abbrev ptV (la lo:Int):Value:=.agg [.int .i64 la,.int .i64 lo].toArray
theorem vpoint_c (la lo:Int):Cont Tryz.prog 61 [ptV la lo] (.bool (pointB la lo)):=fun w=>by
 refine enter0 Tryz.func61 rfl rfl rfl ?_
 repeat' (first|(refine nxV ?_)|(refine nSS ?_)|(refine nS1 fun _=>?_)|(refine nMM ?_)|(refine nM1 fun _=>?_)|(refine nxG ?_)|(refine nxX ?_)|(refine G.cN rfl (fun hc=>?_) (fun hc=>?_)<;>(try first|exact hc.elim|(exfalso;omega))))
 exact X.ret1
end Go.Proofs.YtjmdeplmenbmmaaGreat
