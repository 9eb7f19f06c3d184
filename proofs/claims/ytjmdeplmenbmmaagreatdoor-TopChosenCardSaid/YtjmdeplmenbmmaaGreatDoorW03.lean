/- Joined texts: Brd, ContU, CallL, Bytes, LitS, Cel. -/
import Derived.Test.YtjmdeplmenbmmaaGreatDoorW02
import Derived.Laws.BytesString
import Derived.Test.YtjmdeplmenbmmaaGreatDoorU02
set_option linter.unusedVariables false
namespace Go.Proofs.YtjmdeplmenbmmaaGreatDoor
open Go.RowKit Go.Shelf
def AllAt (a:Act):FL→Prop
 |[]=>True
 |(i,v)::r=>a.tmps.getD i undef=v∧AllAt a r
theorem AllAt.spec {a:Act} : ∀{L:FL},AllAt a L→∀i v,lk L i=some v→a.tmps.getD i undef=v
 |[],_,_,_,h=>by simp[lk] at h
 |(j,u)::r,hs,i,v,h=>by
  by_cases e:j=i
  ·subst e
   rw[lk_cons_eq] at h
   cases h
   exact hs.1
  ·rw[lk_cons_ne r u e] at h
   exact AllAt.spec hs.2 i v h
theorem Fr.of {n:Nat} {L:FL} {ts:Array Value} (h1:ts.size=n) (h2:AllAt { tmps:=ts,defers:=[] } L):Fr n L { tmps:=ts,defers:=[] }:=⟨h1,rfl,h2.spec⟩
theorem bridge {P:Program} {Q Q':Exit→Act→World→Prop} {n m:Nat} {L:FL} {H:List Hl} {c:Code} {a:Act} {w:World} (hf:Fr n L a) (hs:St w H w) (hg:G P Q' n L w H c) (hk:∀e a' w',Q' e a' w'→Q e a' w'):c.wpIn Fence.wide m P Q a w:=by
 unfold G at hg
 exact wpIn_wide.2 (Code.wp_mono hk (hg a w hf hs))
theorem Fr.out {n:Nat} {L:FL} {a:Act} (h:Fr n L a):∃us:List Value,us.length=n∧a={ tmps:=us.toArray,defers:=[] }∧∀i v,lk L i=some v→us.getD i undef=v:=by
 obtain⟨ts,ds⟩:=a
 have h1:ts.size=n:=h.size
 have h2:ds=[]:=h.defs
 have h3:∀i v,lk L i=some v→ts.getD i undef=v:=h.at_
 subst h2
 refine⟨ts.toList,by rw[Array.length_toList];exact h1,rfl,fun i v hi=>?_⟩
 have:=h3 i v hi
 rw[Array.getD_eq_getD_getElem?] at this
 rw[List.getD_eq_getElem?_getD,Array.getElem?_toList]
 exact this
abbrev bxS (b:Nat):Value:=.slice (some ⟨b,0,none⟩) 1 1
abbrev c1X (v:Value):List Value:=[v]
theorem y_bx {P:Program} {n:Nat} {L:FL} {w0:World} {H:List Hl} {d:Option Tmp} {ty t:TypeId} {pos:String} {af:Array Edge} {g:Option (Nat×Bool)} {x:Operand} (b:Nat) (u:Value) (hx:evO L x=some (.pointer (some ⟨b,0,none⟩))) (h:RdT H (bxS b) c1X 1 [u]) (ht:scalarB P t=true) :
  V P n L w0 H ⟨d,.load t x,ty,pos,af,g⟩ u:=y_loadEl (inst:=⟨u⟩) (u:=u) (v:=bxS b) (s:=1) (m:=0) (i:=0) (f:=c1X) (l:=[u]) hx h (fun _=>rfl) ⟨by decide,by simp⟩ rfl rfl ht
theorem ro_bx {w:World} {b:Nat} {u:Value} (h:w.cell? ⟨b,0,none⟩=some u):RO w (bxS b) 1 1 [u] :=
 ⟨rfl,_,1,rfl,Nat.le_refl _,fun _=>⟨_,rfl,fun j x hx=>by
  match j,hx with
  |0,hx=>simp at hx;subst hx;exact h
  |j+1,hx=>simp at hx⟩,fun h=>by cases h⟩
end Go.Proofs.YtjmdeplmenbmmaaGreatDoor
set_option maxHeartbeats 8000000
namespace Go.Proofs.YtjmdeplmenbmmaaGreatDoor
open Go.RowKit
inductive At (x:Hl):List Hl→List Hl→List Hl→Prop
 |here {B:List Hl} : At x [] B (x::B)
 |there {h:Hl} {A B H:List Hl} : At x A B H→At x (h::A) B (h::H)
theorem At.mem {x:Hl} {A B H:List Hl} (h:At x A B H):x∈H:=by
 induction h with
 |here=>exact List.mem_cons_self
 |there _ ih=>exact List.mem_cons_of_mem _ ih
theorem At.subset {x y:Hl} {A B H:List Hl} (h:At x A B H) (hy:y∈x::(A++B)):y∈H:=by
 induction h with
 |here=>simpa using hy
 |there h ih =>
  rcases List.mem_cons.1 hy with rfl|hy
  ·exact List.mem_cons_of_mem _ (ih List.mem_cons_self)
  ·rcases List.mem_cons.1 hy with rfl|hy
   ·exact List.mem_cons_self
   ·exact List.mem_cons_of_mem _ (ih (List.mem_cons_of_mem _ hy))
theorem At.apart {x:Hl} {A B H:List Hl} (h:At x A B H) (ha:allApart H):allApart (x::(A++B)):=by
 induction h with
 |here=>exact ha
 |@there z A B H h ih =>
  obtain⟨h1,h2⟩:=ha
  obtain⟨h3,h4⟩:=ih h2
  refine⟨fun y hy b hb ho=>?_,fun y hy b hb ho=>?_,h4⟩
  ·rcases List.mem_cons.1 hy with rfl|hy
   ·exact(h1 x h.mem b ho hb).symm
   ·exact h3 y hy b hb ho
  ·exact h1 y (h.subset (List.mem_cons_of_mem _ hy)) b hb ho
theorem St.front {w0 w:World} {x:Hl} {A B H:List Hl} (h:At x A B H) (hw:St w0 H w):St w0 (x::(A++B)) w :=
 ⟨hw.ext,fun y hy=>hw.all y (h.subset hy),h.apart hw.apart⟩
def ContU (P:Program) (X:Hl) (f:FuncId) (args:List Value) {ι:Type} (post:ι→Prop) (v:ι→Value) (Y:ι→List Hl):Prop :=
 ∀w0 HR w,St w0 (X::HR) w→Calls P f args.toArray w fun e w'=>∃z,post z∧e=.returned (v z)∧St w0 (Y z++HR) w'
section
variable {P:Program} {n:Nat} {L:FL} {w0:World} {H HS:List Hl} {Q:Exit→Act→World→Prop} {ops:Array Oper} {rest:List Oper} {ord:List Mv} {ps:List Pd} {d dd i:Nat} {ty:TypeId} {pos:String} {af:Array Edge} {gd:Option (Nat×Bool)} {x y z q:Operand} {t e:TypeId} {ι α:Type} {f:α→List Value} {s bytes:Nat} {l l':List α} {u v:Value} {k k' k'':IntKind} {m m' m'':Int}
theorem enterU {f:FuncId} {fn:Func} {c:Code} {vs:List Value} {w:World} {R:Ending→World→Prop} (hf:P.funcs[f]?=some fn) (hb:fn.body=some c) (hn:fn.ntmps=n) (hl:Nat.ble vs.length n=true) (hw:St w0 H w)
  (h:G P (bodyPost P fn R) n (argsL 0 vs) w0 H c):Calls P f vs.toArray w R:=by
 unfold G at h
 refine calls_of_wp hf hb (h _ _ ⟨?_,rfl,fun i v hi=>?_⟩ hw)
 ·have:=Nat.le_of_ble_eq_true hl
  simp[hn];omega
 ·have:=(lk_argsL vs 0 i v hi).2
  have hlt:=(List.getElem?_eq_some_iff.1 this).1
  simp at this
  have hlt':i<vs.length:=by omega
  have h2:=(List.getElem?_eq_some_iff.1 this).2
  simpa [Array.getElem?_append,hlt'] using h2
theorem x_callU {X:Hl} {A B:List Hl} {f:FuncId} {xs:List Operand} {vs:List Value} {tys:Array TypeId} {post:ι→Prop} {v:ι→Value} {Y:ι→List Hl} (hc:ContU P X f vs post v Y) (ha:AE L xs vs) (hA:At X A B H) (hg:isGo P f=true) (hd:Nat.blt dd n=true) :
  EX P n L w0 H ⟨some dd,.call { callee:=.value (.func f),args:=xs.toArray,argTypes:=tys },ty,pos,af,gd⟩ post (fun z=>(dd,v z)::L) (fun z=>Y z++(A++B)):=fun a w hfr hw K Q hK=>by
 unfold Oper.wp
 rw[run_call hfr ha hg]
 refine(hc w0 (A++B) w (St.front hA hw)).mono ?_
 rintro e w' ⟨z,hz,rfl,hs⟩
 exact hK _ _ ⟨z,hz,hfr.put (by simpa [Nat.blt_eq] using hd),hs⟩
theorem RS.callU {X:Hl} {A B:List Hl} {f:FuncId} {xs:List Operand} {vs:List Value} {tys:Array TypeId} {post:ι→Prop} {v:ι→Value} {Y:ι→List Hl} (hc:ContU P X f vs post v Y) (ha:AE L xs vs) (h:∀z,post z→RS P ops Q n ((dd,v z)::L) w0 (Y z++(A++B)) rest)
  (hA:At X A B H:=by first|exact .here|exact .there .here|exact .there (.there .here)|exact .there (.there (.there .here))|exact .there (.there (.there (.there .here)))|exact .there (.there (.there (.there (.there .here)))))
  (hg:isGo P f=true:=by decide +kernel) (hd:Nat.blt dd n=true:=by rfl) :
  RS P ops Q n L w0 H (⟨some dd,.call { callee:=.value (.func f),args:=xs.toArray,argTypes:=tys },ty,pos,af,none⟩::rest):=RS.actX rfl (x_callU hc ha hA hg hd) h
end
theorem At.perm {x:Hl} {A B H:List Hl} (h:At x A B H):H.Perm (x::(A++B)):=by
 induction h with
 |here=>exact List.Perm.refl _
 |there _ ih=>exact(ih.cons _).trans (List.Perm.swap _ _ _)
inductive Pick:List Hl→List Hl→List Hl→Prop
 |nil {H:List Hl} : Pick [] H H
 |cons {x:Hl} {xs A B H R:List Hl} (a:At x A B H) (b:Pick xs (A++B) R):Pick (x::xs) H R
theorem Pick.perm {xs H R:List Hl} (h:Pick xs H R):H.Perm (xs++R):=by
 induction h with
 |nil=>exact List.Perm.refl _
 |cons ha _ ih=>exact ha.perm.trans (ih.cons _)
theorem St.picked {w0 w:World} {xs H R:List Hl} (h:Pick xs H R) (hw:St w0 H w):St w0 (xs++R) w:=hw.perm h.perm
theorem St.froz {α:Type} {w0 w:World} {H:List Hl} {v:Value} {e:TypeId} {f:α→List Value} {s:Nat} {l:List α} (h:St w0 (Hl.rw v e f s l::H) w):St w0 (Hl.nw v f s l::H) w:=by
 refine⟨h.ext,fun x hx=>?_,fun z hz b hb ho=>?_,h.apart.2⟩
 ·rcases List.mem_cons.1 hx with rfl|hx
  ·exact⟨RO.of_row (h.all _ List.mem_cons_self),fun _ _ b hb=>Hl.ge (h.all _ List.mem_cons_self) rfl hb⟩
  ·exact h.all x (List.mem_cons_of_mem _ hx)
 ·have hb2:(Hl.rw v e f s l).spot=some b:=by
   cases hl:l.flatMap f with
   |nil=>simp only[Hl.spot,hl] at hb;cases hb
   |cons u r=>simp only[Hl.spot,hl] at hb;exact hb
  have:=(h.apart.1 z hz b hb2 ho).1
  cases this
def ContL (P:Program) (C:World→Prop) (Xs:List Hl) (f:FuncId) (args:List Value) {ι:Type} (post:ι→Prop) (v:ι→Value) (Y:ι→List Hl):Prop :=
 ∀w0 HR w,C w0→St w0 (Xs++HR) w→Calls P f args.toArray w fun e w'=>∃z,post z∧e=.returned (v z)∧St w0 (Y z++HR) w'
section
variable {P:Program} {C:World→Prop} {n:Nat} {L:FL} {w0:World} {H HS Xs R:List Hl} {Q:Exit→Act→World→Prop} {ops:Array Oper} {rest:List Oper} {ord:List Mv} {dd i:Nat} {ty:TypeId} {pos:String} {af:Array Edge} {gd:Option (Nat×Bool)} {ι:Type} {f:FuncId} {xs:List Operand} {vs:List Value} {tys:Array TypeId} {post:ι→Prop} {v:ι→Value} {Y:ι→List Hl}
theorem x_callL (hc:ContL P C Xs f vs post v Y) (hC:C w0) (ha:AE L xs vs) (hp:Pick Xs H R) (hg:isGo P f=true) (hd:Nat.blt dd n=true) :
  EX P n L w0 H ⟨some dd,.call { callee:=.value (.func f),args:=xs.toArray,argTypes:=tys },ty,pos,af,gd⟩ post (fun z=>(dd,v z)::L) (fun z=>Y z++R):=fun a w hfr hw K Q hK=>by
 unfold Oper.wp
 rw[run_call hfr ha hg]
 refine(hc w0 R w hC (St.picked hp hw)).mono ?_
 rintro e w' ⟨z,hz,rfl,hs⟩
 exact hK _ _ ⟨z,hz,hfr.put (by simpa [Nat.blt_eq] using hd),hs⟩
theorem RS.callL (hc:ContL P C Xs f vs post v Y) (hC:C w0) (h:∀z,post z→RS P ops Q n ((dd,v z)::L) w0 (Y z++R) rest) (ha:AE L xs vs:=by first|exact rfl|exact⟨rfl,rfl⟩|exact⟨rfl,rfl,rfl⟩|exact⟨rfl,rfl,rfl,rfl⟩|exact⟨rfl,rfl,rfl,rfl,rfl⟩|exact⟨rfl,rfl,rfl,rfl,rfl,rfl⟩|exact⟨rfl,rfl,rfl,rfl,rfl,rfl,rfl⟩|exact⟨rfl,rfl,rfl,rfl,rfl,rfl,rfl,rfl⟩|exact⟨rfl,rfl,rfl,rfl,rfl,rfl,rfl,rfl,rfl⟩) (hp:Pick Xs H R:=by(repeat(first|exact Pick.nil|(apply Pick.cons;(case a=>(first|exact At.here|exact At.there (At.here)|exact At.there (At.there (At.here))|exact At.there (At.there (At.there (At.here)))|exact At.there (At.there (At.there (At.there (At.here))))|exact At.there (At.there (At.there (At.there (At.there (At.here)))))|exact At.there (At.there (At.there (At.there (At.there (At.there (At.here))))))|exact At.there (At.there (At.there (At.there (At.there (At.there (At.there (At.here)))))))|exact At.there (At.there (At.there (At.there (At.there (At.there (At.there (At.there (At.here))))))))|exact At.there (At.there (At.there (At.there (At.there (At.there (At.there (At.there (At.there (At.here))))))))))))))) (hg:isGo P f=true:=by decide +kernel) (hd:Nat.blt dd n=true:=by rfl) :
  RS P ops Q n L w0 H (⟨some dd,.call { callee:=.value (.func f),args:=xs.toArray,argTypes:=tys },ty,pos,af,none⟩::rest):=RS.actX rfl (x_callL hc hC ha hp hg hd) h
variable {α:Type} {f':α→List Value} {l l':List α} {t e:TypeId} {s bytes:Nat} {x y:Operand} {u u':Value} {m:Int}
theorem RM.appendA {H':Sl→List Hl} (h:∀v':Sl,RM P ops Q HS n [] ((dd,v'.v)::L) w0 (H' v') ord) (ho:ops[i]?=some ⟨some dd,.call { callee:=.builtin .append,args:=#[x,y],argTypes:=#[t,t] },ty,pos,af,none⟩) (hx:evO L x=some u) (hy:evO L y=some u') (hu:∀v':Sl,Upd (Hl.rw u e f' s l) (Hl.rw v'.v e f' s (l++l')) H (H' v')) (hr:RdT H u' f' s l')
  (h1:∀a,(f' a).all (·.oneCell')=true) [ht:RowTy P t e s bytes] (hb:(l.length+l'.length)*bytes≤140737488355328∧l.length+l'.length≤140737488355328) (hd:Nat.blt dd n=true)
  (hs:∀(v':Sl) w,St w0 (H' v') w→St w0 HS w):RM P ops Q HS n [] L w0 H (.go i::ord) :=
 RM.actX ho rfl rfl (x_append hx hy hu hr h1 hb (rowTy_B ht.is) hd) (.inl hs) fun v' _=>h v'
theorem y_loadElPart {α:Type} {inst:Inhabited α} {f:α→List Value} {l:List α} {u v:Value} {s i k:Nat} {m:Int} {t:TypeId} {x:Operand} {d:Option Tmp} (hx:evO L x=some (elA v s m i)) (h:RdT H v f s l) (hf:∀a,(f a).length=s) (hm:0≤m∧m<l.length) (hs:Nat.blt 0 s=true) (hik:Nat.ble (i+k) s=true) (hv:Value.agg (((f (nth l m)).drop i).take k).toArray=u) (ht:rowB P t k=true) :
  V P n L w0 H ⟨d,.load t x,ty,pos,af,gd⟩ u:=by
 unfold V
 intro a w ha hw
 subst hv
 obtain⟨ad,c,rfl,hc⟩:=h.at_ hf hm (by simpa [Nat.blt_eq] using hs) hw
 have hlen:(((f (nth l m)).drop i).take k).length=k:=by
  have:=Nat.le_of_ble_eq_true hik
  simp[hf];omega
 have hl:=run_loadCells_list (P:=P) w (ad.add (m.toNat*s+i)) (((f (nth l m)).drop i).take k) (fun j u hu=>by
  rw[add_add,Nat.add_assoc]
  refine hc (i+j) u ?_
  have hj:j<k:=by
   have:=(List.getElem?_eq_some_iff.1 hu).1
   omega
  rw[←hu,List.getElem?_take_of_lt hj,List.getElem?_drop])
 rw[hlen] at hl
 simp[execOp,ha.eval hx,elA,Instr.loadAt,Instr.sureAddr,loadVar,run_isAgg_true ht,run_sizeOf_of (info_of_rowB ht),hl]
/-! ### A pointer that is not nil -/
theorem y_nilC {d:Option Tmp} {x:Operand} {a0:Addr} (hx:evO L x=some (.pointer (some a0))):V P n L w0 H ⟨d,.nilCheck x,ty,pos,af,gd⟩ (.pointer (some a0)):=by
 unfold V
 intro a w ha hw
 simp[execOp,ha.eval hx]
theorem nxN {p q:Prop} (h:q) (s:q→p:=by intro h;first
 |(show YK _ _ _ _ _ ⟨_,.nilCheck _,_,_,_,_⟩ _;exact YK.ofV (y_nilC (by rfl)) h)
 |(show VK _ _ _ _ _ ⟨_,.nilCheck _,_,_,_,_⟩ _;exact VK.mk (y_nilC (by rfl)) h)
 |(show YG _ _ _ _ _ _ ⟨_,.nilCheck _,_,_,_,_⟩ _;exact YG.mk (fun hb=>by(try(have hc:=And.left hb;have hb:=And.right hb;rw[hc]));(try rw[hb]);exact V.y (y_nilC (by rfl))) h)
 |(show VG _ _ _ _ _ _ ⟨_,.nilCheck _,_,_,_,_⟩ _;exact VG.mk (fun hb=>by(try(have hc:=And.left hb;have hb:=And.right hb;rw[hc]));(try rw[hb]);exact y_nilC (by rfl)) h)):p:=s h
end
section
variable {P:Program} {n:Nat} {L:FL} {w0:World} {H:List Hl} {Q:Exit→Act→World→Prop} {ops:Array Oper} {rest:List Oper} {d:Option Tmp} {dd:Nat} {ty:TypeId} {pos:String} {af:Array Edge} {g:Option (Nat×Bool)} {x y:Operand} {t t' e:TypeId} {v:Value} {k:IntKind} {m:Int} {bytes:Nat}
def zeroByteB (P:Program) (e:TypeId):Bool:=match zeroOf P e with
 |some (.int .u8 0)=>true
 |_=>false
theorem zeroByteB_spec {P:Program} {e:TypeId} (h:zeroByteB P e=true):zeroOf P e=some (.int .u8 0):=by
 unfold zeroByteB at h
 split at h
 ·assumption
 ·cases h
end
section
variable {P:Program} {n:Nat} {L:FL} {w0:World} {H:List Hl} {dd:Tmp} {ty:TypeId} {pos:String} {af:Array Edge} {gd:Option (Nat×Bool)} {t e:TypeId} {s bytes:Nat} {α:Type} {f:α→List Value} {l:List α}
theorem x_litS {parts:List (Nat×Operand)} {vs cs:List Value} {k:Nat} (ha:AE L (parts.map (·.2)) vs) (hi:parts.map (·.1)=List.range' 0 k) (hk:Nat.ble (k*s) 16777216=true) (hk2:Nat.ble k 16777216=true) (hk0:Nat.blt 0 (k*s)=true)
  (hfill:∀zs:List Value,zs.length=k*s→Instr.fill (fun i=>some (i*s,s)) zs.toArray ((List.range' 0 k).zip vs)=some cs.toArray) (hcl:cs.length=k*s)
  (hc:cs=l.flatMap f) (hlk:l.length=k) (ht:rowTyB P t e s bytes=true) (hd:Nat.blt dd n=true) :
  EX P n L w0 H ⟨some dd,.buildSlice t k parts.toArray,ty,pos,af,gd⟩ (fun _:Sl=>True) (fun v'=>(dd,v'.v)::L) (fun v'=>Hl.rw v'.v e f s l::H) :=
 EX.of_run (fun a w hfr hw=>by
  obtain⟨i,z,hu1,hi1,hz1,hs,hby,hzs,h0⟩:=rowTyB_spec ht
  have hk':k*s≤16777216:=Nat.le_of_ble_eq_true hk
  have hk2:k≤16777216:=Nat.le_of_ble_eq_true hk2
  have hk3:¬(16777216<k*s):=by omega
  have hk4:¬(k*s=0):=by have:=Nat.le_of_ble_eq_true hk0;omega
  have hparts:(Array.map (fun x=>match x with|(i,x)=>(i,a.eval x)) parts.toArray).toList=(List.range' 0 k).zip vs:=by
   have:=ha.map hfr
   subst this
   rw[←hi]
   simp only[List.map_toArray,List.toList_toArray]
   clear hc hi ha hfill
   induction parts with
   |nil=>rfl
   |cons p r ih=>simp[ih]
  have hrun:(Instr.buildSlice t k (Array.map (fun x=>match x with|(i,x)=>(i,a.eval x)) parts.toArray)).run P w=.ok (.slice (some ⟨w.heap.size,0,none⟩) k k) (w.alloc (.cells cs.toArray e)):=by
   unfold Instr.buildSlice
   have hsz:(P.info? e).map (·.size)=some s:=by simp[hi1,hs]
   have hzv:(zeroValue e).run P w=.ok z w:=by simp[zeroValue,typeInfo,hi1,hz1]
   simp only[Sem.run_bind,run_underlying hu1,Result.andThen_ok,run_sizeOf_of hsz,hparts]
   have h5:=hfill ((Array.map (fun x=>z.cells[x%z.cells.size]!) (Array.range (k*s))).toList) (by simp)
   simp only[Array.toArray_toList] at h5
   simp[hk3,hk4,hzv,h5,newRow]
  refine⟨.slice (some ⟨w.heap.size,0,none⟩) k k,w.alloc (.cells cs.toArray e),⟨some ⟨w.heap.size,0,none⟩,k,k⟩,by simp only[execOp,Sem.run_bind,hrun,Result.andThen_ok,Sem.run_pure],trivial,rfl,?_⟩
  have h6:=hw.newRow e cs.toArray s k (by simp[hcl]) (by simp only[maxLen];omega)
  subst hc
  rw[←hlk] at h6 ⊢
  exact h6) hd
end
abbrev celV (l r c:Int):Value:=.agg [.int .i64 l,.int .i64 r,.int .i64 c].toArray
structure Cel where
 l:Int
 r:Int
 c:Int
deriving DecidableEq
instance:Inhabited Cel:=⟨⟨0,0,0⟩⟩
abbrev cK (x:Cel):List Value:=[.int .i64 x.l,.int .i64 x.r,.int .i64 x.c]
abbrev kV (x:Cel):Value:=celV x.l x.r x.c
theorem pow2_bd {l:Int} (h:0≤l∧l≤16):1≤(2:Int)^l.toNat∧(2:Int)^l.toNat≤65536:=by
 have h1:l.toNat≤16:=by omega
 have e:(2:Int)^l.toNat=((2^l.toNat:Nat):Int):=by simp
 have h2:2^l.toNat≤2^16:=Nat.pow_le_pow_right (by decide) h1
 have h3:0<2^l.toNat:=Nat.pow_pos (by decide)
 rw[e]
 omega
theorem pow2_min {l:Int} (h:0≤l∧l≤64):(2:Int)^(min l.toNat 64)=(2:Int)^l.toNat:=by rw[Nat.min_eq_left (by omega)]
def cvB (l r c:Int):Bool:=decide (0≤l)&&decide (l≤16)&&decide (0≤r)&&decide (r<2^l.toNat)&&decide (0≤c)&&decide (c<2*2^l.toNat)
theorem cval_c (l r c:Int):Cont Tryz.prog 196 [celV l r c] (.bool (cvB l r c)):=fun w=>by
 unfold cvB
 by_cases hl:0≤l∧l≤16
 ·have hq:=pow2_min (l:=l) (by omega)
  have hb:=pow2_bd hl
  generalize (2:Int)^l.toNat=q at *
  refine enter0 Tryz.func196 rfl rfl rfl ?_
  repeat' (first|(show VG _ _ _ _ _ _ ⟨_,.binOp .shl _ _ _ _,_,_,_,_⟩ _;refine VG.mk (fun hb=>by(try(have hc:=And.left hb;have hb:=And.right hb;rw[hc]));(try rw[hb]);exact y_shl (by rfl) (by rfl) (by omega) hq (IntWalk.i64_in _ (by omega))) ?_)|(refine nxV ?_)|(refine nSS ?_)|(refine nS1 fun _=>?_)|(refine nMM ?_)|(refine nxG ?_)|(refine G.mA 1 [.go 0,.go 1,.go 2,.go 3,.go 4,.go 5,.go 6,.go 7,.go 8,.go 9,.go 10,.go 11,.go 12,.go 13,.go 14,.go 15,.go 16,.go 17,.go 18,.go 19,.go 20,.go 21,.go 22,.go 23,.go 24,.go 25,.go 26,.go 27,.go 28,.go 29,.go 30,.go 31,.go 32,.go 33,.go 34] ?_)|(refine nxX ?_)|done)
  refine X.ret (vs:=[_]) rfl ⟨rfl,rfl⟩ rfl (fun w hw=>⟨ret_bool (by simp[Int.one_mul]),hw.ext⟩)
 ·refine enter0 Tryz.func196 rfl rfl rfl ?_
  repeat' (first|(refine nxV ?_)|(refine nSS ?_)|(refine nS1 fun _=>?_)|(refine nMM ?_)|(refine nxG ?_)|(refine G.mA 1 [.go 0,.go 1,.go 2,.go 3,.go 4,.go 5,.go 6,.go 7,.go 8,.go 9,.go 10,.go 11,.go 12,.go 13,.go 14,.go 15,.go 16,.go 17,.go 18,.go 19,.go 20,.go 21,.go 22,.go 23,.go 24,.go 25,.go 26,.go 27,.go 28,.go 29,.go 30,.go 31,.go 32,.go 33,.go 34] ?_)|(refine nxX ?_)|done)
  refine X.ret (vs:=[_]) rfl ⟨rfl,rfl⟩ rfl (fun w hw=>⟨ret_bool ?_,hw.ext⟩)
  have:(decide (0≤l)&&decide (l≤16))=false:=by
   rw[Bool.and_eq_false_iff,decide_eq_false_iff_not,decide_eq_false_iff_not];omega
  simp[this]
theorem cinv_c (l r c:Int):Cont Tryz.prog 141 [celV l r c] (.bool (!cvB l r c)):=fun w=>by
 have q1:=cval_c l r c
 generalize cvB l r c=b at *
 refine enter0 Tryz.func141 rfl rfl rfl ?_
 repeat' (first|(show YK _ _ _ _ _ _ _;refine YK.mk (zcA (q1) ⟨rfl,rfl⟩) ?_)|(refine nxV ?_)|(refine nSS ?_)|(refine nS1 fun _=>?_)|(refine nxX ?_)|done)
 exact X.ret1
def ckB (x:Cel):Bool:=cvB x.l x.r x.c
abbrev invF:Value:=.func (.func 141) #[] #[]
def fbad:List Cel→Int→Int
 |[],_=>-1
 |x::r,k=>if ckB x=true then fbad r (k+1) else k
theorem fbad_all:∀{l:List Cel} {k:Int},0≤k→decide (fbad l k≥0) = !l.all ckB
 |[],k,_=>rfl
 |x::r,k,h=>by
  unfold fbad
  cases hx:ckB x with
  |true=>rw[if_pos rfl,fbad_all (by omega),List.all_cons,hx,Bool.true_and]
  |false=>rw[if_neg (by decide),List.all_cons,hx,Bool.false_and,decide_eq_true h];rfl
theorem nth_mem {α:Type} [Inhabited α] {l:List α} {i:Nat} (h:i<l.length):nth l (i:Int)=l[i]:=by
 unfold nth
 rw[Int.toNat_natCast,List.getD_eq_getElem?_getD,List.getElem?_eq_getElem h];rfl
theorem celIx_c (v:Value) (l:List Cel) (hl:l.length≤1000000):ContR Tryz.prog [Hl.rd v cK 3 l] 197 [v,invF] (.int .i64 (fbad l 0)):=fun w hw0=>by
 refine enter Tryz.func197 rfl rfl rfl hw0 ?_
 repeat' (first|(refine nxV ?_)|(refine nSS ?_)|(refine nxX ?_)|done)
 refine G.loop (ι:=Nat) (fun i=>[(0,v),(1,invF),(7,.int .i64 l.length),(8,.int .i64 (i:Int))]) (fun _=>[Hl.rd v cK 3 l]) (fun i=>i≤l.length∧fbad l 0=fbad (l.drop i) i) (fun i=>l.length-i) 0 ⟨Nat.zero_le _,rfl⟩ ⟨rfl,rfl,rfl,rfl,trivial⟩ (by exact fun w h=>h.sub subS) ?_
 rintro i mx ⟨g1,g2⟩ hmx
 (try dsimp only at g1 g2 hmx ⊢)
 rcases Nat.lt_or_ge i l.length with hi|hi
 ·have hd:l.drop i=nth l (i:Int)::l.drop (i+1):=by rw[nth_mem hi,List.getElem_cons_drop]
  rw[hd] at g2
  have q1:=cinv_c (nth l (i:Int)).l (nth l (i:Int)).r (nth l (i:Int)).c
  cases hv:ckB (nth l (i:Int)) with
  |true =>
   have hv':=hv
   unfold ckB at hv'
   rw[hv'] at q1
   have q2:ContIn Tryz.prog (fun _=>True) 141 ([kV (nth l (i:Int))]++(#[]:Array Value).toList) (.bool (!true)):=fun w' _=>q1 w'
   repeat' (first|(show YK _ _ _ _ _ ⟨_,.call _,_,_,_,_⟩ _;refine YK.mk (y_callV (f:=141) (by rfl) q2 (fun _ _=>trivial) ⟨rfl,rfl⟩ (by decide +kernel)) ?_)|(refine nxV ?_)|(refine nSS ?_)|(refine nxX ?_)|(refine G.cN rfl (fun hc=>?_) (fun hc=>?_)<;>(try first|exact hc.elim|(exfalso;omega))))
   refine X.again (i+1) ⟨by omega,?_⟩ (by omega) ⟨rfl,rfl,rfl,rfl,trivial⟩ (by exact fun w h=>h.sub subS)
   rw[g2]
   show (if ckB (nth l (i:Int))=true then fbad (l.drop (i+1)) ((i:Int)+1) else (i:Int))=_
   rw[if_pos hv];rfl
  |false =>
   have hv':=hv
   unfold ckB at hv'
   rw[hv'] at q1
   have q2:ContIn Tryz.prog (fun _=>True) 141 ([kV (nth l (i:Int))]++(#[]:Array Value).toList) (.bool (!false)):=fun w' _=>q1 w'
   repeat' (first|(show YK _ _ _ _ _ ⟨_,.call _,_,_,_,_⟩ _;refine YK.mk (y_callV (f:=141) (by rfl) q2 (fun _ _=>trivial) ⟨rfl,rfl⟩ (by decide +kernel)) ?_)|(refine nxV ?_)|(refine nSS ?_)|(refine nxX ?_)|(refine G.cN rfl (fun hc=>?_) (fun hc=>?_)<;>(try first|exact hc.elim|(exfalso;omega))))
   refine X.ret (vs:=[_]) rfl ⟨rfl,rfl⟩ rfl (fun w hw=>⟨?_,hw.ext⟩)
   rw[g2]
   show Ending.returned (.int .i64 (i:Int))=.returned (.int .i64 (if ckB (nth l (i:Int))=true then fbad (l.drop (i+1)) ((i:Int)+1) else (i:Int)))
   rw[if_neg (by rw[hv];decide)]
 ·obtain rfl:i=l.length:=by omega
  rw[List.drop_length] at g2
  repeat' (first|(refine nxV ?_)|(refine nSS ?_)|(refine nxX ?_)|(refine G.cN rfl (fun hc=>?_) (fun hc=>?_)<;>(try first|exact hc.elim|(exfalso;omega))))
  exact X.ret (vs:=[_]) rfl ⟨rfl,rfl⟩ rfl (fun w hw=>⟨by rw[g2];rfl,hw.ext⟩)
theorem celCont_c (v:Value) (l:List Cel) (hl:l.length≤1000000):ContR Tryz.prog [Hl.rd v cK 3 l] 136 [v,invF] (.bool (!l.all ckB)):=fun w hw0=>by
 have q1:=celIx_c v l hl
 have e:=fbad_all (l:=l) (k:=0) (by omega)
 rw[←e]
 clear e
 generalize fbad l 0=z at *
 refine enter Tryz.func136 rfl rfl rfl hw0 ?_
 repeat' (first|(show YK _ _ _ _ _ _ _;refine YK.mk (zcR (q1) ⟨rfl,rfl,rfl⟩) ?_)|(refine nxV ?_)|(refine nSS ?_)|(refine nxX ?_)|done)
 exact X.ret1
end Go.Proofs.YtjmdeplmenbmmaaGreatDoor
