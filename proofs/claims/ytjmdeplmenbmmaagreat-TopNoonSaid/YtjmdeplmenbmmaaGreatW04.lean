/- Joined texts: Map, ContU, Rnd, Shelf, Bits. -/
import Derived.Test.YtjmdeplmenbmmaaGreatW02
import Derived.Maps.Own
import Derived.Maps.Views
import Derived.StringKeys
import Derived.LoopN
import Derived.Shelf.Strconv.Itoa0
import Derived.Shelf.Bits.Mul64
import Derived.Test.YtjmdeplmenbmmaaGreatProg
import Derived.Test.YtjmdeplmenbmmaaGreatV01
import Derived.Lib.ItoaNum
set_option linter.unusedVariables false
set_option maxHeartbeats 4000000
namespace Go.Proofs.YtjmdeplmenbmmaaGreat
open Go.RowKit
open Go.WideElems (Fit rg)
def mapI (P:Program) (k e:TypeId) (n:Nat) (S:List (List UInt8)) (o:Obj):Prop :=
 ∃es clock,∃D:DataW Unit,o=.map es clock∧Fit P k (plainElem (H:=Unit) P e) es clock∧es.size≤n∧D=.map ((es.toList.map (rg P k (plainElem (H:=Unit) P e))).foldr DataW.insert [])∧∀x:List UInt8,D.atKey (.string x) (.lit (.bool false))=.lit (.bool (decide (x∈S)))
abbrev Hl.map (P:Program) (k e:TypeId) (b n:Nat) (S:List (List UInt8)):Hl:=.oth b (mapI P k e n S)
theorem mapI_owns {P:Program} {k e:TypeId} {n b base:Nat} {S:List (List UInt8)} {w:World} (h:(Hl.map P k e b n S).holds base w):∃D:DataW Unit,w.ownsMap P k (plainElem (H:=Unit) P e) b n D∧∀x:List UInt8,D.atKey (.string x) (.lit (.bool false))=.lit (.bool (decide (x∈S))):=by
 obtain⟨_,o,h1,es,clock,D,rfl,h2,h3,h4,h5⟩:=h
 exact⟨D,⟨es,clock,h1,h2,h3,h4⟩,h5⟩
theorem mapI_of {P:Program} {k e:TypeId} {n b:Nat} {S:List (List UInt8)} {w:World} {D:DataW Unit} (h:w.ownsMap P k (plainElem (H:=Unit) P e) b n D) (hs:∀x:List UInt8,D.atKey (.string x) (.lit (.bool false))=.lit (.bool (decide (x∈S)))):∃o,w.heap[b]?=some o∧mapI P k e n S o:=by
 obtain⟨es,clock,h1,h2,h3,h4⟩:=h
 exact⟨_,h1,es,clock,D,rfl,h2,h3,h4,hs⟩
theorem plainElem_bool_inv {H:Type} {P:Program} {e:TypeId} (he:P.underlying e=some .bool) {v:Value} {z:DataW H×List MemPlace} (h:plainElem P e v=some z):∃b,v=.bool b∧z=(.lit (.bool b),[]):=by
 unfold plainElem at h
 rw[he] at h
 cases v<;>simp at h
 exact⟨_,rfl,h.symm⟩
section
variable {P:Program} {ops:Array Oper} {n:Nat} {L:FL} {w0:World} {H:List Hl} {Q:Exit→Act→World→Prop} {rest:List Oper} {dd:Nat} {ty t k e:TypeId} {pos:String} {af:Array Edge} {gd:Option (Nat×Bool)} {m:Operand} {x y:Operand} {b N:Nat} {S:List (List UInt8)} {s:List UInt8}
theorem x_makeMap (hd:Nat.blt dd n=true):EX P n L w0 H ⟨some dd,.makeMap t none,ty,pos,af,gd⟩ (fun _:Nat=>True) (fun b=>(dd,.map (some b))::L) (fun b=>Hl.map P k e b 0 []::H) :=
 EX.of_run (fun a w ha hw=>⟨.map (some w.heap.size),w.alloc (.map #[] 0),w.heap.size,by simp[execOp,run_makeMap],trivial,rfl,by
  have h1:=hw.step ((Below.refl w.heap.size w).alloc (Nat.le_refl _) (.map #[] 0))
  refine⟨h1.ext,fun z hz=>?_,fun z hz b hb ho=>?_,hw.apart⟩
  ·rcases List.mem_cons.1 hz with rfl|hz
   ·refine⟨hw.ext.size,mapI_of (World.ownsMap_made w P k (plainElem (H:=Unit) P e)) fun x=>?_⟩
    simp[DataW.atKey]
   ·exact h1.all z hz
  ·simp only[Hl.spot,Option.some.injEq] at hb
   subst hb
   exact absurd (Hl.lt (hw.all z hz) ho) (Nat.lt_irrefl _)⟩) hd
theorem RS.makeMap (k e:TypeId) (h:∀b,RS P ops Q n ((dd,.map (some b))::L) w0 (Hl.map P k e b 0 []::H) rest) (hd:Nat.blt dd n=true:=by rfl) :
  RS P ops Q n L w0 H (⟨some dd,.makeMap t none,ty,pos,af,none⟩::rest):=RS.actX rfl (x_makeMap hd) fun b _=>h b
theorem v_look (ht:P.underlying t=some (.map k e)) (hk:P.underlying k=some .string) (he:P.underlying e=some .bool) (hz:∀w,(zeroValue e).run P w=.ok (.bool false) w)
  (hm:evO L m=some (.map (some b))) (hx:evO L x=some (strV s)) (hs:s.length≤maxLen) (hh:Hl.map P k e b N S∈H):V P n L w0 H ⟨some dd,.lookup t m x false,ty,pos,af,gd⟩ (.bool (decide (s∈S))):=by
 unfold V
 intro a w ha hw
 obtain⟨D,h1,h2⟩:=mapI_owns (hw.all _ hh)
 obtain⟨v,ps,hrun,hv⟩:=h1.lookup (Maps.string_keyed hk) ht (hz w) (plainElem_bool he false) (key:=strV s) (kl:=.string s) (by
  have:=WideMaps.keyOf_string_mk hk (s:=⟨s.toArray⟩) (by simpa [ByteArray.size] using hs)
  simpa using this)
 rw[h2] at hv
 obtain⟨c,rfl,hc⟩:=plainElem_bool_inv he hv
 simp only[Prod.mk.injEq,DataW.lit.injEq,Lit.bool.injEq] at hc
 rw[hc.1]
 simp[execOp,ha.eval hm,ha.eval hx,hrun]
theorem x_look (ht:P.underlying t=some (.map k e)) (hk:P.underlying k=some .string) (he:P.underlying e=some .bool) (hz:∀w,(zeroValue e).run P w=.ok (.bool false) w)
  (hm:evO L m=some (.map (some b))) (hx:evO L x=some (strV s)) (hs:s.length≤maxLen) (hh:Hl.map P k e b N S∈H) (hd:Nat.blt dd n=true):EX P n L w0 H ⟨some dd,.lookup t m x false,ty,pos,af,gd⟩ (fun _:Unit=>True) (fun _=>(dd,.bool (decide (s∈S)))::L) (fun _=>H) :=
 EX.of_run (fun a w ha hw=>⟨_,_,(),by
  have h:=v_look (P:=P) (n:=n) (L:=L) (w0:=w0) (H:=H) (dd:=dd) (ty:=ty) (pos:=pos) (af:=af) (gd:=gd) ht hk he hz hm hx hs hh
  unfold V at h
  exact h a w ha hw,trivial,rfl,hw⟩) hd
theorem RS.lookF {j g:Nat} (S:List (List UInt8)) {c:Bool} (hc:decide (s∈S)=c) (h:RS P ops Q n ((dd,.bool c)::L) w0 H rest) (hs:s.length≤maxLen) (hh:Hl.map P k e b N S∈H) (ht:P.underlying t=some (.map k e)) (hk:P.underlying k=some .string) (he:P.underlying e=some .bool) (hz:∀w,(zeroValue e).run P w=.ok (.bool false) w)
  (hm:evO L m=some (.map (some b)):=by rfl) (hx:evO L x=some (strV s):=by rfl) (hj:(ops[j]?).bind (·.dst)=some g:=by rfl) (hg:lk L g=some (.bool false):=by rfl) (hd:Nat.blt dd n=true:=by rfl) :
  RS P ops Q n L w0 H (⟨some dd,.lookup t m x false,ty,pos,af,some (j,false)⟩::rest):=RS.actXT hj hg rfl (x_look ht hk he hz hm hx hs hh hd) fun _ _=>hc ▸ h
theorem x_put {H':List Hl} (ht:P.underlying t=some (.map k e)) (hk:P.underlying k=some .string) (he:P.underlying e=some .bool)
  (hm:evO L m=some (.map (some b))) (hx:evO L x=some (strV s)) (hy:evO L y=some (.bool true)) (hs:s.length≤maxLen) (hN:N<maxLen) (hu:Upd (Hl.map P k e b N S) (Hl.map P k e b (N+1) (s::S)) H H') :
  EX P n L w0 H ⟨none,.mapUpdate t m x y,ty,pos,af,gd⟩ (fun _:Unit=>True) (fun _=>L) (fun _=>H') :=
 EX.of_skip fun a w ha hw=>by
  have hb:=hw.all _ hu.mem
  obtain⟨D,h1,h2⟩:=mapI_owns hb
  obtain⟨w',hrun,h3,h4⟩:=h1.update (Maps.string_keyed hk) ht hN (key:=strV s) (kl:=.string s) (val:=.bool true) (by
   have:=WideMaps.keyOf_string_mk hk (s:=⟨s.toArray⟩) (by simpa [ByteArray.size] using hs)
   simpa using this) (plainElem_bool he true)
  refine⟨w',(),by simp[execOp,ha.eval hm,ha.eval hx,ha.eval hy,hrun],trivial,rfl,?_⟩
  refine hw.turn hu rfl h4 ⟨hb.1,mapI_of h3 fun z=>?_⟩ fun c hc=>.inl hc
  obtain⟨es,clock,_,_,_,hD⟩:=h1
  by_cases e1:z=s
  ·subst e1
   rw[Maps.atKey_put_same ⟨_,hD⟩ (k:=.string z) (by trivial)]
   simp
  ·rw[Maps.atKey_put_other (by intro h;cases h;exact e1 rfl),h2]
   simp[e1]
theorem RS.put {H':List Hl} (hu:Upd (Hl.map P k e b N S) (Hl.map P k e b (N+1) (s::S)) H H') (hN:N<maxLen) (hs:s.length≤maxLen) (h:RS P ops Q n L w0 H' rest) (ht:P.underlying t=some (.map k e)) (hk:P.underlying k=some .string) (he:P.underlying e=some .bool)
  (hm:evO L m=some (.map (some b)):=by rfl) (hx:evO L x=some (strV s):=by rfl) (hy:evO L y=some (.bool true):=by rfl) :
  RS P ops Q n L w0 H (⟨none,.mapUpdate t m x y,ty,pos,af,none⟩::rest):=RS.actX rfl (x_put ht hk he hm hx hy hs hN hu) fun _ _=>h
end
end Go.Proofs.YtjmdeplmenbmmaaGreat
set_option maxHeartbeats 4000000
namespace Go.Proofs.YtjmdeplmenbmmaaGreat
open Go.RowKit
inductive At (x:Hl):List Hl→List Hl→List Hl→Prop
 |here {B:List Hl} : At x [] B (x::B)
 |there {h:Hl} {A B H:List Hl} : At x A B H→At x (h::A) B (h::H)
theorem At.mem {x:Hl} {A B H:List Hl} (h:At x A B H):x∈H:=by
 induction h with
 |here=>exact List.mem_cons_self
 |there _ ih=>exact List.mem_cons_of_mem _ ih
theorem At.subset {x y:Hl} {A B H:List Hl} (h:At x A B H) (hy:y∈x::(A++B)):y∈H:=by
 induction h with
 |here=>simpa using hy
 |there h ih =>
  rcases List.mem_cons.1 hy with rfl|hy
  ·exact List.mem_cons_of_mem _ (ih List.mem_cons_self)
  ·rcases List.mem_cons.1 hy with rfl|hy
   ·exact List.mem_cons_self
   ·exact List.mem_cons_of_mem _ (ih (List.mem_cons_of_mem _ hy))
theorem At.apart {x:Hl} {A B H:List Hl} (h:At x A B H) (ha:allApart H):allApart (x::(A++B)):=by
 induction h with
 |here=>exact ha
 |@there z A B H h ih =>
  obtain⟨h1,h2⟩:=ha
  obtain⟨h3,h4⟩:=ih h2
  refine⟨fun y hy b hb ho=>?_,fun y hy b hb ho=>?_,h4⟩
  ·rcases List.mem_cons.1 hy with rfl|hy
   ·exact(h1 x h.mem b ho hb).symm
   ·exact h3 y hy b hb ho
  ·exact h1 y (h.subset (List.mem_cons_of_mem _ hy)) b hb ho
theorem St.front {w0 w:World} {x:Hl} {A B H:List Hl} (h:At x A B H) (hw:St w0 H w):St w0 (x::(A++B)) w :=
 ⟨hw.ext,fun y hy=>hw.all y (h.subset hy),h.apart hw.apart⟩
def ContU (P:Program) (X:Hl) (f:FuncId) (args:List Value) {ι:Type} (post:ι→Prop) (v:ι→Value) (Y:ι→List Hl):Prop :=
 ∀w0 HR w,St w0 (X::HR) w→Calls P f args.toArray w fun e w'=>∃z,post z∧e=.returned (v z)∧St w0 (Y z++HR) w'
section
variable {P:Program} {n:Nat} {L:FL} {w0:World} {H HS:List Hl} {Q:Exit→Act→World→Prop} {ops:Array Oper} {rest:List Oper} {ord:List Mv} {ps:List Pd} {d dd i:Nat} {ty:TypeId} {pos:String} {af:Array Edge} {gd:Option (Nat×Bool)} {x y z q:Operand} {t e:TypeId} {ι α:Type} {f:α→List Value} {s bytes:Nat} {l l':List α} {u v:Value} {k k' k'':IntKind} {m m' m'':Int}
theorem enterU {f:FuncId} {fn:Func} {c:Code} {vs:List Value} {w:World} {R:Ending→World→Prop} (hf:P.funcs[f]?=some fn) (hb:fn.body=some c) (hn:fn.ntmps=n) (hl:Nat.ble vs.length n=true) (hw:St w0 H w)
  (h:G P (bodyPost P fn R) n (argsL 0 vs) w0 H c):Calls P f vs.toArray w R:=by
 unfold G at h
 refine calls_of_wp hf hb (h _ _ ⟨?_,rfl,fun i v hi=>?_⟩ hw)
 ·have:=Nat.le_of_ble_eq_true hl
  simp[hn];omega
 ·have:=(lk_argsL vs 0 i v hi).2
  have hlt:=(List.getElem?_eq_some_iff.1 this).1
  simp at this
  have hlt':i<vs.length:=by omega
  have h2:=(List.getElem?_eq_some_iff.1 this).2
  simpa [Array.getElem?_append,hlt'] using h2
theorem x_callU {X:Hl} {A B:List Hl} {f:FuncId} {xs:List Operand} {vs:List Value} {tys:Array TypeId} {post:ι→Prop} {v:ι→Value} {Y:ι→List Hl} (hc:ContU P X f vs post v Y) (ha:AE L xs vs) (hA:At X A B H) (hg:isGo P f=true) (hd:Nat.blt dd n=true) :
  EX P n L w0 H ⟨some dd,.call { callee:=.value (.func f),args:=xs.toArray,argTypes:=tys },ty,pos,af,gd⟩ post (fun z=>(dd,v z)::L) (fun z=>Y z++(A++B)):=fun a w hfr hw K Q hK=>by
 unfold Oper.wp
 rw[run_call hfr ha hg]
 refine(hc w0 (A++B) w (St.front hA hw)).mono ?_
 rintro e w' ⟨z,hz,rfl,hs⟩
 exact hK _ _ ⟨z,hz,hfr.put (by simpa [Nat.blt_eq] using hd),hs⟩
theorem RS.callU {X:Hl} {A B:List Hl} {f:FuncId} {xs:List Operand} {vs:List Value} {tys:Array TypeId} {post:ι→Prop} {v:ι→Value} {Y:ι→List Hl} (hc:ContU P X f vs post v Y) (ha:AE L xs vs) (h:∀z,post z→RS P ops Q n ((dd,v z)::L) w0 (Y z++(A++B)) rest)
  (hA:At X A B H:=by first|exact .here|exact .there .here|exact .there (.there .here)|exact .there (.there (.there .here))|exact .there (.there (.there (.there .here)))|exact .there (.there (.there (.there (.there .here)))))
  (hg:isGo P f=true:=by decide +kernel) (hd:Nat.blt dd n=true:=by rfl) :
  RS P ops Q n L w0 H (⟨some dd,.call { callee:=.value (.func f),args:=xs.toArray,argTypes:=tys },ty,pos,af,none⟩::rest):=RS.actX rfl (x_callU hc ha hA hg hd) h
end
section
variable {P:Program} {Q:Exit→Act→World→Prop} {n k:Nat} {L:FL} {w0:World} {H:List Hl} {c:Code}
def GR (P:Program) (Q:Exit→Act→World→Prop) (n k:Nat) (L:FL) (w0:World) (H:List Hl) (c:Code):Prop:=∀a w,Fr n L a→St w0 H w→Code.rounds P c Q k a w
theorem G.loopN (k:Nat) (h:GR P Q n k L w0 H c):G P Q n L w0 H (.loop c):=by
 unfold G
 exact fun a w ha hw=>wp_loop_rounds k (h a w ha hw)
theorem GR.step (h:G P (Exit.then (Code.rounds P c Q k) Q) n L w0 H c):GR P Q n (k+1) L w0 H c:=by
 unfold G at h
 exact fun a w ha hw=>h a w ha hw
theorem X.round (h:GR P Q n k L w0 H c):X (Exit.then (Code.rounds P c Q k) Q) n L w0 H .normal:=by
 unfold X
 exact fun a w ha hw=>h a w ha hw
variable {d:Option Tmp} {ty:TypeId} {pos:String} {af:Array Edge} {gd:Option (Nat×Bool)} {x y z:Operand} {t:TypeId} {v:Value} {K:Value→Prop}
theorem y_extern {f:FuncId} {xs:List Operand} {vs:List Value} {tys:Array TypeId} (hrun:∀w,(callFunc f vs.toArray).run P w=.ok (.value v) w) (ha:AE L xs vs) :
  V P n L w0 H ⟨d,.call { callee:=.value (.func f),args:=xs.toArray,argTypes:=tys },ty,pos,af,gd⟩ v:=by
 unfold V
 intro a w hfr hw
 rw[show execOp a.eval ⟨d,.call { callee:=.value (.func f),args:=xs.toArray,argTypes:=tys },ty,pos,af,gd⟩=callFunc f (#[]++xs.toArray.map a.eval++#[]) from rfl]
 have:=ha.map hfr
 simp[this,hrun w]
theorem y_indexArr {b i len:Nat} {k:IntKind} {m:Int} (hx:evO L x=some (.pointer (some ⟨b,0,none⟩))) (hy:evO L y=some (.int k m)) (hm:m=(i:Int)) (ht:arrayB P t len=true) (hi:Nat.blt i len=true) :
  V P n L w0 H ⟨d,.indexAddr t x y,ty,pos,af,gd⟩ (.pointer (some ⟨b,i,none⟩)):=by
 unfold V
 intro a w ha hw
 unfold arrayB at ht
 cases hu:P.underlying t with
 |none=>simp[hu] at ht
 |some dsc =>
  cases dsc<;>simp[hu] at ht
  rename_i l e
  obtain⟨rfl,hs⟩:=ht
  subst hm
  have hlt:i<l:=by simpa [Nat.blt_eq] using hi
  have hadd:(⟨b,0,none⟩:Addr).add i=⟨b,i,none⟩:=by unfold Addr.add;split<;>simp_all
  simp[execOp,ha.eval hx,ha.eval hy,Instr.indexAt,asIntOf,Instr.sureAddr,run_underlying hu,hlt,run_sizeOf_of (info_of_scalarB hs),hadd]
theorem y_sliceArr {b len:Nat} {k:IntKind} {m:Nat} (hx:evO L x=some (.pointer (some ⟨b,0,none⟩))) (hy:evO L y=some (.int k (m:Int))) (ht:arrayB P t len=true) (hm:Nat.ble m len=true) (h0:Nat.blt 0 len=true) :
  V P n L w0 H ⟨d,.slice t x none (some y) none,ty,pos,af,gd⟩ (.slice (some ⟨b,0,none⟩) m len):=by
 unfold V
 intro a w ha hw
 unfold arrayB at ht
 cases hu:P.underlying t with
 |none=>simp[hu] at ht
 |some dsc =>
  cases dsc<;>simp[hu] at ht
  rename_i l e
  obtain⟨rfl,hs⟩:=ht
  have hle:m≤l:=Nat.le_of_ble_eq_true hm
  have hpos:0<l:=by simpa [Nat.blt_eq] using h0
  have hadd:(⟨b,0,none⟩:Addr).add 0=⟨b,0,none⟩:=by unfold Addr.add;split<;>simp_all
  have h2:=run_sliceBound (P:=P) (w:=w) k m l .sliceAlen (by omega) (by omega)
  simp[execOp,ha.eval hx,ha.eval hy,Instr.sliceAt,Instr.sliceBounds,Instr.sureAddr,run_underlying hu,h2,run_sizeOf_of (info_of_scalarB hs),hadd]
theorem y_arrPtr {A:Addr} {len m c:Nat} (hx:evO L x=some (.slice (some A) m c)) (ht:arrayB P t len=true) (hm:Nat.ble len m=true) :
  V P n L w0 H ⟨d,.sliceToArrayPointer t x,ty,pos,af,gd⟩ (.pointer (some A)):=by
 unfold V
 intro a w ha hw
 unfold arrayB at ht
 cases hu:P.underlying t with
 |none=>simp[hu] at ht
 |some dsc =>
  cases dsc<;>simp[hu] at ht
  rename_i l e
  obtain⟨rfl,hs⟩:=ht
  have hle:l≤m:=Nat.le_of_ble_eq_true hm
  simp[execOp,ha.eval hx,Instr.arrayAt,run_underlying hu,Nat.not_lt.2 hle]
theorem y_lenV {A:Option Addr} {m c:Nat} (hx:evO L x=some (.slice A m c)) (ht:isSliceB P t=true):V P n L w0 H ⟨d,.call { callee:=.builtin .len,args:=#[x],argTypes:=#[t] },ty,pos,af,gd⟩ (.int .i64 m):=by
 unfold V
 intro a w ha hw
 unfold isSliceB at ht
 cases hu:P.underlying t with
 |none=>simp[hu] at ht
 |some dsc =>
  cases dsc<;>simp[hu] at ht
  simp[execOp,resolve,invoke,builtin,ha.eval hx,Builtin.len_,run_underlying hu,goInt]
end
end Go.Proofs.YtjmdeplmenbmmaaGreat
namespace Go.Proofs
open Go.Shelf
def Tryz.lays129_ren:Go.Shelf.Ren:=⟨fun|129=>199|n=>n,fun|53=>219|3=>3|4=>4|46=>180|5=>5|9=>9|n=>n,fun|n=>n⟩
theorem Tryz.lays129:Go.Proofs.Lays.n129 Tryz.prog Tryz.lays129_ren:={
 mixed:=by kernel_rfl
 f129:=Tryz.func199.trans (congrArg some (by kernel_rfl))
 t3:=Tryz.underlying3
 a3:=Tryz.isAgg3
 z3:=Tryz.sizeOf3
 v3:=Tryz.zeroValue3
 t4:=Tryz.underlying4
 a4:=Tryz.isAgg4
 z4:=Tryz.sizeOf4
 v4:=Tryz.zeroValue4
 t5:=Tryz.underlying5
 a5:=Tryz.isAgg5
 z5:=Tryz.sizeOf5
 v5:=Tryz.zeroValue5
 t9:=Tryz.underlying9
 a9:=Tryz.isAgg9
 z9:=Tryz.sizeOf9
 v9:=Tryz.zeroValue9
 t46:=Tryz.underlying180
 a46:=Tryz.isAgg180
 z46:=Tryz.sizeOf180
 v46:=Tryz.zeroValue180
 t53:=Tryz.underlying219
 a53:=Tryz.isAgg219
 z53:=Tryz.sizeOf219
 v53:=Tryz.zeroValue219 }
theorem Tryz.bits_Len64 (x:Int) (w:World) (h0:0≤x) (h1:x≤18446744073709551615) :
  Calls Tryz.prog 199 #[.int .u64 x] w fun e w'=>e=.returned (.int .i64 (Lib.bitLen x.toNat))∧w'=w:=Any.bits_Len64 Tryz.lays129 x w h0 h1
end Go.Proofs
set_option linter.unusedVariables false
set_option maxHeartbeats 4000000
namespace Go.Proofs.YtjmdeplmenbmmaaGreat
open Go.RowKit
theorem mul64_c {x y:Int} (h:0≤x∧x≤18446744073709551615∧0≤y∧y≤18446744073709551615):Cont Tryz.prog 200 [.int .u64 x,.int .u64 y] (.tuple [.int .u64 (x*y/18446744073709551616),.int .u64 (x*y%18446744073709551616)].toArray):=fun w=>by
 obtain⟨h1,h2,h3,h4⟩:=h
 have hm:∀a b:Int,0≤a→a≤4294967295→0≤b→b≤4294967295→0≤a*b∧a*b≤18446744065119617025:=fun a b g1 g2 g3 g4=>by
  have:=Int.mul_nonneg g1 g3
  have:a*b≤4294967295*4294967295:=Int.mul_le_mul g2 g4 g3 (by omega)
  omega
 have b1:=hm (x%4294967296) (y%4294967296) (by omega) (by omega) (by omega) (by omega)
 have b2:=hm (x/4294967296) (y%4294967296) (by omega) (by omega) (by omega) (by omega)
 have b3:=hm (x%4294967296) (y/4294967296) (by omega) (by omega) (by omega) (by omega)
 have b4:=hm (x/4294967296) (y/4294967296) (by omega) (by omega) (by omega) (by omega)
 have e:x*y=x/4294967296*(y/4294967296)*18446744073709551616+(x/4294967296*(y%4294967296)+x%4294967296*(y/4294967296))*4294967296+x%4294967296*(y%4294967296):=by
  have ex:=Int.emod_add_mul_ediv x 4294967296
  have ey:=Int.emod_add_mul_ediv y 4294967296
  generalize x/4294967296=x1 at *
  generalize x%4294967296=x0 at *
  generalize y/4294967296=y1 at *
  generalize y%4294967296=y0 at *
  subst ex;subst ey
  grind
 have b5:0≤x/4294967296*(y/4294967296)+(x/4294967296*(y%4294967296)+x%4294967296*(y%4294967296)/4294967296)/4294967296:=by omega
 refine enter0 Tryz.func200 rfl rfl rfl ?_
 repeat' (first|(refine nxV ?_)|(refine nSS ?_)|(refine nS1 fun _=>?_)|(refine nMM ?_)|(refine nM1 fun _=>?_)|(refine nxG ?_)|(refine nxX ?_)|(refine G.cN rfl (fun hc=>?_) (fun hc=>?_)<;>(try first|exact hc.elim|(exfalso;omega))))
 refine X.ret (vs:=[_,_]) rfl ⟨rfl,rfl,rfl⟩ rfl (fun w hw=>⟨?_,hw.ext⟩)
 simp only[IntKind.wrap_u64,e]
 congr 2
 refine congrArg Array.mk (List.cons_eq_cons.2 ⟨congrArg (Value.int .u64) ?_,rfl⟩)
 generalize x/4294967296*(y/4294967296)=a at *
 generalize x/4294967296*(y%4294967296)=b at *
 generalize x%4294967296*(y/4294967296)=c at *
 generalize x%4294967296*(y%4294967296)=d at *
 omega
theorem lz_c {x s:Int} (h:0<x∧x≤18446744073709551615) (hs:s=64-(Lib.bitLen x.toNat:Int)):Cont Tryz.prog 227 [.int .u64 x] (.int .i64 s):=fun w=>by
 have hl:Cont Tryz.prog 199 [.int .u64 x] (.int .i64 (Lib.bitLen x.toNat)):=fun w=>(Tryz.bits_Len64 x w (by omega) h.2).mono fun e w' he=>⟨he.1,by rw[he.2];exact Below.refl _ _⟩
 have hb:=Lib.bitLen_le x.toNat 64 (by omega) (by omega)
 refine enter0 Tryz.func227 rfl rfl rfl ?_
 repeat' (first|(show YK _ _ _ _ _ _ _;first|refine YK.mk (zcA (hl) ⟨rfl,rfl⟩) ?_)|(refine nxV ?_)|(refine nSS ?_)|(refine nS1 fun _=>?_)|(refine nMM ?_)|(refine nM1 fun _=>?_)|(show YG _ _ _ _ _ _ _ _;refine YG.mk (fun hb=>by(try(have hc:=And.left hb;have hb:=And.right hb;rw[hc]));(try rw[hb]);first|exact(zcA (hl) ⟨rfl,rfl⟩)|exact V.y vAuto) ?_)|(refine nxG ?_)|(refine nxX ?_)|(refine G.cN rfl (fun hc=>?_) (fun hc=>?_)<;>(try first|exact hc.elim|(exfalso;omega))))
 exact X.ret (vs:=[_]) rfl ⟨rfl,rfl⟩ rfl (fun w hw=>⟨ret_int hs.symm,hw.ext⟩)
def ShlIs (m c r:Int):Prop:=0≤c∧IntKind.u64.wrap (m*2^(min c.toNat IntKind.u64.bits))=r
def ShrIs (m c r:Int):Prop:=0≤c∧m/2^(min c.toNat IntKind.u64.bits)=r
def OrIs (m m' r:Int):Prop:=bits .or .u64 m m'=r
section
variable {P:Program} {n:Nat} {L:FL} {w0:World} {H:List Hl} {d:Option Tmp} {ty:TypeId} {pos:String} {af:Array Edge} {g:Option (Nat×Bool)} {x y:Operand} {t t':TypeId} {m m' r:Int}
theorem y_shlS (hx:evO L x=some (.int .u64 m)) (hy:evO L y=some (.int .u64 m')) (h:ShlIs m m' r):V P n L w0 H ⟨d,.binOp .shl t x y t',ty,pos,af,g⟩ (.int .u64 r):=h.2 ▸ y_shlV hx hy h.1
theorem y_shrS (hx:evO L x=some (.int .u64 m)) (hy:evO L y=some (.int .u64 m')) (h:ShrIs m m' r):V P n L w0 H ⟨d,.binOp .shr t x y t',ty,pos,af,g⟩ (.int .u64 r):=h.2 ▸ y_shrV hx hy h.1
theorem y_orS (hx:evO L x=some (.int .u64 m)) (hy:evO L y=some (.int .u64 m')) (h:OrIs m m' r):V P n L w0 H ⟨d,.binOp .or t x y t',ty,pos,af,g⟩ (.int .u64 r):=by
 unfold OrIs at h
 exact h ▸ y_bor hx hy
end
theorem div_shifts {hi lo y s:Int} (h:0<hi∧hi<y∧y≤18446744073709551615∧0≤lo∧lo≤18446744073709551615) (hs:s=64-(Lib.bitLen y.toNat:Int)) :
  ∃p r HP LR U U10:Int,0≤s∧s≤63∧0<p∧0<r∧p*r=18446744073709551616∧9223372036854775808≤y*p∧y*p≤18446744073709551615∧ShlIs y s (y*p)∧ShlIs hi s HP∧ShrIs lo (64-s) LR∧OrIs HP LR U∧U=hi*p+lo/r∧0≤U∧U<y*p∧ShlIs lo s U10∧U10=(lo*p)%18446744073709551616∧2^(min s.toNat IntKind.u64.bits)=p:=by
 obtain⟨h1,h2,h3,h4,h5⟩:=h
 have hb:=Lib.bitLenAux_bounds 64 y.toNat (by omega) (by omega)
 obtain⟨c1,c2,c3⟩:=hb
 have hle:=Lib.bitLen_le y.toNat 64 (by omega) (by omega)
 rw[show Lib.bitLenAux 64 y.toNat=Lib.bitLen y.toNat from rfl] at c1 c2 c3
 generalize hk:Lib.bitLen y.toNat=k at *
 have hs0:0≤s∧s≤63:=by omega
 have hst:s.toNat=64-k:=by omega
 have hmin:min s.toNat IntKind.u64.bits=64-k:=by rw[hst];exact Nat.min_eq_left (by show 64-k≤64;omega)
 have hmin2:min (64-s).toNat IntKind.u64.bits=k:=by rw[show (64-s).toNat=k by omega];exact Nat.min_eq_left hle
 have e1:(2:Nat)^(64-k)*2^k=18446744073709551616:=by rw[←Nat.pow_add,show 64-k+k=64 by omega]
 have e2:(2:Nat)^k=2*2^(k-1):=by rw[←Nat.pow_succ',show (k-1).succ=k by omega]
 have hp0:0<(2:Nat)^(64-k):=Nat.two_pow_pos _
 have hr0:0<(2:Nat)^k:=Nat.two_pow_pos _
 have ep:((2:Int)^(64-k))=((2^(64-k):Nat):Int):=by rw[Int.natCast_pow];rfl
 have er:((2:Int)^k)=((2^k:Nat):Int):=by rw[Int.natCast_pow];rfl
 generalize hp:(2:Nat)^(64-k)=p at *
 generalize hr:(2:Nat)^k=r at *
 generalize (2:Nat)^(k-1)=r1 at *
 have hyN:(y.toNat:Int)=y:=by omega
 have k1:y.toNat*p≤18446744073709551615:=by
  have h6:y.toNat+1≤r:=by omega
  have h7:=Nat.mul_le_mul_right p h6
  rw[Nat.mul_comm r p,e1,Nat.add_mul] at h7
  omega
 have k2:9223372036854775808≤y.toNat*p:=by
  have h7:=Nat.mul_le_mul_right p c2
  have h8:2*(r1*p)=18446744073709551616:=by rw[←e1,e2];rw[Nat.mul_comm p,Nat.mul_assoc]
  omega
 have k1':y*p≤18446744073709551615:=by rw[←hyN,←Int.natCast_mul];omega
 have k2':9223372036854775808≤y*p:=by rw[←hyN,←Int.natCast_mul];omega
 have hhi:hi.toNat*p+p≤y.toNat*p:=by
  have:=Nat.mul_le_mul_right p (show hi.toNat+1≤y.toNat by omega)
  rw[Nat.add_mul] at this
  omega
 have hlr:lo.toNat/r<p:=Nat.div_lt_of_lt_mul (by rw[Nat.mul_comm];omega)
 have hwr:∀z:Int,0≤z→z≤18446744073709551615→IntKind.u64.wrap z=z:=fun z a b=>wrapU ⟨a,b⟩
 have ehi:hi*(p:Int)=((hi.toNat*p:Nat):Int):=by rw[Int.natCast_mul,show (hi.toNat:Int)=hi by omega]
 have elo:lo/(r:Int)=((lo.toNat/r:Nat):Int):=by rw[Int.natCast_ediv,show (lo.toNat:Int)=lo by omega]
 have eor:(hi.toNat*p) ||| (lo.toNat/r)=hi.toNat*p+lo.toNat/r:=by
  rw[Nat.mul_comm hi.toNat p,←hp]
  rw[←hp] at hlr
  exact(Nat.two_pow_add_eq_or_of_lt hlr hi.toNat).symm
 refine⟨p,r,hi*p,lo/r,hi*p+lo/r,(lo*p)%18446744073709551616,hs0.1,hs0.2,by omega,by omega,by rw[←Int.natCast_mul,e1];rfl,k2',k1',⟨hs0.1,?_⟩,⟨hs0.1,?_⟩,⟨by omega,?_⟩,?_,rfl,?_,?_,⟨hs0.1,?_⟩,rfl,by rw[hmin,ep]⟩
 ·rw[hmin,ep,hwr _ (by omega) k1']
 ·rw[hmin,ep,hwr _ (by rw[ehi];omega) (by rw[ehi];omega)]
 ·rw[hmin2,er]
 ·unfold OrIs
  rw[ehi,elo,bits_or_u64_nat _ _ (by omega) (by omega),eor,Int.natCast_add]
 ·rw[ehi,elo];omega
 ·rw[ehi,elo,←hyN,←Int.natCast_mul];omega
 ·rw[hmin,ep,IntKind.wrap_u64]
def SubIs (m m' r:Int):Prop:=IntKind.u64.wrap (m-m')=r
theorem y_subS {P:Program} {n:Nat} {L:FL} {w0:World} {H:List Hl} {d:Option Tmp} {ty:TypeId} {pos:String} {af:Array Edge} {g:Option (Nat×Bool)} {x y:Operand} {t t':TypeId} {m m' r:Int} (hx:evO L x=some (.int .u64 m)) (hy:evO L y=some (.int .u64 m')) (h:SubIs m m' r):V P n L w0 H ⟨d,.binOp .sub t x y t',ty,pos,af,g⟩ (.int .u64 r):=by
 unfold SubIs at h
 exact h ▸ y_sub hx hy
theorem subIs {a b c:Int} (h:0≤a*4294967296+b-c∧a*4294967296+b-c≤18446744073709551615):SubIs (IntKind.u64.wrap (IntKind.u64.wrap (a*4294967296)+b)) (IntKind.u64.wrap c) (a*4294967296+b-c):=by
 unfold SubIs
 simp only[IntKind.wrap_u64]
 omega
theorem div64_c {hi lo y:Int} (h:0≤hi∧hi<y∧y≤18446744073709551615∧0≤lo∧lo≤18446744073709551615):Cont Tryz.prog 201 [.int .u64 hi,.int .u64 lo,.int .u64 y] (.tuple [.int .u64 ((hi*18446744073709551616+lo)/y),.int .u64 ((hi*18446744073709551616+lo)%y)].toArray):=fun w=>by
 obtain⟨h1,h2,h3,h4,h5⟩:=h
 rcases Int.lt_or_eq_of_le h1 with h0|h0
 rotate_left
 ·subst h0
  refine enter0 Tryz.func201 rfl rfl rfl ?_
  repeat' (first|(refine nxV ?_)|(refine nSS ?_)|(refine nS1 fun _=>?_)|(refine nMM ?_)|(refine nM1 fun _=>?_)|(refine nxG ?_)|(refine G.mA 6 [.go 0,.go 1,.go 2,.go 3,.go 4,.go 5,.go 6,.go 7] ?_)|(refine nxX ?_)|(refine G.cN rfl (fun hc=>?_) (fun hc=>?_)<;>(try first|exact hc.elim|(exfalso;omega))))
  exact X.ret (vs:=[_,_]) rfl ⟨rfl,rfl,rfl⟩ rfl (fun w hw=>⟨by simp,hw.ext⟩)
 obtain⟨s,hs⟩:∃s:Int,s=64-(Lib.bitLen y.toNat:Int):=⟨_,rfl⟩
 obtain⟨p,r,HP,LR,U,U10,s0,s1,hp,hr,hpr,hY1,hY2,sh1,sh2,sh3,or1,eU,hU0,hUy,sh4,eU10,e2p⟩:=div_shifts ⟨h0,h2,h3,h4,h5⟩ hs
 have hwh:=@div_whole hi lo y p r U U10
 generalize hY:y*p=Y at *
 have hYe:Y/4294967296*4294967296+Y%4294967296=Y:=by omega
 have hm1:=Int.ediv_mul_le U (show Y/4294967296≠0 by omega)
 have hm2:=Int.lt_ediv_add_one_mul_self U (show 0<Y/4294967296 by omega)
 rw[Int.add_mul,Int.one_mul] at hm2
 have hm3:=Int.mul_nonneg (Int.ediv_nonneg hU0 (show 0≤Y/4294967296 by omega)) (show 0≤Y/4294967296 by omega)
 have hq0:=Int.ediv_nonneg hU0 (show 0≤Y/4294967296 by omega)
 have hU10:0≤U10∧U10≤18446744073709551615:=by omega
 refine enter0 Tryz.func201 rfl rfl rfl ?_
 repeat' (first|(refine YK.ofV (y_shlS (by rfl) (by rfl) (by assumption)) ?_)|(refine YK.ofV (y_shrS (by rfl) (by rfl) (by assumption)) ?_)|(refine YK.ofV (y_orS (by rfl) (by rfl) (by assumption)) ?_)|(show YK _ _ _ _ _ _ _;first|refine YK.mk (zcA (lz_c (s:=s) (by omega) hs) ⟨rfl,rfl⟩) ?_)|(refine nxV ?_)|(refine nSS ?_)|(refine nS1 fun _=>?_)|(refine nMM ?_)|(refine nM1 fun _=>?_)|(show YG _ _ _ _ _ _ _ _;refine YG.mk (fun hb=>by(try(have hc:=And.left hb;have hb:=And.right hb;rw[hc]));(try rw[hb]);first|exact(zcA (lz_c (s:=s) (by omega) hs) ⟨rfl,rfl⟩)|exact V.y vAuto) ?_)|(refine nxG ?_)|(refine G.mA 6 [.go 0,.go 1,.go 2,.go 3,.go 4,.go 5,.go 6,.go 7] ?_)|(refine nxX ?_)|(refine G.cN rfl (fun hc=>?_) (fun hc=>?_)<;>(try first|exact hc.elim|(exfalso;omega))))
 have hd1:0≤U10/4294967296∧U10/4294967296<4294967296:=by omega
 obtain⟨Q1,hQ1⟩:∃Q1,(U*4294967296+U10/4294967296)/Y=Q1:=⟨_,rfl⟩
 have hge1:=digit_ge (u:=U) (d:=U10/4294967296) (y1:=Y/4294967296) (y0:=Y%4294967296) hU0 hd1.1 hd1.2 (by omega) (by omega)
 rw[hYe,hQ1] at hge1
 have hle1:=digit_le (u:=U) (y:=Y) (y1:=Y/4294967296) (y0:=Y%4294967296) hU0 hUy hYe.symm (by omega) (by omega) (by omega)
 have hlt1:=digit_lt (u:=U) (d:=U10/4294967296) (y:=Y) (by omega) hd1.2 hUy
 rw[hQ1] at hlt1
 have hnn1:0≤Q1:=hQ1 ▸ Int.ediv_nonneg (by omega) (by omega)
 refine G.mid [(2,.int .u64 Y),(8,.int .u64 s),(9,.int .u64 (Y/4294967296)),(10,.int .u64 (Y%4294967296)),(13,.int .u64 (U10/4294967296)),(14,.int .u64 (U10%4294967296)),(11,.int .u64 U),(15,.int .u64 Q1)] [] ?_ ?_
 ·refine G.loop (ι:=Int×Int) (fun x=>[(2,.int .u64 Y),(8,.int .u64 s),(9,.int .u64 (Y/4294967296)),(10,.int .u64 (Y%4294967296)),(13,.int .u64 (U10/4294967296)),(14,.int .u64 (U10%4294967296)),(11,.int .u64 U),(15,.int .u64 x.1),(16,.int .u64 x.2)]) (fun _=>[]) (fun x=>Q1≤x.1∧x.1≤4294967297∧x.2=U-x.1*(Y/4294967296)∧0≤x.2∧x.2<4294967296) (fun x=>(x.1-Q1).toNat)
   (U/(Y/4294967296),U-U/(Y/4294967296)*(Y/4294967296)) ⟨hge1,hle1,rfl,by dsimp only;omega,by dsimp only;omega⟩ ⟨rfl,rfl,rfl,rfl,rfl,rfl,rfl,rfl,rfl,trivial⟩ (fun w h=>h) ?_
  rintro⟨q,r⟩ mx ⟨g1,g2,g3,g4,g5⟩ hmx
  dsimp only at g1 g2 g3 g4 g5 hmx ⊢
  have ft:=digit_test (u:=U) (d:=(U10/4294967296)) (y1:=Y/4294967296) (y0:=Y%4294967296) (q:=q) (r:=r) (by omega) g3
  rw[hYe,hQ1] at ft
  have f1:4294967296≤q∨(0≤q*(Y%4294967296)∧q*(Y%4294967296)≤18446744073709551615):=by
   rcases Int.lt_or_le q 4294967296 with h|h
   ·have a1:=Int.mul_nonneg (show 0≤q by omega) (show 0≤Y%4294967296 by omega)
    have a2:q*(Y%4294967296)≤4294967295*4294967295:=Int.mul_le_mul (by omega) (by omega) (by omega) (by omega)
    exact .inr ⟨a1,by omega⟩
   ·exact .inl h
  have e1:(q-1)*(Y/4294967296)=q*(Y/4294967296)-Y/4294967296:=by rw[Int.sub_mul,Int.one_mul]
  repeat' (first|(refine nxV ?_)|(refine nSS ?_)|(refine nS1 fun _=>?_)|(refine nMM ?_)|(refine nM1 fun _=>?_)|(refine nxG ?_)|(refine G.mA 6 [.go 0,.go 1,.go 2,.go 3,.go 4,.go 5,.go 6,.go 7] ?_)|(refine nxX ?_)|(refine G.cN rfl (fun hc=>?_) (fun hc=>?_)<;>(try first|exact hc.elim|(exfalso;omega))))
  ·have fs:=digit_stop (u:=U) (d:=(U10/4294967296)) (y1:=Y/4294967296) (y0:=Y%4294967296) (q:=q-1) (r:=r+Y/4294967296) (by omega) (by omega) (by omega) (by omega) (by omega) (by omega) (by omega) (by omega)
   rw[hYe,hQ1] at fs
   have e2:q-1=Q1:=by omega
   exact X.mid ⟨rfl,rfl,rfl,rfl,rfl,rfl,rfl,by show some _=some _;rw[e2],trivial⟩ (fun w h=>h)
  ·exact X.again (q-1,r+Y/4294967296) ⟨by dsimp only;omega,by dsimp only;omega,by dsimp only;omega,by dsimp only;omega,by dsimp only;omega⟩ (by dsimp only;omega) ⟨rfl,rfl,rfl,rfl,rfl,rfl,rfl,rfl,rfl,trivial⟩ (fun w h=>h)
  ·have e2:q=Q1:=by omega
   exact X.mid ⟨rfl,rfl,rfl,rfl,rfl,rfl,rfl,by show some _=some _;rw[e2],trivial⟩ (fun w h=>h)
 have r1a:=Int.ediv_mul_le (U*4294967296+U10/4294967296) (show Y≠0 by omega)
 have r1b:=Int.lt_ediv_add_one_mul_self (U*4294967296+U10/4294967296) (show 0<Y by omega)
 rw[hQ1] at r1a r1b
 rw[Int.add_mul,Int.one_mul] at r1b
 have sb1:=subIs (a:=U) (b:=U10/4294967296) (c:=Q1*Y) ⟨by omega,by omega⟩
 obtain⟨R1,hR1⟩:∃R1,U*4294967296+U10/4294967296-Q1*Y=R1:=⟨_,rfl⟩
 rw[hR1] at sb1
 have hR10:0≤R1:=by omega
 have hR1y:R1<Y:=by omega
 have hm1':=Int.ediv_mul_le R1 (show Y/4294967296≠0 by omega)
 have hm2':=Int.lt_ediv_add_one_mul_self R1 (show 0<Y/4294967296 by omega)
 rw[Int.add_mul,Int.one_mul] at hm2'
 have hm3':=Int.mul_nonneg (Int.ediv_nonneg hR10 (show 0≤Y/4294967296 by omega)) (show 0≤Y/4294967296 by omega)
 have hd2:0≤U10%4294967296∧U10%4294967296<4294967296:=by omega
 obtain⟨Q2,hQ2⟩:∃Q2,(R1*4294967296+U10%4294967296)/Y=Q2:=⟨_,rfl⟩
 have hge2:=digit_ge (u:=R1) (d:=U10%4294967296) (y1:=Y/4294967296) (y0:=Y%4294967296) hR10 hd2.1 hd2.2 (by omega) (by omega)
 rw[hYe,hQ2] at hge2
 have hle2:=digit_le (u:=R1) (y:=Y) (y1:=Y/4294967296) (y0:=Y%4294967296) hR10 hR1y hYe.symm (by omega) (by omega) (by omega)
 have hlt2:=digit_lt (u:=R1) (d:=U10%4294967296) (y:=Y) (by omega) hd2.2 hR1y
 rw[hQ2] at hlt2
 have hnn2:0≤Q2:=hQ2 ▸ Int.ediv_nonneg (by omega) (by omega)
 repeat' (first|(refine YK.ofV (y_subS (by rfl) (by rfl) (by assumption)) ?_)|(refine nxV ?_)|(refine nSS ?_)|(refine nS1 fun _=>?_)|(refine nMM ?_)|(refine nM1 fun _=>?_)|(refine nxG ?_)|(refine G.mA 6 [.go 0,.go 1,.go 2,.go 3,.go 4,.go 5,.go 6,.go 7] ?_)|(refine nxX ?_)|(refine G.cN rfl (fun hc=>?_) (fun hc=>?_)<;>(try first|exact hc.elim|(exfalso;omega))))
 refine G.mid [(2,.int .u64 Y),(8,.int .u64 s),(9,.int .u64 (Y/4294967296)),(10,.int .u64 (Y%4294967296)),(14,.int .u64 (U10%4294967296)),(15,.int .u64 Q1),(17,.int .u64 R1),(18,.int .u64 Q2)] [] ?_ ?_
 ·refine G.loop (ι:=Int×Int) (fun x=>[(2,.int .u64 Y),(8,.int .u64 s),(9,.int .u64 (Y/4294967296)),(10,.int .u64 (Y%4294967296)),(14,.int .u64 (U10%4294967296)),(15,.int .u64 Q1),(17,.int .u64 R1),(18,.int .u64 x.1),(16,.int .u64 x.2)]) (fun _=>[]) (fun x=>Q2≤x.1∧x.1≤4294967297∧x.2=R1-x.1*(Y/4294967296)∧0≤x.2∧x.2<4294967296) (fun x=>(x.1-Q2).toNat)
   (R1/(Y/4294967296),R1-R1/(Y/4294967296)*(Y/4294967296)) ⟨hge2,hle2,rfl,by dsimp only;omega,by dsimp only;omega⟩ ⟨rfl,rfl,rfl,rfl,rfl,rfl,rfl,rfl,rfl,trivial⟩ (fun w h=>h) ?_
  rintro⟨q,r⟩ mx ⟨g1,g2,g3,g4,g5⟩ hmx
  dsimp only at g1 g2 g3 g4 g5 hmx ⊢
  have ft:=digit_test (u:=R1) (d:=(U10%4294967296)) (y1:=Y/4294967296) (y0:=Y%4294967296) (q:=q) (r:=r) (by omega) g3
  rw[hYe,hQ2] at ft
  have f1:4294967296≤q∨(0≤q*(Y%4294967296)∧q*(Y%4294967296)≤18446744073709551615):=by
   rcases Int.lt_or_le q 4294967296 with h|h
   ·have a1:=Int.mul_nonneg (show 0≤q by omega) (show 0≤Y%4294967296 by omega)
    have a2:q*(Y%4294967296)≤4294967295*4294967295:=Int.mul_le_mul (by omega) (by omega) (by omega) (by omega)
    exact .inr ⟨a1,by omega⟩
   ·exact .inl h
  have e1:(q-1)*(Y/4294967296)=q*(Y/4294967296)-Y/4294967296:=by rw[Int.sub_mul,Int.one_mul]
  repeat' (first|(refine nxV ?_)|(refine nSS ?_)|(refine nS1 fun _=>?_)|(refine nMM ?_)|(refine nM1 fun _=>?_)|(refine nxG ?_)|(refine G.mA 6 [.go 0,.go 1,.go 2,.go 3,.go 4,.go 5,.go 6,.go 7] ?_)|(refine nxX ?_)|(refine G.cN rfl (fun hc=>?_) (fun hc=>?_)<;>(try first|exact hc.elim|(exfalso;omega))))
  ·have fs:=digit_stop (u:=R1) (d:=(U10%4294967296)) (y1:=Y/4294967296) (y0:=Y%4294967296) (q:=q-1) (r:=r+Y/4294967296) (by omega) (by omega) (by omega) (by omega) (by omega) (by omega) (by omega) (by omega)
   rw[hYe,hQ2] at fs
   have e2:q-1=Q2:=by omega
   exact X.mid ⟨rfl,rfl,rfl,rfl,rfl,rfl,rfl,by show some _=some _;rw[e2],trivial⟩ (fun w h=>h)
  ·exact X.again (q-1,r+Y/4294967296) ⟨by dsimp only;omega,by dsimp only;omega,by dsimp only;omega,by dsimp only;omega,by dsimp only;omega⟩ (by dsimp only;omega) ⟨rfl,rfl,rfl,rfl,rfl,rfl,rfl,rfl,rfl,trivial⟩ (fun w h=>h)
  ·have e2:q=Q2:=by omega
   exact X.mid ⟨rfl,rfl,rfl,rfl,rfl,rfl,rfl,by show some _=some _;rw[e2],trivial⟩ (fun w h=>h)
 have r2a:=Int.ediv_mul_le (R1*4294967296+U10%4294967296) (show Y≠0 by omega)
 have r2b:=Int.lt_ediv_add_one_mul_self (R1*4294967296+U10%4294967296) (show 0<Y by omega)
 rw[hQ2] at r2a r2b
 rw[Int.add_mul,Int.one_mul] at r2b
 have sb2:=subIs (a:=R1) (b:=U10%4294967296) (c:=Q2*Y) ⟨by omega,by omega⟩
 repeat' (first|(refine YK.ofV (y_subS (by rfl) (by rfl) (by assumption)) ?_)|(refine nxV ?_)|(refine nSS ?_)|(refine nS1 fun _=>?_)|(refine nMM ?_)|(refine nM1 fun _=>?_)|(refine nxG ?_)|(refine G.mA 6 [.go 0,.go 1,.go 2,.go 3,.go 4,.go 5,.go 6,.go 7] ?_)|(refine nxX ?_)|(refine G.cN rfl (fun hc=>?_) (fun hc=>?_)<;>(try first|exact hc.elim|(exfalso;omega))))
 have hfin:=hwh (un1:=U10/4294967296) (un0:=U10%4294967296) (q1:=Q1) (q0:=Q2) (u21:=R1) (R:=R1*4294967296+U10%4294967296-Q2*Y) hp hpr hr (by omega) hY2 h1 h2 h4 eU eU10 (by omega) hR1.symm rfl (by omega) (by omega)
 exact X.ret (vs:=[_,_]) rfl ⟨rfl,rfl,rfl⟩ rfl (fun w hw=>⟨by rw[hfin.1,hfin.2,e2p],hw.ext⟩)
end Go.Proofs.YtjmdeplmenbmmaaGreat
