/- Joined texts: Stc, Tkd. -/
import Derived.Test.YtjmdeplmenbmmaaGreatW16
import Derived.Lib.RowBridge
import Derived.Test.YtjmdeplmenbmmaaGreatW04
set_option linter.unusedVariables false
namespace Go.Proofs.YtjmdeplmenbmmaaGreat
open Go.RowKit Go.Shelf Go.Lib Go.Sort
def cNm (l:List UInt8):List Value:=[strV l]
theorem flat_st:∀zs:List (List UInt8),zs.flatMap cNm=zs.map strV
 |[]=>rfl
 |x::r=>by rw[List.flatMap_cons,flat_st r];rfl
theorem flat_stlen (zs:List (List UInt8)):(zs.flatMap cNm).length=zs.length*1:=by rw[flat_st];simp
set_option maxHeartbeats 1000000 in
theorem len0_world (W:World):Calls Tryz.prog 149 #[.int .u64 0] W fun e w'=>e=.returned (.int .i64 0)∧w'=W:=by
 go_enter Tryz.func149,Tryz.ntmps149
 go_wp2_with (go_at_call 199;refine(Tryz.bits_Len64 0 _ (by decide) (by decide)).mono ?_;rintro e w' ⟨rfl,rfl⟩)
 go_ret
 exact⟨rfl,rfl⟩
set_option maxHeartbeats 1000000 in
theorem ins0_world (p:Option Addr) (cap:Nat) (W:World):Calls Tryz.prog 189 #[.slice p 0 cap,.int .i64 0,.int .i64 0] W fun e w'=>e=.returned (.tuple #[])∧w'=W:=by
 go_enter Tryz.func189,Tryz.ntmps189
 go_wp2
 refine wp_loop_rounds 1 ?_
 rw[rounds_succ]
 go_wp2
 go_end0
 exact⟨rfl,rfl⟩
set_option maxRecDepth 100000 in
set_option maxHeartbeats 2000000 in
theorem pdq0_world (p:Option Addr) (cap:Nat) (lim:Int) (W:World):Calls Tryz.prog 148 #[.slice p 0 cap,.int .i64 0,.int .i64 0,.int .i64 lim] W fun e w'=>e=.returned (.tuple #[])∧w'=W:=by
 go_enter Tryz.func148,Tryz.ntmps148
 go_wp2
 refine wp_loop_rounds 1 ?_
 rw[rounds_succ]
 go_wp2_with (go_at_call 189;refine(ins0_world _ _ _).mono ?_;rintro e w' ⟨rfl,rfl⟩)
 (try simp only[Exit.inBlock,Exit.then]);refine bodyPost_ret (results_none rfl _ _ _) rfl ?_
 exact⟨rfl,rfl⟩
set_option maxHeartbeats 1000000 in
theorem sort0_world (p:Option Addr) (cap:Nat) (W:World):Calls Tryz.prog 84 #[.slice p 0 cap] W fun e w'=>e=.returned (.tuple #[])∧w'=W:=by
 go_enter Tryz.func84,Tryz.ntmps84
 go_wp2_with (first|(go_at_call 149;refine(len0_world _).mono ?_;rintro e w' ⟨rfl,rfl⟩)|(go_at_call 148;refine(pdq0_world _ _ _ _).mono ?_;rintro e w' ⟨rfl,rfl⟩))
 go_end0
 exact⟨rfl,rfl⟩
theorem holdsT_of {w:World} {g:Nat} {cur:Array Value} {e:TypeId} {zs:List (List UInt8)} (hb:w.heap[g]?=some (.cells cur e (0,0))) (ht:cur.toList.take (zs.length*1)=zs.flatMap cNm):Holds encStr w g 0 zs.toArray:=by
 intro j hj
 have hj':j<zs.length:=by simpa using hj
 refine⟨?_,by simp[World.frozen?,hb]⟩
 have h1:cur[j]?=some (strV zs[j]):=by
  have e1:(cur.toList.take (zs.length*1))[j]?=cur[j]?:=by rw[List.getElem?_take_of_lt (by omega),Array.getElem?_toList]
  rw[←e1,ht,flat_st,List.getElem?_map,List.getElem?_eq_getElem hj']
  rfl
 show (match w.heap[g]? with|some (.cells c _ _)=>if (none:Option Nat).isSome then none else c[0+j]?|_=>none)=_
 rw[hb,Nat.zero_add,getElem!_pos _ j hj]
 exact h1
theorem heap_sortedT {w:World} {g n:Nat} {os:Array Obj} {cur:Array Value} {e:TypeId} {fr:Nat×Nat} (d:Array (List UInt8)) (hb:w.heap[g]?=some (.cells cur e fr)) :
  (grow (putRow encStr (Sort.ahead w n) g 0 d) os).heap[g]?=some (.cells (putCells encStr 0 d cur) e fr):=by
 have hg:g<w.heap.size:=(Array.getElem?_eq_some_iff.1 hb).1
 rw[heap_grow_old _ _ (by simpa using hg)]
 simp[putRow,mapBlock,Sort.ahead,Array.getElem?_modify,hb,onCells]
theorem grownBy_sortedT {w:World} {g n:Nat} {os:Array Obj} (d:Array (List UInt8)):w.grownBy (grow (putRow encStr (Sort.ahead w n) g 0 d) os) (some g):=by
 refine⟨rfl,rfl,rfl,by simp,fun k hk hne=>?_⟩
 rw[heap_grow_old _ _ (by simpa using hk)]
 have:g≠k:=fun e=>hne (by rw[e])
 simp[putRow,mapBlock,Sort.ahead,Array.getElem?_modify,this]
theorem take_putT (cur:Array Value) (F:Array (List UInt8)) (h:F.size≤cur.size):(putCells encStr 0 F cur).toList.take F.size=F.toList.map strV:=by
 apply List.ext_getElem?
 intro j
 by_cases hj:j<F.size
 ·rw[List.getElem?_take_of_lt hj,Array.getElem?_toList,List.getElem?_map,Array.getElem?_toList]
  simp[putCells,hj,show j<cur.size by omega]
 ·rw[List.getElem?_take_eq_none (by omega),List.getElem?_eq_none (by simp;omega)]
theorem ownsRow_sortedT {w:World} {base g cap n:Nat} {e:TypeId} {os:Array Obj} {cur:Array Value} {m:Nat} {ds fs:List (List UInt8)} (hl:ds.length=m) (hf:fs.take m=ds) (hbase:base≤g) (hb:w.heap[g]?=some (.cells cur e (0,0)))
  (h1:m≤cap) (h4:fs.length≤cap) (h2:cap≤maxLen) (h3:cur.size=cap*1) :
  (grow (putRow encStr (Sort.ahead w n) g 0 fs.toArray) os).ownsRow base e 1 (.slice (some ⟨g,0,none⟩) m cap) m (ds.flatMap cNm):=by
 have hm:m≤fs.length:=by rw[←hf] at hl;rw[List.length_take] at hl;omega
 refine⟨by rw[flat_stlen,hl],.inr ⟨g,cap,_,rfl,hbase,heap_sortedT _ hb,h1,h2,by simp[putCells,h3],?_⟩⟩
 have e1:=take_putT cur fs.toArray (by rw[h3];simpa using h4)
 have e2:((putCells encStr 0 fs.toArray cur).toList.take fs.toArray.size).take m=(putCells encStr 0 fs.toArray cur).toList.take m:=by
  rw[List.take_take,Nat.min_eq_left (by simpa using hm)]
 rw[Nat.mul_one,←e2,e1,flat_st,←hf,List.map_take]
theorem rwT_spot {g n cap:Nat} {T:List (List UInt8)} {e:TypeId} (h:T≠[]):(Hl.rw (Value.slice (some ⟨g,0,none⟩) n cap) e cNm 1 T).spot=some g:=by
 cases T with
 |nil=>exact absurd rfl h
 |cons a r=>rfl
theorem sortT_c (z:Sl) (S:List (List UInt8)) (hn:S.length≤1000000):ContU Tryz.prog (Hl.rw z.v 9 cNm 1 S) 84 [z.v] (fun S':List (List UInt8)=>S'.Perm S) (fun _=>.tuple #[]) (fun S'=>[Hl.rw z.v 9 cNm 1 S']):=fun w0 HR w hs=>by
 have hown:w.ownsRow w0.heap.size 9 1 z.v S.length (S.flatMap cNm):=hs.all _ List.mem_cons_self
 obtain⟨zv,hzv⟩:∃v,v=z.v:=⟨_,rfl⟩
 rw[←hzv] at hown hs ⊢
 by_cases hS:S=[]
 ·have h0:∃p cap,zv=.slice p 0 cap:=by
   rcases hown.2 with ⟨hv,_⟩|⟨g,cap,cur,hv,_⟩
   ·exact⟨_,_,hv⟩
   ·rw[hS] at hv;exact⟨_,_,hv⟩
  obtain⟨p,cap,hv⟩:=h0
  subst hS
  rw[hv] at hs ⊢
  refine(sort0_world p cap w).mono ?_
  rintro e w' ⟨rfl,rfl⟩
  exact⟨[],List.Perm.refl _,rfl,hs⟩
 ·rcases hown.2 with ⟨hv,h1⟩|⟨g,cap,cur,hv,hb,hg,hnc,hcm,hcs,htake⟩
  ·exact absurd (List.eq_nil_of_length_eq_zero h1) hS
  have hblk:g<w.heap.size:=(Array.getElem?_eq_some_iff.1 hg).1
  rw[hv] at hs ⊢
  refine(AnyG.slices_Sort_string Tryz.sortStr g 0 cap S w (holdsT_of hg htake) hblk (by omega)).mono ?_
  rintro e w' ⟨rfl,n,os,rfl⟩
  have hp:=List.mergeSort_perm S fun x y=>decide (x≤y)
  generalize S.mergeSort (fun x y=>decide (x≤y))=ds at *
  have hl:ds.length=S.length:=hp.length_eq
  refine⟨ds,hp,rfl,?_⟩
  refine St.turn hs (Upd.here _) rfl ?_ ?_ ?_
  ·rw[rwT_spot hS]
   exact grownBy_sortedT _
  ·show World.ownsRow _ _ _ _ _ _ _
   rw[hl]
   exact ownsRow_sortedT hl (by rw[←hl,List.take_length]) hb hg hnc (by omega) hcm hcs
  ·intro b hb2
   left
   rw[rwT_spot hS]
   have hd:ds≠[]:=fun h=>hS (List.eq_nil_of_length_eq_zero (by rw[←hl,h];rfl))
   rw[rwT_spot hd] at hb2
   exact hb2
theorem mem_compact {α:Type} [Inhabited α] [DecidableEq α] (zs:List α) (x:α):x∈compact zs↔x∈zs:=by
 unfold compact compactUpTo
 rw[List.mem_map]
 constructor
 ·rintro⟨j,hj,rfl⟩
  have:=List.mem_range.1 (List.mem_filter.1 hj).1
  rw[getElem!_pos _ j (by simpa using this)]
  simp
 ·intro hx
  obtain⟨j,hj,rfl⟩:=List.getElem_of_mem hx
  have key:∀(n j:Nat) (hj:j<zs.length),j≤n→∃a,a∈List.filter (keeps zs.toArray) (List.range zs.length)∧zs.toArray[a]! = zs[j]:=by
   intro n
   induction n with
   |zero =>
    intro j hj h
    exact⟨j,List.mem_filter.2 ⟨List.mem_range.2 hj,by unfold keeps;simp;left;omega⟩,by rw[getElem!_pos _ j (by simpa using hj)];simp⟩
   |succ n ih =>
    intro j hj h
    have e:zs.toArray[j]! = zs[j]:=by rw[getElem!_pos _ j (by simpa using hj)];simp
    cases hk:keeps zs.toArray j with
    |true=>exact⟨j,List.mem_filter.2 ⟨List.mem_range.2 hj,hk⟩,e⟩
    |false =>
     unfold keeps at hk
     have hk:=of_decide_eq_false hk
     have h0:j≠0:=fun g=>hk (.inl g)
     have h1:zs.toArray[j]! = zs.toArray[j-1]!:=Decidable.byContradiction fun g=>hk (.inr g)
     obtain⟨a,ha,hb⟩:=ih (j-1) (by omega) (by omega)
     refine⟨a,ha,?_⟩
     rw[hb,←e,h1,getElem!_pos _ (j-1) (by simp;omega)]
     simp
  obtain⟨a,ha,hb⟩:=key j j hj (Nat.le_refl _)
  exact⟨a,ha,hb⟩
theorem compactT_c (z:Sl) (S:List (List UInt8)) (hn:S.length≤1000000):ContU Tryz.prog (Hl.rw z.v 9 cNm 1 S) 85 [z.v] (fun y:Sl×List (List UInt8)=>(∀x,x∈y.2↔x∈S)∧y.2.length≤S.length) (fun y=>y.1.v) (fun y=>[Hl.rw y.1.v 9 cNm 1 y.2]):=fun w0 HR w hs=>by
 have hown:w.ownsRow w0.heap.size 9 1 z.v S.length (S.flatMap cNm):=hs.all _ List.mem_cons_self
 obtain⟨a,m,c⟩:=z
 by_cases hS:S=[]
 ·have h0:m=0:=by
   rcases hown.2 with ⟨hv,_⟩|⟨g,cap,cur,hv,_⟩
   ·simp only[Sl.v,Value.slice.injEq] at hv;exact hv.2.1
   ·simp only[Sl.v,Value.slice.injEq] at hv;rw[hv.2.1,hS];rfl
  subst h0
  subst hS
  refine(Tryz.slices_Compact_string_empty a c w).mono ?_
  rintro e w' ⟨rfl,rfl⟩
  exact⟨(⟨a,0,c⟩,[]),⟨fun _=>Iff.rfl,Nat.le_refl _⟩,rfl,hs⟩
 ·rcases hown.2 with ⟨hv,h1⟩|⟨g,cap,cur,hv,hb,hg,hnc,hcm,hcs,htake⟩
  ·exact absurd (List.eq_nil_of_length_eq_zero h1) hS
  simp only[Sl.v,Value.slice.injEq] at hv
  obtain⟨rfl,rfl,rfl⟩:=hv
  refine(Tryz.slices_Compact_string g 0 c S w (holdsT_of hg htake) (by omega) hnc).mono ?_
  rintro e w' ⟨rfl,n,rfl⟩
  have hmem:=fun x=>mem_compact S x
  have hle:=compact_length_le S
  generalize compact S=ds at *
  have hd:ds≠[]:=fun h=>hS (by
   cases S with
   |nil=>rfl
   |cons x r=>exact absurd ((hmem x).2 List.mem_cons_self) (by rw[h];simp))
  refine⟨(⟨some ⟨g,0,none⟩,ds.length,c⟩,ds),⟨hmem,hle⟩,rfl,?_⟩
  rw[←grow_empty (putRow _ _ _ _ _)]
  refine St.turn hs (Upd.here _) rfl ?_ ?_ ?_
  ·rw[rwT_spot hS]
   exact grownBy_sortedT _
  ·show World.ownsRow _ _ _ _ _ _ _
   exact ownsRow_sortedT rfl (by simp) hb hg (Nat.le_trans hle hnc) (Nat.le_trans (by rw[List.length_append,List.length_replicate];omega) hnc) hcm hcs
  ·intro b hb2
   left
   rw[rwT_spot hS]
   rw[rwT_spot hd] at hb2
   exact hb2
end Go.Proofs.YtjmdeplmenbmmaaGreat
set_option maxHeartbeats 8000000
namespace Go.Proofs.YtjmdeplmenbmmaaGreat
open Go.RowKit
section
variable {P:Program} {ops:Array Oper} {n:Nat} {L:FL} {w0:World} {H HS:List Hl} {Q:Exit→Act→World→Prop} {rest:List Oper} {ord:List Mv} {dd i:Nat} {ty:TypeId} {pos:String} {af:Array Edge} {gd:Option (Nat×Bool)} {ι:Type} {C:World→Prop} {f:FuncId} {xs:List Operand} {vs:List Value} {tys:Array TypeId} {post:ι→Prop} {v:ι→Value} {Hn:ι→List Hl}
def ContXI (P:Program) (C:World→Prop) (f:FuncId) (args:List Value) {ι:Type} (post:ι→Prop) (v:ι→Value) (Hn:ι→List Hl):Prop:=∀w,C w→Calls P f args.toArray w (RetX post v Hn w)
theorem x_callXI (hc:ContXI P C f vs post v Hn) (hC:∀w,St w0 H w→C w) (ha:AE L xs vs) (hg:isGo P f=true) (hd:Nat.blt dd n=true) :
  EX P n L w0 H ⟨some dd,.call { callee:=.value (.func f),args:=xs.toArray,argTypes:=tys },ty,pos,af,gd⟩ post (fun x=>(dd,v x)::L) (fun x=>Hn x++H):=fun a w hfr hw K Q hK=>by
 unfold Oper.wp
 rw[run_call hfr ha hg]
 refine(hc w (hC w hw)).mono ?_
 rintro e w' ⟨z,hz,rfl,hb,hn⟩
 exact hK _ _ ⟨z,hz,hfr.put (by simpa [Nat.blt_eq] using hd),hw.news hb hn⟩
theorem RS.callXI (hc:ContXI P C f vs post v Hn) (hC:∀w,St w0 H w→C w) (ha:AE L xs vs) (h:∀x,post x→RS P ops Q n ((dd,v x)::L) w0 (Hn x++H) rest) (hg:isGo P f=true) (hd:Nat.blt dd n=true) :
  RS P ops Q n L w0 H (⟨some dd,.call { callee:=.value (.func f),args:=xs.toArray,argTypes:=tys },ty,pos,af,none⟩::rest):=RS.actX rfl (x_callXI hc hC ha hg hd) h
theorem RM.callXIG {j g:Nat} {want:Bool} (ho:ops[i]?=some ⟨some dd,.call { callee:=.value (.func f),args:=xs.toArray,argTypes:=tys },ty,pos,af,some (j,want)⟩) (hj:(ops[j]?).bind (·.dst)=some g) (hg':lk L g=some (.bool want)) (hc:ContXI P C f vs post v Hn) (hC:∀w,St w0 H w→C w) (ha:AE L xs vs) (h:∀x,post x→RM P ops Q HS n [] ((dd,v x)::L) w0 (Hn x++H) ord)
  (hs:∀x w,St w0 (Hn x++H) w→St w0 HS w) (hg:isGo P f=true) (hd:Nat.blt dd n=true) :
  RM P ops Q HS n [] L w0 H (.go i::ord):=RM.actXT ho rfl hj hg' rfl (x_callXI hc hC ha hg hd) (.inl hs) h
theorem RS.lit1Nm {t e:TypeId} {bytes:Nat} {x:Operand} {a:List UInt8} (h:∀v':Sl,RS P ops Q n ((dd,v'.v)::L) w0 (Hl.rw v'.v e cNm 1 [a]::H) rest) (hx:evO L x=some (strV a)) [ht:RowTy P t e 1 bytes] (hd:Nat.blt dd n=true:=by rfl) :
  RS P ops Q n L w0 H (⟨some dd,.buildSlice t 1 #[(0,x)],ty,pos,af,none⟩::rest):=RS.actX rfl (x_litS (parts:=[(0,x)]) (vs:=[strV a]) (cs:=cNm a) (f:=cNm) (l:=[a]) ⟨hx,rfl⟩ rfl rfl rfl rfl (fun zs hz=>by
   match zs,hz with
   |[_],_=>rfl) rfl rfl rfl (rowTy_B ht.is) hd) fun v' _=>h v'
end
def idxN (l:List (List UInt8)) (nm:List UInt8):Int:=match (List.range l.length).find? (fun i:Nat=>decide (nm=nth l (i:Int))) with
 |some k=>(k:Int)
 |none=>-1
theorem nidx_c (v:Value) (l:List (List UInt8)) (nm:List UInt8) (hl:l.length≤1000000):ContR Tryz.prog [Hl.rd v cNm 1 l] 86 [v,strV nm] (.int .i64 (idxN l nm)):=fun w hw=>by
 refine enter Tryz.func86 rfl rfl rfl hw ?_
 repeat' (first|(show YK _ _ _ _ _ ⟨_,.call { callee:=.builtin .len,args:=_,argTypes:=#[9] },_,_,_,_⟩ _;refine YK.ofV (y_lenS (by rfl) StrTy.is) ?_)|(show VK _ _ _ _ _ ⟨_,.call { callee:=.builtin .len,args:=_,argTypes:=#[9] },_,_,_,_⟩ _;refine VK.mk (y_lenS (by rfl) StrTy.is) ?_)|(show YG _ _ _ _ _ _ ⟨_,.call { callee:=.builtin .len,args:=_,argTypes:=#[9] },_,_,_,_⟩ _;refine YG.mk (fun hb=>by(try(have hc:=And.left hb;have hb:=And.right hb;rw[hc]));(try rw[hb]);exact V.y (y_lenS (by rfl) StrTy.is)) ?_)|(show VG _ _ _ _ _ _ ⟨_,.call { callee:=.builtin .len,args:=_,argTypes:=#[9] },_,_,_,_⟩ _;refine VG.mk (fun hb=>by(try(have hc:=And.left hb;have hb:=And.right hb;rw[hc]));(try rw[hb]);exact y_lenS (by rfl) StrTy.is) ?_)|(refine nxV ?_)|(refine nSS ?_)|(refine nS1 fun _=>?_)|(refine nMM ?_)|(refine nM1 fun _=>?_)|(refine nxG ?_)|(refine nxVS ?_)|(refine nxGS ?_)|(refine nxX ?_)|(refine G.cN rfl (fun hc=>?_) (fun hc=>?_)<;>(try first|exact hc.elim|(exfalso;omega))))
 refine G.loop (ι:=Nat) (fun i=>[(0,v),(1,strV nm),(7,.int .i64 l.length),(8,.int .i64 (i:Int))]) (fun _=>[Hl.rd v cNm 1 l]) (fun i=>i≤l.length∧∀k:Nat,k<i→decide (nm=nth l (k:Int))=false) (fun i=>l.length-i) 0 ⟨by omega,fun k hk=>by omega⟩ ⟨rfl,rfl,rfl,rfl,trivial⟩ (fun w h=>h) ?_
 rintro i mx ⟨g1,g2⟩ hmx
 have hr:idxN l nm=match (List.range l.length).find? (fun i:Nat=>decide (nm=nth l (i:Int))) with
  |some k=>(k:Int)
  |none=>-1:=rfl
 rcases Nat.lt_or_ge i l.length with hi|hi
 ·cases hq:decide (nm=nth l (i:Int)) with
  |true =>
   have hq2:=of_decide_eq_true hq
   repeat' (first|(show YK _ _ _ _ _ ⟨_,.call { callee:=.builtin .len,args:=_,argTypes:=#[9] },_,_,_,_⟩ _;refine YK.ofV (y_lenS (by rfl) StrTy.is) ?_)|(show VK _ _ _ _ _ ⟨_,.call { callee:=.builtin .len,args:=_,argTypes:=#[9] },_,_,_,_⟩ _;refine VK.mk (y_lenS (by rfl) StrTy.is) ?_)|(show YG _ _ _ _ _ _ ⟨_,.call { callee:=.builtin .len,args:=_,argTypes:=#[9] },_,_,_,_⟩ _;refine YG.mk (fun hb=>by(try(have hc:=And.left hb;have hb:=And.right hb;rw[hc]));(try rw[hb]);exact V.y (y_lenS (by rfl) StrTy.is)) ?_)|(show VG _ _ _ _ _ _ ⟨_,.call { callee:=.builtin .len,args:=_,argTypes:=#[9] },_,_,_,_⟩ _;refine VG.mk (fun hb=>by(try(have hc:=And.left hb;have hb:=And.right hb;rw[hc]));(try rw[hb]);exact y_lenS (by rfl) StrTy.is) ?_)|(show YK _ _ _ _ _ ⟨_,.load 9 _,_,_,_,_⟩ _;refine YK.ofV (y_loadEl (inst:=⟨[]⟩) (u:=strV (nth l (i:Int))) (f:=cNm) (s:=1) (i:=0) (l:=l) (m:=(i:Int)) (by rfl) (by exact rdA) (fun _=>rfl) (by omega) (by rfl) (by rfl) (by decide +kernel)) ?_)|(refine nxV ?_)|(refine nSS ?_)|(refine nS1 fun _=>?_)|(refine nMM ?_)|(refine nM1 fun _=>?_)|(refine nxG ?_)|(refine nxVS ?_)|(refine nxGS ?_)|(refine nxX ?_)|(refine G.cN rfl (fun hc=>?_) (fun hc=>?_)<;>(try first|exact hc.elim|(exfalso;omega))))
   all_goals first
    |(exfalso;exact absurd hq2 (by assumption))
    |(rw[findr_some hi g2 hq] at hr;exact X.ret (vs:=[_]) rfl ⟨rfl,rfl⟩ rfl (fun w hw=>⟨ret_int hr.symm,hw.ext⟩))
    |(exfalso;omega)
  |false =>
   have hq2:=of_decide_eq_false hq
   repeat' (first|(show YK _ _ _ _ _ ⟨_,.call { callee:=.builtin .len,args:=_,argTypes:=#[9] },_,_,_,_⟩ _;refine YK.ofV (y_lenS (by rfl) StrTy.is) ?_)|(show VK _ _ _ _ _ ⟨_,.call { callee:=.builtin .len,args:=_,argTypes:=#[9] },_,_,_,_⟩ _;refine VK.mk (y_lenS (by rfl) StrTy.is) ?_)|(show YG _ _ _ _ _ _ ⟨_,.call { callee:=.builtin .len,args:=_,argTypes:=#[9] },_,_,_,_⟩ _;refine YG.mk (fun hb=>by(try(have hc:=And.left hb;have hb:=And.right hb;rw[hc]));(try rw[hb]);exact V.y (y_lenS (by rfl) StrTy.is)) ?_)|(show VG _ _ _ _ _ _ ⟨_,.call { callee:=.builtin .len,args:=_,argTypes:=#[9] },_,_,_,_⟩ _;refine VG.mk (fun hb=>by(try(have hc:=And.left hb;have hb:=And.right hb;rw[hc]));(try rw[hb]);exact y_lenS (by rfl) StrTy.is) ?_)|(show YK _ _ _ _ _ ⟨_,.load 9 _,_,_,_,_⟩ _;refine YK.ofV (y_loadEl (inst:=⟨[]⟩) (u:=strV (nth l (i:Int))) (f:=cNm) (s:=1) (i:=0) (l:=l) (m:=(i:Int)) (by rfl) (by exact rdA) (fun _=>rfl) (by omega) (by rfl) (by rfl) (by decide +kernel)) ?_)|(refine nxV ?_)|(refine nSS ?_)|(refine nS1 fun _=>?_)|(refine nMM ?_)|(refine nM1 fun _=>?_)|(refine nxG ?_)|(refine nxVS ?_)|(refine nxGS ?_)|(refine nxX ?_)|(refine G.cN rfl (fun hc=>?_) (fun hc=>?_)<;>(try first|exact hc.elim|(exfalso;omega))))
   all_goals first
    |(exfalso;exact hq2 (by assumption))
    |(refine X.again (i+1) ⟨by omega,fun k hk=>?_⟩ (by omega) ⟨rfl,rfl,rfl,rfl,trivial⟩ (by exact fun w h=>h.sub subS)
      rcases Nat.lt_or_ge k i with h|h
      ·exact g2 k h
      ·rw[show k=i by omega];exact hq)
    |(exfalso;omega)
 ·repeat' (first|(show YK _ _ _ _ _ ⟨_,.call { callee:=.builtin .len,args:=_,argTypes:=#[9] },_,_,_,_⟩ _;refine YK.ofV (y_lenS (by rfl) StrTy.is) ?_)|(show VK _ _ _ _ _ ⟨_,.call { callee:=.builtin .len,args:=_,argTypes:=#[9] },_,_,_,_⟩ _;refine VK.mk (y_lenS (by rfl) StrTy.is) ?_)|(show YG _ _ _ _ _ _ ⟨_,.call { callee:=.builtin .len,args:=_,argTypes:=#[9] },_,_,_,_⟩ _;refine YG.mk (fun hb=>by(try(have hc:=And.left hb;have hb:=And.right hb;rw[hc]));(try rw[hb]);exact V.y (y_lenS (by rfl) StrTy.is)) ?_)|(show VG _ _ _ _ _ _ ⟨_,.call { callee:=.builtin .len,args:=_,argTypes:=#[9] },_,_,_,_⟩ _;refine VG.mk (fun hb=>by(try(have hc:=And.left hb;have hb:=And.right hb;rw[hc]));(try rw[hb]);exact y_lenS (by rfl) StrTy.is) ?_)|(refine nxV ?_)|(refine nSS ?_)|(refine nS1 fun _=>?_)|(refine nMM ?_)|(refine nM1 fun _=>?_)|(refine nxG ?_)|(refine nxVS ?_)|(refine nxGS ?_)|(refine nxX ?_)|(refine G.cN rfl (fun hc=>?_) (fun hc=>?_)<;>(try first|exact hc.elim|(exfalso;omega))))
  rw[findr_none (fun k hk=>g2 k (by omega))] at hr
  exact X.ret (vs:=[_]) rfl ⟨rfl,rfl⟩ rfl (fun w hw=>⟨ret_int hr.symm,hw.ext⟩)
theorem idxN_mem (l:List (List UInt8)) (nm:List UInt8):0≤idxN l nm↔nm∈l:=by
 unfold idxN
 cases hf:(List.range l.length).find? (fun i:Nat=>decide (nm=nth l (i:Int))) with
 |none =>
  have h:=List.find?_eq_none.1 hf
  dsimp only
  constructor
  ·intro h;omega
  ·intro hm
   obtain⟨i,hi,rfl⟩:=List.getElem_of_mem hm
   have:=h i (List.mem_range.2 hi)
   have e:=nth_some (l:=l) (m:=(i:Int)) (by omega) (by omega)
   rw[Int.toNat_natCast,List.getElem?_eq_getElem hi] at e
   rw[←Option.some.inj e] at this
   simp at this
 |some k =>
  have h0:=List.find?_some hf
  have h1:nm=nth l (k:Int):=of_decide_eq_true h0
  have h2:=List.mem_range.1 (List.mem_of_find?_eq_some hf)
  dsimp only
  constructor
  ·intro _;rw[h1];exact nth_in (by omega) (by omega)
  ·intro _;omega
theorem nin_c (v:Value) (l:List (List UInt8)) (nm:List UInt8) (hl:l.length≤1000000):ContR Tryz.prog [Hl.rd v cNm 1 l] 34 [v,strV nm] (.bool (decide (nm∈l))):=fun w hw=>by
 have q1:=nidx_c v l nm hl
 have hm:=idxN_mem l nm
 refine enter Tryz.func34 rfl rfl rfl hw ?_
 repeat' (first|(show YK _ _ _ _ _ ⟨_,.call { callee:=.builtin .len,args:=_,argTypes:=#[9] },_,_,_,_⟩ _;refine YK.ofV (y_lenS (by rfl) StrTy.is) ?_)|(show VK _ _ _ _ _ ⟨_,.call { callee:=.builtin .len,args:=_,argTypes:=#[9] },_,_,_,_⟩ _;refine VK.mk (y_lenS (by rfl) StrTy.is) ?_)|(show YG _ _ _ _ _ _ ⟨_,.call { callee:=.builtin .len,args:=_,argTypes:=#[9] },_,_,_,_⟩ _;refine YG.mk (fun hb=>by(try(have hc:=And.left hb;have hb:=And.right hb;rw[hc]));(try rw[hb]);exact V.y (y_lenS (by rfl) StrTy.is)) ?_)|(show VG _ _ _ _ _ _ ⟨_,.call { callee:=.builtin .len,args:=_,argTypes:=#[9] },_,_,_,_⟩ _;refine VG.mk (fun hb=>by(try(have hc:=And.left hb;have hb:=And.right hb;rw[hc]));(try rw[hb]);exact y_lenS (by rfl) StrTy.is) ?_)|(show YK _ _ _ _ _ _ _;first|refine YK.mk (zcR (q1) ⟨rfl,rfl,rfl⟩) ?_)|(refine nxV ?_)|(refine nSS ?_)|(refine nS1 fun _=>?_)|(refine nMM ?_)|(refine nM1 fun _=>?_)|(show YG _ _ _ _ _ _ _ _;refine YG.mk (fun hb=>by(try(have hc:=And.left hb;have hb:=And.right hb;rw[hc]));(try rw[hb]);first|exact(zcR (q1) ⟨rfl,rfl,rfl⟩)|exact V.y vAuto) ?_)|(refine nxG ?_)|(refine nxVS ?_)|(refine nxGS ?_)|(refine nxX ?_)|(refine G.cN rfl (fun hc=>?_) (fun hc=>?_)<;>(try first|exact hc.elim|(exfalso;omega))))
 exact X.ret (vs:=[_]) rfl ⟨rfl,rfl⟩ rfl (fun w hw=>⟨ret_bool (by rw[decide_eq_decide];omega),hw.ext⟩)
/-! ### The bodies of tracks -/
section
variable {b:Nat} {dv pv:Sl} {pl:List PagT}
theorem ntrk_c (hl:pl.length≤4∧∀p∈pl,p.tl.length≤4):ContXI Tryz.prog (BkW b dv pv pl) 33 [ptB b] (fun z:Sl×List (List UInt8)=>(∀x,x∈z.2↔x∈namesL pl)∧z.2.length≤1000000) (fun z=>z.1.v) (fun z=>[Hl.nw z.1.v cNm 1 z.2]):=fun w hw0=>by
 have hcl:=hw0.cell
 refine enter Tryz.func33 rfl rfl rfl (Hp:=[Hl.rd pv.v cPg 4 pl]) (fun h hm=>by
  rcases List.mem_singleton.1 hm with rfl
  exact⟨⟨hw0.pg.1,fun h=>by cases h⟩,rfl⟩) ?_
 repeat' (first|(refine nxN ?_)|(show VK _ _ _ _ _ ⟨_,.load 22 _,_,_,_,_⟩ _;refine VK.mk (y_loadX (by rfl) (hcl _ _ (by rfl)) (by decide +kernel)) ?_)|(show YK _ _ _ _ _ ⟨_,.load 22 _,_,_,_,_⟩ _;refine YK.ofV (y_loadX (by rfl) (hcl _ _ (by rfl)) (by decide +kernel)) ?_)|(show VG _ _ _ _ _ _ ⟨_,.load 22 _,_,_,_,_⟩ _;refine VG.mk (fun hb=>by(try(have hc:=And.left hb;have hb:=And.right hb;rw[hc]));(try rw[hb]);exact y_loadX (by rfl) (hcl _ _ (by rfl)) (by decide +kernel)) ?_)|(show YG _ _ _ _ _ _ ⟨_,.load 22 _,_,_,_,_⟩ _;refine YG.mk (fun hb=>by(try(have hc:=And.left hb;have hb:=And.right hb;rw[hc]));(try rw[hb]);exact V.y (y_loadX (by rfl) (hcl _ _ (by rfl)) (by decide +kernel))) ?_)|(refine nxV ?_)|(refine nSS ?_)|(refine nS1 fun _=>?_)|(refine nMM ?_)|(refine nM1 fun _=>?_)|(refine nxG ?_)|(refine nxX ?_)|(refine G.cN rfl (fun hc=>?_) (fun hc=>?_)<;>(try first|exact hc.elim|(exfalso;omega))))
 refine G.loop (ι:=Sl×Nat) (fun y=>[(3,y.1.v),(11,pv.v),(12,.int .i64 pl.length),(13,.int .i64 (y.2:Int))]) (fun y=>[Hl.rw y.1.v 9 cNm 1 (namesL (pl.take y.2)),Hl.rd pv.v cPg 4 pl]) (fun y=>y.2≤pl.length) (fun y=>pl.length-y.2) (⟨none,0,0⟩,0) (by dsimp only;omega) ⟨rfl,rfl,rfl,rfl,trivial⟩ (fun w h=>(h.sub (H':=[Hl.rd pv.v cPg 4 pl]) subS).nilRow 9 cNm 1) ?_
 rintro⟨z,i⟩ mx g1 hmx
 dsimp only at g1 hmx ⊢
 rcases Nat.lt_or_ge i pl.length with hi|hi
 ·have hpe:=nth_in (l:=pl) (i:=(i:Int)) (by omega) (by omega)
  have hpg:=InP.at hw0.pg.2 hi
  have htk:=hl.2 _ hpe
  have hnn:namesL (pl.take (i+1))=namesL (pl.take i)++(nth pl (i:Int)).tl.map TrkT.nm:=by
   have e:=nth_some (l:=pl) (m:=(i:Int)) (by omega) (by omega)
   rw[Int.toNat_natCast] at e
   unfold namesL
   rw[List.take_add_one,e,List.flatMap_append]
   simp
  have hln:∀k:Nat,k≤4→(namesL (pl.take k)).length≤4*k:=by
   intro k hk
   clear hnn
   have:∀l:List PagT,(∀p∈l,p.tl.length≤4)→(namesL l).length≤4*l.length:=by
    intro l
    induction l with
    |nil=>intro _;simp[namesL]
    |cons p r ih =>
     intro h
     have:=ih fun q hq=>h q (List.mem_cons_of_mem _ hq)
     have h2:=h p List.mem_cons_self
     unfold namesL at this ⊢
     rw[List.flatMap_cons,List.length_append,List.length_map,List.length_cons]
     omega
   have h3:=this (pl.take k) fun p hp=>hl.2 p (List.mem_of_mem_take hp)
   rw[List.length_take] at h3
   omega
  have hl4:=hln i (by omega)
  clear hln
  generalize namesL (pl.take i)=A at *
  refine G.bring (f:=cTk) hpg.1 ?_
  repeat' (first|(refine nxN ?_)|(refine nxV ?_)|(refine nSS ?_)|(refine nS1 fun _=>?_)|(refine nMM ?_)|(refine nM1 fun _=>?_)|(refine nxG ?_)|(refine nxX ?_)|(refine G.cN rfl (fun hc=>?_) (fun hc=>?_)<;>(try first|exact hc.elim|(exfalso;omega))))
  refine G.loop (ι:=Sl×Nat) (fun y=>[(3,y.1.v),(11,pv.v),(12,.int .i64 pl.length),(13,.int .i64 (i:Int)),(18,(nth pl (i:Int)).tv.v),(19,.int .i64 (nth pl (i:Int)).tl.length),(20,.int .i64 (y.2:Int))]) (fun y=>[Hl.rd (nth pl (i:Int)).tv.v cTk 6 (nth pl (i:Int)).tl,Hl.rw y.1.v 9 cNm 1 (A++((nth pl (i:Int)).tl.take y.2).map TrkT.nm),Hl.rd pv.v cPg 4 pl]) (fun y=>y.2≤(nth pl (i:Int)).tl.length) (fun y=>(nth pl (i:Int)).tl.length-y.2) (z,0) (by dsimp only;omega) ⟨rfl,rfl,rfl,rfl,rfl,rfl,rfl,trivial⟩ (by dsimp only;rw[List.take_zero,List.map_nil,List.append_nil];exact fun w h=>h.sub subS) ?_
  rintro⟨z1,k⟩ mx1 g3 hmx1
  dsimp only at g3 hmx1 ⊢
  generalize nth pl (i:Int)=p at *
  obtain⟨py,pm,pd,tv,tl⟩:=p
  dsimp only at *
  rcases Nat.lt_or_ge k tl.length with hk|hk
  ·have hA:(A++(tl.take k).map TrkT.nm).length≤20:=by
    rw[List.length_append,List.length_map,List.length_take]
    omega
   have hA2:A++(tl.take (k+1)).map TrkT.nm=A++(tl.take k).map TrkT.nm++[(nth tl (k:Int)).nm]:=by
    have e:=nth_some (l:=tl) (m:=(k:Int)) (by omega) (by omega)
    rw[Int.toNat_natCast] at e
    rw[List.take_add_one,e,List.map_append,List.append_assoc]
    rfl
   generalize A++(tl.take k).map TrkT.nm=D at *
   repeat' (first|(show YK _ _ _ _ _ ⟨_,.call { callee:=.builtin .len,args:=_,argTypes:=#[9] },_,_,_,_⟩ _;refine YK.ofV (y_lenS (by rfl) StrTy.is) ?_)|(show VK _ _ _ _ _ ⟨_,.call { callee:=.builtin .len,args:=_,argTypes:=#[9] },_,_,_,_⟩ _;refine VK.mk (y_lenS (by rfl) StrTy.is) ?_)|(show YG _ _ _ _ _ _ ⟨_,.call { callee:=.builtin .len,args:=_,argTypes:=#[9] },_,_,_,_⟩ _;refine YG.mk (fun hb=>by(try(have hc:=And.left hb;have hb:=And.right hb;rw[hc]));(try rw[hb]);exact V.y (y_lenS (by rfl) StrTy.is)) ?_)|(show VG _ _ _ _ _ _ ⟨_,.call { callee:=.builtin .len,args:=_,argTypes:=#[9] },_,_,_,_⟩ _;refine VG.mk (fun hb=>by(try(have hc:=And.left hb;have hb:=And.right hb;rw[hc]));(try rw[hb]);exact y_lenS (by rfl) StrTy.is) ?_)|(refine nxN ?_)|(show RS _ _ _ _ _ _ _ (⟨some 27,.buildSlice 89 1 _,_,_,_,_⟩::_);refine RS.lit1Nm (a:=(nth tl (k:Int)).nm) (fun v'=>?_) rfl)|(refine nxV ?_)|(refine nSS ?_)|(refine nS1 fun _=>?_)|(refine nMM ?_)|(refine nM1 fun _=>?_)|(refine nxG ?_)|(refine nxVS ?_)|(refine nxGS ?_)|(refine nxX ?_)|(refine G.cN rfl (fun hc=>?_) (fun hc=>?_)<;>(try first|exact hc.elim|(exfalso;omega))))
   all_goals first
    |(exfalso;omega)
    |(rename_i z2;refine X.again (z2,k+1) (by dsimp only;omega) (by dsimp only;omega) ⟨rfl,rfl,rfl,rfl,rfl,rfl,rfl,trivial⟩ (by dsimp only;rw[hA2];exact fun w h=>h.sub subS);done)
  ·have hkk:tl.take k=tl:=List.take_of_length_le hk
   rw[hkk]
   rw[←hnn]
   repeat' (first|(refine nxN ?_)|(refine nxV ?_)|(refine nSS ?_)|(refine nS1 fun _=>?_)|(refine nMM ?_)|(refine nM1 fun _=>?_)|(refine nxG ?_)|(refine nxX ?_)|(refine G.cN rfl (fun hc=>?_) (fun hc=>?_)<;>(try first|exact hc.elim|(exfalso;omega))))
   all_goals first
    |(exfalso;omega)
    |(refine X.again (z1,i+1) (by dsimp only;omega) (by dsimp only;omega) ⟨rfl,rfl,rfl,rfl,trivial⟩ (by exact fun w h=>h.sub subS);done)
 ·rw[show pl.take i=pl from List.take_of_length_le hi]
  have hln:(namesL pl).length≤1000000:=by
   have:∀l:List PagT,(∀p∈l,p.tl.length≤4)→(namesL l).length≤4*l.length:=by
    intro l
    induction l with
    |nil=>intro _;simp[namesL]
    |cons p r ih =>
     intro h
     have:=ih fun q hq=>h q (List.mem_cons_of_mem _ hq)
     have h2:=h p List.mem_cons_self
     unfold namesL at this ⊢
     rw[List.flatMap_cons,List.length_append,List.length_map,List.length_cons]
     omega
   have h3:=this pl fun p hp=>hl.2 p hp
   omega
  have q1:=sortT_c z (namesL pl) hln
  have q2:=fun S (h:S.length≤1000000)=>compactT_c z S h
  repeat' (first|(refine nxN ?_)|(show RS _ _ _ _ _ _ _ (⟨some 32,.call _,_,_,_,_⟩::_);refine RS.callU q1 ⟨rfl,rfl⟩ ?_;rintro S hS;have hSl:=hS.length_eq;dsimp only[List.cons_append,List.nil_append])|(show RS _ _ _ _ _ _ _ (⟨some 34,.call _,_,_,_,_⟩::_);refine RS.callU (q2 S (by omega)) ⟨rfl,rfl⟩ ?_;rintro y ⟨hy,hyl⟩;dsimp only[List.cons_append,List.nil_append])|(refine nxV ?_)|(refine nSS ?_)|(refine nS1 fun _=>?_)|(refine nMM ?_)|(refine nM1 fun _=>?_)|(refine nxG ?_)|(refine nxX ?_)|(refine G.cN rfl (fun hc=>?_) (fun hc=>?_)<;>(try first|exact hc.elim|(exfalso;omega))))
  all_goals first
   |(exfalso;omega)
   |exact X.retN (vs:=[_]) y rfl ⟨rfl,rfl⟩ rfl ⟨fun x=>(hy x).trans hS.mem_iff,by omega⟩ rfl (NewIn.rw (by exact memA) NewIn.nil)
end
end Go.Proofs.YtjmdeplmenbmmaaGreat
