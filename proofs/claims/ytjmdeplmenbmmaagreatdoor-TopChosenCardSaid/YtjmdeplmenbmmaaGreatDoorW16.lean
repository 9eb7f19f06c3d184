/- Joined texts: Apa, Sr1, Srt, Lib, Lib2, Aro, Fxa, Fxb, Fxd, Fxp. -/
import Derived.Test.YtjmdeplmenbmmaaGreatDoorW15
import Derived.Test.YtjmdeplmenbmmaaGreatDoorW04
import Derived.Test.YtjmdeplmenbmmaaGreatDoorW05
import Derived.Test.YtjmdeplmenbmmaaGreatDoorW02
import Derived.Lib.AtoiErrMem
import Derived.Stop.IfaceNil
import Derived.Lib.Split
import Derived.Lib.SplitLaws
import Derived.Lib.CountLaws
import Derived.Test.YtjmdeplmenbmmaaGreatDoorW09
import Derived.Test.YtjmdeplmenbmmaaGreatDoorW06
import Derived.Scope
set_option linter.unusedVariables false
namespace Go.Proofs.YtjmdeplmenbmmaaGreatDoor
open Go.RowKit Go.Shelf
attribute [local go_sem] Oper.semAt_some
abbrev cQ (x:FrQ):List Value:=[.int .i64 x.1,.int .i64 x.2]
def FracsAt (n₀:Nat) (W:World) (b off:Nat) (zs:List FrQ):Prop :=
 b<n₀∧∀j,j<zs.length→W.cell? ⟨b,off+j*2,none⟩=some (.int .i64 (zs[j]?.getD (0,0)).1)∧W.cell? ⟨b,off+j*2+1,none⟩=some (.int .i64 (zs[j]?.getD (0,0)).2)
theorem FracsAt.below {n₀:Nat} {A B:World} {b off:Nat} {zs:List FrQ} (h:Below n₀ A B) (hf:FracsAt n₀ A b off zs):FracsAt n₀ B b off zs :=
 ⟨hf.1,fun j hj=>⟨(h.cell (p:=⟨b,off+j*2,none⟩) hf.1).trans (hf.2 j hj).1,(h.cell (p:=⟨b,off+j*2+1,none⟩) hf.1).trans (hf.2 j hj).2⟩⟩
theorem values_stops (F:Fence) (n:Nat) (h7:F.fn 297) (hro:F.round=none) (hn:1≤n) (Bs n₀ b off cap:Nat) (zs:List FrQ) (hreach:zs.length≤1000000) (w:World) (hBn:Bs<n₀) (hn₀:n₀≤w.heap.size)
  (hc:w.cell? ⟨Bs,0,none⟩=some (.slice (some ⟨b,off,none⟩) zs.length cap)) (hI:FracsAt n₀ w b off zs) :
  SeqStopsK F n Tryz.prog 297 #[.pointer (some ⟨Bs,0,none⟩)] (fun x:FrQ=>#[.agg #[.int .i64 x.1,.int .i64 x.2]]) (Below n₀) (fun ys=>ys=zs) (fun _=>True) zs.length w:=fun l J Jx W hW hJ _ hY h0=>by
 have hc':=(hW.cell (p:=⟨Bs,0,none⟩) (Nat.lt_of_lt_of_le hBn hn₀)).trans hc
 have hI':=hI.below (hW.mono hn₀)
 refine(values1_in F n h7 hro hn l Bs n₀ b off zs.length cap zs (by omega) hI'.1 J Jx hY W hJ (Nat.le_trans hn₀ hW.size) hc' hBn hI'.2 h0).mono fun e W' ⟨he,h⟩=>⟨he,?_⟩
 rcases h with ⟨ys,hy,hj⟩|⟨pre,_,hj⟩
 ·exact .inl ⟨ys,by rw[hy,upto_all],hj⟩
 ·exact .inr ⟨pre,trivial,hj⟩
theorem infoFr:(Tryz.prog.info? 34).map (fun i=>(i.zero,i.size,i.bytes))=some (some (.agg #[.int .i64 0,.int .i64 0]),2,16):=by kernel_rfl
theorem two_new (W:World) (a b:Value) (t:TypeId):∀j u,[a,b][j]?=some u→(W.alloc (.cells #[a,b] t)).cell? ((⟨W.heap.size,0,none⟩:Addr).add j)=some u:=by
 intro j u h
 have hb:=World.alloc_heap_new W (.cells #[a,b] t)
 match j,h with
 |0,h =>
  have e:((⟨W.heap.size,0,none⟩:Addr).add 0)=⟨W.heap.size,0,none⟩:=rfl
  rw[e];unfold World.cell?;dsimp only;rw[hb];exact h
 |1,h =>
  have e:((⟨W.heap.size,0,none⟩:Addr).add 1)=⟨W.heap.size,1,none⟩:=rfl
  rw[e];unfold World.cell?;dsimp only;rw[hb];exact h
theorem cells_two {W:World} {B:Nat} {a b:Value} {t:TypeId} (h:W.heap[B]?=some (.cells #[a,b] t (0,0))):W.cell? ⟨B,0,none⟩=some a∧W.cell? ⟨B,1,none⟩=some b:=by
 constructor<;>(unfold World.cell?;dsimp only;rw[h];rfl)
set_option maxRecDepth 100000 in
set_option maxHeartbeats 2000000 in
theorem append_in (F:Fence) (n:Nat) (h72:F.fn 328) (h65:F.fn 297) (hro:F.round=none) (hn:3≤n) (Bs b off cap:Nat) (zs:List FrQ) (hreach:zs.length≤1000000) (w:World) (hBn:Bs<w.heap.size)
  (hc:w.cell? ⟨Bs,0,none⟩=some (.slice (some ⟨b,off,none⟩) zs.length cap)) (hI:FracsAt w.heap.size w b off zs) :
  CallsIn F n Tryz.prog 328 #[.slice none 0 0,.func (.func 297) #[] #[.pointer (some ⟨Bs,0,none⟩)]] w fun e W' =>
   (∃v,e=.returned v∧W'.ownsRow w.heap.size 34 2 v zs.length (zs.flatMap cQ))∧Below w.heap.size w W':=by
 have h1:1≤n:=by omega
 obtain⟨i0,hi,hz0,hz1,hz2⟩:=info_parts infoFr
 refine callsIn_of_wp_marks Tryz.func328 rfl h72 ?_ hro
 simp only[Tryz.ntmps328,List.size_toArray,List.length_cons,List.length_nil,Nat.reduceAdd,Nat.reduceSub,Array.replicate_succ,Array.replicate_zero,List.push_toArray,List.append_toArray,List.nil_append,List.cons_append]
 gi_wp2
 have bS:=Boxed.new w 241 (.slice none 0 0)
 have hB0:Below w.heap.size w (w.alloc (.cells #[.slice none 0 0] 241)):=(Below.refl _ w).alloc (Nat.le_refl _) _
 have hc0:(w.alloc (.cells #[.slice none 0 0] 241)).cell? ⟨Bs,0,none⟩=some (.slice (some ⟨b,off,none⟩) zs.length cap):=(hB0.cell (p:=⟨Bs,0,none⟩) hBn).trans hc
 refine wpIn_rangeFunc_ownH hro h1 (gf:=297) (lb:=#[.pointer (some ⟨Bs,0,none⟩)]) rfl h65 (enters_of Tryz.func297 (by kernel_rfl) rfl)
  (values_stops F (n-1) h65 hro (by omega) Bs w.heap.size b off cap zs hreach _ hBn hB0.size hc0 (hI.below hB0)) belowK_t (belowK_b (by simp)) (Below.refl _ _) (fun _=>rfl)
  (fun pre W=>(∃v,Boxed W w.heap.size 241 v∧W.ownsRow w.heap.size 34 2 v pre.length (pre.flatMap cQ)∧True)∧Below w.heap.size w W)
  (fun _ _ _=>False)
  (OwnFrom.and (Own.from (holdsRow_own w.heap.size w.heap.size 241 34 2 (fun pre:List FrQ=>pre.length) (fun pre=>pre.flatMap cQ) (fun _ _=>True)) _) (ownFrom_below (Nat.le_refl _) (by simp)))
  (fun _ _ _ _ _ hs _ _=>hs)
  ⟨⟨_,bS,World.ownsRow_nil _ _ _ _,trivial⟩,hB0⟩
  (fun x a' W=>∃Bx,w.heap.size<Bx∧W.heap[Bx]?=some (.cells #[.int .i64 x.1,.int .i64 x.2] 34 (0,0))∧a'={ tmps:=#[.slice none 0 0,.func (.func 297) #[] #[.pointer (some ⟨Bs,0,none⟩)],.pointer (some ⟨w.heap.size,0,none⟩),undef,.slice none 0 0,.pointer (some ⟨Bx,0,none⟩),.func (.func 297) #[] #[.pointer (some ⟨Bs,0,none⟩)],.agg #[.int .i64 x.1,.int .i64 x.2],undef,undef,undef,undef,undef],defers:=[] })
  (fun x a' _ X Y row hs hg hr=>by
   obtain⟨Bx,h1,h2,h3⟩:=hs
   exact⟨Bx,h1,(hg.block Bx (Array.getElem?_eq_some_iff.1 h2).1 (fun e=>by obtain⟨_,o,ho,hcc⟩:=hr Bx e.symm;rw[h2] at ho;cases ho;cases hcc)).trans h2,h3⟩)
  ?assign ?body ?done ?stop
 case assign =>
  rintro l pre x W K ⟨⟨v,hv,hrow,_⟩,hB⟩ hK
  gi_wp2
  exact hK _ _ ((KeepsOthers.alloc _ _).from _) ((Below.refl _ W).alloc hB.size _) ⟨⟨v,hv.alloc _,hrow.alloc _,trivial⟩,hB.alloc hB.size _⟩ ⟨W.heap.size,hv.lt,World.alloc_heap_new _ _,rfl⟩
 case body =>
  rintro l pre x a' W hl ⟨r,hrr⟩ ⟨⟨v,hv,hrow,_⟩,hB⟩ ⟨Bx,hBx,hX,rfl⟩ hlt
  have cv:=hv.cell
  obtain⟨cx0,cx1⟩:=cells_two hX
  have hle:=hB.size
  gi_wp2_with (gi_at_builtin;refine wpListIn_append_own _ rfl _ _ 241 rfl w.heap.size 34 i0 (.agg #[.int .i64 0,.int .i64 0]) 2 16 Tryz.underlying241 hi hz0 hz1 hz2 rfl (by decide) _ _ _ rfl (hrow.alloc _) ⟨W.heap.size,0,none⟩ 1 1 [.int .i64 x.1,.int .i64 x.2] rfl rfl (two_new _ _ _ _) (by simp[Value.oneCell']) (by have:maxLen=9223372036854775807:=rfl;omega) (by omega) (by simp;omega) ?_;intro v' w1 hown' hgrow _;obtain⟨g',cap',rfl⟩:=ownsRow_succ hown';obtain⟨hv1,hv2,hr2,hk2,hb2⟩:=hv.appended (by decide) hrow hB.size (Nat.le_refl _) hown' hgrow;have hc1:=hv1.cell;have hf1:=hv1.frozen)
  refine⟨hk2.from _,hb2,⟨⟨_,hv2,?_,trivial⟩,hB.trans hb2⟩⟩
  rw[List.length_append,List.flatMap_append]
  exact hr2
 case done =>
  rintro D ys W hD rfl ⟨⟨v,hv,hrow,_⟩,hB⟩ hK
  have cv:=hv.cell
  gi_wp2
  refine⟨by simp,.inl ⟨_,_,rfl,run_takeDeferred hK,?_⟩⟩
  exact⟨_,results_tmp rfl _ _ _,⟨v,rfl,ownsRow_putObj hrow _ hK rfl⟩,hB.trans (belowK_b (w:=w) (Nat.le_refl _) W D _ _ (by simp at hD;omega) hK rfl rfl)⟩
 case stop =>
  rintro D c pre W _ _ h _
  exact h.elim
end Go.Proofs.YtjmdeplmenbmmaaGreatDoor
namespace Go.Proofs.YtjmdeplmenbmmaaGreatDoor
open Go.RowKit Go.Sort
set_option maxHeartbeats 1000000 in
theorem len1_world (W:World):Calls Tryz.prog 250 #[.int .u64 1] W fun e w'=>e=.returned (.int .i64 1)∧w'=W:=by
 go_enter Tryz.func250,Tryz.ntmps250
 go_wp2_with (go_at_call 294;refine(Tryz.bits_Len64 1 _ (by decide) (by decide)).mono ?_;rintro e w' ⟨rfl,rfl⟩)
 go_ret
 exact⟨rfl,rfl⟩
set_option maxHeartbeats 1000000 in
theorem ins1_world (p:Option Addr) (cap:Nat) (fv:Value) (W:World):Calls Tryz.prog 342 #[.slice p 1 cap,.int .i64 0,.int .i64 1,fv] W fun e w'=>e=.returned (.tuple #[])∧w'=W:=by
 go_enter Tryz.func342,Tryz.ntmps342
 go_wp2
 refine wp_loop_rounds 1 ?_
 rw[rounds_succ]
 go_wp2
 go_end0
 exact⟨rfl,rfl⟩
set_option maxRecDepth 100000 in
set_option maxHeartbeats 2000000 in
theorem pdq1_world (p:Option Addr) (cap:Nat) (lim:Int) (fv:Value) (W:World):Calls Tryz.prog 329 #[.slice p 1 cap,.int .i64 0,.int .i64 1,.int .i64 lim,fv] W fun e w'=>e=.returned (.tuple #[])∧w'=W:=by
 go_enter Tryz.func329,Tryz.ntmps329
 go_wp2
 refine wp_loop_rounds 1 ?_
 rw[rounds_succ]
 go_wp2_with (go_at_call 342;refine(ins1_world _ _ _ _).mono ?_;rintro e w' ⟨rfl,rfl⟩)
 (try simp only[Exit.inBlock,Exit.then]);refine bodyPost_ret (results_none rfl _ _ _) rfl ?_
 exact⟨rfl,rfl⟩
set_option maxHeartbeats 1000000 in
theorem sort1_world (p:Option Addr) (cap:Nat) (fv:Value) (W:World):Calls Tryz.prog 296 #[.slice p 1 cap,fv] W fun e w'=>e=.returned (.tuple #[])∧w'=W:=by
 go_enter Tryz.func296,Tryz.ntmps296
 go_wp2_with (first|(go_at_call 250;refine(len1_world _).mono ?_;rintro e w' ⟨rfl,rfl⟩)|(go_at_call 329;refine(pdq1_world _ _ _ _ _).mono ?_;rintro e w' ⟨rfl,rfl⟩))
 go_end0
 exact⟨rfl,rfl⟩
end Go.Proofs.YtjmdeplmenbmmaaGreatDoor
set_option maxHeartbeats 4000000
namespace Go.Proofs.YtjmdeplmenbmmaaGreatDoor
open Go.RowKit Go.Shelf
theorem append_calls (Bs b off cap:Nat) (zs:List FrQ) (hreach:zs.length≤1000000) (w:World) (hBn:Bs<w.heap.size)
  (hc:w.cell? ⟨Bs,0,none⟩=some (.slice (some ⟨b,off,none⟩) zs.length cap)) (hI:FracsAt w.heap.size w b off zs) :
  Calls Tryz.prog 328 #[.slice none 0 0,.func (.func 297) #[] #[.pointer (some ⟨Bs,0,none⟩)]] w fun e W' =>
   (∃v,e=.returned v∧W'.ownsRow w.heap.size 34 2 v zs.length (zs.flatMap cQ))∧Below w.heap.size w W' :=
 callsIn_wide.1 (append_in Fence.wide 3 trivial trivial rfl (by decide) Bs b off cap zs hreach w hBn hc hI)
set_option maxHeartbeats 1000000 in
theorem collect_calls (Bs b off cap:Nat) (zs:List FrQ) (hreach:zs.length≤1000000) (w:World) (hBn:Bs<w.heap.size)
  (hc:w.cell? ⟨Bs,0,none⟩=some (.slice (some ⟨b,off,none⟩) zs.length cap)) (hI:FracsAt w.heap.size w b off zs) :
  Calls Tryz.prog 295 #[.func (.func 297) #[] #[.pointer (some ⟨Bs,0,none⟩)]] w fun e W' =>
   (∃v,e=.returned v∧W'.ownsRow w.heap.size 34 2 v zs.length (zs.flatMap cQ))∧Below w.heap.size w W':=by
 have hcon:=append_calls Bs b off cap zs hreach w hBn hc hI
 clear hc hI
 go_enter Tryz.func295,Tryz.ntmps295
 go_wp2_with (go_at_call 328;refine hcon.mono ?_;rintro e w' ⟨⟨v,rfl,hr⟩,hb⟩)
 go_ret
 exact⟨⟨v,rfl,hr⟩,hb⟩
set_option maxHeartbeats 1000000 in
theorem sorted1_calls (Bs b off cap:Nat) (x:FrQ) (fv:Value) (w:World) (hBn:Bs<w.heap.size)
  (hc:w.cell? ⟨Bs,0,none⟩=some (.slice (some ⟨b,off,none⟩) 1 cap)) (hI:FracsAt w.heap.size w b off [x]) :
  Calls Tryz.prog 251 #[.func (.func 297) #[] #[.pointer (some ⟨Bs,0,none⟩)],fv] w fun e W' =>
   (∃v,e=.returned v∧W'.ownsRow w.heap.size 34 2 v 1 ([x].flatMap cQ))∧Below w.heap.size w W':=by
 have hcon:=collect_calls Bs b off cap [x] (by simp) w hBn hc hI
 clear hc hI
 go_enter Tryz.func251,Tryz.ntmps251
 go_wp2_with (first|(go_at_call 295;refine hcon.mono ?_;rintro e w' ⟨⟨v,rfl,hr⟩,hb⟩;obtain⟨g,cap',rfl⟩:=ownsRow_succ hr)|(go_at_call 296;refine(sort1_world _ _ _ _).mono ?_;rintro e w'' ⟨rfl,rfl⟩))
 go_ret
 exact⟨⟨_,rfl,hr⟩,hb⟩
end Go.Proofs.YtjmdeplmenbmmaaGreatDoor
set_option maxHeartbeats 8000000
namespace Go.Proofs.YtjmdeplmenbmmaaGreatDoor
open Go.RowKit
theorem below_grown (w:World) (k:Nat) (os:Array Obj):Below w.heap.size w (Go.Sort.grow (w.drewN k) os) :=
 ⟨rfl,rfl,rfl,by simp[Go.Sort.grow,World.drewN],fun j hj=>by simp[Go.Sort.grow,World.drewN,Array.getElem?_append,hj]⟩
theorem dec_len:∀(k u:Nat),u<10^(k+1)→(Lib.decDigits u).length≤k+1
 |0,u,h=>by
  rw[Lib.decDigits,dif_pos (by simpa using h)];simp
 |k+1,u,h=>by
  rw[Lib.decDigits]
  split
  ·simp
  ·have:=dec_len k (u/10) (by rw[Nat.pow_succ] at h;omega)
   simp;omega
theorem itoa_len {n:Int} (h : -9223372036854775808≤n∧n≤9223372036854775807):(Lib.itoa n).length≤20:=by
 unfold Lib.itoa
 split
 ·have:=dec_len 18 n.natAbs (by omega)
  simp;omega
 ·have:=dec_len 18 n.toNat (by omega)
  omega
theorem repeat_c (l:List UInt8) {m:Int} (h:0≤m∧m≤1000000) (hl:l.length≤1000000):Cont Tryz.prog 307 [strV l,.int .i64 m] (strV (Lib.repeatL l m.toNat)):=fun w=>by
 obtain⟨c,rfl⟩:=Int.eq_ofNat_of_zero_le h.1
 have hc:c≤1000000:=by omega
 refine(Tryz.strings_Repeat ⟨l.toArray⟩ c w (by omega) (by rw[size_str];exact Nat.le_trans (Nat.mul_le_mul hl hc) (by decide))).mono fun e w' ⟨he,hb⟩=>⟨?_,hb⟩
 rw[he]
 simp
def ContXI (P:Program) (C:World→Prop) (f:FuncId) (args:List Value) {ι:Type} (post:ι→Prop) (v:ι→Value) (Hn:ι→List Hl):Prop :=
 ∀w,C w→Calls P f args.toArray w (RetX post v Hn w)
section
variable {P:Program} {C:World→Prop} {n:Nat} {L:FL} {w0:World} {H:List Hl} {Q:Exit→Act→World→Prop} {ops:Array Oper} {rest:List Oper} {d:Option Tmp} {dd:Nat} {ty:TypeId} {pos:String} {af:Array Edge} {gd g:Option (Nat×Bool)} {x:Operand} {t t':TypeId} {ι:Type} {te:TypeId} {p:Value}
theorem x_callI {f:FuncId} {xs:List Operand} {vs:List Value} {tys:Array TypeId} {post:ι→Prop} {v:ι→Value} {Hn:ι→List Hl} (hc:ContXI P C f vs post v Hn) (ha:AE L xs vs) (hC:∀w,St w0 H w→C w) (hg:isGo P f=true) (hd:Nat.blt dd n=true) :
  EX P n L w0 H ⟨some dd,.call { callee:=.value (.func f),args:=xs.toArray,argTypes:=tys },ty,pos,af,gd⟩ post (fun z=>(dd,v z)::L) (fun z=>Hn z++H):=fun a w hfr hw K Q hK=>by
 unfold Oper.wp
 rw[run_call hfr ha hg]
 refine(hc w (hC w hw)).mono ?_
 rintro e w' ⟨z,hz,rfl,hb,hn⟩
 exact hK _ _ ⟨z,hz,hfr.put (by simpa [Nat.blt_eq] using hd),hw.news hb hn⟩
theorem RS.callI {f:FuncId} {xs:List Operand} {vs:List Value} {tys:Array TypeId} {post:ι→Prop} {v:ι→Value} {Hn:ι→List Hl} (hc:ContXI P C f vs post v Hn) (ha:AE L xs vs) (hC:∀w,St w0 H w→C w) (h:∀z,post z→RS P ops Q n ((dd,v z)::L) w0 (Hn z++H) rest) (hg:isGo P f=true:=by decide +kernel) (hd:Nat.blt dd n=true:=by rfl) :
  RS P ops Q n L w0 H (⟨some dd,.call { callee:=.value (.func f),args:=xs.toArray,argTypes:=tys },ty,pos,af,none⟩::rest):=RS.actX rfl (x_callI hc ha hC hg hd) h
end
abbrev cS (l:List UInt8):List Value:=[strV l]
abbrev boxV (B:Nat):Value:=.slice (some ⟨B,0,none⟩) 1 1
abbrev c1V (v:Value):List Value:=[v]
abbrev sl1 (b cap:Nat):Value:=.slice (some ⟨b,0,none⟩) 1 cap
theorem box_of {w0 w:World} {H:List Hl} {b:Nat} {t:TypeId} {v:Value} (hw:St w0 H w) (hm:Hl.blk b t [v]∈H):RO w (boxV b) 1 1 [v]:=by
 refine⟨rfl,some ⟨b,0,none⟩,1,rfl,Nat.le_refl _,fun _=>⟨_,rfl,fun j u hu=>?_⟩,fun g=>by cases g⟩
 match j,hu with
 |0,hu=>exact(hw.cell hm 0).trans hu
theorem NewIn.blk {H Hn:List Hl} {b:Nat} {t:TypeId} {v:Value} (h:Hl.blk b t [v]∈H) (hr:NewIn H Hn):NewIn H (Hl.nw (boxV b) c1V 1 [v]::Hn):=⟨fun _ _ hw=>⟨⟨box_of hw h,fun _ _ b' hb=>by
 have h1:=(hw.all _ h).1
 have:b'=b:=by
  have h2:some b=some b':=hb
  exact(Option.some.inj h2).symm
 rw[this];exact h1⟩,rfl⟩,hr⟩
theorem values_c (b cap:Nat):ContX Tryz.prog [] 252 [sl1 b cap] (fun _:Nat=>True) (fun z=>.func (.func 297) #[] #[bxP z]) (fun z=>[Hl.nw (boxV z) c1V 1 [sl1 b cap]]):=fun w hw0=>by
 refine enter Tryz.func252 rfl rfl rfl hw0 ?_
 repeat' (first|(refine nxV ?_)|(refine nSS ?_)|(refine nS1 fun _=>?_)|(refine nxX ?_)|done)
 rename_i B
 exact X.retN (vs:=[_]) B rfl ⟨rfl,rfl⟩ rfl trivial rfl (NewIn.blk (b:=B) (v:=sl1 b cap) (t:=241) (by exact memA) NewIn.nil)
structure SqW (Bs b cap:Nat) (x:PtT) (w:World):Prop where
 bx:RO w (boxV Bs) 1 1 [sl1 b cap]
 ro:RO w (sl1 b cap) 2 1 (cPt x)
theorem sorted1_x {Bs b cap:Nat} {x:PtT} {fv:Value} : ContXI Tryz.prog (SqW Bs b cap x) 251 [.func (.func 297) #[] #[bxP Bs],fv] (fun _:Value=>True) (fun z=>z) (fun z=>[Hl.nw z cPt 2 [x]]):=fun w hs=>by
 obtain⟨_,A,c,e,_,hc,_⟩:=hs.bx
 cases e
 obtain⟨ad,e1,hcell⟩:=hc (by simp)
 cases e1
 have c0:w.cell? ⟨Bs,0,none⟩=some (sl1 b cap):=hcell 0 _ rfl
 obtain⟨_,A2,c2,e2,_,hc2,_⟩:=hs.ro
 cases e2
 obtain⟨ad2,e3,hcell2⟩:=hc2 (by simp[cPt])
 cases e3
 have d0:w.cell? ⟨b,0,none⟩=some (.int .i64 x.1):=hcell2 0 _ rfl
 have d1:w.cell? ⟨b,1,none⟩=some (.int .i64 x.2):=hcell2 1 _ rfl
 refine(sorted1_calls Bs b 0 cap x fv w (World.block_lt_of_cell? w _ c0) c0 ⟨World.block_lt_of_cell? w _ d0,fun j hj=>?_⟩).mono ?_
 ·have:j=0:=by simp at hj;omega
  subst this
  exact⟨d0,d1⟩
 ·rintro e w' ⟨⟨v,rfl,hr⟩,hb⟩
  refine⟨v,trivial,rfl,hb,fun h hm=>?_⟩
  rw[List.mem_singleton.1 hm]
  exact⟨⟨RO.of_row hr,fun _ _ b hb2=>(hr.lt b hb2).1⟩,rfl⟩
theorem arcV_eq {a b c d:Int} (h:a=c) (h2:b=d):arcV a b=arcV c d:=by rw[h,h2]
theorem around_c {b cap:Nat} {x:PtT} (hx : -10800000≤x.1∧x.1<10800000∧x.1≤x.2∧x.2-x.1<21600000):ContR Tryz.prog [Hl.rd (sl1 b cap) cPt 2 [x]] 209 [sl1 b cap] (arcV x.1 x.2):=fun w hw0=>by
 have hSq:∀(w0:World) (H:List Hl) (B:Nat) w',St w0 H w'→RdT H (boxV B) c1V 1 [sl1 b cap]→RdT H (sl1 b cap) cPt 2 [x]→SqW B b cap x w':=fun w0 H B w' hw' h1 h2=>⟨h1 _ _ hw',h2 _ _ hw'⟩
 have l1:(([x].length:Nat):Int)=1:=rfl
 have n1:(nth [x] 0).1=x.1:=rfl
 have n2:(nth [x] 0).2=x.2:=rfl
 refine enter Tryz.func209 rfl rfl rfl hw0 ?_
 repeat' (first|(show G _ _ _ _ _ _ (.loop _);refine G.loopN 2 (GR.step ?_))|(show X (Exit.then (Code.rounds _ _ _ _) _) _ _ _ _ .normal;refine X.round (GR.step ?_))|(show RS _ _ _ _ _ _ _ (⟨some 12,_,_,_,_,_⟩::_);refine RS.callX (values_c _ _) ⟨rfl,rfl⟩ ?_;rintro B -;dsimp only[List.cons_append,List.nil_append])|(show RS _ _ _ _ _ _ _ (⟨some 13,_,_,_,_,_⟩::_);refine RS.callI (sorted1_x (b:=b) (cap:=cap) (x:=x)) ⟨rfl,rfl,rfl⟩ (fun w' hw'=>hSq _ _ _ _ hw' (by exact rdA) (by exact rdA)) ?_;rintro z -;dsimp only[List.cons_append,List.nil_append])|(refine nxV ?_)|(refine nSS ?_)|(refine nS1 fun _=>?_)|(refine nxX ?_)|(refine G.cN rfl (fun hc=>?_) (fun hc=>?_)<;>(try first|exact hc.elim|(exfalso;omega))))
 all_goals first
  |(exfalso;omega)
  |(refine X.ret (vs:=[_]) rfl ⟨⟨_,_,_,_,rfl,(by exact memA),lenA,by decide +kernel,rfl⟩,rfl⟩ rfl (fun w hw=>⟨?_,hw.ext⟩);exact congrArg Ending.returned (arcV_eq (by omega) (by omega)))
def bxL (x:RR.CellT):LegT:=((bxA x,bxB x),(bxC x,bxD x))
theorem cv_ok {x:RR.CellT} (ok:RR.okC x):cvB x.lv x.r x.c=true:=by
 obtain⟨h1,h2,h3⟩:=ok
 unfold cvB
 rw[Int.toNat_natCast]
 have e:(2:Int)^x.lv=((2^x.lv:Nat):Int):=by simp
 rw[e]
 simp only[Bool.and_eq_true,decide_eq_true_eq]
 omega
theorem cBox_c {x:RR.CellT} (ok:RR.okC x):Cont Tryz.prog 192 [celV x.lv x.r x.c] (.tuple [plV (bxA x) (bxB x) (bxC x) (bxD x),.int .i64 0].toArray):=fun w=>by
 have q1:=cval_c x.lv x.r x.c
 rw[cv_ok ok] at q1
 have q2:=box_c ok
 generalize bxA x=a at *
 generalize bxB x=b at *
 generalize bxC x=c at *
 generalize bxD x=d at *
 refine enter0 Tryz.func192 rfl rfl rfl ?_
 repeat' (first|(show YK _ _ _ _ _ _ _;first|refine YK.mk (zcA (q1) ⟨rfl,rfl⟩) ?_|refine YK.mk (zcA (q2) ⟨rfl,rfl⟩) ?_)|(refine nxV ?_)|(refine nSS ?_)|(refine nS1 fun _=>?_)|(refine nxX ?_)|(refine G.cN rfl (fun hc=>?_) (fun hc=>?_)<;>(try first|exact hc.elim|(exfalso;omega))))
 all_goals exact X.ret (vs:=[_,_]) rfl ⟨⟨_,_,_,_,rfl,(by exact memA),lenA,by decide +kernel,rfl⟩,rfl,rfl⟩ rfl rE
theorem idx1 (x:RR.CellT):RR.IdxOk [x]:=⟨fun i a b _ h=>by simp at h,fun i a b c d _ h=>by simp at h⟩
theorem boxes1_c {v:Value} {x:RR.CellT} (ok:RR.okC x):ContX Tryz.prog [Hl.rd v cT 3 [x]] 150 [v] (fun _:Sl=>True) (fun z=>.tuple [z.v,.int .i64 0].toArray) (fun z=>[Hl.nw z.v cLg 4 [bxL x]]):=fun w hw0=>by
 have q1:=vreg_c v [x] (fun y hy=>by rw[List.mem_singleton.1 hy];exact ok) (idx1 x) (by simp)
 have q2:=cBox_c ok
 have l1:(([x].length:Nat):Int)=1:=rfl
 refine enter Tryz.func150 rfl rfl rfl hw0 ?_
 repeat' (first|(show G _ _ _ _ _ _ (.loop _);refine G.loopN 2 (GR.step ?_))|(show X (Exit.then (Code.rounds _ _ _ _) _) _ _ _ _ .normal;refine X.round (GR.step ?_))|(show RS _ _ _ _ _ _ _ (⟨some _,.buildSlice 192 1 _,_,_,_,_⟩::_);refine RS.lit1L (a:=bxL x) (fun v'=>?_) rfl)|(show YK _ _ _ _ _ _ _;first|refine YK.mk (zcR (q1) ⟨rfl,rfl⟩) ?_|refine YK.mk (zcA (q2) ⟨rfl,rfl⟩) ?_)|(refine nxV ?_)|(refine nSS ?_)|(refine nS1 fun _=>?_)|(refine nxX ?_)|(refine G.cN rfl (fun hc=>?_) (fun hc=>?_)<;>(try first|exact hc.elim|(exfalso;omega))))
 all_goals first
  |(exfalso;omega)
  |skip
 rename_i z
 exact X.retN (vs:=[_,_]) z rfl ⟨rfl,rfl,rfl⟩ rfl trivial rfl (NewIn.rw (by exact memA) NewIn.nil)
theorem Upd.split {x z:Hl} (y:Hl) {H H':List Hl} (h:Upd x z H H'):∃H1,Upd x y H H1∧Upd y z H1 H':=by
 induction h with
 |here r=>exact⟨y::r,.here r,.here r⟩
 |there u _ ih =>
  obtain⟨H1,h1,h2⟩:=ih
  exact⟨u::H1,.there u h1,.there u h2⟩
theorem St.setCells {w0:World} {b:Nat} {t:TypeId} : ∀(us:List Value) (o:Nat) (cs:List Value) (H H':List Hl) (w:World),St w0 H w→Upd (.blk b t cs) (.blk b t (setAt cs o us)) H H'→St w0 H' (w.setCells b o us)
 |[],o,cs,H,H',w,h,hu=>by
  have e:H'=H:=by
   induction hu with
   |here r=>rfl
   |there z h ih=>rw[ih (h:=St.sub ‹_› (List.sublist_cons_self _ _))]
  rw[e];exact h
 |u::r,o,cs,H,H',w,h,hu=>by
  obtain⟨H1,h1,h2⟩:=hu.split (.blk b t (cs.set o u))
  exact St.setCells r (o+1) (cs.set o u) H1 H' _ (h.setCell u h1) h2
section
variable {P:Program} {n:Nat} {L:FL} {w0:World} {H:List Hl} {Q:Exit→Act→World→Prop} {ops:Array Oper} {rest:List Oper} {ty:TypeId} {pos:String} {af:Array Edge} {gd:Option (Nat×Bool)} {x y:Operand} {t t':TypeId}
theorem x_storePart {b o k:Nat} {cs us:List Value} {H':List Hl} (hx:evO L x=some (.pointer (some ⟨b,o,none⟩))) (hy:evO L y=some (.agg us.toArray)) (hu:us.all (·.oneCell')=true)
  (hm:Upd (.blk b t' cs) (.blk b t' (setAt cs o us)) H H') (hk:us.length=k) (ho:Nat.ble (o+k) cs.length=true) (hs:rowB P t k=true):EX P n L w0 H ⟨none,.store t x y,ty,pos,af,gd⟩ (fun _:Unit=>True) (fun _=>L) (fun _=>H') :=
 EX.of_skip fun a w ha hw=>by
  have ho':o+k≤cs.length:=Nat.le_of_ble_eq_true ho
  have hadd:∀j,(⟨b,o,none⟩:Addr).add j=⟨b,o+j,none⟩:=fun j=>by unfold Addr.add;split<;>simp_all
  have hrun:=run_storeCells_cells (P:=P) b o us 0 w (fun j hj=>by
   rw[hw.cell hm.mem,List.getElem?_eq_getElem (by omega)];rfl) (fun j _=>hw.free hm.mem _) (fun u hu'=>List.all_eq_true.1 hu u hu')
  refine⟨w.setCells b o us,(),by simp[execOp,ha.eval hx,ha.eval hy,Instr.storeAt,Instr.sureAddr,storeVar,Value.cells,run_sizeOf_of (info_of_rowB hs),hk,hrun],trivial,rfl,St.setCells us o cs H H' w hw hm⟩
theorem RS.storePart {b o k:Nat} {cs us:List Value} {H':List Hl} (h:RS P ops Q n L w0 H' rest) (hx:evO L x=some (.pointer (some ⟨b,o,none⟩))) (hy:evO L y=some (.agg us.toArray)) (hu:us.all (·.oneCell')=true)
  (hm:Upd (.blk b t' cs) (.blk b t' (setAt cs o us)) H H') (hk:us.length=k) (ho:Nat.ble (o+k) cs.length=true) (hs:rowB P t k=true):RS P ops Q n L w0 H (⟨none,.store t x y,ty,pos,af,none⟩::rest):=RS.actX rfl (x_storePart hx hy hu hm hk ho hs) fun _ _=>h
end
theorem upd_self {y:Hl} : ∀{H:List Hl},y∈H→Upd y y H H
 |h::r,hm=>by
  rcases List.mem_cons.1 hm with rfl|hm
  ·exact .here _
  ·exact .there _ (upd_self hm)
theorem RM.storeKeep {P:Program} {n i:Nat} {L:FL} {w0:World} {H HS:List Hl} {Q:Exit→Act→World→Prop} {ops:Array Oper} {ord:List Mv} {ty:TypeId} {pos:String} {af:Array Edge} {x y:Operand} {t t':TypeId} {b k:Nat} {cs:List Value} {u:Value} (h:RM P ops Q HS n [] L w0 H ord) (ho:ops[i]?=some ⟨none,.store t x y,ty,pos,af,none⟩) (hx:evO L x=some (.pointer (some ⟨b,k,none⟩))) (hy:evO L y=some u) (hu:u.oneCell'=true)
  (hm:Hl.blk b t' cs∈H) (hk:cs[k]?=some u) (hs:scalarB P t=true) (hla:∀w,St w0 H w→St w0 HS w):RM P ops Q HS n [] L w0 H (.go i::ord):=by
 obtain⟨hlt,e⟩:=List.getElem?_eq_some_iff.1 hk
 have e2:cs.set k u=cs:=by rw[←e,List.set_getElem_self]
 have hu2:Upd (.blk b t' cs) (.blk b t' (cs.set k u)) H H:=by rw[e2];exact upd_self hm
 exact RM.actX ho rfl rfl (x_store hx hy hu hu2 (by simpa [Nat.blt_eq] using hlt) hs) (.inl fun _ w h=>hla w h) fun _ _=>h
theorem RS.formed {P:Program} {n:Nat} {L:FL} {w0:World} {H:List Hl} {Q:Exit→Act→World→Prop} {ops:Array Oper} {rest:List Oper} {α:Type} {f:α→List Value} {s k:Nat} {l:List α} {e:TypeId} {v':Sl} (hm:Hl.rw v'.v e f s l∈H) (hl:l.length=k+1) (h:∀g cap,v'=⟨some ⟨g,0,none⟩,k+1,cap⟩→RS P ops Q n L w0 H rest):RS P ops Q n L w0 H rest:=by
 unfold RS
 intro a w ha hw
 have ho:w.ownsRow w0.heap.size e s v'.v (k+1) (l.flatMap f):=by rw[←hl];exact hw.all _ hm
 obtain⟨g,cap,e1⟩:=ownsRow_succ ho
 have e2:v'=⟨some ⟨g,0,none⟩,k+1,cap⟩:=by
  obtain⟨A,N,C⟩:=v'
  have e3:Value.slice A N C=.slice (some ⟨g,0,none⟩) (k+1) cap:=e1
  simp only[Value.slice.injEq] at e3
  rw[e3.1,e3.2.1,e3.2.2]
 have:=h g cap e2
 unfold RS at this
 exact this a w ha hw
theorem bounds1_c {v:Value} {p:LegT} (h1 : -5400000≤p.1.1∧p.1.1≤p.1.2∧p.1.2≤5400000) (h2 : -10800000≤p.2.1∧p.2.1<10800000∧p.2.1≤p.2.2∧p.2.2-p.2.1<21600000):ContR Tryz.prog [Hl.rd v cLg 4 [p]] 151 [v] (v4 p.1.1 p.1.2 p.2.1 p.2.2):=fun w hw0=>by
 have l1:(([p].length:Nat):Int)=1:=rfl
 have q1:=fun b cap=>around_c (b:=b) (cap:=cap) h2
 refine enter Tryz.func151 rfl rfl rfl hw0 ?_
 repeat' (first|(show YK _ _ _ _ _ ⟨some 10,.load 34 _,_,_,_,_⟩ _;refine YK.ofV (y_loadElPart (inst:=inferInstance) (v:=v) (s:=4) (m:=0) (i:=0) (k:=2) (f:=cLg) (l:=[p]) (u:=arcV p.1.1 p.1.2) (by rfl) (by exact rdA) (fun _=>rfl) (by omega) (by rfl) (by rfl) (by rfl) (by decide +kernel)) ?_)|(show YK _ _ _ _ _ ⟨_,.build 36 #[(0,_)],_,_,_,_⟩ _;refine YK.ofV (y_build (parts:=[(0,_)]) (vs:=[_]) ⟨rfl,rfl⟩ (clat_built _ _)) ?_)|(show YK _ _ _ _ _ ⟨_,.load 34 _,_,_,_,_⟩ _;refine YK.ofV (zlP (k:=2) (by rfl) (by exact memA) (by decide +kernel) (by rfl)) ?_)|(show G _ _ _ _ _ _ (.loop _);refine G.loopN 2 (GR.step ?_))|(show X (Exit.then (Code.rounds _ _ _ _) _) _ _ _ _ .normal;refine X.round (GR.step ?_))|(show RS _ _ _ _ _ _ _ (⟨some _,.buildSlice 241 1 _,_,_,_,_⟩::_);refine RS.lit1Pt (a:=p.2) (fun v'=>?_) rfl)|(show RM _ _ _ _ _ _ _ _ _ (.go 16::_);refine RM.storeKeep ?_ rfl (by rfl) (by rfl) (by rfl) (by exact memA) (congrArg (fun n=>some (Value.int .i64 n)) (Int.min_self p.1.1).symm) (by decide +kernel) (fun _ h=>h))|(show RM _ _ _ _ _ _ _ _ _ (.go 19::_);refine RM.storeKeep ?_ rfl (by rfl) (by rfl) (by rfl) (by exact memA) (congrArg (fun n=>some (Value.int .i64 n)) (Int.max_self p.1.2).symm) (by decide +kernel) (fun _ h=>h))|(show RS _ _ _ _ _ _ _ (⟨some 42,_,_,_,_,_⟩::_);refine RS.formed (k:=0) (by exact memA) rfl ?_;rintro g cap rfl;refine nSS ?_)|(show RS _ _ _ _ _ _ _ (⟨none,.store 34 _ _,_,_,_,_⟩::_);refine RS.storePart (k:=2) ?_ (by rfl) (by rfl) (by rfl) (by exact updA) (by rfl) (by rfl) (by decide +kernel))|(show YK _ _ _ _ _ _ _;refine YK.mk (zcR (q1 _ _) ⟨rfl,rfl⟩) ?_)|(refine nxV ?_)|(refine nSS ?_)|(refine nS1 fun _=>?_)|(refine nMM ?_)|(refine G.mA 6 [.go 0,.go 1,.go 2,.go 3,.go 4,.go 5,.go 6,.go 7,.go 8,.go 9,.go 10,.go 11,.go 12,.go 13,.go 14,.go 15,.go 16,.go 17,.go 18,.go 19] ?_)|(refine nxX ?_)|(refine G.cN rfl (fun hc=>?_) (fun hc=>?_)<;>(try first|exact hc.elim|(exfalso;omega))))
 all_goals exact X.ret (vs:=[_]) rfl ⟨⟨_,_,_,_,rfl,(by exact memA),lenA,by decide +kernel,rfl⟩,rfl⟩ rfl rE
theorem fxBounds_c {v:Value} {x:RR.CellT} (ok:RR.okC x):ContR Tryz.prog [Hl.rd v cT 3 [x]] 71 [v] (.tuple [v4 (bxA x) (bxB x) (bxC x) (bxD x),.int .i64 0].toArray):=fun w hw0=>by
 have hb:=box_ok ok
 have q1:=boxes1_c (v:=v) ok
 have q2:=fun v=>bounds1_c (v:=v) (p:=bxL x) hb.lat hb.lon
 have l1:(([bxL x].length:Nat):Int)=1:=rfl
 refine enter Tryz.func71 rfl rfl rfl hw0 ?_
 repeat' (first|(show RS _ _ _ _ _ _ _ (⟨some 8,_,_,_,_,_⟩::_);refine RS.callX (q1) ⟨rfl,rfl⟩ ?_;rintro bz -;dsimp only[List.cons_append,List.nil_append])|(show YK _ _ _ _ _ _ _;refine YK.mk (zcR (q2 _) ⟨rfl,rfl⟩) ?_)|(refine nxV ?_)|(refine nSS ?_)|(refine nS1 fun _=>?_)|(refine nxX ?_)|(refine G.cN rfl (fun hc=>?_) (fun hc=>?_)<;>(try first|exact hc.elim|(exfalso;omega))))
 all_goals first
  |(exfalso;simp at hc;omega)
  |exact X.ret (vs:=[_,_]) rfl ⟨⟨_,_,_,_,rfl,(by exact memA),lenA,by decide +kernel,rfl⟩,rfl,rfl⟩ rfl rE
theorem fxCenter_c {v:Value} {x:RR.CellT} (ok:RR.okC x):ContR Tryz.prog [Hl.rd v cT 3 [x]] 73 [v] (.tuple [ptV ((bxA x+bxB x)/2) (signI ((bxC x+bxD x)/2)),.int .i64 0].toArray):=fun w hw0=>by
 have hb:=box_ok ok
 have q1:=fxBounds_c (v:=v) ok
 obtain⟨hA,hO⟩:=hb
 generalize bxA x=a at *
 generalize bxB x=b at *
 generalize bxC x=c at *
 generalize bxD x=d at *
 have q2:=signed_c (n:=(c+d)/2) (by omega)
 generalize signI ((c+d)/2)=sg at *
 refine enter Tryz.func73 rfl rfl rfl hw0 ?_
 repeat' (first|(show VK _ _ _ _ _ ⟨_,.binOp .shr _ _ _ _,_,_,_,_⟩ _;refine VK.mk (y_shrQ (q:=2) (m:=a+b) (by rfl) (by rfl) (by omega) (by rfl) (by rfl)) ?_)|(show VK _ _ _ _ _ ⟨_,.binOp .shr _ _ _ _,_,_,_,_⟩ _;refine VK.mk (y_shrQ (q:=2) (m:=c+d) (by rfl) (by rfl) (by omega) (by rfl) (by rfl)) ?_)|(refine G.mixedM 4 [.go 0,.go 1,.go 2,.go 3,.go 4,.go 5,.go 6,.go 7,.go 8,.go 9,.go 10,.go 11,.go 12,.go 13,.go 14,.go 15,.go 16,.go 17,.go 18,.go 19] [true,false,true] ?_;dsimp only[maskH])|(show YK _ _ _ _ _ _ _;first|refine YK.mk (zcR (q1) ⟨rfl,rfl⟩) ?_|refine YK.mk (zcA (q2) ⟨rfl,rfl⟩) ?_)|(refine nxV ?_)|(refine nSS ?_)|(refine nS1 fun _=>?_)|(refine nMM ?_)|(refine nxX ?_)|(refine G.cN rfl (fun hc=>?_) (fun hc=>?_)<;>(try first|exact hc.elim|(exfalso;omega))))
 all_goals exact X.ret (vs:=[_,_]) rfl ⟨⟨_,_,_,_,rfl,(by exact memA),lenA,by decide +kernel,rfl⟩,rfl,rfl⟩ rfl rE
theorem fxRad_p {v:Value} {x:RR.CellT} {p:LegT} (q1:ContX Tryz.prog [Hl.rd v cT 3 [x]] 150 [v] (fun _:Sl=>True) (fun z=>.tuple [z.v,.int .i64 0].toArray) (fun z=>[Hl.nw z.v cLg 4 [p]])) (hA : -5400000≤p.1.1∧p.1.1≤p.1.2∧p.1.2≤5400000) (hO : -10800000≤p.2.1∧p.2.1<10800000∧p.2.1≤p.2.2∧p.2.2-p.2.1<21600000) {la lo:Int} (hp:lat8I la∧lon8I lo) (hm0:(TT.meetO (sideS (p.1.1,p.1.2) (la,la) (p.2.1-lo,p.2.2-lo))).1≤(TT.meetO (sideS (p.1.1,p.1.2) (la,la) (p.2.1-lo,p.2.2-lo))).2):∃r1 r2:Int,(0≤r1∧r1≤r2∧r2≤10800000)∧ContR Tryz.prog [Hl.rd v cT 3 [x]] 74 [v,ptV la lo] (.tuple [arcV r1 r2,.int .i64 0].toArray):=by
 obtain⟨n,hn⟩:=TT.asin_ex (v:=(TT.meetO (sideS (p.1.1,p.1.2) (la,la) (p.2.1-lo,p.2.2-lo))).1) (by unfold TT.meetO;dsimp only;omega)
 obtain⟨m,hm⟩:=TT.asin_ex (v:=-(TT.meetO (sideS (p.1.1,p.1.2) (la,la) (p.2.1-lo,p.2.2-lo))).2) (by unfold TT.meetO;dsimp only;omega)
 have hord:=TT.asin_ord hn hm hm0
 have b1:=hn.1
 have b2:=hm.1
 refine⟨5400000 - -m,5400000-n,by omega,fun w hw0=>?_⟩
 have q2:=pointT hp
 have q3:=oAlt_c (l1:=p.1.1) (l2:=p.1.2) (t1:=la) (t2:=la) (k1:=p.2.1-lo) (k2:=p.2.2-lo) hA (by omega) (by omega) hm0 hn hm
 clear hn hm hm0
 have l1:(([p].length:Nat):Int)=1:=rfl
 have nn1:(nth [p] 0).snd.fst=p.snd.fst:=rfl
 have nn2:(nth [p] 0).snd.snd=p.snd.snd:=rfl
 have nn3:(nth [p] 0).fst.fst=p.fst.fst:=rfl
 have nn4:(nth [p] 0).fst.snd=p.fst.snd:=rfl
 refine enter Tryz.func74 rfl rfl rfl hw0 ?_
 repeat' (first|(show RS _ _ _ _ _ _ _ (⟨some 17,_,_,_,_,_⟩::_);refine RS.callX (q1) ⟨rfl,rfl⟩ ?_;rintro bz -;dsimp only[List.cons_append,List.nil_append])|(show G _ _ _ _ _ _ (.loop _);refine G.loopN 2 (GR.step ?_))|(show X (Exit.then (Code.rounds _ _ _ _) _) _ _ _ _ .normal;refine X.round (GR.step ?_))|(show YK _ _ _ _ _ ⟨_,.load 34 _,_,_,_,_⟩ _;refine YK.ofV (zlP (k:=2) (by rfl) (by exact memA) (by decide +kernel) (by rfl)) ?_)|(show YK _ _ _ _ _ ⟨_,.build 124 #[(0,_),(1,_),(2,_)],_,_,_,_⟩ _;refine YK.ofV (y_build (parts:=[(0,_),(1,_),(2,_)]) (vs:=[_,_,_]) ⟨rfl,rfl,rfl,rfl⟩ (tri_built _ _ _ _ _ _)) ?_)|(show YK _ _ _ _ _ _ _;first|refine YK.mk (zcA (q2) ⟨rfl,rfl⟩) ?_|refine YK.mk (zcA (q3) ⟨rfl,rfl⟩) ?_)|(refine nxV ?_)|(refine nSS ?_)|(refine nS1 fun _=>?_)|(refine nxX ?_)|(refine G.cN rfl (fun hc=>?_) (fun hc=>?_)<;>(try first|exact hc.elim|(exfalso;omega))))
 all_goals first
  |(exfalso;omega)
  |(refine X.ret (vs:=[_,_]) rfl ⟨⟨_,_,_,_,rfl,(by exact memA),lenA,by decide +kernel,rfl⟩,rfl,rfl⟩ rfl (fun w hw=>⟨?_,hw.ext⟩);exact congrArg (fun a=>Ending.returned (Value.tuple #[a,.int .i64 0])) (arcV_eq (by omega) (by omega)))
theorem fxRadius_c {v:Value} {x:RR.CellT} (ok:RR.okC x) {la lo:Int} (hp:lat8I la∧lon8I lo) (hm0:(TT.meetO (sideS (bxA x,bxB x) (la,la) (bxC x-lo,bxD x-lo))).1≤(TT.meetO (sideS (bxA x,bxB x) (la,la) (bxC x-lo,bxD x-lo))).2):∃r1 r2:Int,(0≤r1∧r1≤r2∧r2≤10800000)∧ContR Tryz.prog [Hl.rd v cT 3 [x]] 74 [v,ptV la lo] (.tuple [arcV r1 r2,.int .i64 0].toArray) :=
 fxRad_p (p:=bxL x) (boxes1_c ok) (box_ok ok).lat (box_ok ok).lon hp hm0
abbrev cSl (x:Sl):List Value:=[x.v]
structure PaW (b:Nat) (s:Sl) (w:World):Prop where
 bx:∀k u,[s.v][k]?=some u→w.cell? ⟨b,k,none⟩=some u
 ro:RO w s.v 1 1 [.int .i64 0]
theorem find_c {b:Nat} {s:Sl} : ContIn Tryz.prog (PaW b s) 152 ([.int .i64 0]++(#[bxP b]:Array Value).toList) (.int .i64 0):=fun w hs=>by
 have hb:=hs.bx
 have l1:((([0]:List Int).length:Nat):Int)=1:=rfl
 have n0:nth ([0]:List Int) 0=0:=rfl
 refine enter Tryz.func152 rfl rfl rfl (Hp:=[Hl.rd s.v cI 1 [0]]) (fun h hm=>by
  rcases List.mem_singleton.1 hm with rfl
  exact⟨⟨hs.ro,fun h=>by cases h⟩,rfl⟩) ?_
 repeat' (first|(show YK _ _ _ _ _ ⟨_,.load 65 _,_,_,_,_⟩ _;refine YK.ofV (y_loadX (by rfl) (hb _ _ (by rfl)) (by decide +kernel)) ?_)|(show G _ _ _ _ _ _ (.loop _);refine G.loopN 1 (GR.step ?_))|(refine nxV ?_)|(refine nSS ?_)|(refine nxX ?_)|(refine G.cN rfl (fun hc=>?_) (fun hc=>?_)<;>(try first|exact hc.elim|(exfalso;omega))))
 all_goals first
  |(exfalso;omega)
  |exact X.ret1
theorem RS.litG {P:Program} {n:Nat} {L:FL} {w0:World} {H:List Hl} {Q:Exit→Act→World→Prop} {ops:Array Oper} {rest:List Oper} {ty:TypeId} {pos:String} {af:Array Edge} {t e:TypeId} {x:Operand} {dd bytes:Nat} {α:Type} {f:α→List Value} {a:α} {u:Value} (h:∀v':Sl,RS P ops Q n ((dd,v'.v)::L) w0 (Hl.rw v'.v e f 1 [a]::H) rest) (hx:evO L x=some u) (hf:[u]=[a].flatMap f) (hone:u.oneCell'=true) [ht:RowTy P t e 1 bytes] (hd:Nat.blt dd n=true) :
  RS P ops Q n L w0 H (⟨some dd,.buildSlice t 1 #[(0,x)],ty,pos,af,none⟩::rest) :=
 RS.actX rfl (x_lit (parts:=[(0,x)]) (vs:=[u]) (f:=f) (l:=[a]) ⟨hx,rfl⟩ (by show (u.oneCell'&&true)=true;rw[hone];rfl) rfl rfl rfl hf rfl (rowTy_B ht.is) hd) fun v' _=>h v'
section
variable {P:Program} {n:Nat} {L:FL} {w0:World} {H:List Hl} {Q:Exit→Act→World→Prop}
theorem G.scope {c:Code} (h:G P (Exit.noGoto Q) n L w0 H c):G P Q n L w0 H (.scope c):=by
 unfold G at *
 exact fun a w ha hw=>wp_scope_straight (h a w ha hw)
theorem G.label {l:Nat} (h:X Q n L w0 H .normal):G P Q n L w0 H (.label l):=by
 unfold G
 unfold X at h
 exact fun a w ha hw=>wp_label (h a w ha hw)
theorem X.ng_ret (h:X Q n L w0 H .ret):X (Exit.noGoto Q) n L w0 H .ret:=by
 unfold X at *
 exact fun a w ha hw=>h a w ha hw
theorem X.ng_nrm (h:X Q n L w0 H .normal):X (Exit.noGoto Q) n L w0 H .normal:=by
 unfold X at *
 exact fun a w ha hw=>h a w ha hw
theorem X.ng_exit {i:Nat} (h:X Q n L w0 H (.exit i)):X (Exit.noGoto Q) n L w0 H (.exit i):=by
 unfold X at *
 exact fun a w ha hw=>h a w ha hw
end
theorem fxParts_c {v:Value} {x:RR.CellT} (ok:RR.okC x):ContX Tryz.prog [Hl.rd v cT 3 [x]] 72 [v] (fun z:Sl×Sl=>True) (fun z=>.tuple [z.1.v,.int .i64 0].toArray) (fun z=>[Hl.nw z.1.v cSl 1 [z.2]]):=fun w hw0=>by
 have q1:=boxes1_c (v:=v) ok
 have l1:(([bxL x].length:Nat):Int)=1:=rfl
 have l2:(([x].length:Nat):Int)=1:=rfl
 have l3:(((List.replicate ([x].length:Int).toNat (0:Int)).length:Nat):Int)=1:=rfl
 have hPa:∀(w0:World) (H:List Hl) (b:Nat) (s:Sl) w',St w0 H w'→Hl.blk b 65 [s.v]∈H→RdT H s.v cI 1 [0]→PaW b s w':=fun w0 H b s w' hw' hm hr=>⟨fun k u hk=>(hw'.cell hm k).trans hk,hr _ _ hw'⟩
 refine enter Tryz.func72 rfl rfl rfl hw0 ?_
 repeat' (first|(refine G.scope ?_)|(refine G.label ?_)|(show YK _ _ _ _ _ ⟨some 88,_,_,_,_,_⟩ _;refine YK.ofV (y_lenV (by rfl) (by decide +kernel)) ?_)|(refine X.ng_ret ?_)|(show RS _ _ _ _ _ _ _ (⟨some 21,_,_,_,_,_⟩::_);refine RS.callX q1 ⟨rfl,rfl⟩ ?_;rintro bz -;dsimp only[List.cons_append,List.nil_append])|(show G _ _ _ _ _ _ (.loop _);refine G.loopN 2 (GR.step ?_))|(show X (Exit.then (Code.rounds _ _ _ _) _) _ _ _ _ .normal;refine X.round (GR.step ?_))|(show YK _ _ _ _ _ ⟨_,.call { callee:=.value _,args:=_,argTypes:=_ },_,_,_,_⟩ _;refine YK.mk (y_callV (f:=152) (by rfl) find_c (fun w' hw'=>hPa _ _ _ _ _ hw' (by exact memA) (by exact rdA)) ⟨rfl,rfl⟩ (by decide +kernel)) ?_)|(show RS _ _ _ _ _ _ _ (⟨some _,.buildSlice 62 1 _,_,_,_,_⟩::_);refine RS.lit1T (a:=x) (fun v'=>?_) rfl)|(show RS _ _ _ _ _ _ _ (⟨some _,.buildSlice 132 1 _,_,_,_,_⟩::_);refine RS.litG (f:=cSl) (a:=v') (fun v''=>?_) rfl rfl rfl rfl)|(refine nxV ?_)|(refine nSS ?_)|(refine nS1 fun _=>?_)|(refine nxX ?_)|(refine G.cN rfl (fun hc=>?_) (fun hc=>?_)<;>(try first|exact hc.elim|(exfalso;omega))))
 all_goals first
  |(exfalso;omega)
  |skip
 rename_i z
 exact X.retN (vs:=[_,_]) (z,v') rfl ⟨rfl,rfl,rfl⟩ rfl trivial rfl (NewIn.rw (by exact memA) NewIn.nil)
end Go.Proofs.YtjmdeplmenbmmaaGreatDoor
