/- Joined texts: Mrg, Mrh, Mri, Tdd, Ixl, Lok, Lom, Lon, Loo, Rof, Roc. -/
import Derived.Test.YtjmdeplmenbmmaaGreatW26
import Derived.Test.YtjmdeplmenbmmaaGreatU01
set_option linter.unusedVariables false
set_option maxHeartbeats 8000000
namespace Go.Proofs.YtjmdeplmenbmmaaGreat
open Go.RowKit
section
variable {P:Program} {n:Nat} {L:FL} {w0:World} {H:List Hl} {ty:TypeId} {pos:String} {af:Array Edge} {gd:Option (Nat×Bool)} {x y:Operand} {t e:TypeId} {α:Type} {f:α→List Value} {s bytes dd:Nat} {l l':List α} {g j cap nn:Nat}
theorem own_cut {w:World} {base:Nat} (hf:∀a,(f a).length=s) (h:w.ownsRow base e s (.slice (some ⟨g,0,none⟩) nn cap) l.length (l.flatMap f)) (hj:j≤l.length):nn=l.length∧l.length≤cap∧w.ownsRow base e s (.slice (some ⟨g,0,none⟩) j cap) j ((l.take j).flatMap f):=by
 rcases h.2 with ⟨h',_⟩|⟨g',cap',cur,h',hb,hg,hnc,hcm,hcs,htake⟩
 ·simp at h'
 ·simp only[Value.slice.injEq,Option.some.injEq,Addr.mk.injEq,and_true] at h'
  obtain⟨rfl,rfl,rfl⟩:=h'
  refine⟨rfl,hnc,by rw[flat_len hf,List.length_take,Nat.min_eq_left hj],.inr ⟨g,cap,cur,rfl,hb,hg,by omega,hcm,hcs,?_⟩⟩
  rw[←flat_take hf,←htake,List.take_take,Nat.min_eq_left (Nat.mul_le_mul_right _ hj)]
theorem x_appendF {c:Nat} {A:Option Addr} {H':List Hl} (hx:evO L x=some (.slice (some ⟨g,0,none⟩) j cap)) (hy:evO L y=some (.slice A l'.length c)) (hA:∃ad,A=some ad) (hr:RdT H (.slice A l'.length c) f s l') (hf:∀a,(f a).length=s) (h1:∀a,(f a).all (·.oneCell')=true)
  (hu:Upd (Hl.rw (.slice (some ⟨g,0,none⟩) nn cap) e f s l) (Hl.rw (.slice (some ⟨g,0,none⟩) (j+l'.length) cap) e f s (l.take j++l')) H H') (hj:j≤l.length) (hb:j+l'.length≤l.length) (ht:rowTyB P t e s bytes=true) (hd:Nat.blt dd n=true) :
  EX P n L w0 H ⟨some dd,.call { callee:=.builtin .append,args:=#[x,y],argTypes:=#[t,t] },ty,pos,af,gd⟩ (fun _:Unit=>True) (fun _=>(dd,.slice (some ⟨g,0,none⟩) (j+l'.length) cap)::L) (fun _=>H') :=
 EX.of_run (fun a w ha hw=>by
  obtain⟨i,z,hu1,hi,hz,hs,hby,hzs,h0⟩:=rowTyB_spec ht
  obtain⟨ad,rfl⟩:=hA
  obtain⟨h2,h3,h4⟩:=own_cut hf (hw.all _ hu.mem) hj
  obtain⟨hl,A',c',he,hnc,hcells,_⟩:=hr _ _ hw
  simp only[Value.slice.injEq] at he
  obtain⟨he1,_,he3⟩:=he
  subst he1 he3
  obtain⟨w',hr1,h5,h6⟩:=run_append_fits (P:=P) w w0.heap.size t ty e i s hu1 hi hs g j cap _ h4 ad l'.length c (l'.flatMap f) hl (fun j u hju=>by
   obtain⟨ad',e',hh⟩:=hcells (fun hn=>by rw[hn] at hju;cases hju)
   cases e'
   exact hh j u hju) (flat_one h1 l') (by omega)
  refine⟨_,w',(),by simp[execOp,resolve,invoke,builtin,ha.eval hx,ha.eval hy,hr1],trivial,rfl,hw.turn hu rfl h6 ?_ fun b hb=>.inl hb⟩
  show w'.ownsRow _ _ _ _ _ _
  rw[List.length_append,List.length_take,Nat.min_eq_left hj,List.flatMap_append]
  exact h5) hd
end
theorem RM.appF {P:Program} {n:Nat} {L:FL} {w0:World} {H HS H':List Hl} {Q:Exit→Act→World→Prop} {ops:Array Oper} {ord:List Mv} {dd i:Nat} {ty:TypeId} {pos:String} {af:Array Edge} {x y:Operand} {t e:TypeId} {α:Type} {f:α→List Value} {s bytes:Nat} {l l':List α} {g j cap nn q c:Nat} {A:Option Addr}
  (h:RM P ops Q HS n [] ((dd,.slice (some ⟨g,0,none⟩) (j+l'.length) cap)::L) w0 H' ord) (ho:ops[i]?=some ⟨some dd,.call { callee:=.builtin .append,args:=#[x,y],argTypes:=#[t,t] },ty,pos,af,none⟩)
  (hx:evO L x=some (.slice (some ⟨g,0,none⟩) j cap)) (hy:evO L y=some (.slice A q c)) (hq:q=l'.length) (hA:∃ad,A=some ad) (hr:RdT H (.slice A q c) f s l') (hf:∀a,(f a).length=s) (h1:∀a,(f a).all (·.oneCell')=true)
  (hu:Upd (Hl.rw (.slice (some ⟨g,0,none⟩) nn cap) e f s l) (Hl.rw (.slice (some ⟨g,0,none⟩) (j+l'.length) cap) e f s (l.take j++l')) H H') (hj:j≤l.length) (hb:j+l'.length≤l.length) (ht:rowTyB P t e s bytes=true) (hs:∀w,St w0 H' w→St w0 HS w) (hd:Nat.blt dd n=true) :
  RM P ops Q HS n [] L w0 H (.go i::ord):=by
 subst hq
 exact RM.actX ho rfl rfl (x_appendF hx hy hA hr hf h1 hu hj hb ht hd) (.inl fun _ w hw=>hs w hw) fun _ _=>h
theorem par_c {x:RR.CellT} (ok:RR.okC x) (hl:0<x.lv):Cont Tryz.prog 180 [ctV x] (.tuple [ctV (RR.par x),.int .i64 0].toArray):=fun w=>by
 have q1:=cval_c x.lv x.r x.c
 rw[cv_ok ok] at q1
 have hv:celV ((x.lv:Int)-1) ((x.r:Int)/2) ((x.c:Int)/2)=ctV (RR.par x):=by
  show celV _ _ _=celV ((x.lv-1:Nat):Int) ((x.r/2:Nat):Int) ((x.c/2:Nat):Int)
  rw[show ((x.lv-1:Nat):Int)=(x.lv:Int)-1 by omega,show ((x.r/2:Nat):Int)=(x.r:Int)/2 by omega,show ((x.c/2:Nat):Int)=(x.c:Int)/2 by omega]
 obtain⟨k0,k1,k2⟩:=ok
 have hp:2^x.lv≤2^16:=Nat.pow_le_pow_right (by decide) k0
 refine enter0 Tryz.func180 rfl rfl rfl ?_
 repeat' (first|(refine nxN ?_)|(show YK _ _ _ _ _ _ _;first|refine YK.mk (zcA (q1) ⟨rfl,rfl⟩) ?_)|(refine nxV ?_)|(refine nSS ?_)|(refine nS1 fun _=>?_)|(refine nMM ?_)|(refine nM1 fun _=>?_)|(show YG _ _ _ _ _ _ _ _;refine YG.mk (fun hb=>by(try(have hc:=And.left hb;have hb:=And.right hb;rw[hc]));(try rw[hb]);first|exact(zcA (q1) ⟨rfl,rfl⟩)|exact V.y vAuto) ?_)|(refine nxG ?_)|(refine nxX ?_)|(refine G.cN rfl (fun hc=>?_) (fun hc=>?_)<;>(try first|exact hc.elim|(exfalso;omega))))
 all_goals first
  |(exfalso;simp at hc;done)
  |(exfalso;simp at hc;omega)
  |skip
 exact X.ret (vs:=[_,_]) rfl ⟨⟨_,_,_,_,rfl,(by exact memA),lenA,by decide +kernel,rfl⟩,rfl,rfl⟩ rfl (fun w hw=>⟨congrArg (fun v=>Ending.returned (Value.tuple #[v,.int .i64 0])) hv,hw.ext⟩)
theorem par_0 {x:RR.CellT} (ok:RR.okC x) (hl:x.lv=0):Cont Tryz.prog 180 [ctV x] (.tuple [celV 0 0 0,.int .i64 12].toArray):=fun w=>by
 have q1:=cval_c x.lv x.r x.c
 rw[cv_ok ok] at q1
 refine enter0 Tryz.func180 rfl rfl rfl ?_
 repeat' (first|(refine nxN ?_)|(show YK _ _ _ _ _ _ _;first|refine YK.mk (zcA (q1) ⟨rfl,rfl⟩) ?_)|(refine nxV ?_)|(refine nSS ?_)|(refine nS1 fun _=>?_)|(refine nMM ?_)|(refine nM1 fun _=>?_)|(show YG _ _ _ _ _ _ _ _;refine YG.mk (fun hb=>by(try(have hc:=And.left hb;have hb:=And.right hb;rw[hc]));(try rw[hb]);first|exact(zcA (q1) ⟨rfl,rfl⟩)|exact V.y vAuto) ?_)|(refine nxG ?_)|(refine nxX ?_)|(refine G.cN rfl (fun hc=>?_) (fun hc=>?_)<;>(try first|exact hc.elim|(exfalso;omega))))
 all_goals first
  |(exfalso;simp at hc;done)
  |(exfalso;simp at hc;omega)
  |exact X.ret (vs:=[_,_]) rfl ⟨⟨_,_,_,_,rfl,(by exact memA),lenA,by decide +kernel,rfl⟩,rfl,rfl⟩ rfl rE
def kidK (x:RR.CellT) (k:Nat):RR.CellT:=⟨x.lv+1,2*x.r+k/2,2*x.c+k%2⟩
theorem kids_K (x:RR.CellT):(List.range 4).map (kidK x)=RR.kids x:=rfl
theorem kids_c {x:RR.CellT} (ok:RR.okC x) (hl:x.lv<16):ContX Tryz.prog [] 133 [ctV x] (fun _:Sl=>True) (fun z=>.tuple [z.v,.int .i64 0].toArray) (fun z=>[Hl.nw z.v cT 3 (RR.kids x)]):=fun w hw0=>by
 have q1:=cval_c x.lv x.r x.c
 rw[cv_ok ok] at q1
 obtain⟨k0,k1,k2⟩:=ok
 have hp:2^x.lv≤2^16:=Nat.pow_le_pow_right (by decide) k0
 refine enter Tryz.func133 rfl rfl rfl hw0 ?_
 repeat' (first|(refine nxN ?_)|(show YK _ _ _ _ _ _ _;first|refine YK.mk (zcA (q1) ⟨rfl,rfl⟩) ?_)|(refine nxV ?_)|(refine nSS ?_)|(refine nS1 fun _=>?_)|(refine nMM ?_)|(refine nM1 fun _=>?_)|(show YG _ _ _ _ _ _ _ _;refine YG.mk (fun hb=>by(try(have hc:=And.left hb;have hb:=And.right hb;rw[hc]));(try rw[hb]);first|exact(zcA (q1) ⟨rfl,rfl⟩)|exact V.y vAuto) ?_)|(refine nxG ?_)|(refine nxX ?_)|(refine G.cN rfl (fun hc=>?_) (fun hc=>?_)<;>(try first|exact hc.elim|(exfalso;omega))))
 all_goals first
  |(exfalso;simp at hc;done)
  |(exfalso;simp at hc;omega)
  |skip
 rename_i b1 _
 refine G.loop (ι:=Sl×Nat) (fun z=>[(1,.pointer (some ⟨b1,0,none⟩)),(4,z.1.v),(14,.int .i64 (z.2:Int))]) (fun z=>[Hl.rw z.1.v 126 cT 3 ((List.range z.2).map (kidK x)),Hl.blk b1 126 [.int .i64 x.lv,.int .i64 x.r,.int .i64 x.c]]) (fun z=>z.2≤4) (fun z=>4-z.2) (⟨none,0,0⟩,0) (Nat.zero_le _) ⟨rfl,rfl,rfl,trivial⟩ (fun w' h=>St.nilRow 126 cT 3 h) ?_
 rintro⟨z,k⟩ mx g1 hmx
 (try dsimp only at g1 hmx ⊢)
 rcases Nat.lt_or_ge k 4 with hk|hk
 ·have d1:(k:Int)/2=((k/2:Nat):Int):=by omega
  have d2:(k:Int)%2=((k%2:Nat):Int):=by omega
  have hlit:(celV ((x.lv:Int)+1) (2*(x.r:Int)+(k:Int)/2) (2*(x.c:Int)+(k:Int)%2))=ctV (kidK x k):=by
   rw[d1,d2]
   show celV _ _ _=celV ((x.lv+1:Nat):Int) ((2*x.r+k/2:Nat):Int) ((2*x.c+k%2:Nat):Int)
   rw[Int.natCast_add,Int.natCast_add,Int.natCast_add,Int.natCast_mul,Int.natCast_mul]
   rfl
  have hb1:0≤(k:Int)/2∧(k:Int)/2≤2∧0≤(k:Int)%2∧(k:Int)%2≤2:=by rw[d1,d2];omega
  have hll:((List.range k).map (kidK x)).length=k:=by simp
  generalize hO:(List.range k).map (kidK x)=O at *
  repeat' (first|(refine nxN ?_)|(show RS _ _ _ _ _ _ _ (⟨some 34,_,_,_,_,_⟩::_);refine RS.lit1T (a:=kidK x k) (fun v'=>?_) (congrArg some hlit))|(show RS _ _ _ _ _ _ _ (⟨some 35,_,_,_,_,_⟩::_);refine RS.appendA (f:=cT) (l:=O) (l':=[kidK x k]) ?_;intro z1)|(refine nxV ?_)|(refine nSS ?_)|(refine nS1 fun _=>?_)|(refine nMM ?_)|(refine nM1 fun _=>?_)|(refine nxG ?_)|(refine nxX ?_)|(refine G.cN rfl (fun hc=>?_) (fun hc=>?_)<;>(try first|exact hc.elim|(exfalso;omega))))
  all_goals first
   |(exfalso;simp at hc;omega)
   |skip
  refine X.again (z1,k+1) (by dsimp only;omega) (by dsimp only;omega) ⟨rfl,rfl,rfl,trivial⟩ (fun w' h=>?_)
  rw[List.range_succ,List.map_append,hO]
  exact h.sub subS
 ·obtain rfl:k=4:=by omega
  rw[kids_K]
  repeat' (first|(refine nxN ?_)|(refine nxV ?_)|(refine nSS ?_)|(refine nS1 fun _=>?_)|(refine nMM ?_)|(refine nM1 fun _=>?_)|(refine nxG ?_)|(refine nxX ?_)|(refine G.cN rfl (fun hc=>?_) (fun hc=>?_)<;>(try first|exact hc.elim|(exfalso;omega))))
  all_goals first
   |(exfalso;simp at hc;done)
   |exact X.retN (vs:=[_,_]) z rfl ⟨rfl,rfl,rfl⟩ rfl trivial rfl (NewIn.rw (by exact memA) NewIn.nil)
section
variable {P:Program} {n i:Nat} {L:FL} {w0:World} {H HS:List Hl} {Q:Exit→Act→World→Prop} {ops:Array Oper} {ord:List Mv} {dd:Nat} {ty:TypeId} {pos:String} {af:Array Edge} {gd:Option (Nat×Bool)} {x z:Operand} {t e:TypeId} {bytes:Nat} {A:Option Addr} {n0 c d s:Nat} {m':Int} {k':IntKind}
theorem sliced0 (A:Option Addr) (h m s:Nat):sliced A 0 h m s=.slice A h m:=by
 have e:∀a:Addr,a.add 0=a:=fun a=>by unfold Addr.add;split<;>simp_all
 cases A<;>simp[sliced,e]
theorem y_sliceXH (hx:evO L x=some (.slice A n0 c)) (hz:evO L z=some (.int k' m')) (hs:sliceB P t s=true) (hm:0≤m'∧m'≤c) :
  V P n L w0 H ⟨some d,.slice t x none (some z) none,ty,pos,af,gd⟩ (.slice A m'.toNat c):=by
 rw[←sliced0 A m'.toNat c s]
 unfold V
 intro a w ha hw
 obtain⟨e,i,hu,hi,rfl⟩:=sliceB_spec hs
 have h1:=run_sliceBound (P:=P) (w:=w) k' m' c .sliceAcap (by omega) (by omega)
 simp[execOp,ha.eval hx,ha.eval hz,Instr.sliceAt,Instr.slice,Instr.sliceBounds,run_underlying hu,h1,sizeOf,typeInfo,hi,sliced]
theorem RM.formed {α:Type} {f:α→List Value} {k:Nat} {l:List α} {v':Sl} (hm:Hl.rw v'.v e f s l∈H) (hl:l.length=k+1) (h:∀g cap,v'=⟨some ⟨g,0,none⟩,k+1,cap⟩→RM P ops Q HS n [] L w0 H ord):RM P ops Q HS n [] L w0 H ord:=by
 unfold RM
 intro hok l0 hB hS fu a w lst hc hP
 have hw:St w0 H w:=hP.2.1
 have ho:w.ownsRow w0.heap.size e s v'.v (k+1) (l.flatMap f):=by rw[←hl];exact hw.all _ hm
 obtain⟨g,cap,e1⟩:=ownsRow_succ ho
 have e2:v'=⟨some ⟨g,0,none⟩,k+1,cap⟩:=by
  obtain⟨A,N,C⟩:=v'
  have e3:Value.slice A N C=.slice (some ⟨g,0,none⟩) (k+1) cap:=e1
  simp only[Value.slice.injEq] at e3
  rw[e3.1,e3.2.1,e3.2.2]
 have:=h g cap e2
 unfold RM at this
 exact this hok l0 hB hS fu a w lst hc hP
theorem RM.lit1C {a:RR.CellT} (h:∀v':Sl,RM P ops Q HS n [] ((dd,v'.v)::L) w0 (Hl.rw v'.v e cT 3 [a]::H) ord) (ho:ops[i]?=some ⟨some dd,.buildSlice t 1 #[(0,x)],ty,pos,af,none⟩) (hx:evO L x=some (celV a.lv a.r a.c)) [ht:RowTy P t e 3 bytes] (hd:Nat.blt dd n=true)
  (hs:∀(v':Sl) w,St w0 (Hl.rw v'.v e cT 3 [a]::H) w→St w0 HS w):RM P ops Q HS n [] L w0 H (.go i::ord) :=
 RM.actX ho rfl rfl (x_litS (parts:=[(0,x)]) (vs:=[celV a.lv a.r a.c]) (cs:=cT a) (f:=cT) (l:=[a]) ⟨hx,rfl⟩ rfl rfl rfl rfl (fun zs hz=>by
   match zs,hz with
   |[_,_,_],_=>rfl) rfl rfl rfl (rowTy_B ht.is) hd) (.inl hs) fun v' _=>h v'
end
abbrev lst4 (l:List RR.CellT):List RR.CellT:=(l.drop ((l.length:Int)-4).toNat).take (l.length-((l.length:Int)-4).toNat)
theorem lst4_eq (l:List RR.CellT):lst4 l=l.drop (l.length-4):=by
 have e:((l.length:Int)-4).toNat=l.length-4:=by omega
 unfold lst4
 rw[e]
 exact List.take_of_length_le (by rw[List.length_drop];exact Nat.le_refl _)
theorem lst4_0 {l:List RR.CellT} (h:4≤l.length):nth (lst4 l) 0=l.getD (l.length-4) ⟨0,0,0⟩∧nth (lst4 l) 0∈l:=by
 rw[lst4_eq]
 have hl:0<(l.drop (l.length-4)).length:=by rw[List.length_drop];omega
 have e:nth (l.drop (l.length-4)) ((0:Nat):Int)=l[l.length-4+0]:=by rw[nth_mem hl,List.getElem_drop]
 refine⟨?_,?_⟩
 ·show nth _ ((0:Nat):Int)=_
  rw[e,List.getD_eq_getElem?_getD,List.getElem?_eq_getElem (by omega)]
  rfl
 ·show nth _ ((0:Nat):Int)∈l
  rw[e]
  exact List.getElem_mem _
abbrev rgB (b:Nat) (s:Sl):Hl:=Hl.blk b 67 [s.v]
abbrev rgR (s:Sl) (l:List RR.CellT):Hl:=Hl.rw s.v 126 cT 3 l
theorem merge_yes {b:Nat} {s:Sl} {l:List RR.CellT} (ok:∀x∈l,RR.okC x) (h4:4≤l.length∧l.length≤1000000) (ha:0<(nth (lst4 l) 0).lv) (hk:RR.kids (RR.par (nth (lst4 l) 0))=lst4 l) :
  ContL Tryz.prog (fun _=>True) [rgB b s,rgR s l] 132 [bxP b] (fun _:Sl=>True) (fun _=>.bool true) (fun z=>[rgB b z,rgR z (l.take (l.length-4)++[RR.par (nth (lst4 l) 0)])]):=fun w0 HR w _ hw=>by
 change St w0 (rgB b s::rgR s l::HR) w at hw
 have hown:w.ownsRow w0.heap.size 126 3 s.v l.length (l.flatMap cT):=hw.all _ (List.mem_cons_of_mem _ List.mem_cons_self)
 rcases hown.2 with ⟨_,h0⟩|⟨g,cap,cur,hv,_,_,hnc,hcm,_⟩
 ·omega
 clear hown
 unfold maxLen at hcm
 unfold rgB rgR at hw ⊢
 rw[hv] at hw
 have okE:=ok _ (lst4_0 h4.1).2
 have q1:=par_c okE ha
 have okp:=RR.okC_par okE ha
 have hlp:(RR.par (nth (lst4 l) 0)).lv<16:=by have:=okE.1;unfold RR.par;dsimp only;omega
 have q2:=kids_c okp hlp
 have hll:(lst4 l).length≤1000000:=by rw[lst4_eq,List.length_drop];omega
 have q3:=fun v u=>celEq_c v u (RR.kids (RR.par (nth (lst4 l) 0))) (lst4 l) (by show 4≤1000000;decide) hll
 rw[decide_eq_true hk] at q3
 have hn4:((l.length:Int)-4).toNat=l.length-4:=by omega
 have hl0:0<(lst4 l).length:=by rw[lst4_eq,List.length_drop];omega
 clear ha okE
 refine enterU Tryz.func132 rfl rfl rfl hw ?_
 repeat' (first|(refine nxN ?_)|(show RS _ _ _ _ _ _ _ (⟨some 31,.call _,_,_,_,_⟩::_);refine RS.callX (q2) ⟨rfl,rfl⟩ ?_;rintro v2 -;dsimp only[List.cons_append,List.nil_append])|(show YK _ _ _ _ _ ⟨_,.slice _ _ none (some _) none,_,_,_,_⟩ _;refine YK.ofV (y_sliceXH (s:=3) (by rfl) (by rfl) (by decide +kernel) (by omega)) ?_)|(show VK _ _ _ _ _ ⟨_,.slice _ _ none (some _) none,_,_,_,_⟩ _;refine VK.mk (y_sliceXH (s:=3) (by rfl) (by rfl) (by decide +kernel) (by omega)) ?_)|(show RM _ _ _ _ _ _ _ _ _ (.go 8::_);refine RM.lit1C (a:=RR.par (nth (lst4 l) 0)) (fun v'=>?_) rfl rfl rfl (fun _ _ h=>h.sub subS);refine RM.formed (k:=0) (by exact memA) rfl ?_;rintro g2 cap2 rfl)|(show RM _ _ _ _ _ _ _ _ _ (.go 9::_);refine RM.appF (bytes:=24) (l:=l) (l':=[RR.par (nth (lst4 l) 0)]) (g:=g) (cap:=cap) (nn:=l.length) (j:=((l.length:Int)-4).toNat) ?_ (by rfl) (by rfl) (by rfl) rfl ⟨_,rfl⟩ (RdT.rw List.mem_cons_self) (fun _=>rfl) (fun _=>rfl) (.there _ (.there _ (.there _ (.there _ (.here _))))) (by omega) (by simp only[List.length_cons,List.length_nil];omega) (rowTy_B RowTy.is) (fun _ h=>h.sub subS) (by rfl))|(refine G.mixedM 11 [.go 0,.go 1,.go 2,.go 3,.go 4,.go 5,.go 6,.go 7,.go 8,.go 9,.go 10,.go 11] [true,true,true,false] ?_;dsimp only[maskH])|(show YK _ _ _ _ _ _ _;first|refine YK.mk (zcA (q1) ⟨rfl,rfl⟩) ?_|refine YK.mk (zcR (q3 v2.v (cutV (.slice (some ⟨g,0,none⟩) l.length cap) 3 ((l.length:Int)-4).toNat l.length)) ⟨rfl,rfl,rfl⟩) ?_)|(refine nxV ?_)|(refine nSS ?_)|(refine nS1 fun _=>?_)|(refine nMM ?_)|(refine nM1 fun _=>?_)|(show YG _ _ _ _ _ _ _ _;refine YG.mk (fun hb=>by(try(have hc:=And.left hb;have hb:=And.right hb;rw[hc]));(try rw[hb]);first|exact(zcA (q1) ⟨rfl,rfl⟩)|exact(zcR (q3 v2.v (cutV (.slice (some ⟨g,0,none⟩) l.length cap) 3 ((l.length:Int)-4).toNat l.length)) ⟨rfl,rfl,rfl⟩)|exact V.y vAuto) ?_)|(refine nxG ?_)|(refine nxX ?_)|(refine G.cN rfl (fun hc=>?_) (fun hc=>?_)<;>(try first|exact hc.elim|(exfalso;omega))))
 all_goals first
  |(exfalso;simp at hc;done)
  |(exfalso;simp at hc;omega)
  |(exfalso;omega)
  |skip
 rw[hn4]
 exact X.ret (vs:=[_]) rfl ⟨rfl,rfl⟩ rfl (fun w hw=>⟨⟨some ⟨g,0,none⟩,l.length-4+1,cap⟩,trivial,rfl,hw.sub subS⟩)
theorem merge_no {b:Nat} {s:Sl} {l:List RR.CellT} (ok:∀x∈l,RR.okC x) (hl:l.length≤1000000) (hm:RR.mrg l=none) :
  ContL Tryz.prog (fun _=>True) [rgB b s,rgR s l] 132 [bxP b] (fun _:Unit=>True) (fun _=>.bool false) (fun _=>[rgB b s,rgR s l]):=fun w0 HR w _ hw=>by
 change St w0 (rgB b s::rgR s l::HR) w at hw
 rcases Nat.lt_or_ge l.length 4 with h4|h4
 ·refine enterU Tryz.func132 rfl rfl rfl hw ?_
  repeat' (first|(refine nxN ?_)|(refine nxV ?_)|(refine nSS ?_)|(refine nS1 fun _=>?_)|(refine nMM ?_)|(refine nM1 fun _=>?_)|(refine nxG ?_)|(refine G.mA 11 [.go 0,.go 1,.go 2,.go 3,.go 4,.go 5,.go 6,.go 7,.go 8,.go 9,.go 10,.go 11] ?_)|(refine nxX ?_)|(refine G.cN rfl (fun hc=>?_) (fun hc=>?_)<;>(try first|exact hc.elim|(exfalso;omega))))
  all_goals first
   |(exfalso;omega)
   |exact X.ret (vs:=[_]) rfl ⟨rfl,rfl⟩ rfl (fun w hw=>⟨(),trivial,rfl,hw.sub subS⟩)
 ·obtain⟨ea,em⟩:=lst4_0 h4
  have okE:=ok _ em
  have hl0:0<(lst4 l).length:=by rw[lst4_eq,List.length_drop];omega
  have hll:(lst4 l).length≤1000000:=by rw[lst4_eq,List.length_drop];omega
  rcases Nat.eq_zero_or_pos (nth (lst4 l) 0).lv with h0|h0
  ·have q1:=par_0 okE h0
   clear ea em okE
   refine enterU Tryz.func132 rfl rfl rfl hw ?_
   repeat' (first|(refine nxN ?_)|(show YK _ _ _ _ _ _ _;first|refine YK.mk (zcA (q1) ⟨rfl,rfl⟩) ?_)|(refine nxV ?_)|(refine nSS ?_)|(refine nS1 fun _=>?_)|(refine nMM ?_)|(refine nM1 fun _=>?_)|(show YG _ _ _ _ _ _ _ _;refine YG.mk (fun hb=>by(try(have hc:=And.left hb;have hb:=And.right hb;rw[hc]));(try rw[hb]);first|exact(zcA (q1) ⟨rfl,rfl⟩)|exact V.y vAuto) ?_)|(refine nxG ?_)|(refine G.mA 11 [.go 0,.go 1,.go 2,.go 3,.go 4,.go 5,.go 6,.go 7,.go 8,.go 9,.go 10,.go 11] ?_)|(refine nxX ?_)|(refine G.cN rfl (fun hc=>?_) (fun hc=>?_)<;>(try first|exact hc.elim|(exfalso;omega))))
   all_goals first
    |(exfalso;omega)
    |(exfalso;simp at hc;done)
    |exact X.ret (vs:=[_]) rfl ⟨rfl,rfl⟩ rfl (fun w hw=>⟨(),trivial,rfl,hw.sub subS⟩)
  ·have hk:RR.kids (RR.par (nth (lst4 l) 0))≠lst4 l:=fun e=>by
    rw[RR.mrg_eq,←ea,←lst4_eq,if_pos ⟨h4,h0,e⟩] at hm
    cases hm
   have q1:=par_c okE h0
   have okp:=RR.okC_par okE h0
   have hlp:(RR.par (nth (lst4 l) 0)).lv<16:=by have:=okE.1;unfold RR.par;dsimp only;omega
   have q2:=kids_c okp hlp
   have q3:=fun v u=>celEq_c v u (RR.kids (RR.par (nth (lst4 l) 0))) (lst4 l) (by show 4≤1000000;decide) hll
   rw[decide_eq_false hk] at q3
   clear ea em okE hk hm
   refine enterU Tryz.func132 rfl rfl rfl hw ?_
   repeat' (first|(refine nxN ?_)|(show RS _ _ _ _ _ _ _ (⟨some 31,.call _,_,_,_,_⟩::_);refine RS.callX (q2) ⟨rfl,rfl⟩ ?_;rintro v2 -;dsimp only[List.cons_append,List.nil_append])|(show YK _ _ _ _ _ _ _;first|refine YK.mk (zcA (q1) ⟨rfl,rfl⟩) ?_|refine YK.mk (zcR (q3 v2.v (cutV s.v 3 ((l.length:Int)-4).toNat l.length)) ⟨rfl,rfl,rfl⟩) ?_)|(refine nxV ?_)|(refine nSS ?_)|(refine nS1 fun _=>?_)|(refine nMM ?_)|(refine nM1 fun _=>?_)|(show YG _ _ _ _ _ _ _ _;refine YG.mk (fun hb=>by(try(have hc:=And.left hb;have hb:=And.right hb;rw[hc]));(try rw[hb]);first|exact(zcA (q1) ⟨rfl,rfl⟩)|exact(zcR (q3 v2.v (cutV s.v 3 ((l.length:Int)-4).toNat l.length)) ⟨rfl,rfl,rfl⟩)|exact V.y vAuto) ?_)|(refine nxG ?_)|(refine G.mA 11 [.go 0,.go 1,.go 2,.go 3,.go 4,.go 5,.go 6,.go 7,.go 8,.go 9,.go 10,.go 11] ?_)|(refine nxX ?_)|(refine G.cN rfl (fun hc=>?_) (fun hc=>?_)<;>(try first|exact hc.elim|(exfalso;omega))))
   all_goals first
    |(exfalso;omega)
    |(exfalso;simp at hc;done)
    |exact X.ret (vs:=[_]) rfl ⟨rfl,rfl⟩ rfl (fun w hw=>⟨(),trivial,rfl,hw.sub subS⟩)
theorem merge_some {b:Nat} {s:Sl} {l l':List RR.CellT} (ok:∀x∈l,RR.okC x) (hl:l.length≤1000000) (hm:RR.mrg l=some l') :
  ContL Tryz.prog (fun _=>True) [rgB b s,rgR s l] 132 [bxP b] (fun _:Sl=>True) (fun _=>.bool true) (fun z=>[rgB b z,rgR z l']):=by
 rw[RR.mrg_eq] at hm
 split at hm
 ·rename_i h
  obtain⟨h4,h0,hk⟩:=h
  obtain⟨ea,em⟩:=lst4_0 h4
  rw[←ea] at h0 hk
  rw[←lst4_eq] at hk
  have:=merge_yes (b:=b) (s:=s) ok ⟨h4,hl⟩ h0 hk
  rw[ea,Option.some.inj hm] at this
  exact this
 ·cases hm
section
variable {P:Program} {C:World→Prop} {n:Nat} {L:FL} {w0:World} {H Xs R:List Hl} {Q:Exit→Act→World→Prop} {ops:Array Oper} {rest:List Oper} {dd:Nat} {ty:TypeId} {pos:String} {af:Array Edge} {ι:Type} {f:FuncId} {xs:List Operand} {vs:List Value} {tys:Array TypeId} {post:ι→Prop} {v:ι→Value} {Y:ι→List Hl} {fv:Operand} {cap:Array Value}
theorem RS.callPn (hc:ContL P C Xs f vs post v Y) (hC:C w0) (hp:H.Perm (Xs++R)) (h:∀z,post z→RS P ops Q n ((dd,v z)::L) w0 (Y z++R) rest) (ha:AE L xs vs) (hg:isGo P f=true) (hd:Nat.blt dd n=true) :
  RS P ops Q n L w0 H (⟨some dd,.call { callee:=.value (.func f),args:=xs.toArray,argTypes:=tys },ty,pos,af,none⟩::rest):=by
 refine RS.actX (post:=post) rfl (fun a w hfr hw K Q hK=>?_) h
 unfold Oper.wp
 rw[run_call hfr ha hg]
 refine(hc w0 R w hC (hw.perm hp)).mono ?_
 rintro e w' ⟨z,hz,rfl,hs⟩
 exact hK _ _ ⟨z,hz,hfr.put (by simpa [Nat.blt_eq] using hd),hs⟩
theorem RS.callPmV (hf:evO L fv=some (.func (.func f) #[] cap)) (hc:ContL P C Xs f (vs++cap.toList) post v Y) (hC:C w0) (hp:H.Perm (Xs++R)) (h:∀z,post z→RS P ops Q n ((dd,v z)::L) w0 (Y z++R) rest) (ha:AE L xs vs) (hg:isGo P f=true) (hd:Nat.blt dd n=true) :
  RS P ops Q n L w0 H (⟨some dd,.call { callee:=.value fv,args:=xs.toArray,argTypes:=tys },ty,pos,af,none⟩::rest):=by
 refine RS.actX (post:=post) rfl (fun a w hfr hw K Q hK=>?_) h
 have e:(execOp a.eval ⟨some dd,.call { callee:=.value fv,args:=xs.toArray,argTypes:=tys },ty,pos,af,none⟩).run P w=.ok (.enter f (vs++cap.toList).toArray) w:=by
  have h1:=ha.map hfr
  simp[execOp,resolve,hfr.eval hf,Deferred.ofValue,invoke,h1,run_isGo hg]
 unfold Oper.wp
 rw[e]
 refine(hc w0 R w hC (hw.perm hp)).mono ?_
 rintro e w' ⟨z,hz,rfl,hs⟩
 exact hK _ _ ⟨z,hz,hfr.put (by simpa [Nat.blt_eq] using hd),hs⟩
end
theorem ixL_c {σ:Type} {C:World→Prop} {fid:FuncId} {cap:Array Value} {Xs:Sl→σ→List Hl} {I:σ→Prop} {f:RR.CellT→σ→Bool×σ} (hgo:isGo Tryz.prog fid=true) (v:Value) (l:List RR.CellT) (hl:l.length≤1000000)
  (hc:∀x∈l,∀z a,I a→ContL Tryz.prog C (Xs z a) fid ([ctV x]++cap.toList) (fun _:Sl=>True) (fun _=>.bool (!(f x a).1)) (fun z'=>Xs z' (f x a).2)) (hI:∀x∈l,∀a,I a→(f x a).1=true→I (f x a).2) (z0:Sl) (a0:σ) (h0:I a0) :
  ContL Tryz.prog C (Hl.nw v cT 3 l::Xs z0 a0) 183 [v,.func (.func fid) #[] cap] (fun y:Sl×Int=>((RR.lookL f l a0).1=true→y.2 = -1)∧((RR.lookL f l a0).1=false→0≤y.2)∧-1≤y.2∧y.2≤1000000) (fun y=>.int .i64 y.2) (fun y=>Hl.nw v cT 3 l::Xs y.1 (RR.lookL f l a0).2):=fun w0 HR w hC hw=>by
 change St w0 (Hl.nw v cT 3 l::(Xs z0 a0++HR)) w at hw
 refine enterU Tryz.func183 rfl rfl rfl hw ?_
 repeat' (first|(refine nxV ?_)|(refine nSS ?_)|(refine nS1 fun _=>?_)|(refine nMM ?_)|(refine nM1 fun _=>?_)|(refine nxG ?_)|(refine nxX ?_)|(refine G.cN rfl (fun hc=>?_) (fun hc=>?_)<;>(try first|exact hc.elim|(exfalso;omega))))
 refine G.loop (ι:=(Sl×σ)×Nat) (fun y=>[(0,v),(1,.func (.func fid) #[] cap),(7,.int .i64 l.length),(8,.int .i64 (y.2:Int))]) (fun y=>Hl.nw v cT 3 l::(Xs y.1.1 y.1.2++HR)) (fun y=>y.2≤l.length∧I y.1.2∧RR.lookL f l a0=RR.lookL f (l.drop y.2) y.1.2) (fun y=>l.length-y.2) ((z0,a0),0) ⟨Nat.zero_le _,h0,rfl⟩ ⟨rfl,rfl,rfl,rfl,trivial⟩ (fun w h=>h) ?_
 clear h0
 rintro⟨⟨z,a⟩,i⟩ mx ⟨g1,gI,g2⟩ hmx
 (try dsimp only at g1 gI g2 hmx ⊢)
 rcases Nat.lt_or_ge i l.length with hi|hi
 ·have hd:l.drop i=nth l (i:Int)::l.drop (i+1):=by rw[nth_mem hi,List.getElem_cons_drop]
  rw[hd] at g2
  have hm:nth l (i:Int)∈l:=by rw[nth_mem hi];exact List.getElem_mem hi
  have q2:=hc _ hm z a gI
  have qI:=hI _ hm a gI
  replace g2:RR.lookL f l a0=if (f (nth l (i:Int)) a).1=true then RR.lookL f (l.drop (i+1)) (f (nth l (i:Int)) a).2 else (false,(f (nth l (i:Int)) a).2):=g2
  cases hv:(f (nth l (i:Int)) a).1 with
  |true =>
   rw[hv] at q2 g2 qI
   rw[if_pos rfl] at g2
   repeat' (first|(show RS _ _ _ _ _ _ _ (⟨some _,.call { callee:=.value (.tmp _),args:=_,argTypes:=_ },_,_,_,_⟩::_);refine RS.callPmV (R:=Hl.nw v cT 3 l::HR) (by rfl) q2 hC (by exact List.perm_middle.symm) ?_ ⟨rfl,rfl⟩ hgo (by rfl);rintro z' -)|(refine nxV ?_)|(refine nSS ?_)|(refine nS1 fun _=>?_)|(refine nMM ?_)|(refine nM1 fun _=>?_)|(refine nxG ?_)|(refine nxX ?_)|(refine G.cN rfl (fun hc=>?_) (fun hc=>?_)<;>(try first|exact hc.elim|(exfalso;omega))))
   refine X.again ((z',(f (nth l (i:Int)) a).2),i+1) ⟨by dsimp only;omega,qI rfl,g2⟩ (by dsimp only;omega) ⟨rfl,rfl,rfl,rfl,trivial⟩ (fun w h=>h.perm List.perm_middle)
  |false =>
   rw[hv] at q2 g2
   rw[if_neg (by decide)] at g2
   repeat' (first|(show RS _ _ _ _ _ _ _ (⟨some _,.call { callee:=.value (.tmp _),args:=_,argTypes:=_ },_,_,_,_⟩::_);refine RS.callPmV (R:=Hl.nw v cT 3 l::HR) (by rfl) q2 hC (by exact List.perm_middle.symm) ?_ ⟨rfl,rfl⟩ hgo (by rfl);rintro z' -)|(refine nxV ?_)|(refine nSS ?_)|(refine nS1 fun _=>?_)|(refine nMM ?_)|(refine nM1 fun _=>?_)|(refine nxG ?_)|(refine nxX ?_)|(refine G.cN rfl (fun hc=>?_) (fun hc=>?_)<;>(try first|exact hc.elim|(exfalso;omega))))
   refine X.ret (vs:=[_]) rfl ⟨rfl,rfl⟩ rfl (fun w hw=>⟨(z',(i:Int)),⟨fun h=>?_,fun _=>by dsimp only;omega,by dsimp only;omega,by dsimp only;omega⟩,rfl,?_⟩)
   ·rw[g2] at h;cases h
   ·rw[g2]
    exact hw.perm List.perm_middle
 ·obtain rfl:i=l.length:=by omega
  rw[List.drop_length] at g2
  replace g2:RR.lookL f l a0=(true,a):=g2
  repeat' (first|(refine nxV ?_)|(refine nSS ?_)|(refine nS1 fun _=>?_)|(refine nMM ?_)|(refine nM1 fun _=>?_)|(refine nxG ?_)|(refine nxX ?_)|(refine G.cN rfl (fun hc=>?_) (fun hc=>?_)<;>(try first|exact hc.elim|(exfalso;omega))))
  refine X.ret (vs:=[_]) rfl ⟨rfl,rfl⟩ rfl (fun w hw=>⟨(z,-1),⟨fun _=>rfl,fun h=>?_,by dsimp only;omega,by dsimp only;omega⟩,rfl,?_⟩)
  ·rw[g2] at h;cases h
  ·rw[g2]
   exact hw
theorem coL_c {σ:Type} {C:World→Prop} {fid:FuncId} {cap:Array Value} {Xs:Sl→σ→List Hl} {I:σ→Prop} {f:RR.CellT→σ→Bool×σ} (hgo:isGo Tryz.prog fid=true) (v:Value) (l:List RR.CellT) (hl:l.length≤1000000)
  (hc:∀x∈l,∀z a,I a→ContL Tryz.prog C (Xs z a) fid ([ctV x]++cap.toList) (fun _:Sl=>True) (fun _=>.bool (!(f x a).1)) (fun z'=>Xs z' (f x a).2)) (hI:∀x∈l,∀a,I a→(f x a).1=true→I (f x a).2) (z0:Sl) (a0:σ) (h0:I a0) :
  ContL Tryz.prog C (Hl.nw v cT 3 l::Xs z0 a0) 134 [v,.func (.func fid) #[] cap] (fun _:Sl=>True) (fun _=>.bool (!(RR.lookL f l a0).1)) (fun y=>Hl.nw v cT 3 l::Xs y (RR.lookL f l a0).2):=fun w0 HR w hC hw=>by
 have q1:=ixL_c hgo v l hl hc hI z0 a0 h0
 change St w0 (Hl.nw v cT 3 l::(Xs z0 a0++HR)) w at hw
 generalize RR.lookL f l a0=r at *
 obtain⟨r1,r2⟩:=r
 dsimp only at q1 ⊢
 refine enterU Tryz.func134 rfl rfl rfl hw ?_
 repeat' (first|(show RS _ _ _ _ _ _ _ (⟨some _,.call _,_,_,_,_⟩::_);refine RS.callPn (R:=HR) q1 hC (by exact List.Perm.refl _) ?_ ⟨rfl,rfl,rfl⟩ (by decide +kernel) (by rfl);rintro⟨z',k⟩ ⟨hk1,hk2,hk3,hk4⟩;dsimp only[List.cons_append,List.nil_append] at hk1 hk2 hk3 hk4 ⊢)|(refine nxV ?_)|(refine nSS ?_)|(refine nS1 fun _=>?_)|(refine nMM ?_)|(refine nM1 fun _=>?_)|(refine nxG ?_)|(refine nxX ?_)|(refine G.cN rfl (fun hc=>?_) (fun hc=>?_)<;>(try first|exact hc.elim|(exfalso;omega))))
 refine X.ret (vs:=[_]) rfl ⟨rfl,rfl⟩ rfl (fun w hw=>⟨z',trivial,ret_bool ?_,hw⟩)
 cases r1 with
 |true=>rw[hk1 rfl];rfl
 |false=>exact decide_eq_true (hk2 rfl)
abbrev bxC' (b:Nat):Value:=.pointer (some ⟨b,0,none⟩)
section
variable {bS:Nat} {vc:Value} {ks:List CirT} {n:Nat}
theorem ContL.unit {P:Program} {C:World→Prop} {Xs:List Hl} {f:FuncId} {args:List Value} {v:Value} {Y:List Hl} {Y':Sl→List Hl} (z:Sl) (h:ContL P C Xs f args (fun _:Unit=>True) (fun _=>v) (fun _=>Y)) (e:Y' z=Y):ContL P C Xs f args (fun _:Sl=>True) (fun _=>v) Y':=fun w0 HR w hC hw=>by
 refine(h w0 HR w hC hw).mono ?_
 rintro e' w' ⟨_,_,rfl,hs⟩
 exact⟨z,trivial,rfl,by rw[e];exact hs⟩
end
end Go.Proofs.YtjmdeplmenbmmaaGreat
