/- Joined texts: Cpd, New. -/
import Derived.Test.YtjmdeplmenbmmaaGreatW19
set_option linter.unusedVariables false
set_option maxHeartbeats 8000000
namespace Go.Proofs.YtjmdeplmenbmmaaGreat
open Go.RowKit
section
variable {α:Type} [Inhabited α]
theorem nth_setS {l:List α} {i:Nat} {b:α} (h:i<l.length):nth (l.set ((i:Int)).toNat b) (i:Int)=b:=by
 unfold nth
 rw[List.getD_eq_getElem?_getD]
 simp[h]
theorem nth_setN {l:List α} {i j:Nat} {b:α} (h:i≠j):nth (l.set ((i:Int)).toNat b) (j:Int)=nth l (j:Int):=by
 unfold nth
 rw[List.getD_eq_getElem?_getD,List.getD_eq_getElem?_getD]
 simp[h]
end
section
variable {P:Program} {n:Nat} {L:FL} {w0:World} {H:List Hl} {d:Nat} {ty:TypeId} {pos:String} {af:Array Edge} {gd:Option (Nat×Bool)} {x:Operand} {t:TypeId} {α:Type} {f:α→List Value} {s:Nat} {l:List α} {v:Value} {m:Int} {c:Nat}
theorem vf_nilEl (hx:evO L x=some (elA v s m c)) (h:RdT H v f s l) (hf:∀a,(f a).length=s) (hm:0≤m∧m<l.length) (hs:Nat.blt 0 s=true):VFr P n L w0 H ⟨some d,.nilCheck x,ty,pos,af,gd⟩ (elA v s m c):=fun w hw a w' ha=>by
 obtain⟨hl,A,c',rfl,_,hc,_⟩:=h _ _ hw
 have hs':0<s:=by simpa [Nat.blt_eq] using hs
 obtain⟨ad,rfl,_⟩:=hc (flat_ne hf hs' hm)
 simp[execOp,ha.eval hx,elA]
theorem vf_fieldEl {fl k':Nat} (hx:evO L x=some (elA v s m c)) (h:RdT H v f s l) (hf:∀a,(f a).length=s) (hm:0≤m∧m<l.length) (hs:Nat.blt 0 s=true) (hfo:fieldAt P t fl c=some k') :
  VFr P n L w0 H ⟨some d,.fieldAddr t x fl,ty,pos,af,gd⟩ (elA v s m k'):=fun w hw a w' ha=>by
 obtain⟨hl,A,c',rfl,_,hc,_⟩:=h _ _ hw
 have hs':0<s:=by simpa [Nat.blt_eq] using hs
 obtain⟨ad,rfl,_⟩:=hc (flat_ne hf hs' hm)
 unfold fieldAt fieldOff at hfo
 cases hu:P.underlying t with
 |none=>simp[hu] at hfo
 |some dsc =>
  cases dsc<;>simp only[hu,Option.map_none,reduceCtorEq] at hfo
  rename_i fs
  cases hfs:fs[fl]? with
  |none=>simp[hfs] at hfo
  |some fld =>
   simp only[hfs] at hfo
   cases hi:P.info? fld.type with
   |none=>simp[hi] at hfo
   |some inf =>
    simp only[hi] at hfo
    split at hfo
    ·cases hfo
    ·rename_i hsz
     simp only[Option.map_some,Option.some.injEq] at hfo
     subst hfo
     simp[execOp,ha.eval hx,elA,Instr.fieldAt,Instr.sureAddr,run_underlying hu,hfs,fieldPlace,sizeOf,typeInfo,hi,hsz,add_add,Nat.add_assoc]
end
section
variable {w0 w:World} {a b c d V Z:Hl} {H:List Hl}
theorem St.pk (h:St w0 (a::b::c::d::H) w):St w0 (d::b::H) w:=(h.sub (H':=b::d::H) (.cons _ (.cons_cons _ (.cons _ (.cons_cons _ (List.Sublist.refl _)))))).perm (List.Perm.swap _ _ _)
theorem St.conv {α β:Type} {z1 z2:Value} {e e':TypeId} {f:α→List Value} {f':β→List Value} {s s':Nat} {l:List α} {l':List β} (h:St w0 (Hl.rw z2 e' f' s' l'::b::Hl.rw z1 e f s l::d::V::Z::H) w):St w0 (V::Z::Hl.nw z1 f s l::Hl.nw z2 f' s' l'::H) w:=by
 have h1:=(h.sub (H':=Hl.rw z2 e' f' s' l'::Hl.rw z1 e f s l::V::Z::H) (.cons_cons _ (.cons _ (.cons_cons _ (.cons _ (List.Sublist.refl _)))))).froz
 have h2:=(h1.perm (List.Perm.swap _ _ _)).froz
 exact h2.perm ((List.perm_append_comm (l₁:=[_,_]) (l₂:=[V,Z])).append_right H)
end
section
variable {P:Program} {ops:Array Oper} {Q:Exit→Act→World→Prop} {HS H Xs R:List Hl} {n dd i:Nat} {L:FL} {w0:World} {ord:List Mv} {ty:TypeId} {pos:String} {af:Array Edge} {ι:Type} {C:World→Prop} {f:FuncId} {xs:List Operand} {vs:List Value} {tys:Array TypeId} {post:ι→Prop} {v:ι→Value} {Y:ι→List Hl}
theorem RF.callL (ho:ops[i]?=some ⟨some dd,.call { callee:=.value (.func f),args:=xs.toArray,argTypes:=tys },ty,pos,af,none⟩) (hc:ContL P C Xs f vs post v Y) (hC:C w0) (ha:AE L xs vs) (hp:Pick Xs H R) (hs:∀z w,St w0 (Y z++R) w→St w0 HS w) (h:∀z,post z→RF P ops Q HS n ((dd,v z)::L) w0 (Y z++R) ord) (hg:isGo P f=true) (hd:Nat.blt dd n=true) :
  RF P ops Q HS n L w0 H (.go i::ord):=RF.actX ho rfl rfl (x_callL hc hC ha hp hg hd) (.inl hs) h
theorem RF.storeF {α:Type} [Inhabited α] {f:α→List Value} {s:Nat} {l:List α} {u w:Value} {e t:TypeId} {m:Int} {c:Nat} {H':List Hl} {x y:Operand} (b:α) (ho:ops[i]?=some ⟨none,.store t x y,ty,pos,af,none⟩) (hx:evO L x=some (elA w s m c)) (hy:evO L y=some u) (hu1:u.oneCell'=true) (hu:Upd (Hl.rw w e f s l) (Hl.rw w e f s (l.set m.toNat b)) H H') (hm:0≤m∧m<l.length)
  (hf:∀a,(f a).length=s) (hb:(f (nth l m)).set c u=f b) (hc:Nat.blt c s=true) (hs:scalarB P t=true) (hl:lateF .any ops i=true) (h:RF P ops Q HS n L w0 H' ord):RF P ops Q HS n L w0 H (.go i::ord):=RF.act h ho rfl rfl (x_storeEl hx hy hu1 hu hm hf hb hc hs) hl
end
theorem flat_setC {α β:Type} {f:α→List β} : ∀(l:List α) (i:Nat) {a b:α},f a=f b→(l.set i a).flatMap f=(l.set i b).flatMap f
 |[],_,_,_,_=>rfl
 |x::r,0,_,_,h=>by simp[h]
 |x::r,i+1,_,_,h=>by simp only[List.set_cons_succ,List.flatMap_cons];rw[flat_setC r i h]
/-! ### Copies -/
structure SamT (t t':TrkT):Prop where
 nm:t'.nm=t.nm
 gl:t'.gl=t.gl
 dl:t'.dl=t.dl
 se:t'.se=t.se
 pa:t'.pa=t.pa
 be:t'.be=t.be
structure SamP (p p':PagT):Prop where
 y:p'.y=p.y
 m:p'.m=p.m
 d:p'.d=p.d
 len:p'.tl.length=p.tl.length
 tr:∀k:Nat,k<p.tl.length→SamT (nth p.tl (k:Int)) (nth p'.tl (k:Int))
structure SamL (pl pl':List PagT):Prop where
 len:pl'.length=pl.length
 pg:∀k:Nat,k<pl.length→SamP (nth pl (k:Int)) (nth pl' (k:Int))
def CopT (dyn:List Hl) (t t':TrkT):Prop:=SamT t t'∧Hl.nw t'.gv.v cI 1 t'.gl∈dyn∧Hl.nw t'.dv.v cI 1 t'.dl∈dyn
def CopP (dyn:List Hl) (p p':PagT):Prop:=SamP p p'∧Hl.nw p'.tv.v cTk 6 p'.tl∈dyn∧∀k:Nat,k<p.tl.length→CopT dyn (nth p.tl (k:Int)) (nth p'.tl (k:Int))
theorem CopT.mono {D D':List Hl} {t t':TrkT} (h:CopT D t t') (hs:∀x∈D,x∈D'):CopT D' t t':=⟨h.1,hs _ h.2.1,hs _ h.2.2⟩
theorem CopP.mono {D D':List Hl} {p p':PagT} (h:CopP D p p') (hs:∀x∈D,x∈D'):CopP D' p p':=⟨h.1,hs _ h.2.1,fun k hk=>(h.2.2 k hk).mono hs⟩
structure InvO (pl:List PagT) (y:Nat×List PagT×List Hl):Prop where
 le:y.1≤pl.length
 len:y.2.1.length=pl.length
 to:∀j:Nat,y.1≤j→j<pl.length→nth y.2.1 (j:Int)=nth pl (j:Int)
 did:∀j:Nat,j<y.1→CopP y.2.2 (nth pl (j:Int)) (nth y.2.1 (j:Int))
structure InvI (tl:List TrkT) (D0:List Hl) (y:Nat×List TrkT×List Hl):Prop where
 le:y.1≤tl.length
 len:y.2.1.length=tl.length
 to:∀j:Nat,y.1≤j→j<tl.length→nth y.2.1 (j:Int)=nth tl (j:Int)
 did:∀j:Nat,j<y.1→CopT y.2.2 (nth tl (j:Int)) (nth y.2.1 (j:Int))
 sub:∀x∈D0,x∈y.2.2
theorem InvI.next {tl T:List TrkT} {D0 D:List Hl} {k:Nat} (h:InvI tl D0 (k,T,D)) (hk:k<tl.length) {t':TrkT} (hs:SamT (nth tl (k:Int)) t'):InvI tl D0 (k+1,T.set ((k:Int)).toNat t',Hl.nw t'.gv.v cI 1 t'.gl::Hl.nw t'.dv.v cI 1 t'.dl::D):=by
 obtain⟨h1,h2,h3,h4,h5⟩:=h
 dsimp only at h1 h2 h3 h4 h5
 have hs2:∀x∈D,x∈Hl.nw t'.gv.v cI 1 t'.gl::Hl.nw t'.dv.v cI 1 t'.dl::D:=fun x hx=>List.mem_cons_of_mem _ (List.mem_cons_of_mem _ hx)
 refine⟨by dsimp only;omega,by dsimp only;rw[List.length_set];exact h2,fun j hj hjl=>?_,fun j hj=>?_,fun x hx=>hs2 x (h5 x hx)⟩
 ·dsimp only at hj ⊢
  rw[nth_setN (by omega)]
  exact h3 j (by omega) hjl
 ·dsimp only at hj ⊢
  by_cases e:j=k
  ·subst e
   rw[nth_setS (by omega)]
   exact⟨hs,List.mem_cons_self,List.mem_cons_of_mem _ List.mem_cons_self⟩
  ·rw[nth_setN (by omega)]
   exact(h4 j (by omega)).mono hs2
theorem InvO.next {pl Q:List PagT} {D D':List Hl} {i:Nat} (h:InvO pl (i,Q,D)) (hi:i<pl.length) {T:List TrkT} (v:Sl) (hI:InvI (nth pl (i:Int)).tl D ((nth pl (i:Int)).tl.length,T,D')) :
  InvO pl (i+1,Q.set ((i:Int)).toNat ⟨(nth pl (i:Int)).y,(nth pl (i:Int)).m,(nth pl (i:Int)).d,v,T⟩,Hl.nw v.v cTk 6 T::D'):=by
 obtain⟨h1,h2,h3,h4⟩:=h
 obtain⟨_,g2,_,g4,g5⟩:=hI
 dsimp only at h1 h2 h3 h4 g2 g4 g5
 have hs2:∀x∈D',x∈Hl.nw v.v cTk 6 T::D':=fun x hx=>List.mem_cons_of_mem _ hx
 refine⟨by dsimp only;omega,by dsimp only;rw[List.length_set];exact h2,fun j hj hjl=>?_,fun j hj=>?_⟩
 ·dsimp only at hj ⊢
  rw[nth_setN (by omega)]
  exact h3 j (by omega) hjl
 ·dsimp only at hj ⊢
  by_cases e:j=i
  ·subst e
   rw[nth_setS (by omega)]
   exact⟨⟨rfl,rfl,rfl,g2,fun k hk=>(g4 k hk).1⟩,List.mem_cons_self,fun k hk=>(g4 k hk).mono hs2⟩
  ·rw[nth_setN (by omega)]
   exact(h4 j (by omega)).mono fun x hx=>hs2 x (g5 x hx)
theorem InvO.done {pl Q:List PagT} {D:List Hl} {w0 w:World} {z:Sl} (h:InvO pl (pl.length,Q,D)) (hw:St w0 (Hl.rw z.v 32 cPg 4 Q::D) w):PgsP z.v Q w∧SamL pl Q:=by
 obtain⟨_,h2,_,h4⟩:=h
 dsimp only at h2 h4
 refine⟨⟨RO.of_row (hw.all _ List.mem_cons_self),fun p hp=>?_⟩,h2,fun k hk=>(h4 k hk).1⟩
 obtain⟨j,hj,rfl⟩:=List.getElem_of_mem hp
 have e:=nth_some (l:=Q) (m:=(j:Int)) (by omega) (by omega)
 rw[Int.toNat_natCast,List.getElem?_eq_getElem hj] at e
 rw[Option.some.inj e]
 obtain⟨c1,c2,c3⟩:=h4 j (by omega)
 refine⟨(hw.all _ (List.mem_cons_of_mem _ c2)).1,fun t ht=>?_⟩
 obtain⟨m,hm,rfl⟩:=List.getElem_of_mem ht
 have e2:=nth_some (l:=(nth Q (j:Int)).tl) (m:=(m:Int)) (by omega) (by omega)
 rw[Int.toNat_natCast,List.getElem?_eq_getElem hm] at e2
 rw[Option.some.inj e2]
 have hc:=c3 m (by have:=c1.len;omega)
 exact⟨(hw.all _ (List.mem_cons_of_mem _ hc.2.1)).1,(hw.all _ (List.mem_cons_of_mem _ hc.2.2)).1⟩
section
variable {u:Value} {pl:List PagT}
theorem ncop_c (h4:pl.length≤4) (hok:∀p∈pl,okPg p):ContN Tryz.prog (PgsP u pl) 30 [u] (fun(z:Sl×List PagT) w=>PgsP z.1.v z.2 w∧SamL pl z.2) (fun z=>z.1.v):=fun w hw0=>by
 have q1:=clnP_c (u:=u) (l:=pl) (by omega)
 refine enter Tryz.func30 rfl rfl rfl (Hp:=[Hl.rd u cPg 4 pl]) (fun h hm=>by
  rcases List.mem_singleton.1 hm with rfl
  exact⟨⟨hw0.1,fun h=>by cases h⟩,rfl⟩) ?_
 repeat' (first|(refine nxN ?_)|(show RS _ _ _ _ _ _ _ (⟨some 8,.call _,_,_,_,_⟩::_);refine RS.callL (q1) trivial ?_;rintro z _;dsimp only[List.cons_append,List.nil_append])|(refine nxV ?_)|(refine nSS ?_)|(refine nS1 fun _=>?_)|(refine nMM ?_)|(refine nM1 fun _=>?_)|(refine nxG ?_)|(refine G.mA 10 [.go 0,.go 1,.go 2,.go 3,.go 4,.go 5,.go 7,.go 8,.go 9,.go 10,.go 6,.go 11,.go 12,.go 13,.go 14,.go 15,.go 16,.go 17] ?_)|(refine nxX ?_)|(refine G.cN rfl (fun hc=>?_) (fun hc=>?_)<;>(try first|exact hc.elim|(exfalso;omega))))
 refine G.loop (ι:=Nat×List PagT×List Hl) (fun y=>[(3,z.v),(10,.int .i64 pl.length),(11,.int .i64 (y.1:Int))]) (fun y=>Hl.rw z.v 32 cPg 4 y.2.1::y.2.2) (InvO pl) (fun y=>pl.length-y.1) (0,pl,[]) ⟨by dsimp only;omega,rfl,fun j _ _=>rfl,fun j hj=>by cases hj⟩ ⟨rfl,rfl,rfl,trivial⟩ (by exact fun w h=>h.sub subS) ?_
 rintro⟨i,Q,D⟩ mx hI hmx
 have g1:=hI.le
 have g2:=hI.len
 have g3:=hI.to
 dsimp only at g1 g2 g3 hmx ⊢
 rcases Nat.lt_or_ge i pl.length with hi|hi
 ·have hpe:=nth_in (l:=pl) (i:=(i:Int)) (by omega) (by omega)
  have hpg:=InP.at hw0.2 hi
  have hpo:=hok _ hpe
  have hQ:=g3 i (Nat.le_refl _) hi
  have hnx:=fun T D' v h=>InvO.next (T:=T) (D':=D') hI hi v h
  rw[←hQ] at hpe hpg hpo hnx
  have htl:=hpo.1
  have q2:=clnT_c (u:=(nth Q (i:Int)).tv.v) (l:=(nth Q (i:Int)).tl) (by omega)
  refine G.bring (f:=cTk) hpg.1 ?_
  repeat' (first|(refine nxN ?_)|(show RS _ _ _ _ _ _ _ (⟨some 21,.call _,_,_,_,_⟩::_);refine RS.callL (q2) trivial ?_;rintro v _;dsimp only[List.cons_append,List.nil_append])|(show RS _ _ _ _ _ _ _ (⟨none,.store _ (.tmp 23) _,_,_,_,_⟩::_);refine RS.actX rfl (x_storeEl (f:=cPg) (c:=3) (m:=(i:Int)) (b:=⟨(nth Q (i:Int)).y,(nth Q (i:Int)).m,(nth Q (i:Int)).d,v,(nth Q (i:Int)).tl⟩) (by rfl) (by rfl) (by rfl) (by exact updA) (by omega) (fun _=>rfl) (by rfl) (by rfl) (by decide +kernel)) (fun _ _=>?_);obtain⟨Q1,hq1⟩:∃Q1,Q1=Q.set ((i:Int)).toNat ⟨(nth Q (i:Int)).y,(nth Q (i:Int)).m,(nth Q (i:Int)).d,v,(nth Q (i:Int)).tl⟩:=⟨_,rfl⟩;rw[←hq1];have hqn:nth Q1 (i:Int)=⟨(nth Q (i:Int)).y,(nth Q (i:Int)).m,(nth Q (i:Int)).d,v,(nth Q (i:Int)).tl⟩:=(by rw[hq1];exact nth_setS (by omega));have hql:Q1.length=pl.length:=(by rw[hq1,List.length_set];exact g2))|(show YK _ _ _ _ _ ⟨some 28,.load _ _,_,_,_,_⟩ _;refine YK.ofV (y_loadEl (inst:=inferInstance) (f:=cPg) (l:=Q1) (s:=4) (m:=(i:Int)) (i:=3) (u:=v.v) (by rfl) (by exact rdA) (fun _=>rfl) (by omega) (by rfl) (by rw[hqn];rfl) (by decide +kernel)) ?_)|(refine nxV ?_)|(refine nSS ?_)|(refine nS1 fun _=>?_)|(refine nMM ?_)|(refine nM1 fun _=>?_)|(refine nxG ?_)|(refine G.mA 10 [.go 0,.go 1,.go 2,.go 3,.go 4,.go 5,.go 7,.go 8,.go 9,.go 10,.go 6,.go 11,.go 12,.go 13,.go 14,.go 15,.go 16,.go 17] ?_)|(refine nxX ?_)|(refine G.cN rfl (fun hc=>?_) (fun hc=>?_)<;>(try first|exact hc.elim|(exfalso;omega))))
  refine G.loop (ι:=Nat×List TrkT×List Hl) (fun y=>[(3,z.v),(4,.int .i64 (i:Int)),(10,.int .i64 pl.length),(11,.int .i64 (i:Int)),(29,.int .i64 (nth Q (i:Int)).tl.length),(30,.int .i64 (y.1:Int))]) (fun y=>Hl.rw v.v 76 cTk 6 y.2.1::Hl.rw z.v 32 cPg 4 Q1::y.2.2) (InvI (nth Q (i:Int)).tl D) (fun y=>(nth Q (i:Int)).tl.length-y.1) (0,(nth Q (i:Int)).tl,D) ⟨by dsimp only;omega,rfl,fun j _ _=>rfl,(fun j hj=>by cases hj),fun x hx=>hx⟩ ⟨rfl,rfl,rfl,rfl,rfl,rfl,trivial⟩ (by exact fun w h=>h.sub subS) ?_
  rintro⟨k,T,D1⟩ mx1 hJ hmx1
  have k1:=hJ.le
  have k2:=hJ.len
  have k3:=hJ.to
  dsimp only at k1 k2 k3 hmx1 ⊢
  rcases Nat.lt_or_ge k (nth Q (i:Int)).tl.length with hk|hk
  ·have hte:=nth_in (l:=(nth Q (i:Int)).tl) (i:=(k:Int)) (by omega) (by omega)
   have hin:=hpg.2 _ hte
   have hf:=trk_facts (hpo.trk hte)
   have hT:=k3 k (Nat.le_refl _) hk
   have hnt:=fun t' h=>InvI.next (t':=t') hJ hk h
   rw[←hT] at hte hin hf hnt
   have f1:=hf.gl
   have f2:=hf.dl
   have q3:=clnI_c (u:=(nth T (k:Int)).gv.v) (l:=(nth T (k:Int)).gl) (by omega)
   have q4:=clnI_c (u:=(nth T (k:Int)).dv.v) (l:=(nth T (k:Int)).dl) (by omega)
   refine G.bring (f:=cI) hin.2 (G.bring (f:=cI) hin.1 ?_)
   repeat' (first|(refine nxN ?_)|(show YK _ _ _ _ _ ⟨some 37,.load _ _,_,_,_,_⟩ _;refine YK.ofV (y_loadEl (inst:=inferInstance) (f:=cPg) (l:=Q1) (s:=4) (m:=(i:Int)) (i:=3) (u:=v.v) (by rfl) (by exact rdA) (fun _=>rfl) (by omega) (by rfl) (by rw[hqn];rfl) (by decide +kernel)) ?_)|(show VFrK _ _ _ _ _ ⟨_,.nilCheck _,_,_,_,_⟩ _;refine VFrK.mk (vf_nilEl (f:=cTk) (s:=6) (m:=(k:Int)) (c:=0) (by rfl) (by exact rdA) (fun _=>rfl) (by exact omlA) (by rfl)) ?_)|(show VFrK _ _ _ _ _ ⟨_,.fieldAddr _ _ 1,_,_,_,_⟩ _;refine VFrK.mk (vf_fieldEl (k':=1) (f:=cTk) (s:=6) (m:=(k:Int)) (c:=0) (by rfl) (by exact rdA) (fun _=>rfl) (by exact omlA) (by rfl) (by decide +kernel)) ?_)|(show VFrK _ _ _ _ _ ⟨_,.fieldAddr _ _ 2,_,_,_,_⟩ _;refine VFrK.mk (vf_fieldEl (k':=2) (f:=cTk) (s:=6) (m:=(k:Int)) (c:=0) (by rfl) (by exact rdA) (fun _=>rfl) (by exact omlA) (by rfl) (by decide +kernel)) ?_)|(show RF _ _ _ _ _ _ _ _ (.go 6::_);refine RF.callL (by rfl) q3 trivial (by exact⟨rfl,rfl⟩) (by(repeat(first|exact Pick.nil|(apply Pick.cons;(case a=>(first|exact At.here|exact At.there (At.here)|exact At.there (At.there (At.here))|exact At.there (At.there (At.there (At.here)))|exact At.there (At.there (At.there (At.there (At.here))))|exact At.there (At.there (At.there (At.there (At.there (At.here)))))|exact At.there (At.there (At.there (At.there (At.there (At.there (At.here))))))|exact At.there (At.there (At.there (At.there (At.there (At.there (At.there (At.here)))))))|exact At.there (At.there (At.there (At.there (At.there (At.there (At.there (At.there (At.here))))))))|exact At.there (At.there (At.there (At.there (At.there (At.there (At.there (At.there (At.there (At.here))))))))))))))) (fun _ _ h=>h.sub (.cons _ (List.Sublist.refl _))) ?_ (by decide +kernel) (by rfl);rintro z1 -;dsimp only[List.cons_append,List.nil_append])|(show RF _ _ _ _ _ _ _ _ (.go 11::_);refine RF.callL (by rfl) q4 trivial (by exact⟨rfl,rfl⟩) (by(repeat(first|exact Pick.nil|(apply Pick.cons;(case a=>(first|exact At.here|exact At.there (At.here)|exact At.there (At.there (At.here))|exact At.there (At.there (At.there (At.here)))|exact At.there (At.there (At.there (At.there (At.here))))|exact At.there (At.there (At.there (At.there (At.there (At.here)))))|exact At.there (At.there (At.there (At.there (At.there (At.there (At.here))))))|exact At.there (At.there (At.there (At.there (At.there (At.there (At.there (At.here)))))))|exact At.there (At.there (At.there (At.there (At.there (At.there (At.there (At.there (At.here))))))))|exact At.there (At.there (At.there (At.there (At.there (At.there (At.there (At.there (At.there (At.here))))))))))))))) (fun _ _ h=>h.pk) ?_ (by decide +kernel) (by rfl);rintro z2 -;dsimp only[List.cons_append,List.nil_append])|(show RF _ _ _ _ _ _ _ _ (.go 14::_);refine RF.storeF (f:=cTk) (c:=1) (m:=(k:Int)) ⟨(nth T (k:Int)).nm,z1,(nth T (k:Int)).gl,(nth T (k:Int)).dv,(nth T (k:Int)).dl,(nth T (k:Int)).se,(nth T (k:Int)).pa,(nth T (k:Int)).be⟩ (by rfl) (by rfl) (by rfl) (by rfl) (by exact updA) (by exact omlA) (fun _=>rfl) (by rfl) (by rfl) (by decide +kernel) (by decide +kernel) ?_)|(show RF _ _ _ _ _ _ _ _ (.go 17::_);refine RF.storeF (f:=cTk) (c:=2) (m:=(k:Int)) ⟨(nth T (k:Int)).nm,z1,(nth T (k:Int)).gl,z2,(nth T (k:Int)).dl,(nth T (k:Int)).se,(nth T (k:Int)).pa,(nth T (k:Int)).be⟩ (by rfl) (by rfl) (by rfl) (by rfl) (by exact updA) (by exact omlA) (fun _=>rfl) (by rw[nth_setS (by omega)];rfl) (by rfl) (by decide +kernel) (by decide +kernel) ?_)|(refine G.mixedFH 10 [.go 0,.go 1,.go 2,.go 3,.go 4,.go 5,.go 7,.go 8,.go 9,.go 10,.go 6,.go 11,.go 12,.go 13,.go 14,.go 15,.go 16,.go 17] ?_)|(refine nxRF ?_)|(refine nxVF ?_)|(refine nxV ?_)|(refine nSS ?_)|(refine nS1 fun _=>?_)|(refine nMM ?_)|(refine nM1 fun _=>?_)|(refine nxG ?_)|(refine nxX ?_)|(refine G.cN rfl (fun hc=>?_) (fun hc=>?_)<;>(try first|exact hc.elim|(exfalso;omega))))
   all_goals first
    |(exfalso;omega)
    |(rename_i z1 z2;refine X.again (k+1,T.set ((k:Int)).toNat ⟨(nth T (k:Int)).nm,z1,(nth T (k:Int)).gl,z2,(nth T (k:Int)).dl,(nth T (k:Int)).se,(nth T (k:Int)).pa,(nth T (k:Int)).be⟩,Hl.nw z1.v cI 1 (nth T (k:Int)).gl::Hl.nw z2.v cI 1 (nth T (k:Int)).dl::D1) (hnt _ ⟨rfl,rfl,rfl,rfl,rfl,rfl⟩) (by dsimp only;omega) ⟨rfl,rfl,rfl,rfl,rfl,rfl,trivial⟩ (fun w h=>?_);simp only[List.set_set] at h;exact h.conv)
    |(refine X.again (k+1,T.set ((k:Int)).toNat ⟨(nth T (k:Int)).nm,z1,(nth T (k:Int)).gl,z2,(nth T (k:Int)).dl,(nth T (k:Int)).se,(nth T (k:Int)).pa,(nth T (k:Int)).be⟩,Hl.nw z1.v cI 1 (nth T (k:Int)).gl::Hl.nw z2.v cI 1 (nth T (k:Int)).dl::D1) (hnt _ ⟨rfl,rfl,rfl,rfl,rfl,rfl⟩) (by dsimp only;omega) ⟨rfl,rfl,rfl,rfl,rfl,rfl,trivial⟩ (fun w h=>?_);simp only[List.set_set] at h;exact h.conv)
  ·obtain rfl:k=(nth Q (i:Int)).tl.length:=by omega
   have hz:=hnx T D1 v hJ
   have ez:Hl.rw z.v 32 cPg 4 Q1=Hl.rw z.v 32 cPg 4 (Q.set ((i:Int)).toNat ⟨(nth Q (i:Int)).y,(nth Q (i:Int)).m,(nth Q (i:Int)).d,v,T⟩):=by
    rw[hq1]
    show Hl.row _ _ _ _ _=Hl.row _ _ _ _ _
    rw[List.length_set,List.length_set]
    exact congrArg _ (flat_setC (f:=cPg) Q ((i:Int)).toNat rfl)
   repeat' (first|(refine nxN ?_)|(refine nxV ?_)|(refine nSS ?_)|(refine nS1 fun _=>?_)|(refine nMM ?_)|(refine nM1 fun _=>?_)|(refine nxG ?_)|(refine G.mA 10 [.go 0,.go 1,.go 2,.go 3,.go 4,.go 5,.go 7,.go 8,.go 9,.go 10,.go 6,.go 11,.go 12,.go 13,.go 14,.go 15,.go 16,.go 17] ?_)|(refine nxX ?_)|(refine G.cN rfl (fun hc=>?_) (fun hc=>?_)<;>(try first|exact hc.elim|(exfalso;omega))))
   all_goals first
    |(exfalso;omega)
    |(refine X.again (i+1,_,_) hz (by dsimp only;omega) ⟨rfl,rfl,rfl,trivial⟩ (fun w h=>?_);dsimp only;rw[←ez];exact h.froz.perm (List.Perm.swap _ _ _))
 ·obtain rfl:i=pl.length:=by omega
  repeat' (first|(refine nxN ?_)|(refine nxV ?_)|(refine nSS ?_)|(refine nS1 fun _=>?_)|(refine nMM ?_)|(refine nM1 fun _=>?_)|(refine nxG ?_)|(refine G.mA 10 [.go 0,.go 1,.go 2,.go 3,.go 4,.go 5,.go 7,.go 8,.go 9,.go 10,.go 6,.go 11,.go 12,.go 13,.go 14,.go 15,.go 16,.go 17] ?_)|(refine nxX ?_)|(refine G.cN rfl (fun hc=>?_) (fun hc=>?_)<;>(try first|exact hc.elim|(exfalso;omega))))
  all_goals first
   |(exfalso;omega)
   |exact X.ret (vs:=[_]) rfl ⟨rfl,rfl⟩ rfl (fun w1 h=>⟨(z,Q),rfl,h.ext,hI.done h⟩)
end
theorem fit_of {p:PagT} (h:okPg p):fitT p.tl:=fun x hx=>by
 have hf:=trk_facts (h.trk hx)
 have:=hf.nm;have:=hf.gl;have:=hf.dl
 omega
theorem nv1_c {p:PagT} (h:okPg p):ContIn Tryz.prog (PgP p.tv.v p.tl) 27 [pagV p] (.bool false):=fun w hw0=>by
 have q1:=pvalid_c (y:=p.y) (m:=p.m) (d:=p.d) (v:=p.tv.v) (l:=p.tl) fun _=>fit_of h
 rw[h.2] at q1
 refine enter0 Tryz.func27 rfl rfl rfl ?_
 repeat' (first|(refine nxN ?_)|(show YK _ _ _ _ _ ⟨_,.call { callee:=.value (.func 28),args:=_,argTypes:=_ },_,_,_,_⟩ _;refine YK.mk (zcI (q1) (fun w' hw'=>hw0.keep hw'.ext) ⟨rfl,rfl⟩ (by decide +kernel)) ?_)|(show YG _ _ _ _ _ _ ⟨_,.call { callee:=.value (.func 28),args:=_,argTypes:=_ },_,_,_,_⟩ _;refine YG.mk (fun hb=>by(try(have hc:=And.left hb;have hb:=And.right hb;rw[hc]));(try rw[hb]);exact zcI (q1) (fun w' hw'=>hw0.keep hw'.ext) ⟨rfl,rfl⟩ (by decide +kernel)) ?_)|(refine nxV ?_)|(refine nSS ?_)|(refine nS1 fun _=>?_)|(refine nMM ?_)|(refine nM1 fun _=>?_)|(refine nxG ?_)|(refine nxX ?_)|(refine G.cN rfl (fun hc=>?_) (fun hc=>?_)<;>(try first|exact hc.elim|(exfalso;omega))))
 all_goals first
  |(exfalso;simp at hc;done)
  |exact X.ret1
theorem nixp_c {u:Value} {pl:List PagT} (h4:pl.length≤4) (hok:∀p∈pl,okPg p):ContIn Tryz.prog (PgsP u pl) 74 [u,.func (.func 27) #[] #[]] (.int .i64 (-1)):=fun w hw0=>by
 refine enter Tryz.func74 rfl rfl rfl (Hp:=[Hl.rd u cPg 4 pl]) (fun h hm=>by
  rcases List.mem_singleton.1 hm with rfl
  exact⟨⟨hw0.1,fun h=>by cases h⟩,rfl⟩) ?_
 repeat' (first|(refine nxN ?_)|(refine nxV ?_)|(refine nSS ?_)|(refine nS1 fun _=>?_)|(refine nMM ?_)|(refine nM1 fun _=>?_)|(refine nxG ?_)|(refine nxX ?_)|(refine G.cN rfl (fun hc=>?_) (fun hc=>?_)<;>(try first|exact hc.elim|(exfalso;omega))))
 refine G.loop (ι:=Nat) (fun i=>[(0,u),(1,.func (.func 27) #[] #[]),(7,.int .i64 pl.length),(8,.int .i64 (i:Int))]) (fun _=>[Hl.rd u cPg 4 pl]) (fun i=>i≤pl.length) (fun i=>pl.length-i) 0 (by omega) ⟨rfl,rfl,rfl,rfl,trivial⟩ (fun w h=>h) ?_
 rintro i mx g1 hmx
 rcases Nat.lt_or_ge i pl.length with hi|hi
 ·have q1:ContIn Tryz.prog (PgP (nth pl (i:Int)).tv.v (nth pl (i:Int)).tl) 27 ([pagV (nth pl (i:Int))]++(#[]:Array Value).toList) (.bool false):=nv1_c (hok _ (nth_in (l:=pl) (i:=(i:Int)) (by omega) (by omega)))
  have hpg:=InP.at hw0.2 hi
  repeat' (first|(refine nxN ?_)|(show YK _ _ _ _ _ ⟨_,.call { callee:=.value _,args:=_,argTypes:=_ },_,_,_,_⟩ _;refine YK.mk (y_callV (f:=27) (by rfl) q1 (fun w hw=>hpg.keep hw.ext) ⟨rfl,rfl⟩ (by decide +kernel)) ?_)|(refine nxV ?_)|(refine nSS ?_)|(refine nS1 fun _=>?_)|(refine nMM ?_)|(refine nM1 fun _=>?_)|(refine nxG ?_)|(refine nxX ?_)|(refine G.cN rfl (fun hc=>?_) (fun hc=>?_)<;>(try first|exact hc.elim|(exfalso;omega))))
  all_goals first
   |(exfalso;omega)
   |(refine X.again (i+1) (by omega) (by omega) ⟨rfl,rfl,rfl,rfl,trivial⟩ (by exact fun w h=>h.sub subS);done)
 ·repeat' (first|(refine nxN ?_)|(refine nxV ?_)|(refine nSS ?_)|(refine nS1 fun _=>?_)|(refine nMM ?_)|(refine nM1 fun _=>?_)|(refine nxG ?_)|(refine nxX ?_)|(refine G.cN rfl (fun hc=>?_) (fun hc=>?_)<;>(try first|exact hc.elim|(exfalso;omega))))
  all_goals first
   |(exfalso;omega)
   |exact X.ret1
theorem ncfp_c {u:Value} {pl:List PagT} (h4:pl.length≤4) (hok:∀p∈pl,okPg p):ContIn Tryz.prog (PgsP u pl) 26 [u,.func (.func 27) #[] #[]] (.bool false):=fun w hw0=>by
 have q1:=nixp_c (u:=u) h4 hok
 refine enter0 Tryz.func26 rfl rfl rfl ?_
 repeat' (first|(refine nxN ?_)|(show YK _ _ _ _ _ ⟨_,.call { callee:=.value (.func 74),args:=_,argTypes:=_ },_,_,_,_⟩ _;refine YK.mk (zcI (q1) (fun w' hw'=>hw0.keep hw'.ext) ⟨rfl,rfl,rfl⟩ (by decide +kernel)) ?_)|(show YG _ _ _ _ _ _ ⟨_,.call { callee:=.value (.func 74),args:=_,argTypes:=_ },_,_,_,_⟩ _;refine YG.mk (fun hb=>by(try(have hc:=And.left hb;have hb:=And.right hb;rw[hc]));(try rw[hb]);exact zcI (q1) (fun w' hw'=>hw0.keep hw'.ext) ⟨rfl,rfl,rfl⟩ (by decide +kernel)) ?_)|(refine nxV ?_)|(refine nSS ?_)|(refine nS1 fun _=>?_)|(refine nMM ?_)|(refine nM1 fun _=>?_)|(refine nxG ?_)|(refine nxX ?_)|(refine G.cN rfl (fun hc=>?_) (fun hc=>?_)<;>(try first|exact hc.elim|(exfalso;omega))))
 all_goals first
  |(exfalso;simp at hc;done)
  |exact X.ret1
theorem ncat_c:Cont Tryz.prog 29 [.slice none 0 0] (.bool true):=fun w=>by
 refine enter0 Tryz.func29 rfl rfl rfl ?_
 repeat' (first|(refine nxN ?_)|(show G _ _ _ _ _ _ (.loop _);refine G.loopN 1 (GR.step ?_))|(show X (Exit.then (Code.rounds _ _ _ _) _) _ _ _ _ .normal;refine X.round (GR.step ?_))|(show VK _ _ _ _ _ ⟨_,.call { callee:=.builtin .len,args:=_,argTypes:=#[78] },_,_,_,_⟩ _;refine VK.mk (y_lenV (by rfl) (by decide +kernel)) ?_)|(show YK _ _ _ _ _ ⟨_,.call { callee:=.builtin .len,args:=_,argTypes:=#[78] },_,_,_,_⟩ _;refine YK.ofV (y_lenV (by rfl) (by decide +kernel)) ?_)|(show VG _ _ _ _ _ _ ⟨_,.call { callee:=.builtin .len,args:=_,argTypes:=#[78] },_,_,_,_⟩ _;refine VG.mk (fun hb=>by(try(have hc:=And.left hb;have hb:=And.right hb;rw[hc]));(try rw[hb]);exact y_lenV (by rfl) (by decide +kernel)) ?_)|(show YG _ _ _ _ _ _ ⟨_,.call { callee:=.builtin .len,args:=_,argTypes:=#[78] },_,_,_,_⟩ _;refine YG.mk (fun hb=>by(try(have hc:=And.left hb;have hb:=And.right hb;rw[hc]));(try rw[hb]);exact V.y (y_lenV (by rfl) (by decide +kernel))) ?_)|(refine nxV ?_)|(refine nSS ?_)|(refine nS1 fun _=>?_)|(refine nMM ?_)|(refine nM1 fun _=>?_)|(refine nxG ?_)|(refine nxX ?_)|(refine G.cN rfl (fun hc=>?_) (fun hc=>?_)<;>(try first|exact hc.elim|(exfalso;omega))))
 all_goals first
  |(exfalso;omega)
  |exact X.ret1
theorem ncls_c:Cont Tryz.prog 31 [.slice none 0 0] (.slice none 0 0):=fun w=>by
 refine enter0 Tryz.func31 rfl rfl rfl ?_
 repeat' (first|(refine nxN ?_)|(show YK _ _ _ _ _ ⟨_,.binOp .eql _ _ _ _,_,_,_,_⟩ _;refine YK.ofV (y_isNil (f:=cI) (s:=1) (l:=[]) (by rfl) RdT.nil (by decide +kernel)) ?_)|(refine nxV ?_)|(refine nSS ?_)|(refine nS1 fun _=>?_)|(refine nMM ?_)|(refine nM1 fun _=>?_)|(refine nxG ?_)|(refine nxX ?_)|(refine G.cN rfl (fun hc=>?_) (fun hc=>?_)<;>(try first|exact hc.elim|(exfalso;omega))))
 all_goals first
  |exact X.ret1
  |exact absurd hc (by simp[nilB])
theorem ncfs_c {fv:Value} : Cont Tryz.prog 35 [.slice none 0 0,fv] (.bool false):=fun w=>by
 have q1:=nst_c (fv:=fv)
 refine enter0 Tryz.func35 rfl rfl rfl ?_
 repeat' (first|(refine nxN ?_)|(show YK _ _ _ _ _ _ _;first|refine YK.mk (zcA (q1) ⟨rfl,rfl,rfl⟩) ?_)|(refine nxV ?_)|(refine nSS ?_)|(refine nS1 fun _=>?_)|(refine nMM ?_)|(refine nM1 fun _=>?_)|(show YG _ _ _ _ _ _ _ _;refine YG.mk (fun hb=>by(try(have hc:=And.left hb;have hb:=And.right hb;rw[hc]));(try rw[hb]);first|exact(zcA (q1) ⟨rfl,rfl,rfl⟩)|exact V.y vAuto) ?_)|(refine nxG ?_)|(refine nxX ?_)|(refine G.cN rfl (fun hc=>?_) (fun hc=>?_)<;>(try first|exact hc.elim|(exfalso;omega))))
 all_goals first
  |(exfalso;simp at hc;done)
  |exact X.ret1
/-! ### Copies are as good -/
theorem SamT.ok {t t':TrkT} (h:SamT t t'):okT t'=okT t:=by
 unfold okT
 rw[h.nm,h.gl,h.dl,h.se,h.pa,h.be]
theorem SamP.ok {p p':PagT} (h:SamP p p') (ho:okPg p):okPg p':=by
 refine⟨by rw[h.len];exact ho.1,?_⟩
 have e:pageB p'.y p'.m p'.d p'.tl=pageB p.y p.m p.d p.tl:=by
  unfold pageB tracksOk
  rw[h.y,h.m,h.d,h.len]
  have hnm:p'.tl.map TrkT.nm=p.tl.map TrkT.nm:=by
   apply List.ext_getElem
   ·simp[h.len]
   ·intro i h1 h2
    simp only[List.length_map] at h1 h2
    rw[List.getElem_map,List.getElem_map]
    have g:=(h.tr i h2).nm
    have e1:=nth_some (l:=p.tl) (m:=(i:Int)) (by omega) (by omega)
    have e2:=nth_some (l:=p'.tl) (m:=(i:Int)) (by omega) (by omega)
    rw[Int.toNat_natCast,List.getElem?_eq_getElem h2] at e1
    rw[Int.toNat_natCast,List.getElem?_eq_getElem h1] at e2
    rw[Option.some.inj e1,Option.some.inj e2]
    exact g
  have hall:(List.range p.tl.length).all (trkOk p'.tl)=(List.range p.tl.length).all (trkOk p.tl):=by
   rw[Bool.eq_iff_iff,List.all_eq_true,List.all_eq_true]
   have key:∀i∈List.range p.tl.length,trkOk p'.tl i=trkOk p.tl i:=fun i hi=>by
    have hs:=h.tr i (List.mem_range.1 hi)
    unfold trkOk nmsL
    rw[hs.ok,hs.nm,List.map_take,hnm,←List.map_take]
   exact⟨fun g i hi=>by rw[←key i hi];exact g i hi,fun g i hi=>by rw[key i hi];exact g i hi⟩
  rw[hall]
 rw[e]
 exact ho.2
theorem SamP.num {p p':PagT} (h:SamP p p'):pnum p'=pnum p:=by unfold pnum;rw[h.y,h.m,h.d]
theorem SamL.nums {pl pl':List PagT} (h:SamL pl pl'):pl'.map pnum=pl.map pnum:=by
 apply List.ext_getElem
 ·simp[h.len]
 ·intro i h1 h2
  simp only[List.length_map] at h1 h2
  rw[List.getElem_map,List.getElem_map]
  have g:=(h.pg i h2).num
  have e1:=nth_some (l:=pl) (m:=(i:Int)) (by omega) (by omega)
  have e2:=nth_some (l:=pl') (m:=(i:Int)) (by omega) (by omega)
  rw[Int.toNat_natCast,List.getElem?_eq_getElem h2] at e1
  rw[Int.toNat_natCast,List.getElem?_eq_getElem h1] at e2
  rw[Option.some.inj e1,Option.some.inj e2]
  exact g
theorem SamL.ok {pl pl':List PagT} (h:SamL pl pl') (h4:pl.length≤4) (hok:∀p∈pl,okPg p) (hup:∀j:Nat,j+1<pl.length→pnum (nth pl (j:Int))<pnum (nth pl ((j+1:Nat):Int))):BkOk pl':=by
 have hup2:∀i j:Nat,i<j→j<pl.length→pnum (nth pl (i:Int))<pnum (nth pl (j:Int)):=by
  intro i j hij
  induction j with
  |zero=>omega
  |succ j ih =>
   intro hj
   have g:=hup j hj
   rcases Nat.lt_or_ge i j with e|e
   ·have:=ih e (by omega)
    omega
   ·obtain rfl:i=j:=by omega
    exact g
 refine⟨by rw[h.len];exact h4,fun p hp=>?_,fun i j hij hj=>?_⟩
 ·obtain⟨i,hi,rfl⟩:=List.getElem_of_mem hp
  have e2:=nth_some (l:=pl') (m:=(i:Int)) (by omega) (by omega)
  rw[Int.toNat_natCast,List.getElem?_eq_getElem hi] at e2
  rw[Option.some.inj e2]
  rw[h.len] at hi
  exact(h.pg i hi).ok (hok _ (nth_in (by omega) (by omega)))
 ·rw[h.len] at hj
  rw[(h.pg i (by omega)).num,(h.pg j hj).num]
  exact hup2 i j hij hj
/-! ### New -/
abbrev BkI:=Int×Option (Nat×Sl×Sl×List PagT)
def bkP (x:Option (Nat×Sl×Sl×List PagT)):Value:=match x with|none=>.pointer none|some y=>ptB y.1
def NewP (z:BkI) (w:World):Prop:=match z.2 with
 |none=>z.1=17∨z.1=10
 |some y=>z.1=0∧BkW y.1 y.2.1 y.2.2.1 y.2.2.2 w∧BkOk y.2.2.2
theorem boxN_of {w0 w:World} {H:List Hl} {b s:Nat} {t:TypeId} {cs:List Value} (hw:St w0 H w) (hm:Hl.blk b t cs∈H) (hl:cs.length=s):RO w (boxS b) s 1 cs:=by
 refine⟨by omega,some ⟨b,0,none⟩,1,rfl,Nat.le_refl _,fun _=>⟨_,rfl,fun j u hu=>?_⟩,fun g=>by cases g⟩
 have hadd:(⟨b,0,none⟩:Addr).add j=⟨b,j,none⟩:=by unfold Addr.add;split<;>simp_all
 rw[hadd]
 exact(hw.cell hm j).trans hu
theorem RS.bring {P:Program} {n:Nat} {L:FL} {w0:World} {H:List Hl} {Q:Exit→Act→World→Prop} {ops:Array Oper} {rest:List Oper} {α:Type} {f:α→List Value} {v:Value} {s:Nat} {l:List α} (hr:RO w0 v s l.length (l.flatMap f)) (h:RS P ops Q n L w0 (Hl.rd v f s l::H) rest):RS P ops Q n L w0 H rest:=by
 unfold RS at h ⊢
 exact fun a w ha hw=>h a w ha (hw.bring hr)
section
variable {u:Value} {pl:List PagT}
theorem nnew_c (h4:pl.length≤4) (hok:∀p∈pl,okPg p):ContN Tryz.prog (PgsP u pl) 7 [u,.slice none 0 0] NewP (fun z=>.tuple [bkP z.2,.int .i64 z.1].toArray):=fun w hw0=>by
 have q1:=ncfp_c (u:=u) h4 hok
 have q2:=ncat_c
 have q3:=ncop_c (u:=u) h4 hok
 have q4:=ncls_c
 refine enter Tryz.func7 rfl rfl rfl (Hp:=[Hl.rd u cPg 4 pl]) (fun h hm=>by
  rcases List.mem_singleton.1 hm with rfl
  exact⟨⟨hw0.1,fun h=>by cases h⟩,rfl⟩) ?_
 repeat' (first|(refine nxN ?_)|(show YK _ _ _ _ _ ⟨_,.call { callee:=.value (.func 26),args:=_,argTypes:=_ },_,_,_,_⟩ _;refine YK.mk (zcI (q1) (fun w' hw'=>hw0.keep hw'.ext) ⟨rfl,rfl,rfl⟩ (by decide +kernel)) ?_)|(show YG _ _ _ _ _ _ ⟨_,.call { callee:=.value (.func 26),args:=_,argTypes:=_ },_,_,_,_⟩ _;refine YG.mk (fun hb=>by(try(have hc:=And.left hb;have hb:=And.right hb;rw[hc]));(try rw[hb]);exact zcI (q1) (fun w' hw'=>hw0.keep hw'.ext) ⟨rfl,rfl,rfl⟩ (by decide +kernel)) ?_)|(show RS _ _ _ _ _ _ _ (⟨some 23,.call _,_,_,_,_⟩::_);refine RS.callN q3 (fun w' hw'=>hw0.keep hw'.ext) ⟨rfl,rfl⟩ ?_ (by decide +kernel) (by rfl);rintro⟨z,pl'⟩ w1 hbe ⟨hz1,hz2⟩;dsimp only at hz1 hz2 ⊢;refine RS.bring (f:=cPg) (hw0.1.stay hbe) ?_)|(show YK _ _ _ _ _ _ _;first|refine YK.mk (zcA (q2) ⟨rfl,rfl⟩) ?_|refine YK.mk (zcA (q4) ⟨rfl,rfl⟩) ?_)|(refine nxV ?_)|(refine nSS ?_)|(refine nS1 fun _=>?_)|(refine nMM ?_)|(refine nM1 fun _=>?_)|(show YG _ _ _ _ _ _ _ _;refine YG.mk (fun hb=>by(try(have hc:=And.left hb;have hb:=And.right hb;rw[hc]));(try rw[hb]);first|exact(zcA (q2) ⟨rfl,rfl⟩)|exact(zcA (q4) ⟨rfl,rfl⟩)|exact V.y vAuto) ?_)|(refine nxG ?_)|(refine nxX ?_)|(refine G.cN rfl (fun hc=>?_) (fun hc=>?_)<;>(try first|exact hc.elim|(exfalso;omega))))
 rename_i b6
 refine G.loop (ι:=Sl×Nat) (fun y=>[(1,.slice none 0 0),(6,ptB b6),(28,u),(29,.int .i64 pl.length),(30,.int .i64 (y.2:Int))]) (fun y=>[Hl.rw y.1.v 3 cI 1 ((pl.take y.2).map pnum),Hl.blk b6 86 [y.1.v,z.v,.slice none 0 0],Hl.rd u cPg 4 pl]) (fun y=>y.2≤pl.length∧∀j:Nat,j+1<y.2→pnum (nth pl (j:Int))<pnum (nth pl ((j+1:Nat):Int))) (fun y=>pl.length-y.2) (⟨none,0,0⟩,0) ⟨by dsimp only;omega,fun j hj=>by dsimp only at hj;omega⟩ ⟨rfl,rfl,rfl,rfl,rfl,trivial⟩ (fun w h=>h.nilRow 3 cI 1) ?_
 rintro⟨dv,i⟩ mx ⟨g1,g2⟩ hmx
 dsimp only at g1 g2 hmx ⊢
 rcases Nat.lt_or_ge i pl.length with hi|hi
 ·have hpe:=nth_in (l:=pl) (i:=(i:Int)) (by omega) (by omega)
  have hpo:=hok _ hpe
  have q5:Cont Tryz.prog 32 [dateV (nth pl (i:Int)).y (nth pl (i:Int)).m (nth pl (i:Int)).d] (e2 (.int .i64 (pnum (nth pl (i:Int)))) 0):=Number_t hpo.num.1
  have hD1:((pl.take i).map pnum).length=i:=by rw[List.length_map,List.length_take];omega
  have hD2:(pl.take (i+1)).map pnum=(pl.take i).map pnum++[pnum (nth pl (i:Int))]:=by
   have e:=nth_some (l:=pl) (m:=(i:Int)) (by omega) (by omega)
   rw[Int.toNat_natCast] at e
   rw[List.take_add_one,e,List.map_append]
   rfl
  have hD3:0<i→nth ((pl.take i).map pnum) ((i:Int)-1)=pnum (nth pl ((i-1:Nat):Int)):=fun h=>by
   have e:=nth_some (l:=(pl.take i).map pnum) (m:=(i:Int)-1) (by omega) (by omega)
   have e2:=nth_some (l:=pl) (m:=((i-1:Nat):Int)) (by omega) (by omega)
   rw[show ((i:Int)-1).toNat=i-1 by omega,List.getElem?_map,List.getElem?_take_of_lt (by omega)] at e
   rw[Int.toNat_natCast] at e2
   rw[e2] at e
   exact(Option.some.inj e).symm
  generalize (pl.take i).map pnum=D at *
  repeat' (first|(refine nxN ?_)|(show VK _ _ _ _ _ ⟨_,.load 29 _,_,_,_,_⟩ _;refine VK.mk (zlP (k:=3) (by rfl) (by exact memA) (by decide +kernel) (by rfl)) ?_)|(show YK _ _ _ _ _ ⟨_,.load 29 _,_,_,_,_⟩ _;refine YK.ofV (zlP (k:=3) (by rfl) (by exact memA) (by decide +kernel) (by rfl)) ?_)|(show VG _ _ _ _ _ _ ⟨_,.load 29 _,_,_,_,_⟩ _;refine VG.mk (fun hb=>by(try(have hc:=And.left hb;have hb:=And.right hb;rw[hc]));(try rw[hb]);exact zlP (k:=3) (by rfl) (by exact memA) (by decide +kernel) (by rfl)) ?_)|(show YG _ _ _ _ _ _ ⟨_,.load 29 _,_,_,_,_⟩ _;refine YG.mk (fun hb=>by(try(have hc:=And.left hb;have hb:=And.right hb;rw[hc]));(try rw[hb]);exact V.y (zlP (k:=3) (by rfl) (by exact memA) (by decide +kernel) (by rfl))) ?_)|(show RS _ _ _ _ ((45,.bool (decide _))::_) _ _ _;refine RS.splB 45 rfl (fun hq=>?_) (fun hq=>?_)<;>have hq:=of_decide_eq_true hq)|(show RS _ _ _ _ _ _ _ (⟨some 64,.buildSlice 73 1 _,_,_,_,_⟩::_);refine RS.lit1I (m:=pnum (nth pl (i:Int))) (fun v'=>?_))|(show YK _ _ _ _ _ _ _;first|refine YK.mk (zcA (q5) ⟨rfl,rfl⟩) ?_)|(refine nxV ?_)|(refine nSS ?_)|(refine nS1 fun _=>?_)|(refine nMM ?_)|(refine nM1 fun _=>?_)|(show YG _ _ _ _ _ _ _ _;refine YG.mk (fun hb=>by(try(have hc:=And.left hb;have hb:=And.right hb;rw[hc]));(try rw[hb]);first|exact(zcA (q5) ⟨rfl,rfl⟩)|exact V.y vAuto) ?_)|(refine nxG ?_)|(refine nxX ?_)|(refine G.cN rfl (fun hc=>?_) (fun hc=>?_)<;>(try first|exact hc.elim|(exfalso;omega))))
  all_goals first
   |exact X.ret (vs:=[_,_]) rfl ⟨rfl,rfl,rfl⟩ rfl (fun w' h=>⟨(17,none),rfl,hbe.trans (h.ext.mono hbe.size),.inl rfl⟩)
   |(rename_i z1
     refine X.again (z1,i+1) ⟨by dsimp only;omega,fun j hj=>?_⟩ (by dsimp only;omega) ⟨rfl,rfl,rfl,rfl,rfl,trivial⟩ (by dsimp only;rw[hD2];exact fun w h=>h.sub subS)
     dsimp only at hj
     rcases Nat.lt_or_ge (j+1) i with e|e
     ·exact g2 j e
     ·obtain rfl:i=j+1:=by omega
      have g:=hD3 (by omega)
      rw[show ((j+1-1:Nat):Int)=(j:Int) by omega] at g
      omega)
 ·obtain rfl:i=pl.length:=by omega
  rw[List.take_length]
  have hD:pl.map pnum=pl'.map pnum:=hz2.nums.symm
  have hB:=hz2.ok h4 hok fun j hj=>g2 j hj
  have hbw:∀w',St w1 [Hl.rw dv.v 3 cI 1 (pl.map pnum),Hl.blk b6 86 [dv.v,z.v,.slice none 0 0],Hl.rd u cPg 4 pl] w'→BkW b6 dv z pl' w':=fun w' h=>⟨boxN_of h (List.mem_cons_of_mem _ List.mem_cons_self) rfl,by
   have g:=RO.of_row (h.all (Hl.rw dv.v 3 cI 1 (pl.map pnum)) List.mem_cons_self)
   rw[hD] at g
   rwa [List.length_map] at g,hz1.keep h.ext⟩
  have q5:=ntrk_c (b:=b6) (dv:=dv) (pv:=z) (pl:=pl') ⟨hB.len,fun p hp=>(hB.ok p hp).1⟩
  have q6:=fun(z:Sl) (l:List (List UInt8)) (h:l.length≤1000000)=>nin_c z.v l ariesN h
  have q7:=fun fv=>ncfs_c (fv:=fv)
  repeat' (first|(show YK _ _ _ _ _ ⟨_,.call { callee:=.builtin .len,args:=_,argTypes:=#[9] },_,_,_,_⟩ _;refine YK.ofV (y_lenS (by rfl) StrTy.is) ?_)|(show VK _ _ _ _ _ ⟨_,.call { callee:=.builtin .len,args:=_,argTypes:=#[9] },_,_,_,_⟩ _;refine VK.mk (y_lenS (by rfl) StrTy.is) ?_)|(show YG _ _ _ _ _ _ ⟨_,.call { callee:=.builtin .len,args:=_,argTypes:=#[9] },_,_,_,_⟩ _;refine YG.mk (fun hb=>by(try(have hc:=And.left hb;have hb:=And.right hb;rw[hc]));(try rw[hb]);exact V.y (y_lenS (by rfl) StrTy.is)) ?_)|(show VG _ _ _ _ _ _ ⟨_,.call { callee:=.builtin .len,args:=_,argTypes:=#[9] },_,_,_,_⟩ _;refine VG.mk (fun hb=>by(try(have hc:=And.left hb;have hb:=And.right hb;rw[hc]));(try rw[hb]);exact y_lenS (by rfl) StrTy.is) ?_)|(refine nxN ?_)|(show RS _ _ _ _ _ _ _ (⟨some 70,.call _,_,_,_,_⟩::_);refine RS.callXI q5 hbw ⟨rfl,rfl⟩ ?_ (by decide +kernel) (by rfl);rintro y ⟨hy1,hy2⟩;dsimp only[List.cons_append,List.nil_append])|(show YK _ _ _ _ _ _ _;first|refine YK.mk (zcR (q6 _ _ hy2) ⟨rfl,rfl,rfl⟩) ?_|refine YK.mk (zcA (q7 _) ⟨rfl,rfl,rfl⟩) ?_)|(refine nxV ?_)|(refine nSS ?_)|(refine nS1 fun _=>?_)|(refine nMM ?_)|(refine nM1 fun _=>?_)|(show YG _ _ _ _ _ _ _ _;refine YG.mk (fun hb=>by(try(have hc:=And.left hb;have hb:=And.right hb;rw[hc]));(try rw[hb]);first|exact(zcR (q6 _ _ hy2) ⟨rfl,rfl,rfl⟩)|exact(zcA (q7 _) ⟨rfl,rfl,rfl⟩)|exact V.y vAuto) ?_)|(refine nxG ?_)|(refine nxVS ?_)|(refine nxGS ?_)|(refine nxX ?_)|(refine G.cN rfl (fun hc=>?_) (fun hc=>?_)<;>(try first|exact hc.elim|(exfalso;omega))))
  all_goals first
   |exact X.ret (vs:=[_,_]) rfl ⟨rfl,rfl,rfl⟩ rfl (fun w' h=>⟨(10,none),rfl,hbe.trans (h.ext.mono hbe.size),.inr rfl⟩)
   |exact X.ret (vs:=[_,_]) rfl ⟨rfl,rfl,rfl⟩ rfl (fun w' h=>⟨(0,some (b6,dv,z,pl')),rfl,hbe.trans (h.ext.mono hbe.size),rfl,hbw w' (h.sub (.cons _ (.cons _ (List.Sublist.refl _)))),hB⟩)
end
end Go.Proofs.YtjmdeplmenbmmaaGreat
