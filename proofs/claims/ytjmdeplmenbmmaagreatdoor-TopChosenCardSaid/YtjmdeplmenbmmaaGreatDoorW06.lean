/- Joined texts: Cov, Yq, Tid, Rnd. -/
import Derived.Test.YtjmdeplmenbmmaaGreatDoorW05
import Derived.Test.YtjmdeplmenbmmaaGreatDoorW03
import Derived.LoopN
set_option linter.unusedVariables false
set_option maxHeartbeats 8000000
namespace Go.Proofs.YtjmdeplmenbmmaaGreatDoor
open Go.RowKit
instance:Inhabited RR.CellT:=⟨⟨0,0,0⟩⟩
def cT (x:RR.CellT):List Value:=[.int .i64 (x.lv:Int),.int .i64 (x.r:Int),.int .i64 (x.c:Int)]
section
variable {P:Program} {ops:Array Oper} {Q:Exit→Act→World→Prop} {n:Nat} {L:FL} {w0:World} {H:List Hl} {dd:Tmp} {ty:TypeId} {pos:String} {af:Array Edge} {t e:TypeId} {bytes:Nat} {x:Operand} {rest:List Oper}
theorem RS.lit1P {a:Nat×Nat} (h:∀v':Sl,RS P ops Q n ((dd,v'.v)::L) w0 (Hl.rw v'.v e cN2 2 [a]::H) rest) (hx:evO L x=some (spnV a.1 a.2)) [ht:RowTy P t e 2 bytes] (hd:Nat.blt dd n=true:=by rfl):RS P ops Q n L w0 H (⟨some dd,.buildSlice t 1 #[(0,x)],ty,pos,af,none⟩::rest) :=
 RS.actX rfl (x_litS (parts:=[(0,x)]) (vs:=[spnV a.1 a.2]) (cs:=cN2 a) (f:=cN2) (l:=[a]) ⟨hx,rfl⟩ rfl rfl rfl rfl (fun zs hz=>by
  match zs,hz with
  |[_,_],_=>rfl) rfl rfl rfl (rowTy_B ht.is) hd) fun v' _=>h v'
theorem RS.lit1T {a:RR.CellT} (h:∀v':Sl,RS P ops Q n ((dd,v'.v)::L) w0 (Hl.rw v'.v e cT 3 [a]::H) rest) (hx:evO L x=some (celV a.lv a.r a.c)) [ht:RowTy P t e 3 bytes] (hd:Nat.blt dd n=true:=by rfl):RS P ops Q n L w0 H (⟨some dd,.buildSlice t 1 #[(0,x)],ty,pos,af,none⟩::rest) :=
 RS.actX rfl (x_litS (parts:=[(0,x)]) (vs:=[celV a.lv a.r a.c]) (cs:=cT a) (f:=cT) (l:=[a]) ⟨hx,rfl⟩ rfl rfl rfl rfl (fun zs hz=>by
  match zs,hz with
  |[_,_,_],_=>rfl) rfl rfl rfl (rowTy_B ht.is) hd) fun v' _=>h v'
end
theorem RF.storeP {P:Program} {n:Nat} {L:FL} {w0:World} {H HS H':List Hl} {Q:Exit→Act→World→Prop} {ops:Array Oper} {ord:List Mv} {i:Nat} {ty:TypeId} {pos:String} {af:Array Edge} {x y:Operand} {t e:TypeId} {ls:List (Nat×Nat)} {b:Nat×Nat} {v u:Value} {m:Int} (ho:ops[i]?=some ⟨none,.store t x y,ty,pos,af,none⟩) (hx:evO L x=some (elA v 2 m 1)) (hy:evO L y=some u) (hu1:u.oneCell'=true) (hu:Upd (Hl.rw v e cN2 2 ls) (Hl.rw v e cN2 2 (ls.set m.toNat b)) H H') (hm:0≤m∧m<ls.length) (hb:(cN2 (nth ls m)).set 1 u=cN2 b) (hs:scalarB P t=true) (hl:lateF .any ops i=true) (h:RF P ops Q HS n L w0 H' ord) :
  RF P ops Q HS n L w0 H (.go i::ord):=RF.act h ho rfl rfl (x_storeEl (f:=cN2) (b:=b) hx hy hu1 hu hm (fun _=>rfl) hb rfl hs) hl
theorem vf_fieldEl {P:Program} {n:Nat} {L:FL} {w0:World} {H:List Hl} {d:Tmp} {ty:TypeId} {pos:String} {af:Array Edge} {gd:Option (Nat×Bool)} {x:Operand} {t:TypeId} {α:Type} {f:α→List Value} {s:Nat} {l:List α} {v:Value} {m:Int} {i fl k':Nat} (hx:evO L x=some (elA v s m i)) (h:RdT H v f s l) (hf:∀a,(f a).length=s) (hm:0≤m∧m<l.length) (hs:Nat.blt 0 s=true) (hfo:fieldAt P t fl i=some k') :
  VFr P n L w0 H ⟨some d,.fieldAddr t x fl,ty,pos,af,gd⟩ (elA v s m k'):=fun w hw a w' ha=>by
 obtain⟨hl,A,c,rfl,_,hc,_⟩:=h _ _ hw
 have hs':0<s:=by simpa [Nat.blt_eq] using hs
 obtain⟨ad,rfl,_⟩:=hc (flat_ne hf hs' hm)
 unfold fieldAt fieldOff at hfo
 cases hu:P.underlying t with
 |none=>simp[hu] at hfo
 |some dsc =>
  cases dsc<;>simp only[hu,Option.map_none,reduceCtorEq] at hfo
  rename_i fs
  cases hfs:fs[fl]? with
  |none=>simp[hfs] at hfo
  |some fld =>
   simp only[hfs] at hfo
   cases hi:P.info? fld.type with
   |none=>simp[hi] at hfo
   |some inf =>
    simp only[hi] at hfo
    split at hfo
    ·cases hfo
    ·rename_i hsz
     simp only[Option.map_some,Option.some.injEq] at hfo
     subst hfo
     simp[execOp,ha.eval hx,elA,Instr.fieldAt,Instr.sureAddr,run_underlying hu,hfs,fieldPlace,sizeOf,typeInfo,hi,hsz,add_add,Nat.add_assoc]
theorem nth_get {α:Type} [Inhabited α] {l:List α} {i:Nat} (h:i<l.length):nth l (i:Int)=l[i]:=nth_mem h
theorem mergeS_nth {out:List (Nat×Nat)} (h:0<out.length) (s:Nat×Nat):RR.mergeS out s=if s.1≤(nth out ((out.length:Int)-1)).2 then out.set ((out.length:Int)-1).toNat ((nth out ((out.length:Int)-1)).1,max (nth out ((out.length:Int)-1)).2 s.2) else out++[s]:=by
 rcases List.eq_nil_or_concat out with rfl|⟨p,l,rfl⟩
 ·simp at h
 ·rw[List.concat_eq_append] at h ⊢
  have e1:(((p++[l]).length:Int)-1)=(p.length:Int):=by simp
  have e2:nth (p++[l]) (p.length:Int)=l:=by
   rw[nth_get (by simp)];simp
  rw[e1,e2,Int.toNat_natCast,RR.mergeS_snoc]
  split
  ·rw[List.set_append_right _ _ (Nat.le_refl _)];simp
  ·rfl
theorem cover_c (v:Value) (l:List RR.CellT) (ok:∀x∈l,RR.okC x) (hl:l.length≤4000):ContX Tryz.prog [Hl.rd v cT 3 l] 143 [v] (fun z:Sl×List (Nat×Nat)=>∃S:List (Nat×Nat),S.Perm (l.map RR.spanC)∧S.Pairwise RR.spanLe∧z.2=S.foldl RR.mergeS []) (fun z=>z.1.v) (fun z=>[Hl.nw z.1.v cN2 2 z.2]):=fun w hw0=>by
 refine enter Tryz.func143 rfl rfl rfl hw0 ?_
 repeat' (first|(refine nxV ?_)|(refine nSS ?_)|(refine nxX ?_)|done)
 refine G.loop (ι:=Sl×Nat) (fun z=>[(0,v),(3,z.1.v),(10,v),(11,.int .i64 l.length),(12,.int .i64 (z.2:Int))]) (fun z=>[Hl.rw z.1.v 235 cN2 2 ((l.take z.2).map RR.spanC),Hl.rd v cT 3 l]) (fun z=>z.2≤l.length) (fun z=>l.length-z.2) (⟨none,0,0⟩,0) (Nat.zero_le _) ⟨rfl,rfl,rfl,rfl,rfl,trivial⟩ (fun w' h=>St.nilRow 235 cN2 2 h) ?_
 rintro⟨z,i⟩ mx g1 hmx
 dsimp only at g1 hmx ⊢
 have hlt:((l.take i).map RR.spanC).length=i:=by rw[List.length_map,List.length_take];omega
 rcases Nat.lt_or_ge i l.length with hi|hi
 ·have hx:nth l (i:Int)∈l:=by rw[nth_get hi];exact List.getElem_mem hi
  have q1:=spanOf_c (ok _ hx)
  have e1:(l.take (i+1)).map RR.spanC=(l.take i).map RR.spanC++[(RR.fr (nth l (i:Int)),RR.to (nth l (i:Int)))]:=by
   rw[List.take_add_one,List.getElem?_eq_getElem hi,List.map_append,nth_get hi];rfl
  generalize RR.fr (nth l (i:Int))=A at *
  generalize RR.to (nth l (i:Int))=B at *
  repeat' (first|(show RS _ _ _ _ _ _ _ (⟨some 19,.buildSlice _ _ _,_,_,_,_⟩::_);refine RS.lit1P (a:=(A,B)) ?_ (by rfl);intro y1)|(show RS _ _ _ _ _ _ _ (⟨some 20,_,_,_,_,_⟩::_);refine RS.appendA (f:=cN2) (l:=(l.take i).map RR.spanC) (l':=[(A,B)]) ?_ (by rfl) (by rfl) (by intro v';exact updA) (by exact rdA) (by exact fun _=>rfl) (by(rw[hlt];simp only[List.length_singleton];omega)) rfl;intro y2)|(show YK _ _ _ _ _ _ _;refine YK.mk (zcA (q1) ⟨rfl,rfl⟩) ?_)|(refine nxV ?_)|(refine nSS ?_)|(refine nS1 fun _=>?_)|(refine nxX ?_)|(refine G.cN rfl (fun hc=>?_) (fun hc=>?_)<;>(try first|exact hc.elim|(exfalso;omega))))
  refine X.again (y2,i+1) (by dsimp only;omega) (by dsimp only;omega) ⟨rfl,rfl,rfl,rfl,rfl,trivial⟩ (fun w' h=>?_)
  dsimp only
  rw[e1]
  exact h.sub subS
 ·obtain rfl:i=l.length:=by omega
  rw[List.take_length]
  repeat' (first|(show RS _ _ _ _ _ _ _ (⟨some 23,_,_,_,_,_⟩::_);refine RS.callU (spanSort_c z (l.map RR.spanC) (by(rw[List.length_map];omega))) ⟨rfl,rfl,rfl⟩ ?_;rintro S ⟨hS1,hS2⟩;dsimp only[List.cons_append,List.nil_append])|(refine nxV ?_)|(refine nSS ?_)|(refine nxX ?_)|(refine G.cN rfl (fun hc=>?_) (fun hc=>?_)<;>(try first|exact hc.elim|(exfalso;omega))))
  have hSl:S.length=l.length:=by rw[hS1.length_eq,List.length_map]
  refine G.loop (ι:=Sl×Nat) (fun y=>[(3,z.v),(6,y.1.v),(24,z.v),(25,.int .i64 S.length),(26,.int .i64 (y.2:Int))]) (fun y=>[Hl.rw y.1.v 235 cN2 2 ((S.take y.2).foldl RR.mergeS []),Hl.rw z.v 235 cN2 2 S,Hl.rd v cT 3 l]) (fun y=>y.2≤S.length) (fun y=>S.length-y.2) (⟨none,0,0⟩,0) (Nat.zero_le _) ⟨rfl,rfl,rfl,rfl,rfl,trivial⟩ (fun w' h=>St.nilRow 235 cN2 2 h) ?_
  rintro⟨y,j⟩ mx2 k1 hmx2
  dsimp only at k1 hmx2 ⊢
  rcases Nat.lt_or_ge j S.length with hj|hj
  ·have e2:(S.take (j+1)).foldl RR.mergeS []=RR.mergeS ((S.take j).foldl RR.mergeS []) (nth S (j:Int)):=by
    rw[List.take_add_one,List.getElem?_eq_getElem hj,List.foldl_append,nth_get hj];rfl
   have hol:((S.take j).foldl RR.mergeS []).length≤4000:=by
    have:∀(q o:List (Nat×Nat)),(q.foldl RR.mergeS o).length≤o.length+q.length:=by
     intro q
     induction q with
     |nil=>intro o;exact Nat.le_refl _
     |cons s r ih =>
      intro o
      have h1:=ih (RR.mergeS o s)
      have h2:=RR.mergeS_len o s
      rw[List.foldl_cons,List.length_cons];omega
    have h3:=this (S.take j) []
    rw[List.length_take,List.length_nil] at h3
    omega
   generalize (S.take j).foldl RR.mergeS []=out at *
   by_cases h0:0<out.length
   ·rw[mergeS_nth h0] at e2
    by_cases h1:(nth S (j:Int)).1≤(nth out ((out.length:Int)-1)).2
    ·rw[if_pos h1] at e2
     repeat' (first|(show VFrK _ _ _ _ _ ⟨_,.fieldAddr 235 (.tmp 51) _,_,_,_,_⟩ _;refine VFrK.mk (vf_fieldEl (f:=cN2) (l:=out) (m:=(out.length:Int)-1) (by rfl) (by exact rdA) (fun _=>rfl) ⟨by omega,by omega⟩ rfl (show fieldAt _ _ _ _=some 1 by kernel_rfl)) ?_)|(show VFrK _ _ _ _ _ ⟨_,.fieldAddr 235 (.tmp 57) _,_,_,_,_⟩ _;refine VFrK.mk (vf_fieldEl (f:=cN2) (l:=out) (m:=(out.length:Int)-1) (by rfl) (by exact rdA) (fun _=>rfl) ⟨by omega,by omega⟩ rfl (show fieldAt _ _ _ _=some 1 by kernel_rfl)) ?_)|(show RF _ _ _ _ _ _ _ _ _;refine RF.storeP (ls:=out) (b:=((nth out ((out.length:Int)-1)).1,max (nth out ((out.length:Int)-1)).2 (nth S (j:Int)).2)) (by rfl) (by rfl) (by rfl) (by rfl) (by exact updA) ⟨by omega,by omega⟩ (by simp[cN2];omega) (by decide +kernel) (by decide +kernel) ?_)|(refine G.mixedFH 14 [.go 0,.go 1,.go 2,.go 3,.go 4,.go 5,.go 6,.go 7,.go 8,.go 9,.go 10,.go 11,.go 12,.go 13,.go 14] ?_)|(refine nxRF ?_)|(refine nxVF ?_)|(refine nxV ?_)|(refine nSS ?_)|(refine nS1 fun _=>?_)|(refine nMM ?_)|(refine nxG ?_)|(refine G.mA 13 [.go 0,.go 1,.go 2,.go 3,.go 4,.go 5,.go 6,.go 7,.go 8,.go 9,.go 10,.go 11,.go 12] ?_)|(refine nxX ?_)|(refine G.cN rfl (fun hc=>?_) (fun hc=>?_)<;>(try first|exact hc.elim|(exfalso;omega))))
     refine X.again (y,j+1) (by dsimp only;omega) (by dsimp only;omega) ⟨rfl,rfl,rfl,rfl,rfl,trivial⟩ (fun w' h=>?_)
     dsimp only
     rw[e2]
     exact h.sub subS
    ·rw[if_neg h1] at e2
     repeat' (first|(show RS _ _ _ _ _ _ _ (⟨some 61,.buildSlice _ _ _,_,_,_,_⟩::_);refine RS.lit1P (a:=nth S (j:Int)) ?_ (by rfl);intro y1)|(show RS _ _ _ _ _ _ _ (⟨some 62,_,_,_,_,_⟩::_);refine RS.appendA (f:=cN2) (l:=out) (l':=[nth S (j:Int)]) ?_ (by rfl) (by rfl) (by intro v';exact updA) (by exact rdA) (by exact fun _=>rfl) (by(simp only[List.length_singleton];omega)) rfl;intro y2)|(refine nxV ?_)|(refine nSS ?_)|(refine nS1 fun _=>?_)|(refine nMM ?_)|(refine nxG ?_)|(refine G.mA 13 [.go 0,.go 1,.go 2,.go 3,.go 4,.go 5,.go 6,.go 7,.go 8,.go 9,.go 10,.go 11,.go 12] ?_)|(refine nxX ?_)|(refine G.cN rfl (fun hc=>?_) (fun hc=>?_)<;>(try first|exact hc.elim|(exfalso;omega))))
     refine X.again (y2,j+1) (by dsimp only;omega) (by dsimp only;omega) ⟨rfl,rfl,rfl,rfl,rfl,trivial⟩ (fun w' h=>?_)
     dsimp only
     rw[e2]
     exact h.sub subS
   ·have e3:RR.mergeS out (nth S (j:Int))=out++[nth S (j:Int)]:=by
     have h1:out=[]:=List.eq_nil_of_length_eq_zero (by omega)
     rw[h1];rfl
    rw[e3] at e2
    repeat' (first|(show RS _ _ _ _ _ _ _ (⟨some 61,.buildSlice _ _ _,_,_,_,_⟩::_);refine RS.lit1P (a:=nth S (j:Int)) ?_ (by rfl);intro y1)|(show RS _ _ _ _ _ _ _ (⟨some 62,_,_,_,_,_⟩::_);refine RS.appendA (f:=cN2) (l:=out) (l':=[nth S (j:Int)]) ?_ (by rfl) (by rfl) (by intro v';exact updA) (by exact rdA) (by exact fun _=>rfl) (by(simp only[List.length_singleton];omega)) rfl;intro y2)|(refine nxV ?_)|(refine nSS ?_)|(refine nS1 fun _=>?_)|(refine nMM ?_)|(refine nxG ?_)|(refine G.mA 13 [.go 0,.go 1,.go 2,.go 3,.go 4,.go 5,.go 6,.go 7,.go 8,.go 9,.go 10,.go 11,.go 12] ?_)|(refine nxX ?_)|(refine G.cN rfl (fun hc=>?_) (fun hc=>?_)<;>(try first|exact hc.elim|(exfalso;omega))))
    refine X.again (y2,j+1) (by dsimp only;omega) (by dsimp only;omega) ⟨rfl,rfl,rfl,rfl,rfl,trivial⟩ (fun w' h=>?_)
    dsimp only
    rw[e2]
    exact h.sub subS
  ·obtain rfl:j=S.length:=by omega
   rw[List.take_length]
   repeat' (first|(refine nxV ?_)|(refine nSS ?_)|(refine nxX ?_)|(refine G.cN rfl (fun hc=>?_) (fun hc=>?_)<;>(try first|exact hc.elim|(exfalso;omega))))
   exact X.retN (vs:=[_]) (y,S.foldl RR.mergeS []) rfl ⟨rfl,rfl⟩ rfl ⟨S,hS1,hS2,rfl⟩ rfl (NewIn.rw (by exact memA) NewIn.nil)
section
variable {P:Program} {n:Nat} {L:FL} {w0:World} {H:List Hl} {d:Option Tmp} {ty:TypeId} {pos:String} {af:Array Edge} {g:Option (Nat×Bool)} {x y:Operand} {t t':TypeId} {m m' r:Int}
theorem y_quoN (hx:evO L x=some (.int .i64 m)) (hy:evO L y=some (.int .i64 m')) (h:m.tdiv m'=r) (h0:m'≠0) (hr : -9223372036854775808≤r∧r≤9223372036854775807):V P n L w0 H ⟨d,.binOp .quo t x y t',ty,pos,af,g⟩ (.int .i64 r):=by
 have:=y_quo (P:=P) (n:=n) (w0:=w0) (H:=H) (d:=d) (ty:=ty) (pos:=pos) (af:=af) (g:=g) (t:=t) (t':=t') hx hy h0
 rwa [h,IntWalk.i64_in r hr] at this
theorem y_remN (hx:evO L x=some (.int .i64 m)) (hy:evO L y=some (.int .i64 m')) (h:m.tmod m'=r) (h0:m'≠0):V P n L w0 H ⟨d,.binOp .rem t x y t',ty,pos,af,g⟩ (.int .i64 r):=by
 have:=y_rem (P:=P) (n:=n) (w0:=w0) (H:=H) (d:=d) (ty:=ty) (pos:=pos) (af:=af) (g:=g) (t:=t) (t':=t') hx hy h0
 rwa [h] at this
theorem y_addN (hx:evO L x=some (.int .i64 m)) (hy:evO L y=some (.int .i64 m')) (h:m+m'=r) (hr : -9223372036854775808≤r∧r≤9223372036854775807):V P n L w0 H ⟨d,.binOp .add t x y t',ty,pos,af,g⟩ (.int .i64 r):=by
 have:=y_add (P:=P) (n:=n) (w0:=w0) (H:=H) (d:=d) (ty:=ty) (pos:=pos) (af:=af) (g:=g) (t:=t) (t':=t') hx hy
 rwa [h,IntWalk.i64_in r hr] at this
end
theorem sz_down {L:Nat} (h:L+1≤16):1*2^(2*(16-(L+1)+1))=RR.sz L:=by
 unfold RR.sz
 rw[Nat.one_mul,Nat.pow_mul,show 16-(L+1)+1=16-L by omega]
theorem lvlF_le (f t:Nat):∀L,RR.lvlF f t L≤L
 |0=>Nat.le_refl _
 |L+1=>by
  unfold RR.lvlF
  split
  ·exact Nat.le_trans (lvlF_le f t L) (by omega)
  ·exact Nat.le_refl _
theorem tmod_nat {a b:Nat} : ((a:Int)).tmod (b:Int)=((a%b:Nat):Int):=by
 rw[Int.tmod_eq_emod_of_nonneg (by omega)];rfl
theorem tdiv_nat {a b:Nat} : ((a:Int)).tdiv (b:Int)=((a/b:Nat):Int):=by
 rw[Int.tdiv_eq_ediv_of_nonneg (by omega)];rfl
theorem num_lt {f L:Nat} (hf:f<8589934592) (hL:L≤16):f/RR.sz L<2*4^L:=by
 refine(Nat.div_lt_iff_lt_mul (RR.sz_pos L)).2 ?_
 have:4^L*RR.sz L=4^16:=by
  unfold RR.sz
  rw[←Nat.pow_add];congr 1;omega
 rw[Nat.mul_assoc,this]
 omega
theorem tidy_c (v:Value) (S:List (Nat×Nat)) (hS:∀s∈S,s.1≤s.2∧s.2≤8589934592) (hl:S.length≤4000) (hn:(RR.tidyL S).length≤4000):ContX Tryz.prog [Hl.rd v cN2 2 S] 142 [v] (fun _:Sl=>True) (fun z=>.tuple [z.v,.bool true].toArray) (fun z=>[Hl.nw z.v cT 3 (RR.tidyL S)]):=fun w hw0=>by
 refine enter Tryz.func142 rfl rfl rfl hw0 ?_
 repeat' (first|(refine nxV ?_)|(refine nSS ?_)|(refine nxX ?_)|done)
 refine G.loop (ι:=Sl×Nat) (fun z=>[(4,z.1.v),(10,v),(11,.int .i64 S.length),(12,.int .i64 (z.2:Int))]) (fun z=>[Hl.rw z.1.v 73 cT 3 (RR.tidyL (S.take z.2)),Hl.rd v cN2 2 S]) (fun z=>z.2≤S.length) (fun z=>S.length-z.2) (⟨none,0,0⟩,0) (Nat.zero_le _) ⟨rfl,rfl,rfl,rfl,trivial⟩ (fun w' h=>St.nilRow 73 cT 3 h) ?_
 rintro⟨z,i⟩ mx g1 hmx
 dsimp only at g1 hmx ⊢
 rcases Nat.lt_or_ge i S.length with hi|hi
 ·have hx:nth S (i:Int)∈S:=by rw[nth_get hi];exact List.getElem_mem hi
  obtain⟨hs1,hs2⟩:=hS _ hx
  have e1:RR.tidyL (S.take (i+1))=RR.tidyL (S.take i)++RR.greedy (nth S (i:Int)).1 (nth S (i:Int)).2:=by rw[RR.greedy_pre hi,nth_get hi]
  have hle:(RR.tidyL (S.take (i+1))).length≤4000:=Nat.le_trans RR.tidyL_le hn
  rw[e1,List.length_append] at hle
  generalize RR.tidyL (S.take i)=O0 at *
  generalize ht:(nth S (i:Int)).2=t at *
  generalize hf0:(nth S (i:Int)).1=f0 at *
  repeat' (first|(refine nxV ?_)|(refine nSS ?_)|(refine nS1 fun _=>?_)|(refine nxX ?_)|(refine G.cN rfl (fun hc=>?_) (fun hc=>?_)<;>(try first|exact hc.elim|(exfalso;omega))))
  rename_i b6
  have hr0:O0++RR.greedy f0 t=O0++RR.greedy f0 t:=rfl
  refine G.loop (ι:=Sl×List RR.CellT×Nat) (fun y=>[(4,y.1.v),(6,.pointer (some ⟨b6,0,none⟩)),(10,v),(11,.int .i64 S.length),(12,.int .i64 (i:Int))]) (fun y=>[Hl.rw y.1.v 73 cT 3 y.2.1,Hl.blk b6 235 [.int .i64 (y.2.2:Int),.int .i64 (t:Int)],Hl.rd v cN2 2 S]) (fun y=>y.2.1++RR.greedy y.2.2 t=O0++RR.greedy f0 t∧y.2.2≤t) (fun y=>t-y.2.2) (z,O0,f0) ⟨rfl,hs1⟩ ⟨rfl,rfl,rfl,rfl,rfl,trivial⟩ (fun w' h=>by
   subst ht
   subst hf0
   have h2:=h.perm (List.Perm.swap _ _ _)
   exact h2.sub subS) ?_
  rintro⟨y,O,f⟩ mx2 ⟨k1,k2⟩ hmx2
  dsimp only at k1 k2 hmx2 ⊢
  rcases Nat.lt_or_ge f t with hf|hf
  ·have kl:=congrArg List.length k1
   rw[RR.greedy_yes hf,List.length_append,List.length_append,List.length_cons] at kl
   have L1:=lvlF_le f t 16
   have hfm:f<8589934592:=by omega
   have hnum:=num_lt hfm L1
   have hszb:=sz_bd (RR.lvlF f t 16)
   have hspec:=(RR.lvlF_16 f t hf).2.1
   have k1':=k1
   rw[RR.greedy_yes hf] at k1'
   have hsz2:=sz_two L1
   repeat' (first|(refine nxV ?_)|(refine nSS ?_)|(refine nxX ?_)|(refine G.cN rfl (fun hc=>?_) (fun hc=>?_)<;>(try first|exact hc.elim|(exfalso;omega))))
   refine G.mid [(4,y.v),(6,.pointer (some ⟨b6,0,none⟩)),(7,.int .i64 ((RR.lvlF f t 16:Nat):Int)),(10,v),(11,.int .i64 S.length),(12,.int .i64 (i:Int))] [Hl.rw y.v 73 cT 3 O,Hl.blk b6 235 [.int .i64 (f:Int),.int .i64 (t:Int)],Hl.rd v cN2 2 S] ?_ ?_
   ·refine G.loop (ι:=Nat) (fun L=>[(4,y.v),(6,.pointer (some ⟨b6,0,none⟩)),(7,.int .i64 (L:Int)),(10,v),(11,.int .i64 S.length),(12,.int .i64 (i:Int))]) (fun _=>[Hl.rw y.v 73 cT 3 O,Hl.blk b6 235 [.int .i64 (f:Int),.int .i64 (t:Int)],Hl.rd v cN2 2 S]) (fun L=>L≤16∧RR.lvlF f t L=RR.lvlF f t 16) (fun L=>L) 16 ⟨Nat.le_refl _,rfl⟩ ⟨rfl,rfl,rfl,rfl,rfl,rfl,trivial⟩ (fun w' h=>h.sub subS) ?_
    rintro L mx3 ⟨q1,q2⟩ hmx3
    (try dsimp only at q1 q2 hmx3 ⊢)
    cases L with
    |zero =>
     have e0:RR.lvlF f t 16=0:=q2.symm
     repeat' (first|(refine nxV ?_)|(refine nSS ?_)|(refine nxX ?_)|(refine G.cN rfl (fun hc=>?_) (fun hc=>?_)<;>(try first|exact hc.elim|(exfalso;omega))))
     exact X.mid ⟨rfl,rfl,(by rw[e0];rfl),rfl,rfl,rfl,trivial⟩ (fun w h=>h.sub subS)
    |succ L =>
     have hq:=sz_down q1
     have hb:=sz_bd L
     have hrem:=tmod_nat (a:=f) (b:=RR.sz L)
     have hmlt:=Nat.mod_le f (RR.sz L)
     replace q2:(if f%RR.sz L=0∧f+RR.sz L≤t then RR.lvlF f t L else L+1)=RR.lvlF f t 16:=q2
     generalize hSZ:RR.sz L=sz at *
     generalize hRM:f%sz=rm at *
     by_cases hc3:rm=0∧f+sz≤t
     ·rw[if_pos hc3] at q2
      repeat' (first|(show YK _ _ _ _ _ ⟨_,.binOp .shl _ _ _ _,_,_,_,_⟩ _;refine YK.ofV (y_shlA (m:=1) (j:=2*(16-(L+1)+1)) (by rfl) (by rfl) (by omega) (by omega) hq (by omega)) ?_)|(show YK _ _ _ _ _ ⟨_,.binOp .rem _ _ _ _,_,_,_,_⟩ _;refine YK.ofV (y_remN (by rfl) (by rfl) hrem (by omega)) ?_)|(refine nxV ?_)|(refine nSS ?_)|(refine nxG ?_)|(refine nxX ?_)|(refine G.cN rfl (fun hc=>?_) (fun hc=>?_)<;>(try first|exact hc.elim|(exfalso;omega))))
      all_goals first|(exfalso;omega)|exact X.again L ⟨by omega,q2⟩ (by omega) ⟨rfl,rfl,(by exact congrArg (fun z=>some (Value.int .i64 z)) (by omega)),rfl,rfl,rfl,trivial⟩ (fun w' h=>h.sub subS)
     ·rw[if_neg hc3] at q2
      repeat' (first|(show YK _ _ _ _ _ ⟨_,.binOp .shl _ _ _ _,_,_,_,_⟩ _;refine YK.ofV (y_shlA (m:=1) (j:=2*(16-(L+1)+1)) (by rfl) (by rfl) (by omega) (by omega) hq (by omega)) ?_)|(show YK _ _ _ _ _ ⟨_,.binOp .rem _ _ _ _,_,_,_,_⟩ _;refine YK.ofV (y_remN (by rfl) (by rfl) hrem (by omega)) ?_)|(refine nxV ?_)|(refine nSS ?_)|(refine nxG ?_)|(refine nxX ?_)|(refine G.cN rfl (fun hc=>?_) (fun hc=>?_)<;>(try first|exact hc.elim|(exfalso;omega))))
      all_goals first|(exfalso;omega)|exact X.mid ⟨rfl,rfl,(by rw[←q2];rfl),rfl,rfl,rfl,trivial⟩ (fun w h=>h.sub subS)
   ·have hquo:=tdiv_nat (a:=f) (b:=RR.sz (RR.lvlF f t 16))
    have qc:=cellOf_c L1 hnum
    have e5:RR.cellAt (f/RR.sz (RR.lvlF f t 16)) (RR.lvlF f t 16)=⟨RR.lvlF f t 16,RR.drow (RR.lvlF f t 16) (f/RR.sz (RR.lvlF f t 16)),RR.dcol (RR.lvlF f t 16) (f/RR.sz (RR.lvlF f t 16))⟩:=rfl
    rw[e5] at k1'
    have hdl:=Nat.div_le_self f (RR.sz (RR.lvlF f t 16))
    generalize RR.sz (RR.lvlF f t 16)=sz at *
    generalize f/sz=nn at *
    generalize RR.lvlF f t 16=L at *
    generalize RR.drow L nn=A at *
    generalize RR.dcol L nn=B at *
    repeat' (first|(show YK _ _ _ _ _ ⟨_,.binOp .shl _ _ _ _,_,_,_,_⟩ _;refine YK.ofV (y_shlA (m:=1) (j:=2*(16-L)) (by rfl) (by rfl) (by omega) (by omega) hsz2 (by omega)) ?_)|(show YK _ _ _ _ _ ⟨_,.binOp .quo _ _ _ _,_,_,_,_⟩ _;refine YK.ofV (y_quoN (by rfl) (by rfl) hquo (by omega) (by omega)) ?_)|(show RS _ _ _ _ _ _ _ (⟨some 55,.buildSlice _ _ _,_,_,_,_⟩::_);refine RS.lit1T (a:=(⟨L,A,B⟩:RR.CellT)) ?_ (by rfl);intro y1)|(show RS _ _ _ _ _ _ _ (⟨some 56,_,_,_,_,_⟩::_);refine RS.appendA (f:=cT) (l:=O) (l':=[(⟨L,A,B⟩:RR.CellT)]) ?_ (by rfl) (by rfl) (by intro v';exact updA) (by exact rdA) (by exact fun _=>rfl) (by(simp only[List.length_singleton];omega)) rfl;intro y2)|(show YK _ _ _ _ _ _ _;refine YK.mk (zcA (qc) ⟨rfl,rfl,rfl⟩) ?_)|(refine nxV ?_)|(refine nSS ?_)|(refine nxX ?_)|(refine G.cN rfl (fun hc=>?_) (fun hc=>?_)<;>(try first|exact hc.elim|(exfalso;omega))))
    ·exfalso
     rw[List.length_append,List.length_singleton] at hc
     omega
    ·exact X.again (y2,O++[(⟨L,A,B⟩:RR.CellT)],f+sz) ⟨by dsimp only;rw[List.append_assoc];exact k1',by dsimp only;omega⟩ (by dsimp only;omega) ⟨rfl,rfl,rfl,rfl,rfl,trivial⟩ (fun w' h=>h.sub subS)
  ·rw[RR.greedy_no (by omega),List.append_nil] at k1
   repeat' (first|(refine nxV ?_)|(refine nSS ?_)|(refine nxX ?_)|(refine G.cN rfl (fun hc=>?_) (fun hc=>?_)<;>(try first|exact hc.elim|(exfalso;omega))))
   refine X.again (y,i+1) (by dsimp only;omega) (by dsimp only;omega) ⟨rfl,rfl,rfl,rfl,trivial⟩ (fun w' h=>?_)
   dsimp only
   rw[e1,←k1]
   exact h.sub subS
 ·obtain rfl:i=S.length:=by omega
  rw[List.take_length]
  repeat' (first|(refine nxV ?_)|(refine nSS ?_)|(refine nxX ?_)|(refine G.cN rfl (fun hc=>?_) (fun hc=>?_)<;>(try first|exact hc.elim|(exfalso;omega))))
  exact X.retN (vs:=[_,_]) z rfl ⟨rfl,rfl,rfl⟩ rfl trivial rfl (NewIn.rw (by exact memA) NewIn.nil)
section
variable {P:Program} {Q:Exit→Act→World→Prop} {n k:Nat} {L:FL} {w0:World} {H:List Hl} {c:Code}
def GR (P:Program) (Q:Exit→Act→World→Prop) (n k:Nat) (L:FL) (w0:World) (H:List Hl) (c:Code):Prop:=∀a w,Fr n L a→St w0 H w→Code.rounds P c Q k a w
theorem G.loopN (k:Nat) (h:GR P Q n k L w0 H c):G P Q n L w0 H (.loop c):=by
 unfold G
 exact fun a w ha hw=>wp_loop_rounds k (h a w ha hw)
theorem GR.step (h:G P (Exit.then (Code.rounds P c Q k) Q) n L w0 H c):GR P Q n (k+1) L w0 H c:=by
 unfold G at h
 exact fun a w ha hw=>h a w ha hw
theorem X.round (h:GR P Q n k L w0 H c):X (Exit.then (Code.rounds P c Q k) Q) n L w0 H .normal:=by
 unfold X
 exact fun a w ha hw=>h a w ha hw
variable {d:Option Tmp} {ty:TypeId} {pos:String} {af:Array Edge} {gd:Option (Nat×Bool)} {x y z:Operand} {t:TypeId} {v:Value} {K:Value→Prop}
theorem y_extern {f:FuncId} {xs:List Operand} {vs:List Value} {tys:Array TypeId} (hrun:∀w,(callFunc f vs.toArray).run P w=.ok (.value v) w) (ha:AE L xs vs) :
  V P n L w0 H ⟨d,.call { callee:=.value (.func f),args:=xs.toArray,argTypes:=tys },ty,pos,af,gd⟩ v:=by
 unfold V
 intro a w hfr hw
 rw[show execOp a.eval ⟨d,.call { callee:=.value (.func f),args:=xs.toArray,argTypes:=tys },ty,pos,af,gd⟩=callFunc f (#[]++xs.toArray.map a.eval++#[]) from rfl]
 have:=ha.map hfr
 simp[this,hrun w]
theorem y_indexArr {b i len:Nat} {k:IntKind} {m:Int} (hx:evO L x=some (.pointer (some ⟨b,0,none⟩))) (hy:evO L y=some (.int k m)) (hm:m=(i:Int)) (ht:arrayB P t len=true) (hi:Nat.blt i len=true) :
  V P n L w0 H ⟨d,.indexAddr t x y,ty,pos,af,gd⟩ (.pointer (some ⟨b,i,none⟩)):=by
 unfold V
 intro a w ha hw
 unfold arrayB at ht
 cases hu:P.underlying t with
 |none=>simp[hu] at ht
 |some dsc =>
  cases dsc<;>simp[hu] at ht
  rename_i l e
  obtain⟨rfl,hs⟩:=ht
  subst hm
  have hlt:i<l:=by simpa [Nat.blt_eq] using hi
  have hadd:(⟨b,0,none⟩:Addr).add i=⟨b,i,none⟩:=by unfold Addr.add;split<;>simp_all
  simp[execOp,ha.eval hx,ha.eval hy,Instr.indexAt,asIntOf,Instr.sureAddr,run_underlying hu,hlt,run_sizeOf_of (info_of_scalarB hs),hadd]
theorem y_sliceArr {b len:Nat} {k:IntKind} {m:Nat} (hx:evO L x=some (.pointer (some ⟨b,0,none⟩))) (hy:evO L y=some (.int k (m:Int))) (ht:arrayB P t len=true) (hm:Nat.ble m len=true) (h0:Nat.blt 0 len=true) :
  V P n L w0 H ⟨d,.slice t x none (some y) none,ty,pos,af,gd⟩ (.slice (some ⟨b,0,none⟩) m len):=by
 unfold V
 intro a w ha hw
 unfold arrayB at ht
 cases hu:P.underlying t with
 |none=>simp[hu] at ht
 |some dsc =>
  cases dsc<;>simp[hu] at ht
  rename_i l e
  obtain⟨rfl,hs⟩:=ht
  have hle:m≤l:=Nat.le_of_ble_eq_true hm
  have hpos:0<l:=by simpa [Nat.blt_eq] using h0
  have hadd:(⟨b,0,none⟩:Addr).add 0=⟨b,0,none⟩:=by unfold Addr.add;split<;>simp_all
  have h2:=run_sliceBound (P:=P) (w:=w) k m l .sliceAlen (by omega) (by omega)
  simp[execOp,ha.eval hx,ha.eval hy,Instr.sliceAt,Instr.sliceBounds,Instr.sureAddr,run_underlying hu,h2,run_sizeOf_of (info_of_scalarB hs),hadd]
theorem y_arrPtr {A:Addr} {len m c:Nat} (hx:evO L x=some (.slice (some A) m c)) (ht:arrayB P t len=true) (hm:Nat.ble len m=true) :
  V P n L w0 H ⟨d,.sliceToArrayPointer t x,ty,pos,af,gd⟩ (.pointer (some A)):=by
 unfold V
 intro a w ha hw
 unfold arrayB at ht
 cases hu:P.underlying t with
 |none=>simp[hu] at ht
 |some dsc =>
  cases dsc<;>simp[hu] at ht
  rename_i l e
  obtain⟨rfl,hs⟩:=ht
  have hle:l≤m:=Nat.le_of_ble_eq_true hm
  simp[execOp,ha.eval hx,Instr.arrayAt,run_underlying hu,Nat.not_lt.2 hle]
theorem y_lenV {A:Option Addr} {m c:Nat} (hx:evO L x=some (.slice A m c)) (ht:isSliceB P t=true):V P n L w0 H ⟨d,.call { callee:=.builtin .len,args:=#[x],argTypes:=#[t] },ty,pos,af,gd⟩ (.int .i64 m):=by
 unfold V
 intro a w ha hw
 unfold isSliceB at ht
 cases hu:P.underlying t with
 |none=>simp[hu] at ht
 |some dsc =>
  cases dsc<;>simp[hu] at ht
  simp[execOp,resolve,invoke,builtin,ha.eval hx,Builtin.len_,run_underlying hu,goInt]
end
end Go.Proofs.YtjmdeplmenbmmaaGreatDoor
