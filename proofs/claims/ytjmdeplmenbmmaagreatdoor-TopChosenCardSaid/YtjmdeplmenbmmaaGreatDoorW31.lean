/- Joined texts: Fsn. -/
import Derived.Test.YtjmdeplmenbmmaaGreatDoorW02
import Derived.Test.YtjmdeplmenbmmaaGreatDoorW13
set_option linter.unusedVariables false
namespace Go.Proofs.YtjmdeplmenbmmaaGreatDoor
open Go.ChangeShapes Go.WideShapes Go.ChangeAt Go.RowKit Go.Deep Go.Joins
section
variable {H:Type} {enc:TypeId×Value→H} {P:Program}
theorem trod_arc2 {t:TypeId} {f0 f1:Field} {w:World} {u v:Value} {fuel:Nat} {y:DataW H×List MemPlace} (he:P.underlying t=some (.struct #[f0,f1])) (ho:(f0.offset,f1.offset)=(0,1)) (hc:(P.cellsOf f0.type,P.cellsOf f1.type)=(1,1)) (h0:P.underlying f0.type=some (.int .i64)) (h1:P.underlying f1.type=some (.int .i64))
  (g2:DataW.trod enc P w 0 (fun _=>true) true fuel t [u,v]=some y):∃a b:Int,u=.int .i64 a∧v=.int .i64 b∧(-9223372036854775808≤a∧a≤9223372036854775807)∧-9223372036854775808≤b∧b≤9223372036854775807:=by
 simp only[Prod.mk.injEq] at ho hc
 obtain⟨xs,k,hk,hxy,_,hxl,hff⟩:=DataW.trod_struct he g2
 match xs,hxl with
 |[y0,y1],_ =>
  have q0:=hff 0 f0 rfl
  have q1:=hff 1 f1 rfl
  simp[ho.1,ho.2,hc.1,hc.2] at q0 q1
  obtain⟨x0,r0,_,w0⟩:=DataW.trod_int h0 q0
  obtain⟨x1,r1,_,w1⟩:=DataW.trod_int h1 q1
  simp at r0 r1
  subst r0 r1
  exact⟨x0,x1,rfl,rfl,i64_of w0,i64_of w1⟩
theorem arg_seen {t e:TypeId} {f0 f1 f2 e0 e1 d0 d1:Field} {w:World} {base:Nat} {v:Value} {d:DataW H} {p:List MemPlace} (ht:P.underlying t=some (.slice e)) (he:P.underlying e=some (.struct #[f0,f1,f2])) (ce:P.cellsOf e=5)
  (ho:(f0.offset,f1.offset,f2.offset)=(0,1,3)) (hc:(P.cellsOf f0.type,P.cellsOf f1.type,P.cellsOf f2.type)=(1,2,2)) (h0:P.underlying f0.type=some .string) (h1:P.underlying f1.type=some (.struct #[e0,e1])) (h1o:(e0.offset,e1.offset)=(0,1)) (h1c:(P.cellsOf e0.type,P.cellsOf e1.type)=(1,1)) (i0:P.underlying e0.type=some (.int .i64)) (i1:P.underlying e1.type=some (.int .i64)) (h2:P.underlying f2.type=some (.struct #[d0,d1])) (h2o:(d0.offset,d1.offset)=(0,1)) (h2c:(P.cellsOf d0.type,P.cellsOf d1.type)=(1,1)) (i2:P.underlying d0.type=some (.int .i64)) (i3:P.underlying d1.type=some (.int .i64))
  (hv:Value.okWide P w .any base t v) (h:DataW.Trod enc P w 0 (fun _=>true) true t v d p) :
  ∃l:List SeenT,RO w v 5 l.length (l.flatMap cSn)∧l.length≤maxLen∧∀c∈l,(-9223372036854775808≤c.h1∧c.h1≤9223372036854775807)∧(-9223372036854775808≤c.h2∧c.h2≤9223372036854775807)∧(-9223372036854775808≤c.z1∧c.z1≤9223372036854775807)∧(-9223372036854775808≤c.z2∧c.z2≤9223372036854775807):=by
 obtain⟨A,len,cap,rfl⟩:=WideShapes.okWide_slice ht hv
 obtain⟨fuel,hf⟩:=h
 simp only[Prod.mk.injEq] at ho hc
 rcases open_slice ht hf with ⟨hcs,_⟩|⟨a,len',cap',m,n,V,Pl,hcs,hb,hl,hm,hmm,hx,hel⟩
 ·have:Value.slice A len cap=.slice none 0 0:=by simpa [Value.cells] using hcs
  rw[this]
  exact⟨[],RO.nil _ _,Nat.zero_le _,fun c hc=>by cases hc⟩
 ·have e1:Value.slice A len cap=.slice (some a) len' cap':=by simpa [Value.cells] using hcs
  rw[e1]
  have hlm:len'≤m:=by rw[hmm];split<;>omega
  have each:∀i,i<len'→∃c:SeenT,(∀j u,(cSn c)[j]?=some u→w.cell? (a.add (i*5+j))=some u)∧(-9223372036854775808≤c.h1∧c.h1≤9223372036854775807)∧(-9223372036854775808≤c.h2∧c.h2≤9223372036854775807)∧(-9223372036854775808≤c.z1∧c.z1≤9223372036854775807)∧(-9223372036854775808≤c.z2∧c.z2≤9223372036854775807):=by
   intro i hi
   obtain⟨cs',g1,g2⟩:=hel i (by omega)
   rw[ce] at g1
   obtain⟨_,hlen,hcell⟩:=World.cells?_some g1
   obtain⟨xs,k,hk,hxy,_,hxl,hff⟩:=DataW.trod_struct he g2
   match xs,hxl,cs',hlen with
   |[y0,y1,y2],_,[v0,v1,v2,v3,v4],_ =>
    have q0:=hff 0 f0 rfl
    have q1:=hff 1 f1 rfl
    have q2:=hff 2 f2 rfl
    simp[ho.1,ho.2.1,ho.2.2,hc.1,hc.2.1,hc.2.2] at q0 q1 q2
    obtain⟨s,r0,_,_⟩:=DataW.trod_string h0 q0
    obtain⟨x1,x2,r1,r2,w1,w2⟩:=trod_arc2 h1 h1o h1c i0 i1 q1
    obtain⟨x3,x4,r3,r4,w3,w4⟩:=trod_arc2 h2 h2o h2c i2 i3 q2
    simp at r0
    subst r0 r1 r2 r3 r4
    obtain⟨nm,rfl⟩:∃nm:List UInt8,s=⟨nm.toArray⟩:=⟨s.data.toList,by cases s;rfl⟩
    refine⟨⟨nm,x1,x2,x3,x4⟩,fun j u hj=>?_,w1,w2,w3,w4⟩
    have c0:=hcell 0 (by omega)
    have c1:=hcell 1 (by omega)
    have c2:=hcell 2 (by omega)
    have c3:=hcell 3 (by omega)
    have c4:=hcell 4 (by omega)
    rw[Go.Deep.add_add] at c0 c1 c2 c3 c4
    match j,hj with
    |0,hj=>simp at hj;subst hj;simpa using c0
    |1,hj=>simp at hj;subst hj;simpa using c1
    |2,hj=>simp at hj;subst hj;simpa using c2
    |3,hj=>simp at hj;subst hj;simpa using c3
    |4,hj=>simp at hj;subst hj;simpa using c4
    |j+5,hj=>simp at hj
  obtain⟨q,hq⟩:=choose_lt each
  refine⟨(List.range len').map q,?_,by simp;omega,fun c hc=>?_⟩
  ·have hfl:∀c:SeenT,(cSn c).length=5:=fun _=>rfl
   have hlr:((List.range len').map q).length=len':=by simp
   rw[hlr]
   refine⟨by rw[flat_len hfl,hlr],some a,cap',rfl,hl,fun _=>⟨a,rfl,fun j u hu=>?_⟩,fun h=>by cases h⟩
   have hj:j<len'*5:=by
    have:=(List.getElem?_eq_some_iff.1 hu).1
    rwa [flat_len hfl,hlr] at this
   have h3:j/5<len':=by omega
   have h4:=flat_get hfl ((List.range len').map q) (j/5) (j%5) (q (j/5)) (by simp[h3]) (by omega)
   rw[show j/5*5+j%5=j by omega,hu] at h4
   have h5:=(hq (j/5) h3).1 (j%5) u h4.symm
   rwa [show j/5*5+j%5=j by omega] at h5
  ·obtain⟨i,hi,rfl⟩:=List.mem_map.1 hc
   exact(hq i (List.mem_range.1 hi)).2
end
end Go.Proofs.YtjmdeplmenbmmaaGreatDoor
