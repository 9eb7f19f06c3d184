/- Joined texts: Pg1, Fnd, RfV. -/
import Derived.Test.YtjmdeplmenbmmaaGreatW07
set_option linter.unusedVariables false
set_option maxHeartbeats 4000000
namespace Go.Proofs.YtjmdeplmenbmmaaGreat
open Go.RowKit
theorem zero_bool (w:World):(zeroValue 4).run Tryz.prog w=.ok (.bool false) w:=by kernel_rfl
def nmsL (l:List TrkT) (i:Nat):List (List UInt8):=((l.take i).map TrkT.nm).reverse
theorem nmsL_succ {l:List TrkT} {i:Nat} (h:i<l.length):nmsL l (i+1)=(nth l (i:Int)).nm::nmsL l i:=by
 have e:=nth_some (l:=l) (m:=(i:Int)) (by omega) (by omega)
 rw[Int.toNat_natCast] at e
 unfold nmsL
 rw[List.take_add_one,e]
 simp
def trkOk (l:List TrkT) (i:Nat):Bool:=okT (nth l (i:Int))&&!decide ((nth l (i:Int)).nm∈nmsL l i)
def tracksOk (l:List TrkT):Bool:=(List.range l.length).all (trkOk l)
def dateOk (y m d:Int):Bool:=validB y m d&&(decide (-300000≤num y m d)&&decide (num y m d≤300000))
def pageB (y m d:Int) (l:List TrkT):Bool:=dateOk y m d&&decide ((l.length:Int)≤12)&&tracksOk l
def fitT (l:List TrkT):Prop:=∀t∈l,t.nm.length≤100∧t.gl.length≤40∧t.dl.length≤40
theorem fitT.at {l:List TrkT} (h:fitT l) {i:Nat} (hi:i<l.length):(nth l (i:Int)).nm.length≤100∧(nth l (i:Int)).gl.length≤40∧(nth l (i:Int)).dl.length≤40:=by
 have e:=nth_some (l:=l) (m:=(i:Int)) (by omega) (by omega)
 rw[Int.toNat_natCast] at e
 exact h _ (List.mem_of_getElem? e)
theorem pvalid_d {y m d:Int} {v:Value} {l:List TrkT} (hd:dateOk y m d=false):ContIn Tryz.prog (PgP v l) 28 [pgV y m d v] (.bool false):=fun w hw0=>by
 refine enter Tryz.func28 rfl rfl rfl (Hp:=[Hl.rd v cTk 6 l]) (fun h hm=>by
  rcases List.mem_singleton.1 hm with rfl
  exact⟨⟨hw0.1,fun h=>by cases h⟩,rfl⟩) ?_
 cases hv:validB y m d with
 |false =>
  repeat' (first|(show YK _ _ _ _ _ ⟨_,.load 29 _,_,_,_,_⟩ _;refine YK.ofV (zlP (k:=3) (by rfl) (by exact memA) (by decide +kernel) (by rfl)) ?_)|(show YK _ _ _ _ _ _ _;first|refine YK.mk (zcA (Number_f hv) ⟨rfl,rfl⟩) ?_)|(refine nxV ?_)|(refine nSS ?_)|(refine nS1 fun _=>?_)|(refine nMM ?_)|(refine nM1 fun _=>?_)|(show YG _ _ _ _ _ _ _ _;refine YG.mk (fun hb=>by(try(have hc:=And.left hb;have hb:=And.right hb;rw[hc]));(try rw[hb]);first|exact(zcA (Number_f hv) ⟨rfl,rfl⟩)|exact V.y vAuto) ?_)|(refine nxG ?_)|(refine nxX ?_)|(refine G.cN rfl (fun hc=>?_) (fun hc=>?_)<;>(try first|exact hc.elim|(exfalso;omega))))
  exact X.ret1
 |true =>
  have hn:=num_bd hv
  unfold dateOk at hd
  rw[hv] at hd
  have hno:num y m d < -300000∨300000<num y m d:=by
   simp at hd;omega
  clear hd
  have q:=Number_t hv
  generalize num y m d=N at q hn hno
  repeat' (first|(show YK _ _ _ _ _ ⟨_,.load 29 _,_,_,_,_⟩ _;refine YK.ofV (zlP (k:=3) (by rfl) (by exact memA) (by decide +kernel) (by rfl)) ?_)|(show YK _ _ _ _ _ _ _;first|refine YK.mk (zcA (q) ⟨rfl,rfl⟩) ?_)|(refine nxV ?_)|(refine nSS ?_)|(refine nS1 fun _=>?_)|(refine nMM ?_)|(refine nM1 fun _=>?_)|(show YG _ _ _ _ _ _ _ _;refine YG.mk (fun hb=>by(try(have hc:=And.left hb;have hb:=And.right hb;rw[hc]));(try rw[hb]);first|exact(zcA (q) ⟨rfl,rfl⟩)|exact V.y vAuto) ?_)|(refine nxG ?_)|(refine nxX ?_)|(refine G.cN rfl (fun hc=>?_) (fun hc=>?_)<;>(try first|exact hc.elim|(exfalso;omega))))
  exact X.ret1
theorem pvalid_l {y m d:Int} {v:Value} {l:List TrkT} (hd:dateOk y m d=true) (hl:12<l.length):ContIn Tryz.prog (PgP v l) 28 [pgV y m d v] (.bool false):=fun w hw0=>by
 refine enter Tryz.func28 rfl rfl rfl (Hp:=[Hl.rd v cTk 6 l]) (fun h hm=>by
  rcases List.mem_singleton.1 hm with rfl
  exact⟨⟨hw0.1,fun h=>by cases h⟩,rfl⟩) ?_
 have hv:validB y m d=true:=by unfold dateOk at hd;simp at hd;exact hd.1
 have hn:=num_bd hv
 have q:=Number_t hv
 generalize num y m d=N at q hn
 repeat' (first|(show YK _ _ _ _ _ ⟨_,.load 29 _,_,_,_,_⟩ _;refine YK.ofV (zlP (k:=3) (by rfl) (by exact memA) (by decide +kernel) (by rfl)) ?_)|(show YK _ _ _ _ _ _ _;first|refine YK.mk (zcA (q) ⟨rfl,rfl⟩) ?_)|(refine nxV ?_)|(refine nSS ?_)|(refine nS1 fun _=>?_)|(refine nMM ?_)|(refine nM1 fun _=>?_)|(show YG _ _ _ _ _ _ _ _;refine YG.mk (fun hb=>by(try(have hc:=And.left hb;have hb:=And.right hb;rw[hc]));(try rw[hb]);first|exact(zcA (q) ⟨rfl,rfl⟩)|exact V.y vAuto) ?_)|(refine nxG ?_)|(refine nxX ?_)|(refine G.cN rfl (fun hc=>?_) (fun hc=>?_)<;>(try first|exact hc.elim|(exfalso;omega))))
 exact X.ret1
theorem pvalid_t {y m d:Int} {v:Value} {l:List TrkT} (hd:dateOk y m d=true) (hl:l.length≤12) (hf:fitT l):ContIn Tryz.prog (PgP v l) 28 [pgV y m d v] (.bool (tracksOk l)):=fun w hw0=>by
 refine enter Tryz.func28 rfl rfl rfl (Hp:=[Hl.rd v cTk 6 l]) (fun h hm=>by
  rcases List.mem_singleton.1 hm with rfl
  exact⟨⟨hw0.1,fun h=>by cases h⟩,rfl⟩) ?_
 have hv:validB y m d=true:=by unfold dateOk at hd;simp at hd;exact hd.1
 have hn:=num_bd hv
 have hN : -300000≤num y m d∧num y m d≤300000:=by unfold dateOk at hd;simp at hd;exact hd.2
 have q:=Number_t hv
 generalize num y m d=N at q hn hN
 repeat' (first|(show YK _ _ _ _ _ ⟨_,.load 29 _,_,_,_,_⟩ _;refine YK.ofV (zlP (k:=3) (by rfl) (by exact memA) (by decide +kernel) (by rfl)) ?_)|(show RS _ _ _ _ _ _ _ (⟨_,.makeMap _ _,_,_,_,_⟩::_);refine RS.makeMap 9 4 (fun b=>?_))|(show YK _ _ _ _ _ _ _;first|refine YK.mk (zcA (q) ⟨rfl,rfl⟩) ?_)|(refine nxV ?_)|(refine nSS ?_)|(refine nS1 fun _=>?_)|(refine nMM ?_)|(refine nM1 fun _=>?_)|(show YG _ _ _ _ _ _ _ _;refine YG.mk (fun hb=>by(try(have hc:=And.left hb;have hb:=And.right hb;rw[hc]));(try rw[hb]);first|exact(zcA (q) ⟨rfl,rfl⟩)|exact V.y vAuto) ?_)|(refine nxG ?_)|(refine nxX ?_)|(refine G.cN rfl (fun hc=>?_) (fun hc=>?_)<;>(try first|exact hc.elim|(exfalso;omega))))
 rename_i b1
 have hmx0:l.length≤maxLen:=by simp only[maxLen];omega
 refine G.loop (ι:=Nat) (fun i=>[(1,.pointer (some ⟨b1,0,none⟩)),(5,.map (some b)),(32,v),(33,.int .i64 l.length),(34,.int .i64 (i:Int))]) (fun i=>[Hl.map Tryz.prog 9 4 b i (nmsL l i),Hl.blk b1 32 [.int .i64 y,.int .i64 m,.int .i64 d,v],Hl.rd v cTk 6 l]) (fun i=>i≤l.length∧∀k:Nat,k<i→trkOk l k=true) (fun i=>l.length-i) 0 ⟨Nat.zero_le _,fun k hk=>by omega⟩ ⟨rfl,rfl,rfl,rfl,rfl,trivial⟩ (fun w h=>h) ?_
 rintro i mx ⟨g1,g2⟩ hmx
 rcases Nat.lt_or_ge i l.length with hi|hi
 ·have hfi:=hf.at hi
  have hto:trkOk l i=(okT (nth l (i:Int))&&!decide ((nth l (i:Int)).nm∈nmsL l i)):=rfl
  have hnx:=nmsL_succ hi
  have hfal:trkOk l i=false→tracksOk l=false:=fun h=>by
   unfold tracksOk
   rw[List.all_eq_false]
   exact⟨i,List.mem_range.2 hi,by rw[h];decide⟩
  have qv:=validTrack_c (nth l (i:Int)) (by omega) (by omega) (by omega)
  have hnl:(nth l (i:Int)).nm.length≤maxLen:=by simp only[maxLen];omega
  have hNi:i<maxLen:=by simp only[maxLen];omega
  refine G.bring (hw0.2.at hi).1 (G.bring (hw0.2.at hi).2 ?_)
  generalize nmsL l i=S at hto hnx
  cases hc0:okT (nth l (i:Int)) with
  |false =>
   rw[hc0] at qv hto
   repeat' (first|(show YK _ _ _ _ _ _ _;first|refine YK.mk (zcR (qv) ⟨rfl,rfl⟩) ?_)|(refine nxV ?_)|(refine nSS ?_)|(refine nS1 fun _=>?_)|(refine nMM ?_)|(refine nM1 fun _=>?_)|(show YG _ _ _ _ _ _ _ _;refine YG.mk (fun hb=>by(try(have hc:=And.left hb;have hb:=And.right hb;rw[hc]));(try rw[hb]);first|exact(zcR (qv) ⟨rfl,rfl⟩)|exact V.y vAuto) ?_)|(refine nxG ?_)|(refine nxX ?_)|(refine G.cN rfl (fun hc=>?_) (fun hc=>?_)<;>(try first|exact hc.elim|(exfalso;omega))))
   exact X.ret (vs:=[_]) rfl ⟨rfl,rfl⟩ rfl (fun w hw=>⟨ret_bool (hfal (by rw[hto];rfl)).symm,hw.ext⟩)
  |true =>
   rw[hc0] at qv hto
   cases hc1:decide ((nth l (i:Int)).nm∈S) with
   |true =>
    rw[hc1] at hto
    repeat' (first|(show RS _ _ _ _ _ _ _ (⟨_,.lookup _ _ _ _,_,_,_,_⟩::_);refine RS.lookF S hc1 ?_ hnl (by exact memA) Tryz.underlying132 Tryz.underlying9 Tryz.underlying4 zero_bool)|(show RS _ _ _ _ _ _ _ (⟨_,.mapUpdate _ _ _ _,_,_,_,_⟩::_);refine RS.put (by exact updA) hNi hnl ?_ Tryz.underlying132 Tryz.underlying9 Tryz.underlying4)|(show YK _ _ _ _ _ _ _;first|refine YK.mk (zcR (qv) ⟨rfl,rfl⟩) ?_)|(refine nxV ?_)|(refine nSS ?_)|(refine nS1 fun _=>?_)|(refine nMM ?_)|(refine nM1 fun _=>?_)|(show YG _ _ _ _ _ _ _ _;refine YG.mk (fun hb=>by(try(have hc:=And.left hb;have hb:=And.right hb;rw[hc]));(try rw[hb]);first|exact(zcR (qv) ⟨rfl,rfl⟩)|exact V.y vAuto) ?_)|(refine nxG ?_)|(refine nxX ?_)|(refine G.cN rfl (fun hc=>?_) (fun hc=>?_)<;>(try first|exact hc.elim|(exfalso;omega))))
    exact X.ret (vs:=[_]) rfl ⟨rfl,rfl⟩ rfl (fun w hw=>⟨ret_bool (hfal (by rw[hto];rfl)).symm,hw.ext⟩)
   |false =>
    rw[hc1] at hto
    repeat' (first|(show RS _ _ _ _ _ _ _ (⟨_,.lookup _ _ _ _,_,_,_,_⟩::_);refine RS.lookF S hc1 ?_ hnl (by exact memA) Tryz.underlying132 Tryz.underlying9 Tryz.underlying4 zero_bool)|(show RS _ _ _ _ _ _ _ (⟨_,.mapUpdate _ _ _ _,_,_,_,_⟩::_);refine RS.put (by exact updA) hNi hnl ?_ Tryz.underlying132 Tryz.underlying9 Tryz.underlying4)|(show YK _ _ _ _ _ _ _;first|refine YK.mk (zcR (qv) ⟨rfl,rfl⟩) ?_)|(refine nxV ?_)|(refine nSS ?_)|(refine nS1 fun _=>?_)|(refine nMM ?_)|(refine nM1 fun _=>?_)|(show YG _ _ _ _ _ _ _ _;refine YG.mk (fun hb=>by(try(have hc:=And.left hb;have hb:=And.right hb;rw[hc]));(try rw[hb]);first|exact(zcR (qv) ⟨rfl,rfl⟩)|exact V.y vAuto) ?_)|(refine nxG ?_)|(refine nxX ?_)|(refine G.cN rfl (fun hc=>?_) (fun hc=>?_)<;>(try first|exact hc.elim|(exfalso;omega))))
    refine X.again (i+1) ⟨by omega,fun k hk=>?_⟩ (by omega) ⟨rfl,rfl,rfl,rfl,rfl,trivial⟩ (fun w h=>?_)
    ·rcases Nat.lt_or_ge k i with h|h
     ·exact g2 k h
     ·rw[show k=i by omega,hto];rfl
    ·rw[hnx]
     exact h.sub subS
 ·repeat' (first|(refine nxV ?_)|(refine nSS ?_)|(refine nS1 fun _=>?_)|(refine nMM ?_)|(refine nM1 fun _=>?_)|(refine nxG ?_)|(refine nxX ?_)|(refine G.cN rfl (fun hc=>?_) (fun hc=>?_)<;>(try first|exact hc.elim|(exfalso;omega))))
  refine X.ret (vs:=[_]) rfl ⟨rfl,rfl⟩ rfl (fun w hw=>⟨ret_bool ?_,hw.ext⟩)
  unfold tracksOk
  rw[eq_comm,List.all_eq_true]
  exact fun k hk=>g2 k (by have:=List.mem_range.1 hk;omega)
theorem pvalid_c {y m d:Int} {v:Value} {l:List TrkT} (hf:l.length≤12→fitT l):ContIn Tryz.prog (PgP v l) 28 [pgV y m d v] (.bool (pageB y m d l)):=by
 unfold pageB
 cases hd:dateOk y m d with
 |false=>exact pvalid_d hd
 |true =>
  by_cases hl:l.length≤12
  ·rw[decide_eq_true (by omega),Bool.true_and,Bool.true_and]
   exact pvalid_t hd hl (hf hl)
  ·rw[decide_eq_false (by omega),Bool.true_and,Bool.false_and]
   exact pvalid_l hd (by omega)
def idxT (l:List TrkT) (nm:List UInt8):Int:=match (List.range l.length).find? (fun i:Nat=>decide ((nth l (i:Int)).nm=nm)) with
 |some k=>(k:Int)
 |none=>-1
theorem idxT_lt {l:List TrkT} {nm:List UInt8} : -1≤idxT l nm∧idxT l nm<l.length:=by
 unfold idxT
 cases h:(List.range l.length).find? (fun i:Nat=>decide ((nth l (i:Int)).nm=nm)) with
 |none=>dsimp only;omega
 |some k =>
  have:=List.mem_range.1 (List.mem_of_find?_eq_some h)
  dsimp only;omega
theorem rfind_c {y m d:Int} (nm:List UInt8) (v:Value) (l:List TrkT) (hl:l.length≤1000000):ContR Tryz.prog [Hl.rd v cTk 6 l] 25 [pgV y m d v,strV nm] (.int .i64 (idxT l nm)):=fun w hw0=>by
 refine enter Tryz.func25 rfl rfl rfl hw0 ?_
 repeat' (first|(refine nxV ?_)|(refine nSS ?_)|(refine nS1 fun _=>?_)|(refine nMM ?_)|(refine nM1 fun _=>?_)|(refine nxG ?_)|(refine nxX ?_)|(refine G.cN rfl (fun hc=>?_) (fun hc=>?_)<;>(try first|exact hc.elim|(exfalso;omega))))
 rename_i b2
 refine G.loop (ι:=Nat) (fun i=>[(1,strV nm),(2,.pointer (some ⟨b2,0,none⟩)),(5,.int .i64 (i:Int))]) (fun _=>[Hl.blk b2 32 [.int .i64 y,.int .i64 m,.int .i64 d,v],Hl.rd v cTk 6 l]) (fun i=>i≤l.length∧∀k:Nat,k<i→decide ((nth l (k:Int)).nm=nm)=false) (fun i=>l.length-i) 0 ⟨by omega,fun k hk=>by omega⟩ ⟨rfl,rfl,rfl,trivial⟩ (fun w h=>h) ?_
 rintro i mx ⟨g1,g2⟩ hmx
 have hr:idxT l nm=match (List.range l.length).find? (fun i:Nat=>decide ((nth l (i:Int)).nm=nm)) with
  |some k=>(k:Int)
  |none=>-1:=rfl
 rcases Nat.lt_or_ge i l.length with hi|hi
 ·by_cases hb:(nth l (i:Int)).nm=nm
  ·rw[findr_some hi g2 (decide_eq_true hb)] at hr
   repeat' (first|(show YK _ _ _ _ _ ⟨_,.call { callee:=.builtin .len,args:=_,argTypes:=#[9] },_,_,_,_⟩ _;refine YK.ofV (y_lenS (by rfl) StrTy.is) ?_)|(show VK _ _ _ _ _ ⟨_,.call { callee:=.builtin .len,args:=_,argTypes:=#[9] },_,_,_,_⟩ _;refine VK.mk (y_lenS (by rfl) StrTy.is) ?_)|(show YG _ _ _ _ _ _ ⟨_,.call { callee:=.builtin .len,args:=_,argTypes:=#[9] },_,_,_,_⟩ _;refine YG.mk (fun hb=>by(try(have hc:=And.left hb;have hb:=And.right hb;rw[hc]));(try rw[hb]);exact V.y (y_lenS (by rfl) StrTy.is)) ?_)|(show VG _ _ _ _ _ _ ⟨_,.call { callee:=.builtin .len,args:=_,argTypes:=#[9] },_,_,_,_⟩ _;refine VG.mk (fun hb=>by(try(have hc:=And.left hb;have hb:=And.right hb;rw[hc]));(try rw[hb]);exact y_lenS (by rfl) StrTy.is) ?_)|(exact absurd hb hc)|(refine nxV ?_)|(refine nSS ?_)|(refine nS1 fun _=>?_)|(refine nMM ?_)|(refine nM1 fun _=>?_)|(refine nxG ?_)|(refine nxVS ?_)|(refine nxGS ?_)|(refine nxX ?_)|(refine G.cN rfl (fun hc=>?_) (fun hc=>?_)<;>(try first|exact hc.elim|(exfalso;omega))))
   exact X.ret (vs:=[_]) rfl ⟨rfl,rfl⟩ rfl (fun w hw=>⟨ret_int hr.symm,hw.ext⟩)
  ·repeat' (first|(show YK _ _ _ _ _ ⟨_,.call { callee:=.builtin .len,args:=_,argTypes:=#[9] },_,_,_,_⟩ _;refine YK.ofV (y_lenS (by rfl) StrTy.is) ?_)|(show VK _ _ _ _ _ ⟨_,.call { callee:=.builtin .len,args:=_,argTypes:=#[9] },_,_,_,_⟩ _;refine VK.mk (y_lenS (by rfl) StrTy.is) ?_)|(show YG _ _ _ _ _ _ ⟨_,.call { callee:=.builtin .len,args:=_,argTypes:=#[9] },_,_,_,_⟩ _;refine YG.mk (fun hb=>by(try(have hc:=And.left hb;have hb:=And.right hb;rw[hc]));(try rw[hb]);exact V.y (y_lenS (by rfl) StrTy.is)) ?_)|(show VG _ _ _ _ _ _ ⟨_,.call { callee:=.builtin .len,args:=_,argTypes:=#[9] },_,_,_,_⟩ _;refine VG.mk (fun hb=>by(try(have hc:=And.left hb;have hb:=And.right hb;rw[hc]));(try rw[hb]);exact y_lenS (by rfl) StrTy.is) ?_)|(exact absurd hc hb)|(refine nxV ?_)|(refine nSS ?_)|(refine nS1 fun _=>?_)|(refine nMM ?_)|(refine nM1 fun _=>?_)|(refine nxG ?_)|(refine nxVS ?_)|(refine nxGS ?_)|(refine nxX ?_)|(refine G.cN rfl (fun hc=>?_) (fun hc=>?_)<;>(try first|exact hc.elim|(exfalso;omega))))
   refine X.again (i+1) ⟨by omega,fun k hk=>?_⟩ (by omega) ⟨rfl,rfl,rfl,trivial⟩ (by exact fun w h=>h.sub subS)
   rcases Nat.lt_or_ge k i with h|h
   ·exact g2 k h
   ·rw[show k=i by omega];exact decide_eq_false hb
 ·repeat' (first|(refine nxV ?_)|(refine nSS ?_)|(refine nS1 fun _=>?_)|(refine nMM ?_)|(refine nM1 fun _=>?_)|(refine nxG ?_)|(refine nxX ?_)|(refine G.cN rfl (fun hc=>?_) (fun hc=>?_)<;>(try first|exact hc.elim|(exfalso;omega))))
  rw[findr_none (fun k hk=>g2 k (by omega))] at hr
  exact X.ret (vs:=[_]) rfl ⟨rfl,rfl⟩ rfl (fun w hw=>⟨ret_int hr.symm,hw.ext⟩)
section
variable {P:Program} {Q:Exit→Act→World→Prop} {n:Nat} {L:FL} {w0:World} {H:List Hl}
theorem RS.lit1IF {ops:Array Oper} {rest:List Oper} {dd j g:Nat} {ty t e:TypeId} {bytes:Nat} {pos:String} {af:Array Edge} {x:Operand} {m:Int} (h:∀v':Sl,RS P ops Q n ((dd,v'.v)::L) w0 (Hl.rw v'.v e cI 1 [m]::H) rest) (hx:evO L x=some (.int .i64 m):=by rfl) (hj:(ops[j]?).bind (·.dst)=some g:=by rfl) (hg:lk L g=some (.bool false):=by rfl) [ht:RowTy P t e 1 bytes] (hd:Nat.blt dd n=true:=by rfl) :
  RS P ops Q n L w0 H (⟨some dd,.buildSlice t 1 #[(0,x)],ty,pos,af,some (j,false)⟩::rest):=RS.actXT hj hg rfl (x_litS (parts:=[(0,x)]) (vs:=[.int .i64 m]) (cs:=cI m) (f:=cI) (l:=[m]) ⟨hx,rfl⟩ rfl rfl rfl rfl (fun zs hz=>by
   match zs,hz with
   |[_],_=>rfl) rfl rfl rfl (rowTy_B ht.is) hd) fun v' _=>h v'
end
theorem rletter_c (b:Int):Cont Tryz.prog 137 [.int .u8 b] (.bool (letterB b)):=fun w=>by
 refine enter0 Tryz.func137 rfl rfl rfl ?_
 repeat' (first|(refine nxV ?_)|(refine nSS ?_)|(refine nS1 fun _=>?_)|(refine nMM ?_)|(refine nM1 fun _=>?_)|(refine nxG ?_)|(refine nxX ?_)|(refine G.cN rfl (fun hc=>?_) (fun hc=>?_)<;>(try first|exact hc.elim|(exfalso;omega))))
 refine X.ret (vs:=[_]) rfl ⟨rfl,rfl⟩ rfl (fun w hw=>⟨ret_bool ?_,hw.ext⟩)
 unfold letterB
 simp
theorem rdigit_c (b:Int):Cont Tryz.prog 138 [.int .u8 b] (.bool (digitB b)):=fun w=>by
 refine enter0 Tryz.func138 rfl rfl rfl ?_
 repeat' (first|(refine nxV ?_)|(refine nSS ?_)|(refine nS1 fun _=>?_)|(refine nMM ?_)|(refine nM1 fun _=>?_)|(refine nxG ?_)|(refine nxX ?_)|(refine G.cN rfl (fun hc=>?_) (fun hc=>?_)<;>(try first|exact hc.elim|(exfalso;omega))))
 refine X.ret (vs:=[_]) rfl ⟨rfl,rfl⟩ rfl (fun w hw=>⟨ret_bool ?_,hw.ext⟩)
 unfold digitB
 simp
theorem rname_no {l:List UInt8} (h:l.length=0∨20<l.length∨letterB (nth l 0).toNat=false):nameB l=false:=by
 unfold nameB
 rcases h with h|h|h
 ·rw[List.eq_nil_of_length_eq_zero h];rfl
 ·rw[decide_eq_false (by omega)];rfl
 ·rw[h];simp
theorem rname_c (l:List UInt8) (hl:l.length≤maxLen):Cont Tryz.prog 73 [strV l] (.bool (nameB l)):=fun w=>by
 simp only[maxLen] at hl
 by_cases h0:l.length=0∨20<l.length
 ·have e:=rname_no (l:=l) (by rcases h0 with h|h;exact .inl h;exact .inr (.inl h))
  refine enter0 Tryz.func73 rfl rfl rfl ?_
  repeat' (first|(show YK _ _ _ _ _ ⟨_,.call { callee:=.builtin .len,args:=_,argTypes:=#[9] },_,_,_,_⟩ _;refine YK.ofV (y_lenS (by rfl) StrTy.is) ?_)|(show VK _ _ _ _ _ ⟨_,.call { callee:=.builtin .len,args:=_,argTypes:=#[9] },_,_,_,_⟩ _;refine VK.mk (y_lenS (by rfl) StrTy.is) ?_)|(show YG _ _ _ _ _ _ ⟨_,.call { callee:=.builtin .len,args:=_,argTypes:=#[9] },_,_,_,_⟩ _;refine YG.mk (fun hb=>by(try(have hc:=And.left hb;have hb:=And.right hb;rw[hc]));(try rw[hb]);exact V.y (y_lenS (by rfl) StrTy.is)) ?_)|(show VG _ _ _ _ _ _ ⟨_,.call { callee:=.builtin .len,args:=_,argTypes:=#[9] },_,_,_,_⟩ _;refine VG.mk (fun hb=>by(try(have hc:=And.left hb;have hb:=And.right hb;rw[hc]));(try rw[hb]);exact y_lenS (by rfl) StrTy.is) ?_)|(show YG _ _ _ _ _ _ ⟨_,.call { callee:=.value _,args:=_,argTypes:=_ },_,_,_,_⟩ _;refine YG.mk (v:=.bool false) (fun hb=>by exfalso;simp only[Bool.or_eq_false_iff,decide_eq_false_iff_not] at hb;omega) ?_)|(show YG _ _ _ _ _ _ ⟨_,.index _ _ _,_,_,_,_⟩ _;refine YG.mk (v:=.int .u8 0) (fun hb=>by exfalso;simp only[Bool.or_eq_false_iff,decide_eq_false_iff_not] at hb;omega) ?_)|(refine nxV ?_)|(refine nSS ?_)|(refine nS1 fun _=>?_)|(refine nMM ?_)|(refine nM1 fun _=>?_)|(refine nxG ?_)|(refine nxVS ?_)|(refine nxGS ?_)|(refine nxX ?_)|(refine G.cN rfl (fun hc=>?_) (fun hc=>?_)<;>(try first|exact hc.elim|(exfalso;omega))))
  all_goals exact X.ret (vs:=[_]) rfl ⟨rfl,rfl⟩ rfl (fun w hw=>⟨ret_bool e.symm,hw.ext⟩)
 ·have q0:=rletter_c ((nth l 0).toNat:Int)
  cases hb0:letterB (nth l 0).toNat with
  |false =>
   have e:=rname_no (l:=l) (.inr (.inr hb0))
   rw[hb0] at q0
   refine enter0 Tryz.func73 rfl rfl rfl ?_
   repeat' (first|(show YK _ _ _ _ _ ⟨_,.call { callee:=.builtin .len,args:=_,argTypes:=#[9] },_,_,_,_⟩ _;refine YK.ofV (y_lenS (by rfl) StrTy.is) ?_)|(show VK _ _ _ _ _ ⟨_,.call { callee:=.builtin .len,args:=_,argTypes:=#[9] },_,_,_,_⟩ _;refine VK.mk (y_lenS (by rfl) StrTy.is) ?_)|(show YG _ _ _ _ _ _ ⟨_,.call { callee:=.builtin .len,args:=_,argTypes:=#[9] },_,_,_,_⟩ _;refine YG.mk (fun hb=>by(try(have hc:=And.left hb;have hb:=And.right hb;rw[hc]));(try rw[hb]);exact V.y (y_lenS (by rfl) StrTy.is)) ?_)|(show VG _ _ _ _ _ _ ⟨_,.call { callee:=.builtin .len,args:=_,argTypes:=#[9] },_,_,_,_⟩ _;refine VG.mk (fun hb=>by(try(have hc:=And.left hb;have hb:=And.right hb;rw[hc]));(try rw[hb]);exact y_lenS (by rfl) StrTy.is) ?_)|(show YK _ _ _ _ _ _ _;first|refine YK.mk (zcA (q0) ⟨rfl,rfl⟩) ?_)|(refine nxV ?_)|(refine nSS ?_)|(refine nS1 fun _=>?_)|(refine nMM ?_)|(refine nM1 fun _=>?_)|(show YG _ _ _ _ _ _ _ _;refine YG.mk (fun hb=>by(try(have hc:=And.left hb;have hb:=And.right hb;rw[hc]));(try rw[hb]);first|exact(zcA (q0) ⟨rfl,rfl⟩)|exact V.y vAuto) ?_)|(refine nxG ?_)|(refine nxVS ?_)|(refine nxGS ?_)|(refine nxX ?_)|(refine G.cN rfl (fun hc=>?_) (fun hc=>?_)<;>(try first|exact hc.elim|(exfalso;omega))))
   all_goals first
    |exact X.ret (vs:=[_]) rfl ⟨rfl,rfl⟩ rfl (fun w hw=>⟨ret_bool e.symm,hw.ext⟩)
    |(exfalso;simp at hc;done)
  |true =>
   rw[hb0] at q0
   refine enter0 Tryz.func73 rfl rfl rfl ?_
   repeat' (first|(show YK _ _ _ _ _ ⟨_,.call { callee:=.builtin .len,args:=_,argTypes:=#[9] },_,_,_,_⟩ _;refine YK.ofV (y_lenS (by rfl) StrTy.is) ?_)|(show VK _ _ _ _ _ ⟨_,.call { callee:=.builtin .len,args:=_,argTypes:=#[9] },_,_,_,_⟩ _;refine VK.mk (y_lenS (by rfl) StrTy.is) ?_)|(show YG _ _ _ _ _ _ ⟨_,.call { callee:=.builtin .len,args:=_,argTypes:=#[9] },_,_,_,_⟩ _;refine YG.mk (fun hb=>by(try(have hc:=And.left hb;have hb:=And.right hb;rw[hc]));(try rw[hb]);exact V.y (y_lenS (by rfl) StrTy.is)) ?_)|(show VG _ _ _ _ _ _ ⟨_,.call { callee:=.builtin .len,args:=_,argTypes:=#[9] },_,_,_,_⟩ _;refine VG.mk (fun hb=>by(try(have hc:=And.left hb;have hb:=And.right hb;rw[hc]));(try rw[hb]);exact y_lenS (by rfl) StrTy.is) ?_)|(show YK _ _ _ _ _ _ _;first|refine YK.mk (zcA (q0) ⟨rfl,rfl⟩) ?_)|(refine nxV ?_)|(refine nSS ?_)|(refine nS1 fun _=>?_)|(refine nMM ?_)|(refine nM1 fun _=>?_)|(show YG _ _ _ _ _ _ _ _;refine YG.mk (fun hb=>by(try(have hc:=And.left hb;have hb:=And.right hb;rw[hc]));(try rw[hb]);first|exact(zcA (q0) ⟨rfl,rfl⟩)|exact V.y vAuto) ?_)|(refine nxG ?_)|(refine nxVS ?_)|(refine nxGS ?_)|(refine nxX ?_)|(refine G.cN rfl (fun hc=>?_) (fun hc=>?_)<;>(try first|exact hc.elim|(exfalso;omega))))
   refine G.loop (ι:=Nat) (fun i=>[(0,strV l),(3,.int .i64 (i:Int))]) (fun _=>[]) (fun i=>i≤l.length∧∀k:Nat,k<i→wordB (nth l (k:Int)).toNat=true) (fun i=>l.length-i) 0 ⟨Nat.zero_le _,fun k hk=>by omega⟩ ⟨rfl,rfl,trivial⟩ (fun w h=>h) ?_
   rintro i mx ⟨g1,g2⟩ hmx
   rcases Nat.lt_or_ge i l.length with hi|hi
   ·have q1:=rletter_c ((nth l (i:Int)).toNat:Int)
    have q2:=rdigit_c ((nth l (i:Int)).toNat:Int)
    have hw:wordB (nth l (i:Int)).toNat=(letterB (nth l (i:Int)).toNat||digitB (nth l (i:Int)).toNat||decide (((nth l (i:Int)).toNat:Int)=95)):=rfl
    generalize letterB (nth l (i:Int)).toNat=b1 at q1 hw
    generalize digitB (nth l (i:Int)).toNat=b2 at q2 hw
    repeat' (first|(show YK _ _ _ _ _ ⟨_,.call { callee:=.builtin .len,args:=_,argTypes:=#[9] },_,_,_,_⟩ _;refine YK.ofV (y_lenS (by rfl) StrTy.is) ?_)|(show VK _ _ _ _ _ ⟨_,.call { callee:=.builtin .len,args:=_,argTypes:=#[9] },_,_,_,_⟩ _;refine VK.mk (y_lenS (by rfl) StrTy.is) ?_)|(show YG _ _ _ _ _ _ ⟨_,.call { callee:=.builtin .len,args:=_,argTypes:=#[9] },_,_,_,_⟩ _;refine YG.mk (fun hb=>by(try(have hc:=And.left hb;have hb:=And.right hb;rw[hc]));(try rw[hb]);exact V.y (y_lenS (by rfl) StrTy.is)) ?_)|(show VG _ _ _ _ _ _ ⟨_,.call { callee:=.builtin .len,args:=_,argTypes:=#[9] },_,_,_,_⟩ _;refine VG.mk (fun hb=>by(try(have hc:=And.left hb;have hb:=And.right hb;rw[hc]));(try rw[hb]);exact y_lenS (by rfl) StrTy.is) ?_)|(show YK _ _ _ _ _ _ _;first|refine YK.mk (zcA (q1) ⟨rfl,rfl⟩) ?_|refine YK.mk (zcA (q2) ⟨rfl,rfl⟩) ?_)|(refine nxV ?_)|(refine nSS ?_)|(refine nS1 fun _=>?_)|(refine nMM ?_)|(refine nM1 fun _=>?_)|(show YG _ _ _ _ _ _ _ _;refine YG.mk (fun hb=>by(try(have hc:=And.left hb;have hb:=And.right hb;rw[hc]));(try rw[hb]);first|exact(zcA (q1) ⟨rfl,rfl⟩)|exact(zcA (q2) ⟨rfl,rfl⟩)|exact V.y vAuto) ?_)|(refine nxG ?_)|(refine nxVS ?_)|(refine nxGS ?_)|(refine nxX ?_)|(refine G.cN rfl (fun hc=>?_) (fun hc=>?_)<;>(try first|exact hc.elim|(exfalso;omega))))
    ·have e:nameB l=false:=by
      unfold nameB
      rw[allP_f hi (by rw[hw];cases b1<;>cases b2<;>simp_all)]
      simp
     exact X.ret (vs:=[_]) rfl ⟨rfl,rfl⟩ rfl (fun w hw=>⟨ret_bool e.symm,hw.ext⟩)
    ·refine X.again (i+1) ⟨by omega,fun k hk=>?_⟩ (by omega) ⟨rfl,rfl,trivial⟩ (fun w h=>h)
     rcases Nat.lt_or_ge k i with h|h
     ·exact g2 k h
     ·rw[show k=i by omega,hw];cases b1<;>cases b2<;>simp_all
   ·repeat' (first|(show YK _ _ _ _ _ ⟨_,.call { callee:=.builtin .len,args:=_,argTypes:=#[9] },_,_,_,_⟩ _;refine YK.ofV (y_lenS (by rfl) StrTy.is) ?_)|(show VK _ _ _ _ _ ⟨_,.call { callee:=.builtin .len,args:=_,argTypes:=#[9] },_,_,_,_⟩ _;refine VK.mk (y_lenS (by rfl) StrTy.is) ?_)|(show YG _ _ _ _ _ _ ⟨_,.call { callee:=.builtin .len,args:=_,argTypes:=#[9] },_,_,_,_⟩ _;refine YG.mk (fun hb=>by(try(have hc:=And.left hb;have hb:=And.right hb;rw[hc]));(try rw[hb]);exact V.y (y_lenS (by rfl) StrTy.is)) ?_)|(show VG _ _ _ _ _ _ ⟨_,.call { callee:=.builtin .len,args:=_,argTypes:=#[9] },_,_,_,_⟩ _;refine VG.mk (fun hb=>by(try(have hc:=And.left hb;have hb:=And.right hb;rw[hc]));(try rw[hb]);exact y_lenS (by rfl) StrTy.is) ?_)|(refine nxV ?_)|(refine nSS ?_)|(refine nS1 fun _=>?_)|(refine nMM ?_)|(refine nM1 fun _=>?_)|(refine nxG ?_)|(refine nxVS ?_)|(refine nxGS ?_)|(refine nxX ?_)|(refine G.cN rfl (fun hc=>?_) (fun hc=>?_)<;>(try first|exact hc.elim|(exfalso;omega))))
    have e:nameB l=true:=by
     unfold nameB
     rw[allP_t (fun k hk=>g2 k (by omega)),decide_eq_true (by omega),hb0,decide_eq_true (by intro g;rw[g] at h0;exact h0 (.inl rfl))];rfl
    exact X.ret (vs:=[_]) rfl ⟨rfl,rfl⟩ rfl (fun w hw=>⟨ret_bool e.symm,hw.ext⟩)
theorem rin_c (v:Value) (l:List Int) (lo up:Int) (hl:l.length≤maxLen):ContR Tryz.prog [Hl.rd v cI 1 l] 22 [v,.int .i64 lo,.int .i64 up] (.bool (inB l lo up)):=fun w hw0=>by
 simp only[maxLen] at hl
 refine enter Tryz.func22 rfl rfl rfl hw0 ?_
 repeat' (first|(refine nxV ?_)|(refine nSS ?_)|(refine nS1 fun _=>?_)|(refine nMM ?_)|(refine nM1 fun _=>?_)|(refine nxG ?_)|(refine nxX ?_)|(refine G.cN rfl (fun hc=>?_) (fun hc=>?_)<;>(try first|exact hc.elim|(exfalso;omega))))
 refine G.loop (ι:=Nat) (fun i=>[(0,v),(1,.int .i64 lo),(2,.int .i64 up),(7,.int .i64 (i:Int))]) (fun _=>[Hl.rd v cI 1 l]) (fun i=>i≤l.length∧∀k:Nat,k<i→badI lo up (nth l (k:Int))=false) (fun i=>l.length-i) 0 ⟨by omega,fun k hk=>by omega⟩ ⟨rfl,rfl,rfl,rfl,trivial⟩ (fun w h=>h) ?_
 rintro i mx ⟨g1,g2⟩ hmx
 rw[←find_in]
 rcases Nat.lt_or_ge i l.length with hi|hi
 ·repeat' (first|(refine nxV ?_)|(refine nSS ?_)|(refine nS1 fun _=>?_)|(refine nMM ?_)|(refine nM1 fun _=>?_)|(refine nxG ?_)|(refine nxX ?_)|(refine G.cN rfl (fun hc=>?_) (fun hc=>?_)<;>(try first|exact hc.elim|(exfalso;omega))))
  ·have hb:badI lo up (nth l (i:Int))=true:=by unfold badI;simp;omega
   rw[findr_some hi g2 hb]
   exact X.ret1
  ·have hb:badI lo up (nth l (i:Int))=false:=by unfold badI;simp;omega
   refine X.again (i+1) ⟨by omega,fun k hk=>?_⟩ (by omega) ⟨rfl,rfl,rfl,rfl,trivial⟩ (by exact fun w h=>h.sub subS)
   rcases Nat.lt_or_ge k i with h|h
   ·exact g2 k h
   ·rw[show k=i by omega];exact hb
 ·repeat' (first|(refine nxV ?_)|(refine nSS ?_)|(refine nS1 fun _=>?_)|(refine nMM ?_)|(refine nM1 fun _=>?_)|(refine nxG ?_)|(refine nxX ?_)|(refine G.cN rfl (fun hc=>?_) (fun hc=>?_)<;>(try first|exact hc.elim|(exfalso;omega))))
  rw[findr_none (fun k hk=>g2 k (by omega))]
  exact X.ret1
theorem rvalidT_c (t:TrkT) (hn:t.nm.length≤maxLen) (hg:t.gl.length≤maxLen) (hd:t.dl.length≤maxLen):ContR Tryz.prog [Hl.rd t.gv.v cI 1 t.gl,Hl.rd t.dv.v cI 1 t.dl] 24 [trV t] (.bool (okT t)):=fun w hw0=>by
 have q0:=rname_c t.nm hn
 have q1:=rin_c t.gv.v t.gl 0 215999 hg
 have q2:=rin_c t.dv.v t.dl (-54000) 54000 hd
 have q3:=fun v=>rin_c v [t.se] 0 200 (by simp[maxLen])
 have q4:=fun v=>rin_c v [t.pa] 0 620 (by simp[maxLen])
 have q5:=fun v=>rin_c v [t.be] 0 1000 (by simp[maxLen])
 simp only[maxLen] at hn hg hd
 unfold okT
 generalize nameB t.nm=c0 at q0
 generalize inB t.gl 0 215999=c1 at q1
 generalize inB t.dl (-54000) 54000=c2 at q2
 generalize inB [t.se] 0 200=c3 at q3
 generalize inB [t.pa] 0 620=c4 at q4
 generalize inB [t.be] 0 1000=c5 at q5
 refine enter Tryz.func24 rfl rfl rfl hw0 ?_
 repeat' (first|(show YK _ _ _ _ _ ⟨_,.call { callee:=.builtin .len,args:=_,argTypes:=#[9] },_,_,_,_⟩ _;refine YK.ofV (y_lenS (by rfl) StrTy.is) ?_)|(show VK _ _ _ _ _ ⟨_,.call { callee:=.builtin .len,args:=_,argTypes:=#[9] },_,_,_,_⟩ _;refine VK.mk (y_lenS (by rfl) StrTy.is) ?_)|(show YG _ _ _ _ _ _ ⟨_,.call { callee:=.builtin .len,args:=_,argTypes:=#[9] },_,_,_,_⟩ _;refine YG.mk (fun hb=>by(try(have hc:=And.left hb;have hb:=And.right hb;rw[hc]));(try rw[hb]);exact V.y (y_lenS (by rfl) StrTy.is)) ?_)|(show VG _ _ _ _ _ _ ⟨_,.call { callee:=.builtin .len,args:=_,argTypes:=#[9] },_,_,_,_⟩ _;refine VG.mk (fun hb=>by(try(have hc:=And.left hb;have hb:=And.right hb;rw[hc]));(try rw[hb]);exact y_lenS (by rfl) StrTy.is) ?_)|(show RS _ _ _ _ ((28,.bool (_&&_))::_) _ _ _;refine RS.splB 28 rfl (fun hq=>?_) (fun hq=>?_))|(show RS _ _ _ _ ((34,.bool c3)::_) _ _ _;refine RS.splB 34 rfl (fun hq=>?_) (fun hq=>?_))|(show RS _ _ _ _ ((40,.bool c4)::_) _ _ _;refine RS.splB 40 rfl (fun hq=>?_) (fun hq=>?_))|(refine RS.lit1IT (fun v'=>?_))|(show YK _ _ _ _ _ _ _;first|refine YK.mk (zcA (q0) ⟨rfl,rfl⟩) ?_|refine YK.mk (zcR (q1) ⟨rfl,rfl,rfl,rfl⟩) ?_|refine YK.mk (zcR (q2) ⟨rfl,rfl,rfl,rfl⟩) ?_|refine YK.mk (zcR (q3 _) ⟨rfl,rfl,rfl,rfl⟩) ?_|refine YK.mk (zcR (q4 _) ⟨rfl,rfl,rfl,rfl⟩) ?_|refine YK.mk (zcR (q5 _) ⟨rfl,rfl,rfl,rfl⟩) ?_)|(refine nxV ?_)|(refine nSS ?_)|(refine nS1 fun _=>?_)|(refine nMM ?_)|(refine nM1 fun _=>?_)|(show YG _ _ _ _ _ _ _ _;refine YG.mk (fun hb=>by(try(have hc:=And.left hb;have hb:=And.right hb;rw[hc]));(try rw[hb]);first|exact(zcA (q0) ⟨rfl,rfl⟩)|exact(zcR (q1) ⟨rfl,rfl,rfl,rfl⟩)|exact(zcR (q2) ⟨rfl,rfl,rfl,rfl⟩)|exact(zcR (q3 _) ⟨rfl,rfl,rfl,rfl⟩)|exact(zcR (q4 _) ⟨rfl,rfl,rfl,rfl⟩)|exact(zcR (q5 _) ⟨rfl,rfl,rfl,rfl⟩)|exact V.y vAuto) ?_)|(refine nxG ?_)|(refine nxVS ?_)|(refine nxGS ?_)|(refine nxX ?_)|(refine G.cN rfl (fun hc=>?_) (fun hc=>?_)<;>(try first|exact hc.elim|(exfalso;omega))))
 all_goals exact X.ret (vs:=[_]) rfl ⟨rfl,rfl⟩ rfl (fun w hw=>⟨ret_bool (by simp_all),hw.ext⟩)
end Go.Proofs.YtjmdeplmenbmmaaGreat
