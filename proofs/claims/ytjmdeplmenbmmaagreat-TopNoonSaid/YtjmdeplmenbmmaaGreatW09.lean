/- Joined texts: RfW, Bkm, FrameN, Rgo, Brd. -/
import Derived.Test.YtjmdeplmenbmmaaGreatW08
import Derived.Test.YtjmdeplmenbmmaaGreatV06
import Derived.Test.YtjmdeplmenbmmaaGreatW02
import Derived.RangeFuncNested
import Derived.RangeFuncBound
import Derived.RangeFuncCalls
import Derived.RangeFuncLeaves
import Derived.RangeFuncBox
import Derived.Shelf.Abstract
import Derived.Shelf.RegionOpen
import Derived.WalkKit
import Derived.OwnWalkIn
import Derived.TacticsInMore
import Derived.LoopNIn
import Derived.LoopIn
import Derived.Maps.AppendAt
set_option linter.unusedVariables false
set_option maxHeartbeats 4000000
namespace Go.Proofs.YtjmdeplmenbmmaaGreat
open Go.RowKit
def fitM (l:List TrkT):Prop:=∀t∈l,t.nm.length≤maxLen∧t.gl.length≤maxLen∧t.dl.length≤maxLen
theorem fitM.at {l:List TrkT} (h:fitM l) {i:Nat} (hi:i<l.length):(nth l (i:Int)).nm.length≤maxLen∧(nth l (i:Int)).gl.length≤maxLen∧(nth l (i:Int)).dl.length≤maxLen:=by
 have e:=nth_some (l:=l) (m:=(i:Int)) (by omega) (by omega)
 rw[Int.toNat_natCast] at e
 exact h _ (List.mem_of_getElem? e)
theorem idx_self {l:List TrkT} {i:Nat} (hi:i<l.length):idxT l (nth l (i:Int)).nm=(i:Int)↔(nth l (i:Int)).nm∉nmsL l i:=by
 have hmem:∀x,x∈nmsL l i↔∃k:Nat,k<i∧(nth l (k:Int)).nm=x:=fun x=>by
  unfold nmsL
  rw[List.mem_reverse,List.mem_map]
  constructor
  ·rintro⟨t,ht,rfl⟩
   obtain⟨k,hk,rfl⟩:=List.getElem_of_mem ht
   rw[List.length_take] at hk
   have e:=nth_some (l:=l) (m:=(k:Int)) (by omega) (by omega)
   rw[Int.toNat_natCast,List.getElem?_eq_getElem (by omega)] at e
   exact⟨k,by omega,by rw[←Option.some.inj e,List.getElem_take]⟩
  ·rintro⟨k,hk,rfl⟩
   have e:=nth_some (l:=l) (m:=(k:Int)) (by omega) (by omega)
   rw[Int.toNat_natCast] at e
   exact⟨_,List.mem_of_getElem? (i:=k) (by rw[List.getElem?_take,if_pos hk];exact e),rfl⟩
 rw[hmem]
 constructor
 ·rintro h ⟨k,hk,e⟩
  unfold idxT at h
  cases hf:(List.range l.length).find? (fun j:Nat=>decide ((nth l (j:Int)).nm=(nth l (i:Int)).nm)) with
  |none=>rw[hf] at h;dsimp only at h;omega
  |some j =>
   rw[hf] at h
   dsimp only at h
   have:=(List.find?_range_eq_some.1 hf).2.2 k (by omega)
   simp[e] at this
 ·intro h
  unfold idxT
  rw[findr_some hi (fun k hk=>decide_eq_false fun e=>h ⟨k,hk,e⟩) (decide_eq_true rfl)]
theorem rvalidP_d {y m d:Int} {v:Value} {l:List TrkT} (hd:dateOk y m d=false):ContIn Tryz.prog (PgP v l) 6 [pgV y m d v] (.bool false):=fun w hw0=>by
 refine enter Tryz.func6 rfl rfl rfl (Hp:=[Hl.rd v cTk 6 l]) (fun h hm=>by
  rcases List.mem_singleton.1 hm with rfl
  exact⟨⟨hw0.1,fun h=>by cases h⟩,rfl⟩) ?_
 cases hv:validB y m d with
 |false =>
  have q0:=rvalid_f hv
  repeat' (first|(show YK _ _ _ _ _ ⟨_,.load 29 _,_,_,_,_⟩ _;refine YK.ofV (zlP (k:=3) (by rfl) (by exact memA) (by decide +kernel) (by rfl)) ?_)|(show YK _ _ _ _ _ _ _;first|refine YK.mk (zcA (q0) ⟨rfl,rfl⟩) ?_)|(refine nxV ?_)|(refine nSS ?_)|(refine nS1 fun _=>?_)|(refine nMM ?_)|(refine nM1 fun _=>?_)|(show YG _ _ _ _ _ _ _ _;refine YG.mk (fun hb=>by(try(have hc:=And.left hb;have hb:=And.right hb;rw[hc]));(try rw[hb]);first|exact(zcA (q0) ⟨rfl,rfl⟩)|exact V.y vAuto) ?_)|(refine nxG ?_)|(refine G.mA 6 [.go 0,.go 1,.go 2,.go 3,.go 4,.go 5,.go 6,.go 7,.go 8,.go 9,.go 10,.go 11,.go 12,.go 13,.go 14,.go 16,.go 15,.go 17,.go 18] ?_)|(refine nxX ?_)|(refine G.cN rfl (fun hc=>?_) (fun hc=>?_)<;>(try first|exact hc.elim|(exfalso;omega))))
  exact X.ret1
 |true =>
  have hn:=num_bd hv
  unfold dateOk at hd
  rw[hv] at hd
  have hno:inB [num y m d] (-300000) 300000=false:=by
   unfold inB;simp at hd ⊢;omega
  clear hd
  have q0:=rvalid_t hv
  have q1:=rnumber_c y m d hv
  have q2:=fun v=>rin_c v [num y m d] (-300000) 300000 (by simp[maxLen])
  rw[hno] at q2
  generalize num y m d=N at q1 hn q2
  repeat' (first|(show YK _ _ _ _ _ ⟨_,.load 29 _,_,_,_,_⟩ _;refine YK.ofV (zlP (k:=3) (by rfl) (by exact memA) (by decide +kernel) (by rfl)) ?_)|(show RS _ _ _ _ ((14,.bool (decide _))::_) _ _ _;refine RS.spl 14 rfl (fun hq=>?_) (fun hq=>?_))|(refine RS.lit1IF (fun v'=>?_))|(show YK _ _ _ _ _ _ _;first|refine YK.mk (zcA (q0) ⟨rfl,rfl⟩) ?_|refine YK.mk (zcA (q1) ⟨rfl,rfl⟩) ?_|refine YK.mk (zcR (q2 _) ⟨rfl,rfl,rfl,rfl⟩) ?_)|(refine nxV ?_)|(refine nSS ?_)|(refine nS1 fun _=>?_)|(refine nMM ?_)|(refine nM1 fun _=>?_)|(show YG _ _ _ _ _ _ _ _;refine YG.mk (fun hb=>by(try(have hc:=And.left hb;have hb:=And.right hb;rw[hc]));(try rw[hb]);first|exact(zcA (q0) ⟨rfl,rfl⟩)|exact(zcA (q1) ⟨rfl,rfl⟩)|exact(zcR (q2 _) ⟨rfl,rfl,rfl,rfl⟩)|exact V.y vAuto) ?_)|(refine nxG ?_)|(refine G.mA 6 [.go 0,.go 1,.go 2,.go 3,.go 4,.go 5,.go 6,.go 7,.go 8,.go 9,.go 10,.go 11,.go 12,.go 13,.go 14,.go 16,.go 15,.go 17,.go 18] ?_)|(refine nxX ?_)|(refine G.cN rfl (fun hc=>?_) (fun hc=>?_)<;>(try first|exact hc.elim|(exfalso;omega))))
  all_goals exact X.ret1
theorem rvalidP_l {y m d:Int} {v:Value} {l:List TrkT} (hv:validB y m d=true) (hl:12<l.length):ContIn Tryz.prog (PgP v l) 6 [pgV y m d v] (.bool false):=fun w hw0=>by
 refine enter Tryz.func6 rfl rfl rfl (Hp:=[Hl.rd v cTk 6 l]) (fun h hm=>by
  rcases List.mem_singleton.1 hm with rfl
  exact⟨⟨hw0.1,fun h=>by cases h⟩,rfl⟩) ?_
 have q0:=rvalid_t hv
 repeat' (first|(show RS _ _ _ _ ((14,.bool false)::_) _ _ _;exfalso;omega)|(show YK _ _ _ _ _ ⟨_,.load 29 _,_,_,_,_⟩ _;refine YK.ofV (zlP (k:=3) (by rfl) (by exact memA) (by decide +kernel) (by rfl)) ?_)|(show RS _ _ _ _ ((14,.bool (decide _))::_) _ _ _;refine RS.spl 14 rfl (fun hq=>?_) (fun hq=>?_))|(show YK _ _ _ _ _ _ _;first|refine YK.mk (zcA (q0) ⟨rfl,rfl⟩) ?_)|(refine nxV ?_)|(refine nSS ?_)|(refine nS1 fun _=>?_)|(refine nMM ?_)|(refine nM1 fun _=>?_)|(show YG _ _ _ _ _ _ _ _;refine YG.mk (fun hb=>by(try(have hc:=And.left hb;have hb:=And.right hb;rw[hc]));(try rw[hb]);first|exact(zcA (q0) ⟨rfl,rfl⟩)|exact V.y vAuto) ?_)|(refine nxG ?_)|(refine G.mA 6 [.go 0,.go 1,.go 2,.go 3,.go 4,.go 5,.go 6,.go 7,.go 8,.go 9,.go 10,.go 11,.go 12,.go 13,.go 14,.go 16,.go 15,.go 17,.go 18] ?_)|(refine nxX ?_)|(refine G.cN rfl (fun hc=>?_) (fun hc=>?_)<;>(try first|exact hc.elim|(exfalso;omega))))
 exact X.ret1
theorem rvalidP_t {y m d:Int} {v:Value} {l:List TrkT} (hd:dateOk y m d=true) (hl:l.length≤12) (hf:fitM l):ContIn Tryz.prog (PgP v l) 6 [pgV y m d v] (.bool (tracksOk l)):=fun w hw0=>by
 refine enter Tryz.func6 rfl rfl rfl (Hp:=[Hl.rd v cTk 6 l]) (fun h hm=>by
  rcases List.mem_singleton.1 hm with rfl
  exact⟨⟨hw0.1,fun h=>by cases h⟩,rfl⟩) ?_
 have hv:validB y m d=true:=by unfold dateOk at hd;simp at hd;exact hd.1
 have hN:inB [num y m d] (-300000) 300000=true:=by unfold dateOk at hd;unfold inB;simp at hd ⊢;omega
 have hn:=num_bd hv
 have q0:=rvalid_t hv
 have q1:=rnumber_c y m d hv
 have q2:=fun v=>rin_c v [num y m d] (-300000) 300000 (by simp[maxLen])
 rw[hN] at q2
 generalize num y m d=N at q1 hn q2
 repeat' (first|(show RS _ _ _ _ ((14,.bool true)::_) _ _ _;exfalso;omega)|(show YK _ _ _ _ _ ⟨_,.load 29 _,_,_,_,_⟩ _;refine YK.ofV (zlP (k:=3) (by rfl) (by exact memA) (by decide +kernel) (by rfl)) ?_)|(show RS _ _ _ _ ((14,.bool (decide _))::_) _ _ _;refine RS.spl 14 rfl (fun hq=>?_) (fun hq=>?_))|(refine RS.lit1IF (fun v'=>?_))|(show YK _ _ _ _ _ _ _;first|refine YK.mk (zcA (q0) ⟨rfl,rfl⟩) ?_|refine YK.mk (zcA (q1) ⟨rfl,rfl⟩) ?_|refine YK.mk (zcR (q2 _) ⟨rfl,rfl,rfl,rfl⟩) ?_)|(refine nxV ?_)|(refine nSS ?_)|(refine nS1 fun _=>?_)|(refine nMM ?_)|(refine nM1 fun _=>?_)|(show YG _ _ _ _ _ _ _ _;refine YG.mk (fun hb=>by(try(have hc:=And.left hb;have hb:=And.right hb;rw[hc]));(try rw[hb]);first|exact(zcA (q0) ⟨rfl,rfl⟩)|exact(zcA (q1) ⟨rfl,rfl⟩)|exact(zcR (q2 _) ⟨rfl,rfl,rfl,rfl⟩)|exact V.y vAuto) ?_)|(refine nxG ?_)|(refine G.mA 6 [.go 0,.go 1,.go 2,.go 3,.go 4,.go 5,.go 6,.go 7,.go 8,.go 9,.go 10,.go 11,.go 12,.go 13,.go 14,.go 16,.go 15,.go 17,.go 18] ?_)|(refine nxX ?_)|(refine G.cN rfl (fun hc=>?_) (fun hc=>?_)<;>(try first|exact hc.elim|(exfalso;omega))))
 rename_i b1
 refine G.loop (ι:=Nat) (fun i=>[(1,.pointer (some ⟨b1,0,none⟩)),(3,.int .i64 (i:Int))]) (fun i=>[Hl.blk b1 32 [.int .i64 y,.int .i64 m,.int .i64 d,v],Hl.rd v cTk 6 l]) (fun i=>i≤l.length∧∀k:Nat,k<i→trkOk l k=true) (fun i=>l.length-i) 0 ⟨Nat.zero_le _,fun k hk=>by omega⟩ ⟨rfl,rfl,trivial⟩ (by exact fun w h=>h.sub subS) ?_
 rintro i mx ⟨g1,g2⟩ hmx
 rcases Nat.lt_or_ge i l.length with hi|hi
 ·have hfi:=hf.at hi
  have hto:trkOk l i=(okT (nth l (i:Int))&&!decide ((nth l (i:Int)).nm∈nmsL l i)):=rfl
  have his:=idx_self hi
  have hfal:trkOk l i=false→tracksOk l=false:=fun h=>by
   unfold tracksOk
   rw[List.all_eq_false]
   exact⟨i,List.mem_range.2 hi,by rw[h];decide⟩
  have qv:=rvalidT_c (nth l (i:Int)) hfi.1 hfi.2.1 hfi.2.2
  have qf:=rfind_c (y:=y) (m:=m) (d:=d) (nth l (i:Int)).nm v l (by omega)
  have hbd:=idxT_lt (l:=l) (nm:=(nth l (i:Int)).nm)
  refine G.bring (hw0.2.at hi).1 (G.bring (hw0.2.at hi).2 ?_)
  generalize nmsL l i=S at hto his
  generalize idxT l (nth l (i:Int)).nm=K at qf his hbd
  generalize okT (nth l (i:Int))=c0 at qv hto
  repeat' (first|(show YK _ _ _ _ _ _ _;first|refine YK.mk (zcR (qv) ⟨rfl,rfl⟩) ?_|refine YK.mk (zcR (qf) ⟨rfl,rfl,rfl⟩) ?_)|(refine nxV ?_)|(refine nSS ?_)|(refine nS1 fun _=>?_)|(refine nMM ?_)|(refine nM1 fun _=>?_)|(show YG _ _ _ _ _ _ _ _;refine YG.mk (fun hb=>by(try(have hc:=And.left hb;have hb:=And.right hb;rw[hc]));(try rw[hb]);first|exact(zcR (qv) ⟨rfl,rfl⟩)|exact(zcR (qf) ⟨rfl,rfl,rfl⟩)|exact V.y vAuto) ?_)|(refine nxG ?_)|(refine G.mA 6 [.go 0,.go 1,.go 2,.go 3,.go 4,.go 5,.go 6,.go 7,.go 8,.go 9,.go 10,.go 11,.go 12,.go 13,.go 14,.go 16,.go 15,.go 17,.go 18] ?_)|(refine nxX ?_)|(refine G.cN rfl (fun hc=>?_) (fun hc=>?_)<;>(try first|exact hc.elim|(exfalso;omega))))
  ·have e:trkOk l i=false:=by
    rw[hto]
    rcases hc with h|h
    ·rw[h];rfl
    ·rw[show decide ((nth l (i:Int)).nm∈S)=true from decide_eq_true (Decidable.byContradiction fun g=>h (his.2 g))];simp
   exact X.ret (vs:=[_]) rfl ⟨rfl,rfl⟩ rfl (fun w hw=>⟨ret_bool (hfal e).symm,hw.ext⟩)
  ·have e:trkOk l i=true:=by
    rw[hto,hc.1,show decide ((nth l (i:Int)).nm∈S)=false from decide_eq_false (his.1 hc.2)];rfl
   refine X.again (i+1) ⟨by omega,fun k hk=>?_⟩ (by omega) ⟨rfl,rfl,trivial⟩ (by exact fun w h=>h.sub subS)
   rcases Nat.lt_or_ge k i with h|h
   ·exact g2 k h
   ·rw[show k=i by omega];exact e
 ·repeat' (first|(refine nxV ?_)|(refine nSS ?_)|(refine nS1 fun _=>?_)|(refine nMM ?_)|(refine nM1 fun _=>?_)|(refine nxG ?_)|(refine G.mA 6 [.go 0,.go 1,.go 2,.go 3,.go 4,.go 5,.go 6,.go 7,.go 8,.go 9,.go 10,.go 11,.go 12,.go 13,.go 14,.go 16,.go 15,.go 17,.go 18] ?_)|(refine nxX ?_)|(refine G.cN rfl (fun hc=>?_) (fun hc=>?_)<;>(try first|exact hc.elim|(exfalso;omega))))
  refine X.ret (vs:=[_]) rfl ⟨rfl,rfl⟩ rfl (fun w hw=>⟨ret_bool ?_,hw.ext⟩)
  unfold tracksOk
  rw[eq_comm,List.all_eq_true]
  exact fun k hk=>g2 k (by have:=List.mem_range.1 hk;omega)
theorem rvalidP_c {y m d:Int} {v:Value} {l:List TrkT} (hf:l.length≤12→fitM l):ContIn Tryz.prog (PgP v l) 6 [pgV y m d v] (.bool (pageB y m d l)):=by
 unfold pageB
 cases hd:dateOk y m d with
 |false=>exact rvalidP_d hd
 |true =>
  by_cases hl:l.length≤12
  ·rw[decide_eq_true (by omega),Bool.true_and,Bool.true_and]
   exact rvalidP_t hd hl (hf hl)
  ·rw[decide_eq_false (by omega),Bool.true_and,Bool.false_and]
   exact rvalidP_l (by unfold dateOk at hd;simp at hd;exact hd.1) (by omega)
structure PagT where
 y:Int
 m:Int
 d:Int
 tv:Sl
 tl:List TrkT
instance:Inhabited PagT:=⟨⟨0,0,0,⟨none,0,0⟩,[]⟩⟩
abbrev cPg (p:PagT):List Value:=[.int .i64 p.y,.int .i64 p.m,.int .i64 p.d,p.tv.v]
abbrev pagV (p:PagT):Value:=pgV p.y p.m p.d p.tv.v
def pnum (p:PagT):Int:=num p.y p.m p.d
def InP (w:World) (l:List PagT):Prop:=∀p∈l,PgP p.tv.v p.tl w
abbrev PgsP (v:Value) (l:List PagT) (w:World):Prop:=RO w v 4 l.length (l.flatMap cPg)∧InP w l
theorem InP.keep {w w':World} {l:List PagT} (h:InP w l) (hb:Below w.heap.size w w'):InP w' l:=fun p hp=>(h p hp).keep hb
theorem PgsP.keep {w w':World} {v:Value} {l:List PagT} (h:PgsP v l w) (hb:Below w.heap.size w w'):PgsP v l w':=⟨h.1.stay hb,InP.keep h.2 hb⟩
theorem InP.at {w:World} {l:List PagT} (h:InP w l) {i:Nat} (hi:i<l.length):PgP (nth l (i:Int)).tv.v (nth l (i:Int)).tl w:=by
 have e:=nth_some (l:=l) (m:=(i:Int)) (by omega) (by omega)
 rw[Int.toNat_natCast] at e
 exact h _ (List.mem_of_getElem? e)
def okPg (p:PagT):Prop:=p.tl.length≤4∧pageB p.y p.m p.d p.tl=true
structure BkOk (pl:List PagT):Prop where
 len:pl.length≤4
 ok:∀p∈pl,okPg p
 up:∀i j:Nat,i<j→j<pl.length→pnum (nth pl (i:Int))<pnum (nth pl (j:Int))
theorem okPg.num {p:PagT} (h:okPg p):validB p.y p.m p.d=true∧-300000≤pnum p∧pnum p≤300000:=by
 have:=h.2
 unfold pageB dateOk at this
 simp only[Bool.and_eq_true,decide_eq_true_eq] at this
 exact⟨this.1.1.1,this.1.1.2⟩
theorem okPg.trk {p:PagT} (h:okPg p) {t:TrkT} (ht:t∈p.tl):okT t=true:=by
 have:=h.2
 unfold pageB tracksOk at this
 simp only[Bool.and_eq_true,decide_eq_true_eq,List.all_eq_true] at this
 obtain⟨i,hi,rfl⟩:=List.getElem_of_mem ht
 have g:=this.2 i (List.mem_range.2 hi)
 unfold trkOk at g
 have e:=nth_some (l:=p.tl) (m:=(i:Int)) (by omega) (by omega)
 rw[Int.toNat_natCast,List.getElem?_eq_getElem hi] at e
 rw[←Option.some.inj e] at g
 simp only[Bool.and_eq_true] at g
 exact g.1
structure TrkF (t:TrkT):Prop where
 nm:t.nm.length≤20
 gl:t.gl.length=25
 dl:t.dl.length=25
 g:∀x∈t.gl,0≤x∧x≤215999
 d:∀x∈t.dl,-54000≤x∧x≤54000
 se:0≤t.se∧t.se≤200
 pa:0≤t.pa∧t.pa≤620
 be:0≤t.be∧t.be≤1000
theorem inB_iff {l:List Int} {lo hi:Int} : inB l lo hi=true↔∀x∈l,lo≤x∧x≤hi:=by
 unfold inB
 simp only[List.all_eq_true,Bool.and_eq_true,decide_eq_true_eq]
theorem trk_facts {t:TrkT} (h:okT t=true):TrkF t:=by
 unfold okT at h
 simp only[Bool.and_eq_true,decide_eq_true_eq,inB_iff] at h
 obtain⟨⟨⟨⟨⟨⟨⟨h0,h1⟩,h2⟩,h3⟩,h4⟩,h5⟩,h6⟩,h7⟩:=h
 have hn:t.nm.length≤20:=by
  unfold nameB at h0
  simp only[Bool.and_eq_true,decide_eq_true_eq] at h0
  omega
 exact⟨hn,by omega,by omega,h3,h4,h5 _ (List.mem_singleton.2 rfl),h6 _ (List.mem_singleton.2 rfl),h7 _ (List.mem_singleton.2 rfl)⟩
def angN (gl:List Int):Nat→Int
 |0=>100*nth gl 0
 |i+1=>angN gl i+(100*(nth gl ((i+1:Nat):Int)-nth gl (i:Int)))%21600000
theorem angN_bd {t:TrkT} (h:TrkF t) (i:Nat) (hi:i<25):0≤angN t.gl i∧angN t.gl i≤21600000*(i+1):=by
 induction i with
 |zero =>
  have hm:nth t.gl 0∈t.gl:=by
   have e:=nth_some (l:=t.gl) (m:=0) (by omega) (by have:=h.gl;omega)
   exact List.mem_of_getElem? e
  have:=h.g _ hm
  unfold angN
  omega
 |succ i ih =>
  have:=ih (by omega)
  unfold angN
  have b1:=Int.emod_nonneg (100*(nth t.gl ((i+1:Nat):Int)-nth t.gl (i:Int))) (show (21600000:Int)≠0 by decide)
  have b2:=Int.emod_lt_of_pos (100*(nth t.gl ((i+1:Nat):Int)-nth t.gl (i:Int))) (show (0:Int)<21600000 by decide)
  omega
def angL (gl:List Int) (k:Nat):List Int:=(List.range k).map (angN gl)
def gAt (t:TrkT) (h:Int):Int×Int:=(angN t.gl h.toNat-50,angN t.gl h.toNat+50)
def dAt (t:TrkT) (h:Int):Int×Int:=(100*nth t.dl h-50,100*nth t.dl h+50)
abbrev GeoT:=(Int×Int)×(Int×Int)×(Int×Int)×(Int×Int)
abbrev geoV (g:GeoT):Value:=.agg [.int .i64 g.1.1,.int .i64 g.1.2,.int .i64 g.2.1.1,.int .i64 g.2.1.2,.int .i64 g.2.2.1.1,.int .i64 g.2.2.1.2,.int .i64 g.2.2.2.1,.int .i64 g.2.2.2.2].toArray
abbrev geo0:GeoT:=((0,0),(0,0),(0,0),(0,0))
def latA (a:Int×Int):Int×Int:=(max a.1 (-5400000),min a.2 5400000)
def posA (a:Int×Int):Int×Int:=(max 0 a.1,max 0 a.2)
def tenA (n:Int):Int×Int:=(100*n-50,100*n+50)
def durG (t:TrkT) (lo hi:Int):GeoT:=(NO.turnA (NO.overA (gAt t) lo hi t.be),latA (NO.overA (dAt t) lo hi t.be),posA (tenA t.se),posA (tenA t.pa))
def pgIx (pl:List PagT) (n:Int):Option Nat:=(List.range pl.length).find? fun i:Nat=>decide (pnum (nth pl (i:Int))=n)
def trkAt (pl:List PagT) (nm:List UInt8) (n:Int):Option TrkT:=match pgIx pl n with
 |none=>none
 |some i=>if 0≤idxT (nth pl (i:Int)).tl nm then some (nth (nth pl (i:Int)).tl (idxT (nth pl (i:Int)).tl nm)) else none
def joinG (x y:GeoT):GeoT:=(NO.joinA x.1 y.1,NO.hullA x.2.1 y.2.1,NO.hullA x.2.2.1 y.2.2.1,NO.hullA x.2.2.2 y.2.2.2)
def durR (pl:List PagT) (nm:List UInt8) (n lo hi:Int):GeoT×Int:=match trkAt pl nm n with
 |none=>(geo0,20)
 |some t=>(durG t lo hi,0)
def bodR (pl:List PagT) (nm:List UInt8) (lo hi:Int):GeoT×Int :=
 if lo/86400000=hi/86400000 then durR pl nm (lo/86400000) (lo-lo/86400000*86400000) (hi-lo/86400000*86400000)
 else if (durR pl nm (lo/86400000) (lo-lo/86400000*86400000) 86400000).2≠0 then (geo0,20)
 else if (durR pl nm (hi/86400000) 0 (hi-hi/86400000*86400000)).2≠0 then (geo0,20)
 else (joinG (durR pl nm (lo/86400000) (lo-lo/86400000*86400000) 86400000).1 (durR pl nm (hi/86400000) 0 (hi-hi/86400000*86400000)).1,0)
def namesL (pl:List PagT):List (List UInt8):=pl.flatMap fun p=>p.tl.map TrkT.nm
def ariesN:List UInt8:=[65,114,105,101,115]
def timeOk (lo hi:Int):Prop:=-70368744177664≤lo∧lo≤hi∧hi≤70368744177664
instance (lo hi:Int):Decidable (timeOk lo hi):=by unfold timeOk;infer_instance
def whR (pl:List PagT) (nm:List UInt8) (lo hi:Int):GeoT×Int :=
 if ¬timeOk lo hi then (geo0,1)
 else if nm≠ariesN∧nm∉namesL pl then (geo0,9)
 else if 86400000≤hi-lo then (geo0,24)
 else if nm=ariesN then ((NO.betA lo hi,(0,0),(0,0),(0,0)),0)
 else bodR pl nm lo hi
def lhR (pl:List PagT) (nm:List UInt8) (lo hi lon:Int):(Int×Int)×Int :=
 if (whR pl nm lo hi).2≠0 then ((0,0),(whR pl nm lo hi).2)
 else (NO.turnA ((whR pl nm lo hi).1.1.1+lon%21600000,(whR pl nm lo hi).1.1.2+lon%21600000),0)
def agR (pl:List PagT) (nm:List UInt8) (lo hi lon:Int):Bool×Int :=
 if (lhR pl nm lo hi lon).2≠0 then (false,(lhR pl nm lo hi lon).2)
 else (decide ((0-(lhR pl nm lo hi lon).1.1)%21600000≤(lhR pl nm lo hi lon).1.2-(lhR pl nm lo hi lon).1.1)||decide (((lhR pl nm lo hi lon).1.1-0)%21600000≤0-0),0)
/-! ### What a book holds in the world -/
structure BkW (b:Nat) (dv pv:Sl) (pl:List PagT) (w:World):Prop where
 bk:RO w (boxS b) 3 1 [dv.v,pv.v,.slice none 0 0]
 dy:RO w dv.v 1 pl.length ((pl.map pnum).flatMap cI)
 pg:PgsP pv.v pl w
theorem BkW.keep {b:Nat} {dv pv:Sl} {pl:List PagT} {w w':World} (h:BkW b dv pv pl w) (hb:Below w.heap.size w w'):BkW b dv pv pl w':=⟨h.bk.stay hb,h.dy.stay hb,h.pg.keep hb⟩
theorem BkW.cell {b:Nat} {dv pv:Sl} {pl:List PagT} {w:World} (h:BkW b dv pv pl w):∀k v,[dv.v,pv.v,Value.slice none 0 0][k]?=some v→w.cell? ⟨b,k,none⟩=some v:=fun k v hk=>by
 obtain⟨_,A,c,hv,_,hc,_⟩:=h.bk
 obtain⟨a,rfl,hc2⟩:=hc (by simp)
 have e:=hc2 k v hk
 simp only[boxS,Value.slice.injEq,Option.some.injEq] at hv
 rw[←hv.1] at e
 have ea:(⟨b,0,none⟩:Addr).add k=⟨b,k,none⟩:=by unfold Addr.add;split<;>simp_all
 rwa [ea] at e
end Go.Proofs.YtjmdeplmenbmmaaGreat
namespace Go.Proofs.YtjmdeplmenbmmaaGreat
open Go.ChangeShapes Go.WideShapes Go.ChangeAt Go.RowKit Go.Deep Go.Joins
section
variable {H:Type} {enc:TypeId×Value→H} {P:Program}
abbrev B64 (x:Int):Prop:=-9223372036854775808≤x∧x≤9223372036854775807
theorem trod_ints {t e:TypeId} {w:World} {u:Value} {fuel:Nat} {y:DataW H×List MemPlace} (ht:P.underlying t=some (.slice e)) (he:P.underlying e=some (.int .i64)) (ce:P.cellsOf e=1)
  (hf:DataW.trod enc P w 0 (fun _=>true) true fuel t [u]=some y):∃(g:Sl) (l:List Int),u=g.v∧RO w u 1 l.length (l.flatMap cI)∧l.length≤maxLen∧∀c∈l,B64 c:=by
 rcases open_slice ht hf with ⟨hcs,_⟩|⟨a,len',cap',m,n,V,Pl,hcs,hb,hl,hm,hmm,hx,hel⟩
 ·have:u=.slice none 0 0:=by simpa using hcs
  rw[this]
  exact⟨⟨none,0,0⟩,[],rfl,RO.nil _ _,Nat.zero_le _,fun c hc=>by cases hc⟩
 ·have e1:u=.slice (some a) len' cap':=by simpa using hcs
  rw[e1]
  have hlm:len'≤m:=by rw[hmm];split<;>omega
  have each:∀i,i<len'→∃c:Int,w.cell? (a.add i)=some (.int .i64 c)∧B64 c:=by
   intro i hi
   obtain⟨cs',g1,g2⟩:=hel i (by omega)
   rw[ce] at g1
   obtain⟨_,hlen,hcell⟩:=World.cells?_some g1
   match cs',hlen with
   |[v0],_ =>
    obtain⟨x,r0,_,w0⟩:=DataW.trod_int he g2
    simp at r0
    subst r0
    have c0:=hcell 0 (by omega)
    rw[Go.Deep.add_add] at c0
    exact⟨x,by simpa using c0,i64_of w0⟩
  obtain⟨q,hq⟩:=choose_lt each
  refine⟨⟨some a,len',cap'⟩,(List.range len').map q,rfl,?_,by simp;omega,fun c hc=>?_⟩
  ·have hfl:∀c:Int,(cI c).length=1:=fun _=>rfl
   have hlr:((List.range len').map q).length=len':=by simp
   rw[hlr]
   refine⟨by rw[flat_len hfl,hlr],some a,cap',rfl,hl,fun _=>⟨a,rfl,fun j u hu=>?_⟩,fun h=>by cases h⟩
   have hj:j<len'*1:=by
    have:=(List.getElem?_eq_some_iff.1 hu).1
    rwa [flat_len hfl,hlr] at this
   have h3:j<len':=by omega
   have h4:=flat_get hfl ((List.range len').map q) j 0 (q j) (by simp[h3]) (by omega)
   rw[show j*1+0=j by omega,hu] at h4
   simp at h4
   subst h4
   exact(hq j h3).1
  ·obtain⟨i,hi,rfl⟩:=List.mem_map.1 hc
   exact(hq i (List.mem_range.1 hi)).2
def TrkB (w:World) (t:TrkT):Prop:=t.nm.length≤maxLen∧In1 w t∧(t.gl.length≤maxLen∧∀c∈t.gl,B64 c)∧(t.dl.length≤maxLen∧∀c∈t.dl,B64 c)∧B64 t.se∧B64 t.pa∧B64 t.be
theorem trod_trks {t e:TypeId} {f0 f1 f2 f3 f4 f5:Field} {w:World} {u:Value} {fuel:Nat} {y:DataW H×List MemPlace} {s1 s2:TypeId} (ht:P.underlying t=some (.slice e)) (he:P.underlying e=some (.struct #[f0,f1,f2,f3,f4,f5])) (ce:P.cellsOf e=6)
  (ho:(f0.offset,f1.offset,f2.offset,f3.offset,f4.offset,f5.offset)=(0,1,2,3,4,5)) (hc:(P.cellsOf f0.type,P.cellsOf f1.type,P.cellsOf f2.type,P.cellsOf f3.type,P.cellsOf f4.type,P.cellsOf f5.type)=(1,1,1,1,1,1))
  (h0:P.underlying f0.type=some .string) (h1:P.underlying f1.type=some (.slice s1)) (i1:P.underlying s1=some (.int .i64)) (c1:P.cellsOf s1=1) (h2:P.underlying f2.type=some (.slice s2)) (i2:P.underlying s2=some (.int .i64)) (c2:P.cellsOf s2=1)
  (h3:P.underlying f3.type=some (.int .i64)) (h4:P.underlying f4.type=some (.int .i64)) (h5:P.underlying f5.type=some (.int .i64))
  (hf:DataW.trod enc P w 0 (fun _=>true) true fuel t [u]=some y) :
  ∃(g:Sl) (l:List TrkT),u=g.v∧RO w u 6 l.length (l.flatMap cTk)∧l.length≤maxLen∧∀t∈l,TrkB w t:=by
 simp only[Prod.mk.injEq] at ho hc
 rcases open_slice ht hf with ⟨hcs,_⟩|⟨a,len',cap',m,n,V,Pl,hcs,hb,hl,hm,hmm,hx,hel⟩
 ·have:u=.slice none 0 0:=by simpa using hcs
  rw[this]
  exact⟨⟨none,0,0⟩,[],rfl,RO.nil _ _,Nat.zero_le _,fun c hc=>by cases hc⟩
 ·have e1:u=.slice (some a) len' cap':=by simpa using hcs
  rw[e1]
  have hlm:len'≤m:=by rw[hmm];split<;>omega
  have each:∀i,i<len'→∃c:TrkT,(∀j u,(cTk c)[j]?=some u→w.cell? (a.add (i*6+j))=some u)∧TrkB w c:=by
   intro i hi
   obtain⟨cs',g1,g2⟩:=hel i (by omega)
   rw[ce] at g1
   obtain⟨_,hlen,hcell⟩:=World.cells?_some g1
   obtain⟨xs,k,hk,hxy,_,hxl,hff⟩:=DataW.trod_struct he g2
   match xs,hxl,cs',hlen with
   |[y0,y1,y2,y3,y4,y5],_,[v0,v1,v2,v3,v4,v5],_ =>
    have q0:=hff 0 f0 rfl
    have q1:=hff 1 f1 rfl
    have q2:=hff 2 f2 rfl
    have q3:=hff 3 f3 rfl
    have q4:=hff 4 f4 rfl
    have q5:=hff 5 f5 rfl
    simp[ho.1,ho.2.1,ho.2.2.1,ho.2.2.2.1,ho.2.2.2.2.1,ho.2.2.2.2.2,hc.1,hc.2.1,hc.2.2.1,hc.2.2.2.1,hc.2.2.2.2.1,hc.2.2.2.2.2] at q0 q1 q2 q3 q4 q5
    obtain⟨s,r0,_,ws⟩:=DataW.trod_string h0 q0
    obtain⟨gv,gl,r1,a1,a2,a3⟩:=trod_ints h1 i1 c1 q1
    obtain⟨dv,dl,r2,b1,b2,b3⟩:=trod_ints h2 i2 c2 q2
    obtain⟨x3,r3,_,w3⟩:=DataW.trod_int h3 q3
    obtain⟨x4,r4,_,w4⟩:=DataW.trod_int h4 q4
    obtain⟨x5,r5,_,w5⟩:=DataW.trod_int h5 q5
    simp at r0 r3 r4 r5
    subst r0 r1 r2 r3 r4 r5
    obtain⟨nm,rfl⟩:∃nm:List UInt8,s=⟨nm.toArray⟩:=⟨s.data.toList,by cases s;rfl⟩
    have wn:nm.length≤maxLen:=by simpa [ByteArray.size] using ws
    refine⟨⟨nm,gv,gl,dv,dl,x3,x4,x5⟩,fun j u hj=>?_,wn,⟨a1,b1⟩,⟨a2,a3⟩,⟨b2,b3⟩,i64_of w3,i64_of w4,i64_of w5⟩
    have c0:=hcell 0 (by omega)
    have c1:=hcell 1 (by omega)
    have c2:=hcell 2 (by omega)
    have c3:=hcell 3 (by omega)
    have c4:=hcell 4 (by omega)
    have c5:=hcell 5 (by omega)
    rw[Go.Deep.add_add] at c0 c1 c2 c3 c4 c5
    match j,hj with
    |0,hj=>simp at hj;subst hj;simpa using c0
    |1,hj=>simp at hj;subst hj;simpa using c1
    |2,hj=>simp at hj;subst hj;simpa using c2
    |3,hj=>simp at hj;subst hj;simpa using c3
    |4,hj=>simp at hj;subst hj;simpa using c4
    |5,hj=>simp at hj;subst hj;simpa using c5
    |j+6,hj=>simp at hj
  obtain⟨q,hq⟩:=choose_lt each
  refine⟨⟨some a,len',cap'⟩,(List.range len').map q,rfl,?_,by simp;omega,fun c hc=>?_⟩
  ·have hfl:∀c:TrkT,(cTk c).length=6:=fun _=>rfl
   have hlr:((List.range len').map q).length=len':=by simp
   rw[hlr]
   refine⟨by rw[flat_len hfl,hlr],some a,cap',rfl,hl,fun _=>⟨a,rfl,fun j u hu=>?_⟩,fun h=>by cases h⟩
   have hj:j<len'*6:=by
    have:=(List.getElem?_eq_some_iff.1 hu).1
    rwa [flat_len hfl,hlr] at this
   have h3:j/6<len':=by omega
   have h4:=flat_get hfl ((List.range len').map q) (j/6) (j%6) (q (j/6)) (by simp[h3]) (by omega)
   rw[show j/6*6+j%6=j by omega,hu] at h4
   have h5:=(hq (j/6) h3).1 (j%6) u h4.symm
   rwa [show j/6*6+j%6=j by omega] at h5
  ·obtain⟨i,hi,rfl⟩:=List.mem_map.1 hc
   exact(hq i (List.mem_range.1 hi)).2
def PagB (w:World) (p:PagT):Prop:=PgP p.tv.v p.tl w∧p.tl.length≤maxLen∧(∀t∈p.tl,TrkB w t)∧B64 p.y∧B64 p.m∧B64 p.d
theorem arg_pages {t tp e:TypeId} {g0 g1 d0 d1 d2 f0 f1 f2 f3 f4 f5:Field} {s1 s2:TypeId} {w:World} {base:Nat} {v:Value} {d:DataW H} {p:List MemPlace} (hs:P.underlying t=some (.slice tp)) (hp:P.underlying tp=some (.struct #[g0,g1])) (cp:P.cellsOf tp=4) (hg:(g0.offset,g1.offset)=(0,3)) (cg:(P.cellsOf g0.type,P.cellsOf g1.type)=(3,1))
  (hd:P.underlying g0.type=some (.struct #[d0,d1,d2])) (hdo:(d0.offset,d1.offset,d2.offset)=(0,1,2)) (hdc:(P.cellsOf d0.type,P.cellsOf d1.type,P.cellsOf d2.type)=(1,1,1)) (k0:P.underlying d0.type=some (.int .i64)) (k1:P.underlying d1.type=some (.int .i64)) (k2:P.underlying d2.type=some (.int .i64))
  (ht:P.underlying g1.type=some (.slice e)) (he:P.underlying e=some (.struct #[f0,f1,f2,f3,f4,f5])) (ce:P.cellsOf e=6)
  (ho:(f0.offset,f1.offset,f2.offset,f3.offset,f4.offset,f5.offset)=(0,1,2,3,4,5)) (hc:(P.cellsOf f0.type,P.cellsOf f1.type,P.cellsOf f2.type,P.cellsOf f3.type,P.cellsOf f4.type,P.cellsOf f5.type)=(1,1,1,1,1,1))
  (h0:P.underlying f0.type=some .string) (h1:P.underlying f1.type=some (.slice s1)) (i1:P.underlying s1=some (.int .i64)) (c1:P.cellsOf s1=1) (h2:P.underlying f2.type=some (.slice s2)) (i2:P.underlying s2=some (.int .i64)) (c2:P.cellsOf s2=1)
  (h3:P.underlying f3.type=some (.int .i64)) (h4:P.underlying f4.type=some (.int .i64)) (h5:P.underlying f5.type=some (.int .i64))
  (hv:Value.okWide P w .any base t v) (h:DataW.Trod enc P w 0 (fun _=>true) true t v d p) :
  ∃(g:Sl) (l:List PagT),v=g.v∧RO w v 4 l.length (l.flatMap cPg)∧l.length≤maxLen∧∀p∈l,PagB w p:=by
 obtain⟨fuel,hf⟩:=h
 obtain⟨A,nA,cA,rfl⟩:=okWide_slice hs hv
 simp only[Prod.mk.injEq] at hg cg hdo hdc
 rcases open_slice hs hf with ⟨hcs,_⟩|⟨a,len',cap',m,n,V,Pl,hcs,hb,hl,hm,hmm,hx,hel⟩
 ·have:Value.slice A nA cA=.slice none 0 0:=by simpa [Value.cells] using hcs
  rw[this]
  exact⟨⟨none,0,0⟩,[],rfl,RO.nil _ _,Nat.zero_le _,fun c hc=>by cases hc⟩
 ·have e1:Value.slice A nA cA=.slice (some a) len' cap':=by simpa [Value.cells] using hcs
  rw[e1]
  have hlm:len'≤m:=by rw[hmm];split<;>omega
  have each:∀i,i<len'→∃c:PagT,(∀j u,(cPg c)[j]?=some u→w.cell? (a.add (i*4+j))=some u)∧PagB w c:=by
   intro i hi
   obtain⟨cs',g1',g2⟩:=hel i (by omega)
   rw[cp] at g1'
   obtain⟨_,hlen,hcell⟩:=World.cells?_some g1'
   obtain⟨xs,k,hk,hxy,_,hxl,hff⟩:=DataW.trod_struct hp g2
   match xs,hxl,cs',hlen with
   |[y0,y1],_,[x0,x1,x2,x3],_ =>
    have q0:=hff 0 g0 rfl
    have q1:=hff 1 g1 rfl
    simp[hg.1,hg.2,cg.1,cg.2] at q0 q1
    obtain⟨zs,k',hk',hzy,_,hzl,hzf⟩:=DataW.trod_struct hd q0
    match zs,hzl with
    |[z0,z1,z2],_ =>
     have r0:=hzf 0 d0 rfl
     have r1:=hzf 1 d1 rfl
     have r2:=hzf 2 d2 rfl
     simp[hdo.1,hdo.2.1,hdo.2.2,hdc.1,hdc.2.1,hdc.2.2] at r0 r1 r2
     obtain⟨y,e0,_,w0⟩:=DataW.trod_int k0 r0
     obtain⟨m,e1,_,w1⟩:=DataW.trod_int k1 r1
     obtain⟨d,e2,_,w2⟩:=DataW.trod_int k2 r2
     simp at e0 e1 e2
     subst e0 e1 e2
     obtain⟨g,l,rfl,a1,a2,a3⟩:=trod_trks ht he ce ho hc h0 h1 i1 c1 h2 i2 c2 h3 h4 h5 q1
     refine⟨⟨y,m,d,g,l⟩,fun j u hj=>?_,⟨a1,fun t ht=>(a3 t ht).2.1⟩,a2,a3,i64_of w0,i64_of w1,i64_of w2⟩
     have hjl:j<4:=(List.getElem?_eq_some_iff.1 hj).1
     have c:=hcell j (by simpa using hjl)
     rw[Go.Deep.add_add] at c
     rw[c]
     match j,hj with
     |0,hj=>simpa using hj
     |1,hj=>simpa using hj
     |2,hj=>simpa using hj
     |3,hj=>simpa using hj
     |j+4,hj=>simp at hj
  obtain⟨q,hq⟩:=choose_lt each
  refine⟨⟨some a,len',cap'⟩,(List.range len').map q,rfl,?_,by simp;omega,fun c hc=>?_⟩
  ·have hfl:∀c:PagT,(cPg c).length=4:=fun _=>rfl
   have hlr:((List.range len').map q).length=len':=by simp
   rw[hlr]
   refine⟨by rw[flat_len hfl,hlr],some a,cap',rfl,hl,fun _=>⟨a,rfl,fun j u hu=>?_⟩,fun h=>by cases h⟩
   have hj:j<len'*4:=by
    have:=(List.getElem?_eq_some_iff.1 hu).1
    rwa [flat_len hfl,hlr] at this
   have h3:j/4<len':=by omega
   have h4:=flat_get hfl ((List.range len').map q) (j/4) (j%4) (q (j/4)) (by simp[h3]) (by omega)
   rw[show j/4*4+j%4=j by omega,hu] at h4
   have h5:=(hq (j/4) h3).1 (j%4) u h4.symm
   rwa [show j/4*4+j%4=j by omega] at h5
  ·obtain⟨i,hi,rfl⟩:=List.mem_map.1 hc
   exact(hq i (List.mem_range.1 hi)).2
end
end Go.Proofs.YtjmdeplmenbmmaaGreat
set_option maxHeartbeats 4000000
namespace Go.Proofs.YtjmdeplmenbmmaaGreat
open Go.RowKit Go.Shelf
def KeepL (ks:List Nat) (A B:World):Prop:=∀k∈ks,B.heap[k]?=A.heap[k]?
theorem KeepL.trans {ks:List Nat} {A B C:World} (h:KeepL ks A B) (g:KeepL ks B C):KeepL ks A C:=fun k hk=>(g k hk).trans (h k hk)
structure Book (D:Nat) (r:Loop) (W:World):Prop where
 lp:W.heap[D+1]?=some (.loop r)
 df:W.heap[D]?=some (.deferred (some []))
theorem Book.grown {D:Nat} {r:Loop} {A B:World} {row:Option Nat} (h:Book D r A) (hg:A.grownBy B row) (hr:∀k,row=some k→∃o:Obj,A.heap[k]?=some o∧o.isWalk=true):Book D r B :=
 ⟨(grownBy_keeps hg hr h.lp rfl).trans h.lp,(grownBy_keeps hg hr h.df rfl).trans h.df⟩
theorem Book.turn {D:Nat} {r r':Loop} {W:World} (h:Book D r W):Book D r' (W.putObj (D+1) (.loop r')) :=
 ⟨World.putObj_heap_same (Array.getElem?_eq_some_iff.1 h.lp).1,(World.putObj_heap_other (by omega)).trans h.df⟩
end Go.Proofs.YtjmdeplmenbmmaaGreat
