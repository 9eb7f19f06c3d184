/- Joined texts: Sh, Pg0, Cal, Cal2. -/
import Derived.Test.YtjmdeplmenbmmaaGreatW06
import Derived.Test.YtjmdeplmenbmmaaGreatW04
import Derived.Test.YtjmdeplmenbmmaaGreatW03
import Derived.Test.YtjmdeplmenbmmaaGreatW02
import Derived.Test.YtjmdeplmenbmmaaGreatV05
import Derived.Test.YtjmdeplmenbmmaaGreatRows
set_option linter.unusedVariables false
set_option maxHeartbeats 8000000
namespace Go.Proofs.YtjmdeplmenbmmaaGreat
open Go.RowKit
theorem floor_eq {n d:Int} (h:0<d):(n.tmod d<0→n.tdiv d-1=n/d∧n.tmod d+d=n%d∧n<0)∧(0≤n.tmod d→n.tdiv d=n/d∧n.tmod d=n%d):=by
 have e1:=Int.tdiv_eq_ediv (a:=n) (b:=d)
 have e2:=Int.tmod_eq_emod (a:=n) (b:=d)
 have e3:=Int.emod_nonneg n (show d≠0 by omega)
 have e4:=Int.emod_lt_of_pos n h
 have e5:=Int.sign_eq_one_of_pos h
 by_cases hc:0≤n∨d ∣ n
 ·rw[if_pos hc] at e1 e2
  exact⟨fun g=>by omega,fun _=>by omega⟩
 ·rw[if_neg hc] at e1 e2
  have hn:n<0:=Int.not_le.1 fun g=>hc (.inl g)
  exact⟨fun _=>by omega,fun g=>by omega⟩
theorem ediv_in {a b k:Int} (hb:0<b) (h1 : -k≤a) (h2:a≤k) : -k≤a/b∧a/b≤k:=by
 have hk:0≤k:=by omega
 have hkb:k*1≤k*b:=Int.mul_le_mul_of_nonneg_left (by omega) hk
 refine⟨(Int.le_ediv_iff_mul_le hb).2 ?_,Int.ediv_le_of_le_mul hb (by omega)⟩
 rw[Int.neg_mul];omega
instance:Inhabited Sl:=⟨⟨none,0,0⟩⟩
theorem RO.stay {w w':World} {v:Value} {s n:Nat} {xs:List Value} (h:RO w v s n xs) (hb:Below w.heap.size w w'):RO w' v s n xs :=
 (Hl.keep (h:=.ro false v s n xs) (base:=0) ⟨h,fun g=>by cases g⟩ fun b ho=>hb.block b (Hl.lt (h:=.ro false v s n xs) (base:=0) ⟨h,fun g=>by cases g⟩ ho)).1
structure TrkT where
 nm:List UInt8
 gv:Sl
 gl:List Int
 dv:Sl
 dl:List Int
 se:Int
 pa:Int
 be:Int
instance:Inhabited TrkT:=⟨⟨[],⟨none,0,0⟩,[],⟨none,0,0⟩,[],0,0,0⟩⟩
abbrev cTk (t:TrkT):List Value:=[strV t.nm,t.gv.v,t.dv.v,.int .i64 t.se,.int .i64 t.pa,.int .i64 t.be]
abbrev trV (t:TrkT):Value:=.agg [strV t.nm,t.gv.v,t.dv.v,.int .i64 t.se,.int .i64 t.pa,.int .i64 t.be].toArray
abbrev pgV (y m d:Int) (v:Value):Value:=.agg [.int .i64 y,.int .i64 m,.int .i64 d,v].toArray
def In1 (w:World) (t:TrkT):Prop:=RO w t.gv.v 1 t.gl.length (t.gl.flatMap cI)∧RO w t.dv.v 1 t.dl.length (t.dl.flatMap cI)
def InT (w:World) (l:List TrkT):Prop:=∀t∈l,In1 w t
abbrev PgP (v:Value) (l:List TrkT) (w:World):Prop:=RO w v 6 l.length (l.flatMap cTk)∧InT w l
theorem In1.keep {w w':World} {t:TrkT} (h:In1 w t) (hb:Below w.heap.size w w'):In1 w' t:=⟨h.1.stay hb,h.2.stay hb⟩
theorem InT.keep {w w':World} {l:List TrkT} (h:InT w l) (hb:Below w.heap.size w w'):InT w' l:=fun t ht=>(h t ht).keep hb
theorem PgP.keep {w w':World} {v:Value} {l:List TrkT} (h:PgP v l w) (hb:Below w.heap.size w w'):PgP v l w':=⟨h.1.stay hb,InT.keep h.2 hb⟩
theorem InT.at {w:World} {l:List TrkT} (h:InT w l) {i:Nat} (hi:i<l.length):In1 w (nth l (i:Int)):=by
 have e:=nth_some (l:=l) (m:=(i:Int)) (by omega) (by omega)
 rw[Int.toNat_natCast] at e
 exact h _ (List.mem_of_getElem? e)
/-! ### A slice of old memory comes into the state -/
theorem RO.old {w:World} {v:Value} {s n:Nat} {xs:List Value} (h:RO w v s n xs) (hne:xs≠[]) {b:Nat} (hb:v.ownBlock=some b):b<w.heap.size:=by
 obtain⟨_,A,c,rfl,_,hc,_⟩:=h
 obtain⟨a,rfl,hc2⟩:=hc hne
 simp only[Value.ownBlock,Option.some.injEq] at hb
 subst hb
 cases xs with
 |nil=>exact absurd rfl hne
 |cons u r =>
  have:=World.block_lt_of_cell? w _ (hc2 0 u rfl)
  rwa [add_block] at this
theorem St.bring {w0 w:World} {H:List Hl} {v:Value} {s n:Nat} {xs:List Value} (hr:RO w0 v s n xs) (h:St w0 H w):St w0 (.ro false v s n xs::H) w:=by
 refine⟨h.ext,fun x hx=>?_,fun z hz b hb ho=>?_,h.apart⟩
 ·rcases List.mem_cons.1 hx with rfl|hx
  ·exact⟨hr.stay h.ext,fun g=>by cases g⟩
  ·exact h.all x hx
 ·refine⟨rfl,?_⟩
  cases he:z.excl with
  |false=>rfl
  |true =>
   have g:=Hl.ge (h.all z hz) he ho
   cases xs with
   |nil=>simp[Hl.spot] at hb
   |cons u r =>
    have:=hr.old (by simp) hb
    omega
section
variable {P:Program} {Q:Exit→Act→World→Prop} {n:Nat} {L:FL} {w0:World} {H:List Hl} {c:Code} {e:Exit} {v:Value} {s:Nat} {α:Type} {f:α→List Value} {l:List α}
theorem G.bring (hr:RO w0 v s l.length (l.flatMap f)) (h:G P Q n L w0 (Hl.rd v f s l::H) c):G P Q n L w0 H c:=by
 unfold G at h ⊢
 exact fun a w ha hw=>h a w ha (hw.bring hr)
theorem RS.splB {ops:Array Oper} {rest:List Oper} {b:Bool} (g:Nat) (hg:lk L g=some (.bool b)) (h1:b=true→RS P ops Q n ((g,.bool true)::L) w0 H rest) (h2:b=false→RS P ops Q n ((g,.bool false)::L) w0 H rest):RS P ops Q n L w0 H rest:=by
 unfold RS at *
 intro a w ha hw
 cases b with
 |true=>exact h1 rfl a w (ha.known hg) hw
 |false=>exact h2 rfl a w (ha.known hg) hw
theorem RS.lit1I {ops:Array Oper} {rest:List Oper} {dd:Nat} {ty t e:TypeId} {bytes:Nat} {pos:String} {af:Array Edge} {x:Operand} {m:Int} (h:∀v':Sl,RS P ops Q n ((dd,v'.v)::L) w0 (Hl.rw v'.v e cI 1 [m]::H) rest) (hx:evO L x=some (.int .i64 m):=by rfl) [ht:RowTy P t e 1 bytes] (hd:Nat.blt dd n=true:=by rfl) :
  RS P ops Q n L w0 H (⟨some dd,.buildSlice t 1 #[(0,x)],ty,pos,af,none⟩::rest):=RS.actX rfl (x_litS (parts:=[(0,x)]) (vs:=[.int .i64 m]) (cs:=cI m) (f:=cI) (l:=[m]) ⟨hx,rfl⟩ rfl rfl rfl rfl (fun zs hz=>by
   match zs,hz with
   |[_],_=>rfl) rfl rfl rfl (rowTy_B ht.is) hd) fun v' _=>h v'
theorem RS.lit1IT {ops:Array Oper} {rest:List Oper} {dd j g:Nat} {ty t e:TypeId} {bytes:Nat} {pos:String} {af:Array Edge} {x:Operand} {m:Int} (h:∀v':Sl,RS P ops Q n ((dd,v'.v)::L) w0 (Hl.rw v'.v e cI 1 [m]::H) rest) (hx:evO L x=some (.int .i64 m):=by rfl) (hj:(ops[j]?).bind (·.dst)=some g:=by rfl) (hg:lk L g=some (.bool true):=by rfl) [ht:RowTy P t e 1 bytes] (hd:Nat.blt dd n=true:=by rfl) :
  RS P ops Q n L w0 H (⟨some dd,.buildSlice t 1 #[(0,x)],ty,pos,af,some (j,true)⟩::rest):=RS.actXT hj hg rfl (x_litS (parts:=[(0,x)]) (vs:=[.int .i64 m]) (cs:=cI m) (f:=cI) (l:=[m]) ⟨hx,rfl⟩ rfl rfl rfl rfl (fun zs hz=>by
   match zs,hz with
   |[_],_=>rfl) rfl rfl rfl (rowTy_B ht.is) hd) fun v' _=>h v'
end
theorem y_box {P:Program} {n:Nat} {L:FL} {w0:World} {H:List Hl} {d:Option Tmp} {ty t:TypeId} {pos:String} {af:Array Edge} {g:Option (Nat×Bool)} {x:Operand} (b:Nat) (u:Value) (hx:evO L x=some (.pointer (some ⟨b,0,none⟩))) (h:RdT H (boxS b) c1S 1 [u]) (ht:scalarB P t=true) :
  V P n L w0 H ⟨d,.load t x,ty,pos,af,g⟩ u:=y_loadEl (inst:=⟨u⟩) (u:=u) (v:=boxS b) (s:=1) (m:=0) (i:=0) (f:=c1S) (l:=[u]) hx h (fun _=>rfl) (boxS_m _) rfl rfl ht
/-! ### within -/
def inB (l:List Int) (lo hi:Int):Bool:=l.all fun n=>decide (lo≤n)&&decide (n≤hi)
theorem within1_c (b1 b2:Nat) (x lo up:Int):ContIn Tryz.prog (fun w=>RO w (boxS b1) 1 1 [.int .i64 lo]∧RO w (boxS b2) 1 1 [.int .i64 up]) 185 ([.int .i64 x]++(#[.pointer (some ⟨b1,0,none⟩),.pointer (some ⟨b2,0,none⟩)]:Array Value).toList) (.bool (decide (x<lo)||decide (up<x))):=fun w hw0=>by
 refine enter Tryz.func185 rfl rfl rfl (Hp:=[Hl.rd (boxS b1) c1S 1 [.int .i64 lo],Hl.rd (boxS b2) c1S 1 [.int .i64 up]]) (fun h hm=>by
  rcases List.mem_cons.1 hm with rfl|hm
  ·exact⟨⟨hw0.1,fun h=>by cases h⟩,rfl⟩
  rcases List.mem_singleton.1 hm with rfl
  exact⟨⟨hw0.2,fun h=>by cases h⟩,rfl⟩) ?_
 repeat' (first|(show YK _ _ _ _ _ ⟨_,.load _ (.tmp 1),_,_,_,_⟩ _;refine YK.ofV (y_box b1 (.int .i64 lo) (by rfl) (by exact rdA) (by decide +kernel)) ?_)|(show YG _ _ _ _ _ _ ⟨_,.load _ (.tmp 2),_,_,_,_⟩ _;refine YG.mk (fun hb=>(y_box b2 (.int .i64 up) (by rfl) (by exact rdA) (by decide +kernel)).y) ?_)|(refine nxV ?_)|(refine nSS ?_)|(refine nS1 fun _=>?_)|(refine nMM ?_)|(refine nM1 fun _=>?_)|(refine nxG ?_)|(refine nxX ?_)|(refine G.cN rfl (fun hc=>?_) (fun hc=>?_)<;>(try first|exact hc.elim|(exfalso;omega))))
 refine X.ret (vs:=[_]) rfl ⟨rfl,rfl⟩ rfl (fun w hw=>⟨ret_bool ?_,hw.ext⟩)
 simp
def badI (lo up:Int) (x:Int):Bool:=decide (x<lo)||decide (up<x)
theorem indexI_c (b1 b2:Nat) (lo up:Int) (v:Value) (l:List Int) (hl:l.length≤1000000) (r:Int) (hr:r=match (List.range l.length).find? (fun i:Nat=>badI lo up (nth l (i:Int))) with
   |some k=>(k:Int)
   |none=>-1) :
  ContIn Tryz.prog (fun w=>RO w v 1 l.length (l.flatMap cI)∧RO w (boxS b1) 1 1 [.int .i64 lo]∧RO w (boxS b2) 1 1 [.int .i64 up]) 220 [v,.func (.func 185) #[] #[.pointer (some ⟨b1,0,none⟩),.pointer (some ⟨b2,0,none⟩)]] (.int .i64 r):=fun w hw0=>by
 refine enter Tryz.func220 rfl rfl rfl (Hp:=[Hl.rd v cI 1 l]) (fun h hm=>by
  rcases List.mem_singleton.1 hm with rfl
  exact⟨⟨hw0.1,fun h=>by cases h⟩,rfl⟩) ?_
 repeat' (first|(refine nxV ?_)|(refine nSS ?_)|(refine nS1 fun _=>?_)|(refine nMM ?_)|(refine nM1 fun _=>?_)|(refine nxG ?_)|(refine nxX ?_)|(refine G.cN rfl (fun hc=>?_) (fun hc=>?_)<;>(try first|exact hc.elim|(exfalso;omega))))
 refine G.loop (ι:=Nat) (fun i=>[(0,v),(1,.func (.func 185) #[] #[.pointer (some ⟨b1,0,none⟩),.pointer (some ⟨b2,0,none⟩)]),(7,.int .i64 l.length),(8,.int .i64 (i:Int))]) (fun _=>[Hl.rd v cI 1 l]) (fun i=>i≤l.length∧∀k:Nat,k<i→badI lo up (nth l (k:Int))=false) (fun i=>l.length-i) 0 ⟨by omega,fun k hk=>by omega⟩ ⟨rfl,rfl,rfl,rfl,trivial⟩ (fun w h=>h) ?_
 rintro i mx ⟨g1,g2⟩ hmx
 rcases Nat.lt_or_ge i l.length with hi|hi
 ·have q1:=within1_c b1 b2 (nth l (i:Int)) lo up
  rw[show (decide (nth l (i:Int)<lo)||decide (up<nth l (i:Int)))=badI lo up (nth l (i:Int)) from rfl] at q1
  cases hb:badI lo up (nth l (i:Int)) with
  |true =>
   rw[hb] at q1
   repeat' (first|(show YK _ _ _ _ _ ⟨_,.call { callee:=.value _,args:=_,argTypes:=_ },_,_,_,_⟩ _;refine YK.mk (y_callV (f:=185) (by rfl) q1 (fun w hw=>⟨hw0.2.1.stay hw.ext,hw0.2.2.stay hw.ext⟩) ⟨rfl,rfl⟩ (by decide +kernel)) ?_)|(refine nxV ?_)|(refine nSS ?_)|(refine nS1 fun _=>?_)|(refine nMM ?_)|(refine nM1 fun _=>?_)|(refine nxG ?_)|(refine nxX ?_)|(refine G.cN rfl (fun hc=>?_) (fun hc=>?_)<;>(try first|exact hc.elim|(exfalso;omega))))
   rw[findr_some hi g2 hb] at hr
   exact X.ret (vs:=[_]) rfl ⟨rfl,rfl⟩ rfl (fun w hw=>⟨ret_int hr.symm,hw.ext⟩)
  |false =>
   rw[hb] at q1
   repeat' (first|(show YK _ _ _ _ _ ⟨_,.call { callee:=.value _,args:=_,argTypes:=_ },_,_,_,_⟩ _;refine YK.mk (y_callV (f:=185) (by rfl) q1 (fun w hw=>⟨hw0.2.1.stay hw.ext,hw0.2.2.stay hw.ext⟩) ⟨rfl,rfl⟩ (by decide +kernel)) ?_)|(refine nxV ?_)|(refine nSS ?_)|(refine nS1 fun _=>?_)|(refine nMM ?_)|(refine nM1 fun _=>?_)|(refine nxG ?_)|(refine nxX ?_)|(refine G.cN rfl (fun hc=>?_) (fun hc=>?_)<;>(try first|exact hc.elim|(exfalso;omega))))
   refine X.again (i+1) ⟨by omega,fun k hk=>?_⟩ (by omega) ⟨rfl,rfl,rfl,rfl,trivial⟩ (by exact fun w h=>h.sub subS)
   rcases Nat.lt_or_ge k i with h|h
   ·exact g2 k h
   ·rw[show k=i by omega];exact hb
 ·repeat' (first|(refine nxV ?_)|(refine nSS ?_)|(refine nS1 fun _=>?_)|(refine nMM ?_)|(refine nM1 fun _=>?_)|(refine nxG ?_)|(refine nxX ?_)|(refine G.cN rfl (fun hc=>?_) (fun hc=>?_)<;>(try first|exact hc.elim|(exfalso;omega))))
  rw[findr_none (fun k hk=>g2 k (by omega))] at hr
  exact X.ret (vs:=[_]) rfl ⟨rfl,rfl⟩ rfl (fun w hw=>⟨ret_int hr.symm,hw.ext⟩)
theorem find_in {l:List Int} {lo up:Int} : ((List.range l.length).find? (fun i:Nat=>badI lo up (nth l (i:Int)))).isNone=inB l lo up:=by
 rw[Bool.eq_iff_iff]
 unfold inB
 rw[List.all_eq_true,Option.isNone_iff_eq_none,List.find?_range_eq_none]
 constructor
 ·intro h x hx
  obtain⟨i,hi,rfl⟩:=List.getElem_of_mem hx
  have e:=nth_some (l:=l) (m:=(i:Int)) (by omega) (by omega)
  rw[Int.toNat_natCast,List.getElem?_eq_getElem hi] at e
  have:=h i hi
  rw[←Option.some.inj e] at this
  simp[badI] at this
  simp;omega
 ·intro h i hi
  have e:=nth_some (l:=l) (m:=(i:Int)) (by omega) (by omega)
  rw[Int.toNat_natCast] at e
  have:=h _ (List.mem_of_getElem? e)
  simp at this
  simp[badI];omega
theorem containsI_c (b1 b2:Nat) (lo up:Int) (v:Value) (l:List Int) (hl:l.length≤1000000) :
  ContIn Tryz.prog (fun w=>RO w v 1 l.length (l.flatMap cI)∧RO w (boxS b1) 1 1 [.int .i64 lo]∧RO w (boxS b2) 1 1 [.int .i64 up]) 184 [v,.func (.func 185) #[] #[.pointer (some ⟨b1,0,none⟩),.pointer (some ⟨b2,0,none⟩)]] (.bool (!inB l lo up)):=fun w hw0=>by
 rw[←find_in]
 have hx:=indexI_c b1 b2 lo up v l hl _ rfl
 refine enter Tryz.func184 rfl rfl rfl (Hp:=[Hl.rd v cI 1 l]) (fun h hm=>by
  rcases List.mem_singleton.1 hm with rfl
  exact⟨⟨hw0.1,fun h=>by cases h⟩,rfl⟩) ?_
 cases hfd:(List.range l.length).find? (fun i:Nat=>badI lo up (nth l (i:Int))) with
 |none =>
  rw[hfd] at hx
  dsimp only at hx
  repeat' (first|(refine YK.mk (zcI hx (fun w hw=>⟨(hw.all (Hl.rd v cI 1 l) (by exact memA)).1,hw0.2.1.stay hw.ext,hw0.2.2.stay hw.ext⟩) ⟨rfl,rfl,rfl⟩ (by decide +kernel)) ?_)|(refine nxV ?_)|(refine nSS ?_)|(refine nS1 fun _=>?_)|(refine nMM ?_)|(refine nM1 fun _=>?_)|(refine nxG ?_)|(refine nxX ?_)|(refine G.cN rfl (fun hc=>?_) (fun hc=>?_)<;>(try first|exact hc.elim|(exfalso;omega))))
  exact X.ret1
 |some k =>
  rw[hfd] at hx
  dsimp only at hx
  repeat' (first|(refine YK.mk (zcI hx (fun w hw=>⟨(hw.all (Hl.rd v cI 1 l) (by exact memA)).1,hw0.2.1.stay hw.ext,hw0.2.2.stay hw.ext⟩) ⟨rfl,rfl,rfl⟩ (by decide +kernel)) ?_)|(refine nxV ?_)|(refine nSS ?_)|(refine nS1 fun _=>?_)|(refine nMM ?_)|(refine nM1 fun _=>?_)|(refine nxG ?_)|(refine nxX ?_)|(refine G.cN rfl (fun hc=>?_) (fun hc=>?_)<;>(try first|exact hc.elim|(exfalso;omega))))
  exact X.ret (vs:=[_]) rfl ⟨rfl,rfl⟩ rfl (fun w hw=>⟨ret_bool (by simp),hw.ext⟩)
theorem within_c (v:Value) (l:List Int) (lo up:Int) (hl:l.length≤1000000):ContR Tryz.prog [Hl.rd v cI 1 l] 139 [v,.int .i64 lo,.int .i64 up] (.bool (inB l lo up)):=fun w hw0=>by
 have hx:=fun b1 b2=>containsI_c b1 b2 lo up v l hl
 refine enter Tryz.func139 rfl rfl rfl hw0 ?_
 repeat' (first|(show YK _ _ _ _ _ ⟨_,.call { callee:=.value (.func _),args:=_,argTypes:=_ },_,_,_,_⟩ _;refine YK.mk (zcI (hx _ _) (fun w hw=>⟨(hw.all (Hl.rd v cI 1 l) (by exact memA)).1,boxS_of hw (by exact memA),boxS_of hw (by exact memA)⟩) ⟨rfl,rfl,rfl⟩ (by decide +kernel)) ?_)|(refine nxV ?_)|(refine nSS ?_)|(refine nS1 fun _=>?_)|(refine nMM ?_)|(refine nM1 fun _=>?_)|(refine nxG ?_)|(refine nxX ?_)|(refine G.cN rfl (fun hc=>?_) (fun hc=>?_)<;>(try first|exact hc.elim|(exfalso;omega))))
 exact X.ret (vs:=[_]) rfl ⟨rfl,rfl⟩ rfl (fun w hw=>⟨ret_bool (by simp),hw.ext⟩)
/-! ### A track's validity -/
def okT (t:TrkT):Bool:=nameB t.nm&&decide ((t.gl.length:Int)=25)&&decide ((t.dl.length:Int)=25)&&inB t.gl 0 215999&&inB t.dl (-54000) 54000&&inB [t.se] 0 200&&inB [t.pa] 0 620&&inB [t.be] 0 1000
theorem validTrack_c (t:TrkT) (hn:t.nm.length≤1000000) (hg:t.gl.length≤1000000) (hd:t.dl.length≤1000000):ContR Tryz.prog [Hl.rd t.gv.v cI 1 t.gl,Hl.rd t.dv.v cI 1 t.dl] 75 [trV t] (.bool (okT t)):=fun w hw0=>by
 have q0:=isName_c t.nm hn
 have q1:=within_c t.gv.v t.gl 0 215999 hg
 have q2:=within_c t.dv.v t.dl (-54000) 54000 hd
 have q3:=fun v=>within_c v [t.se] 0 200 (by simp)
 have q4:=fun v=>within_c v [t.pa] 0 620 (by simp)
 have q5:=fun v=>within_c v [t.be] 0 1000 (by simp)
 unfold okT
 generalize nameB t.nm=c0 at q0
 generalize inB t.gl 0 215999=c1 at q1
 generalize inB t.dl (-54000) 54000=c2 at q2
 generalize inB [t.se] 0 200=c3 at q3
 generalize inB [t.pa] 0 620=c4 at q4
 generalize inB [t.be] 0 1000=c5 at q5
 refine enter Tryz.func75 rfl rfl rfl hw0 ?_
 repeat' (first|(show YK _ _ _ _ _ ⟨_,.call { callee:=.builtin .len,args:=_,argTypes:=#[9] },_,_,_,_⟩ _;refine YK.ofV (y_lenS (by rfl) StrTy.is) ?_)|(show VK _ _ _ _ _ ⟨_,.call { callee:=.builtin .len,args:=_,argTypes:=#[9] },_,_,_,_⟩ _;refine VK.mk (y_lenS (by rfl) StrTy.is) ?_)|(show YG _ _ _ _ _ _ ⟨_,.call { callee:=.builtin .len,args:=_,argTypes:=#[9] },_,_,_,_⟩ _;refine YG.mk (fun hb=>by(try(have hc:=And.left hb;have hb:=And.right hb;rw[hc]));(try rw[hb]);exact V.y (y_lenS (by rfl) StrTy.is)) ?_)|(show VG _ _ _ _ _ _ ⟨_,.call { callee:=.builtin .len,args:=_,argTypes:=#[9] },_,_,_,_⟩ _;refine VG.mk (fun hb=>by(try(have hc:=And.left hb;have hb:=And.right hb;rw[hc]));(try rw[hb]);exact y_lenS (by rfl) StrTy.is) ?_)|(show RS _ _ _ _ ((28,.bool (_&&_))::_) _ _ _;refine RS.splB 28 rfl (fun hq=>?_) (fun hq=>?_))|(show RS _ _ _ _ ((34,.bool c3)::_) _ _ _;refine RS.splB 34 rfl (fun hq=>?_) (fun hq=>?_))|(show RS _ _ _ _ ((40,.bool c4)::_) _ _ _;refine RS.splB 40 rfl (fun hq=>?_) (fun hq=>?_))|(refine RS.lit1IT (fun v'=>?_))|(show YK _ _ _ _ _ _ _;first|refine YK.mk (zcA (q0) ⟨rfl,rfl⟩) ?_|refine YK.mk (zcR (q1) ⟨rfl,rfl,rfl,rfl⟩) ?_|refine YK.mk (zcR (q2) ⟨rfl,rfl,rfl,rfl⟩) ?_|refine YK.mk (zcR (q3 _) ⟨rfl,rfl,rfl,rfl⟩) ?_|refine YK.mk (zcR (q4 _) ⟨rfl,rfl,rfl,rfl⟩) ?_|refine YK.mk (zcR (q5 _) ⟨rfl,rfl,rfl,rfl⟩) ?_)|(refine nxV ?_)|(refine nSS ?_)|(refine nS1 fun _=>?_)|(refine nMM ?_)|(refine nM1 fun _=>?_)|(show YG _ _ _ _ _ _ _ _;refine YG.mk (fun hb=>by(try(have hc:=And.left hb;have hb:=And.right hb;rw[hc]));(try rw[hb]);first|exact(zcA (q0) ⟨rfl,rfl⟩)|exact(zcR (q1) ⟨rfl,rfl,rfl,rfl⟩)|exact(zcR (q2) ⟨rfl,rfl,rfl,rfl⟩)|exact(zcR (q3 _) ⟨rfl,rfl,rfl,rfl⟩)|exact(zcR (q4 _) ⟨rfl,rfl,rfl,rfl⟩)|exact(zcR (q5 _) ⟨rfl,rfl,rfl,rfl⟩)|exact V.y vAuto) ?_)|(refine nxG ?_)|(refine nxVS ?_)|(refine nxGS ?_)|(refine nxX ?_)|(refine G.cN rfl (fun hc=>?_) (fun hc=>?_)<;>(try first|exact hc.elim|(exfalso;omega))))
 all_goals exact X.ret (vs:=[_]) rfl ⟨rfl,rfl⟩ rfl (fun w hw=>⟨ret_bool (by simp_all),hw.ext⟩)
theorem leap_c (y:Int):Cont Tryz.prog 187 [.int .i64 y] (.bool (leapB y)):=fun w=>by
 refine enter0 Tryz.func187 rfl rfl rfl ?_
 repeat' (first|(refine nxV ?_)|(refine nSS ?_)|(refine nS1 fun _=>?_)|(refine nMM ?_)|(refine nM1 fun _=>?_)|(refine nxG ?_)|(refine nxX ?_)|(refine G.cN rfl (fun hc=>?_) (fun hc=>?_)<;>(try first|exact hc.elim|(exfalso;omega))))
 exact X.ret1
theorem rleap_c (y:Int):Cont Tryz.prog 136 [.int .i64 y] (.bool (leapB y)):=fun w=>by
 rw[←leap_same]
 refine enter0 Tryz.func136 rfl rfl rfl ?_
 repeat' (first|(refine nxV ?_)|(refine nSS ?_)|(refine nS1 fun _=>?_)|(refine nMM ?_)|(refine nM1 fun _=>?_)|(refine nxG ?_)|(refine nxX ?_)|(refine G.cN rfl (fun hc=>?_) (fun hc=>?_)<;>(try first|exact hc.elim|(exfalso;omega))))
 exact X.ret1
theorem right_c (y m:Int):Cont Tryz.prog 144 [.int .i64 y,.int .i64 m] (.bool (rightB y m)):=fun w=>by
 refine enter0 Tryz.func144 rfl rfl rfl ?_
 repeat' (first|(refine nxV ?_)|(refine nSS ?_)|(refine nS1 fun _=>?_)|(refine nMM ?_)|(refine nM1 fun _=>?_)|(refine nxG ?_)|(refine nxX ?_)|(refine G.cN rfl (fun hc=>?_) (fun hc=>?_)<;>(try first|exact hc.elim|(exfalso;omega))))
 exact X.ret1
def lens:List Value:=[.int .i64 31,.int .i64 28,.int .i64 31,.int .i64 30,.int .i64 31,.int .i64 30,.int .i64 31,.int .i64 31,.int .i64 30,.int .i64 31,.int .i64 30,.int .i64 31]
theorem lengths_c:Cont Tryz.prog 188 [] (.agg lens.toArray):=fun w=>by
 refine enter0 Tryz.func188 rfl rfl rfl ?_
 repeat' (first|(show YK _ _ _ _ _ ⟨_,.build _ _,_,_,_,_⟩ _;refine YK.ofV (y_buildV (vs:=lens) ⟨rfl,rfl,rfl,rfl,rfl,rfl,rfl,rfl,rfl,rfl,rfl,rfl,rfl⟩ (by kernel_rfl)) ?_)|(refine nxV ?_)|(refine nSS ?_)|(refine nS1 fun _=>?_)|(refine nMM ?_)|(refine nM1 fun _=>?_)|(refine nxG ?_)|(refine nxX ?_)|(refine G.cN rfl (fun hc=>?_) (fun hc=>?_)<;>(try first|exact hc.elim|(exfalso;omega))))
 exact X.ret (vs:=[_]) rfl ⟨⟨_,_,_,_,rfl,(by exact memA),lenA,by decide +kernel,rfl⟩,rfl⟩ rfl rE
theorem lens_at {m:Int} (h1:1≤m) (h2:m≤12):lens[(m-1).toNat]?=some (.int .i64 (monthLen m)):=by
 have:m=1∨m=2∨m=3∨m=4∨m=5∨m=6∨m=7∨m=8∨m=9∨m=10∨m=11∨m=12:=by omega
 rcases this with rfl|rfl|rfl|rfl|rfl|rfl|rfl|rfl|rfl|rfl|rfl|rfl<;>rfl
theorem days_c (y m:Int) (h1:1≤m) (h2:m≤12):Cont Tryz.prog 145 [.int .i64 y,.int .i64 m] (.int .i64 (dim y m)):=fun w=>by
 refine enter0 Tryz.func145 rfl rfl rfl ?_
 repeat' (first|(show YK _ _ _ _ _ ⟨_,.index _ _ _,_,_,_,_⟩ _;refine YK.ofV (y_index (i:=(m-1).toNat) (by rfl) (by rfl) (by omega) (lens_at h1 h2) lenA (by decide +kernel)) ?_)|(show YK _ _ _ _ _ _ _;first|refine YK.mk (zcA (leap_c _) ⟨rfl,rfl⟩) ?_|refine YK.mk (zcA (lengths_c) rfl) ?_)|(refine nxV ?_)|(refine nSS ?_)|(refine nS1 fun _=>?_)|(refine nMM ?_)|(refine nM1 fun _=>?_)|(show YG _ _ _ _ _ _ _ _;refine YG.mk (fun hb=>by(try(have hc:=And.left hb;have hb:=And.right hb;rw[hc]));(try rw[hb]);first|exact(zcA (leap_c _) ⟨rfl,rfl⟩)|exact(zcA (lengths_c) rfl)|exact V.y vAuto) ?_)|(refine nxG ?_)|(refine nxX ?_)|(refine G.cN rfl (fun hc=>?_) (fun hc=>?_)<;>(try first|exact hc.elim|(exfalso;omega))))
 all_goals refine X.ret (vs:=[_]) rfl ⟨rfl,rfl⟩ rfl (fun w hw=>⟨?_,hw.ext⟩)
 ·simp[dim,hc.1,hc.2]
 ·rcases hc with hc|hc
  ·simp[dim,monthLen,hc]
  ·simp[dim,monthLen,hc]
theorem rdays_c (y m:Int):Cont Tryz.prog 70 [.int .i64 y,.int .i64 m] (.int .i64 (dim y m)):=fun w=>by
 refine enter0 Tryz.func70 rfl rfl rfl ?_
 repeat' (first|(show YK _ _ _ _ _ _ _;first|refine YK.mk (zcA (rleap_c _) ⟨rfl,rfl⟩) ?_)|(refine nxV ?_)|(refine nSS ?_)|(refine nS1 fun _=>?_)|(refine nMM ?_)|(refine nM1 fun _=>?_)|(show YG _ _ _ _ _ _ _ _;refine YG.mk (fun hb=>by(try(have hc:=And.left hb;have hb:=And.right hb;rw[hc]));(try rw[hb]);first|exact(zcA (rleap_c _) ⟨rfl,rfl⟩)|exact V.y vAuto) ?_)|(refine nxG ?_)|(refine nxX ?_)|(refine G.cN rfl (fun hc=>?_) (fun hc=>?_)<;>(try first|exact hc.elim|(exfalso;omega))))
 all_goals refine X.ret (vs:=[_]) rfl ⟨rfl,rfl⟩ rfl (fun w hw=>⟨?_,hw.ext⟩)
 all_goals (simp only[dim, *,if_true,if_false];try rfl)
 all_goals first
  |(have h:m=4∨m=6∨m=9∨m=11:=by omega
    simp[h];done)
  |(have h:¬(m=4∨m=6∨m=9∨m=11):=by omega
    simp[h];done)
theorem before_c (y:Int) (h1:1≤y) (h2:y≤10000):Cont Tryz.prog 146 [.int .i64 y] (.int .i64 (before y)):=fun w=>by
 refine enter0 Tryz.func146 rfl rfl rfl ?_
 repeat' (first|(refine nxV ?_)|(refine nSS ?_)|(refine nS1 fun _=>?_)|(refine nMM ?_)|(refine nM1 fun _=>?_)|(refine nxG ?_)|(refine nxX ?_)|(refine G.cN rfl (fun hc=>?_) (fun hc=>?_)<;>(try first|exact hc.elim|(exfalso;omega))))
 exact X.ret1
theorem rbefore_c (y:Int) (h1:1≤y) (h2:y≤10000):Cont Tryz.prog 71 [.int .i64 y] (.int .i64 (before y)):=fun w=>by
 refine enter0 Tryz.func71 rfl rfl rfl ?_
 repeat' (first|(refine nxV ?_)|(refine nSS ?_)|(refine nS1 fun _=>?_)|(refine nMM ?_)|(refine nM1 fun _=>?_)|(refine nxG ?_)|(refine nxX ?_)|(refine G.cN rfl (fun hc=>?_) (fun hc=>?_)<;>(try first|exact hc.elim|(exfalso;omega))))
 exact X.ret1
abbrev dateV (y m d:Int):Value:=.agg [.int .i64 y,.int .i64 m,.int .i64 d].toArray
theorem valid_c (y m d:Int):Cont Tryz.prog 82 [dateV y m d] (.bool (validB y m d)):=fun w=>by
 refine enter0 Tryz.func82 rfl rfl rfl ?_
 repeat' (first|(show YK _ _ _ _ _ _ _;first|refine YK.mk (zcA (right_c _ _) ⟨rfl,rfl,rfl⟩) ?_|refine YK.mk (zcA (days_c _ _ (by simp only[Bool.and_eq_true] at hb;have:=right_of hb.1;omega) (by simp only[Bool.and_eq_true] at hb;have:=right_of hb.1;omega)) ⟨rfl,rfl,rfl⟩) ?_)|(refine nxV ?_)|(refine nSS ?_)|(refine nS1 fun _=>?_)|(refine nMM ?_)|(refine nM1 fun _=>?_)|(show YG _ _ _ _ _ _ _ _;refine YG.mk (fun hb=>by(try(have hc:=And.left hb;have hb:=And.right hb;rw[hc]));(try rw[hb]);first|exact(zcA (right_c _ _) ⟨rfl,rfl,rfl⟩)|exact(zcA (days_c _ _ (by simp only[Bool.and_eq_true] at hb;have:=right_of hb.1;omega) (by simp only[Bool.and_eq_true] at hb;have:=right_of hb.1;omega)) ⟨rfl,rfl,rfl⟩)|exact V.y vAuto) ?_)|(refine nxG ?_)|(refine G.mA 1 [.go 0,.go 1,.go 2,.go 3,.go 4,.go 5,.go 6,.go 7,.go 8,.go 9,.go 10,.go 11,.go 12,.go 13,.go 14,.go 15,.go 16,.go 17,.go 18,.go 19,.go 20] ?_)|(refine nxX ?_)|(refine G.cN rfl (fun hc=>?_) (fun hc=>?_)<;>(try first|exact hc.elim|(exfalso;omega))))
 exact X.ret1
theorem rvalid_c (y m d:Int):Cont Tryz.prog 21 [dateV y m d] (.bool (validB y m d)):=fun w=>by
 refine enter0 Tryz.func21 rfl rfl rfl ?_
 repeat' (first|(show YK _ _ _ _ _ _ _;first|refine YK.mk (zcA (rdays_c _ _) ⟨rfl,rfl,rfl⟩) ?_)|(refine nxV ?_)|(refine nSS ?_)|(refine nS1 fun _=>?_)|(refine nMM ?_)|(refine nM1 fun _=>?_)|(show YG _ _ _ _ _ _ _ _;refine YG.mk (fun hb=>by(try(have hc:=And.left hb;have hb:=And.right hb;rw[hc]));(try rw[hb]);first|exact(zcA (rdays_c _ _) ⟨rfl,rfl,rfl⟩)|exact V.y vAuto) ?_)|(refine nxG ?_)|(refine G.mA 1 [.go 0,.go 1,.go 2,.go 3,.go 4,.go 5,.go 6,.go 7,.go 8,.go 9,.go 10,.go 11,.go 12,.go 13,.go 14,.go 15,.go 16,.go 17,.go 18,.go 19,.go 20,.go 21,.go 22,.go 23,.go 24,.go 25,.go 26,.go 27,.go 28,.go 29,.go 30,.go 31,.go 32,.go 33] ?_)|(refine nxX ?_)|(refine G.cN rfl (fun hc=>?_) (fun hc=>?_)<;>(try first|exact hc.elim|(exfalso;omega))))
 exact X.ret1
theorem doy_c (y m d:Int) (hv:validB y m d=true):Cont Tryz.prog 147 [dateV y m d] (.int .i64 (doy y m d)):=fun w=>by
 obtain⟨hy,hm,hd⟩:=valid_of hv
 have hdm:=dim_bd y m
 refine enter0 Tryz.func147 rfl rfl rfl ?_
 repeat' (first|(refine nxV ?_)|(refine nSS ?_)|(refine nS1 fun _=>?_)|(refine nMM ?_)|(refine nM1 fun _=>?_)|(refine nxG ?_)|(refine nxX ?_)|(refine G.cN rfl (fun hc=>?_) (fun hc=>?_)<;>(try first|exact hc.elim|(exfalso;omega))))
 rename_i b
 refine G.loop (ι:=Nat×Int) (fun x=>[(1,.pointer (some ⟨b,0,none⟩)),(3,.int .i64 x.2),(4,.int .i64 ((x.1:Int)+1))]) (fun _=>[.blk b 29 [.int .i64 y,.int .i64 m,.int .i64 d]])
  (fun x=>(x.1:Int)+1≤m∧x.2=d+cum y x.1) (fun x=>12-x.1) (0,d) ⟨by omega,by simp[cum]⟩ ⟨rfl,rfl,rfl,trivial⟩ (fun w h=>h) ?_
 rintro⟨k,s⟩ mx ⟨hk,hs⟩ hmx
 dsimp only at hk hs hmx
 have hc:=cum_bd y k
 have hc1:=dim_bd y ((k:Int)+1)
 dsimp only
 repeat' (first|(show YK _ _ _ _ _ _ _;first|refine YK.mk (zcA (days_c _ _ (by omega) (by omega)) ⟨rfl,rfl,rfl⟩) ?_)|(refine nxV ?_)|(refine nSS ?_)|(refine nS1 fun _=>?_)|(refine nMM ?_)|(refine nM1 fun _=>?_)|(show YG _ _ _ _ _ _ _ _;refine YG.mk (fun hb=>by(try(have hc:=And.left hb;have hb:=And.right hb;rw[hc]));(try rw[hb]);first|exact(zcA (days_c _ _ (by omega) (by omega)) ⟨rfl,rfl,rfl⟩)|exact V.y vAuto) ?_)|(refine nxG ?_)|(refine nxX ?_)|(refine G.cN rfl (fun hc=>?_) (fun hc=>?_)<;>(try first|exact hc.elim|(exfalso;omega))))
 ·apply X.again (k+1,s+dim y ((k:Int)+1))
  ·exact⟨by simp only;omega,by simp only[cum];omega⟩
  ·simp only;omega
  ·exact⟨rfl,rfl,rfl,trivial⟩
  ·exact fun w h=>h.sub subS
 ·refine X.ret (vs:=[_]) rfl ⟨rfl,rfl⟩ rfl (fun w hw=>⟨?_,hw.ext⟩)
  have:(m-1).toNat=k:=by omega
  rw[doy,this,hs]
theorem rdoy_c (y m d:Int) (hv:validB y m d=true):Cont Tryz.prog 72 [dateV y m d] (.int .i64 (doy y m d)):=fun w=>by
 obtain⟨hy,hm,hd⟩:=valid_of hv
 have hdm:=dim_bd y m
 refine enter0 Tryz.func72 rfl rfl rfl ?_
 repeat' (first|(refine nxV ?_)|(refine nSS ?_)|(refine nS1 fun _=>?_)|(refine nMM ?_)|(refine nM1 fun _=>?_)|(refine nxG ?_)|(refine nxX ?_)|(refine G.cN rfl (fun hc=>?_) (fun hc=>?_)<;>(try first|exact hc.elim|(exfalso;omega))))
 rename_i b
 refine G.loop (ι:=Nat×Int) (fun x=>[(1,.pointer (some ⟨b,0,none⟩)),(3,.int .i64 x.2),(4,.int .i64 ((x.1:Int)+1))]) (fun _=>[.blk b 29 [.int .i64 y,.int .i64 m,.int .i64 d]])
  (fun x=>(x.1:Int)+1≤m∧x.2=d+cum y x.1) (fun x=>12-x.1) (0,d) ⟨by omega,by simp[cum]⟩ ⟨rfl,rfl,rfl,trivial⟩ (fun w h=>h) ?_
 rintro⟨k,s⟩ mx ⟨hk,hs⟩ hmx
 dsimp only at hk hs hmx
 have hc:=cum_bd y k
 have hc1:=dim_bd y ((k:Int)+1)
 dsimp only
 repeat' (first|(show YK _ _ _ _ _ _ _;first|refine YK.mk (zcA (rdays_c _ _) ⟨rfl,rfl,rfl⟩) ?_)|(refine nxV ?_)|(refine nSS ?_)|(refine nS1 fun _=>?_)|(refine nMM ?_)|(refine nM1 fun _=>?_)|(show YG _ _ _ _ _ _ _ _;refine YG.mk (fun hb=>by(try(have hc:=And.left hb;have hb:=And.right hb;rw[hc]));(try rw[hb]);first|exact(zcA (rdays_c _ _) ⟨rfl,rfl,rfl⟩)|exact V.y vAuto) ?_)|(refine nxG ?_)|(refine nxX ?_)|(refine G.cN rfl (fun hc=>?_) (fun hc=>?_)<;>(try first|exact hc.elim|(exfalso;omega))))
 ·apply X.again (k+1,s+dim y ((k:Int)+1))
  ·exact⟨by simp only;omega,by simp only[cum];omega⟩
  ·simp only;omega
  ·exact⟨rfl,rfl,rfl,trivial⟩
  ·exact fun w h=>h.sub subS
 ·refine X.ret (vs:=[_]) rfl ⟨rfl,rfl⟩ rfl (fun w hw=>⟨?_,hw.ext⟩)
  have:(m-1).toNat=k:=by omega
  rw[doy,this,hs]
theorem number_c (y m d:Int) (hv:validB y m d=true):Cont Tryz.prog 83 [dateV y m d] (.int .i64 (num y m d)):=fun w=>by
 obtain⟨hy,hm,hd⟩:=valid_of hv
 have hdm:=dim_bd y m
 have hb:=before_bd hy.1 (by omega)
 have h2:=before2000
 have hc:=cum_bd y (m-1).toNat
 have hdoy:1≤doy y m d∧doy y m d≤1000:=by unfold doy;omega
 refine enter0 Tryz.func83 rfl rfl rfl ?_
 repeat' (first|(show YK _ _ _ _ _ _ _;first|refine YK.mk (zcA (before_c _ (by omega) (by omega)) ⟨rfl,rfl⟩) ?_|refine YK.mk (zcA (doy_c _ _ _ hv) ⟨rfl,rfl⟩) ?_)|(refine nxV ?_)|(refine nSS ?_)|(refine nS1 fun _=>?_)|(refine nMM ?_)|(refine nM1 fun _=>?_)|(show YG _ _ _ _ _ _ _ _;refine YG.mk (fun hb=>by(try(have hc:=And.left hb;have hb:=And.right hb;rw[hc]));(try rw[hb]);first|exact(zcA (before_c _ (by omega) (by omega)) ⟨rfl,rfl⟩)|exact(zcA (doy_c _ _ _ hv) ⟨rfl,rfl⟩)|exact V.y vAuto) ?_)|(refine nxG ?_)|(refine G.mA 1 [.go 0,.go 1,.go 5,.go 2,.go 3,.go 4,.go 6,.go 7,.go 8,.go 9] ?_)|(refine nxX ?_)|(refine G.cN rfl (fun hc=>?_) (fun hc=>?_)<;>(try first|exact hc.elim|(exfalso;omega))))
 refine X.ret (vs:=[_]) rfl ⟨rfl,rfl⟩ rfl (fun w hw=>⟨ret_int ?_,hw.ext⟩)
 unfold num;rw[h2]
theorem rnumber_c (y m d:Int) (hv:validB y m d=true):Cont Tryz.prog 23 [dateV y m d] (.int .i64 (num y m d)):=fun w=>by
 obtain⟨hy,hm,hd⟩:=valid_of hv
 have hdm:=dim_bd y m
 have hb:=before_bd hy.1 (by omega)
 have h2:=before2000
 have hc:=cum_bd y (m-1).toNat
 have hdoy:1≤doy y m d∧doy y m d≤1000:=by unfold doy;omega
 refine enter0 Tryz.func23 rfl rfl rfl ?_
 repeat' (first|(show YK _ _ _ _ _ _ _;first|refine YK.mk (zcA (rbefore_c _ (by omega) (by omega)) ⟨rfl,rfl⟩) ?_|refine YK.mk (zcA (rdoy_c _ _ _ hv) ⟨rfl,rfl⟩) ?_)|(refine nxV ?_)|(refine nSS ?_)|(refine nS1 fun _=>?_)|(refine nMM ?_)|(refine nM1 fun _=>?_)|(show YG _ _ _ _ _ _ _ _;refine YG.mk (fun hb=>by(try(have hc:=And.left hb;have hb:=And.right hb;rw[hc]));(try rw[hb]);first|exact(zcA (rbefore_c _ (by omega) (by omega)) ⟨rfl,rfl⟩)|exact(zcA (rdoy_c _ _ _ hv) ⟨rfl,rfl⟩)|exact V.y vAuto) ?_)|(refine nxG ?_)|(refine G.mA 1 [.go 0,.go 1,.go 3,.go 2,.go 4,.go 5,.go 6,.go 7,.go 8,.go 9] ?_)|(refine nxX ?_)|(refine G.cN rfl (fun hc=>?_) (fun hc=>?_)<;>(try first|exact hc.elim|(exfalso;omega))))
 refine X.ret (vs:=[_]) rfl ⟨rfl,rfl⟩ rfl (fun w hw=>⟨ret_int ?_,hw.ext⟩)
 unfold num;rw[h2];omega
abbrev e2 (v:Value) (e:Int):Value:=.tuple [v,.int .i64 e].toArray
theorem valid_t {y m d:Int} (hv:validB y m d=true):Cont Tryz.prog 82 [dateV y m d] (.bool true):=hv ▸ valid_c y m d
theorem valid_f {y m d:Int} (hv:validB y m d=false):Cont Tryz.prog 82 [dateV y m d] (.bool false):=hv ▸ valid_c y m d
theorem rvalid_t {y m d:Int} (hv:validB y m d=true):Cont Tryz.prog 21 [dateV y m d] (.bool true):=hv ▸ rvalid_c y m d
theorem rvalid_f {y m d:Int} (hv:validB y m d=false):Cont Tryz.prog 21 [dateV y m d] (.bool false):=hv ▸ rvalid_c y m d
theorem Number_t {y m d:Int} (hv:validB y m d=true):Cont Tryz.prog 32 [dateV y m d] (e2 (.int .i64 (num y m d)) 0):=fun w=>by
 refine enter0 Tryz.func32 rfl rfl rfl ?_
 repeat' (first|(show YK _ _ _ _ _ _ _;first|refine YK.mk (zcA (valid_t hv) ⟨rfl,rfl⟩) ?_|refine YK.mk (zcA (number_c _ _ _ hv) ⟨rfl,rfl⟩) ?_)|(refine nxV ?_)|(refine nSS ?_)|(refine nS1 fun _=>?_)|(refine nMM ?_)|(refine nM1 fun _=>?_)|(show YG _ _ _ _ _ _ _ _;refine YG.mk (fun hb=>by(try(have hc:=And.left hb;have hb:=And.right hb;rw[hc]));(try rw[hb]);first|exact(zcA (valid_t hv) ⟨rfl,rfl⟩)|exact(zcA (number_c _ _ _ hv) ⟨rfl,rfl⟩)|exact V.y vAuto) ?_)|(refine nxG ?_)|(refine nxX ?_)|(refine G.cN rfl (fun hc=>?_) (fun hc=>?_)<;>(try first|exact hc.elim|(exfalso;omega))))
 exact X.ret (vs:=[_,_]) rfl ⟨rfl,rfl,rfl⟩ rfl rE
theorem Number_f {y m d:Int} (hv:validB y m d=false):Cont Tryz.prog 32 [dateV y m d] (e2 (.int .i64 0) 1):=fun w=>by
 refine enter0 Tryz.func32 rfl rfl rfl ?_
 repeat' (first|(show YK _ _ _ _ _ _ _;first|refine YK.mk (zcA (valid_f hv) ⟨rfl,rfl⟩) ?_)|(refine nxV ?_)|(refine nSS ?_)|(refine nS1 fun _=>?_)|(refine nMM ?_)|(refine nM1 fun _=>?_)|(show YG _ _ _ _ _ _ _ _;refine YG.mk (fun hb=>by(try(have hc:=And.left hb;have hb:=And.right hb;rw[hc]));(try rw[hb]);first|exact(zcA (valid_f hv) ⟨rfl,rfl⟩)|exact V.y vAuto) ?_)|(refine nxG ?_)|(refine nxX ?_)|(refine G.cN rfl (fun hc=>?_) (fun hc=>?_)<;>(try first|exact hc.elim|(exfalso;omega))))
 exact X.ret (vs:=[_,_]) rfl ⟨rfl,rfl,rfl⟩ rfl rE
end Go.Proofs.YtjmdeplmenbmmaaGreat
