/- Joined texts: Rst, Rf6. -/
import Derived.Test.YtjmdeplmenbmmaaGreatDoorW23
import Derived.Test.YtjmdeplmenbmmaaGreatDoorW10
import Derived.Test.YtjmdeplmenbmmaaGreatDoorW06
import Derived.Test.YtjmdeplmenbmmaaGreatDoorV08
set_option linter.unusedVariables false
set_option maxHeartbeats 4000000
namespace Go.Proofs.YtjmdeplmenbmmaaGreatDoor
open Go.RowKit Go.Shelf
abbrev oT (b:Nat):Hl:=.oth b fun o=>o.isCells=true
abbrev oE (b:Nat) (o:Obj):Hl:=.oth b fun o'=>o'=o
def OnCells (h:Hl):Prop:=∀(base:Nat) (w:World) (b:Nat),h.holds base w→h.spot=some b→∃o:Obj,w.heap[b]?=some o∧o.isCells=true
theorem onCells_oT (b:Nat):OnCells (oT b):=fun base w c hh hs=>by
 simp only[Hl.spot,Option.some.injEq] at hs
 subst hs
 exact hh.2
theorem onCells_blk (b:Nat) (t:TypeId) (cs:List Value):OnCells (.blk b t cs):=fun base w c hh hs=>by
 simp only[Hl.spot,Option.some.injEq] at hs
 subst hs
 exact⟨_,hh.2,rfl⟩
theorem onCells_row (v:Value) (e:TypeId) (s n:Nat) (xs:List Value):OnCells (.row v e s n xs):=fun base w c hh hs=>by
 rcases hh.2 with ⟨rfl,_⟩|⟨g,cap,cur,rfl,_,hg,_⟩
 ·cases hs
 ·simp only[Hl.spot,Value.ownBlock,Option.some.injEq] at hs
  subst hs
  exact⟨_,hg,rfl⟩
theorem onCells_ro (nw:Bool) (v:Value) (s n:Nat) (xs:List Value):OnCells (.ro nw v s n xs):=fun base w c hh hs=>by
 cases xs with
 |nil=>simp[Hl.spot] at hs
 |cons u r =>
  obtain⟨⟨_,A,cc,rfl,_,hc,_⟩,_⟩:=hh
  obtain⟨a,rfl,hc2⟩:=hc (by simp)
  simp only[Hl.spot,Value.ownBlock,Option.some.injEq] at hs
  subst hs
  have h0:=hc2 0 u rfl
  have hb:(a.add 0).block=a.block:=add_block a 0
  unfold World.cell? at h0
  rw[hb] at h0
  cases ho:w.heap[a.block]? with
  |none=>rw[ho] at h0;cases h0
  |some o =>
   refine⟨o,rfl,?_⟩
   rw[ho] at h0
   cases o<;>first|rfl|cases h0
def AllCells (B:Nat) (H:List Hl):Prop:=∀h∈H,OnCells h∨∀b,h.spot=some b→b<B
section
variable {w0 W W':World} {H:List Hl}
theorem St.grownO {B:Nat} (h:St w0 H W) (hB:w0.heap.size≤B) (hc:AllCells B H) {row:Option Nat} (hg:W.grownBy W' row) (hr:∀r,row=some r→B≤r∧∃o:Obj,W.heap[r]?=some o∧o.isCells=false):St w0 H W':=by
 refine⟨h.ext.grown hg h.ext.size (fun k e=>Nat.le_trans hB (hr k e).1),fun x hx=>Hl.keep (h.all x hx) fun b hb=>hg.block b (Hl.lt (h.all x hx) hb) fun e=>?_,h.apart⟩
 obtain⟨hge,o',ho',hno⟩:=hr b e.symm
 rcases hc x hx with hx2|hx2
 ·obtain⟨o,ho,hcc⟩:=hx2 _ W b (h.all x hx) hb
  rw[ho] at ho'
  cases ho'
  rw[hcc] at hno
  cases hno
 ·have:=hx2 b hb
  omega
theorem St.putT {g i:Nat} (v:Value) (h:St w0 (oT g::H) W):St w0 (oT g::H) (W.setCell ⟨g,i,none⟩ v):=by
 have hg:=h.all _ List.mem_cons_self
 obtain⟨hge,o,ho,hcc⟩:=hg
 refine⟨h.ext.setCell (p:=⟨g,i,none⟩) hge v,fun x hx=>?_,h.apart⟩
 rcases List.mem_cons.1 hx with e|hx2
 ·subst e
  refine⟨hge,?_⟩
  unfold World.setCell
  simp only[Array.getElem?_modify,ho]
  cases o<;>first|exact⟨_,rfl,rfl⟩|cases hcc
 ·refine Hl.keep (h.all x hx) fun b hb=>Below.heap_setCell W _ v b fun e=>?_
  dsimp only at e
  have:=(h.apart.1 x hx2 g rfl (by rw[hb,e])).1
  cases this
theorem St.know {g:Nat} {o:Obj} (h:St w0 (oT g::H) W) (ho:W.heap[g]?=some o):St w0 (oE g o::H) W:=by
 refine⟨h.ext,fun x hx=>?_,fun x hx b hb hxb=>?_,h.apart.2⟩
 ·rcases List.mem_cons.1 hx with rfl|hx
  ·exact⟨(h.all _ List.mem_cons_self).1,o,ho,rfl⟩
  ·exact h.all x (List.mem_cons_of_mem _ hx)
 ·have:=(h.apart.1 x hx b hb hxb).1
  cases this
theorem St.forget {g:Nat} {o:Obj} (h:St w0 (oE g o::H) W) (ho:o.isCells=true):St w0 (oT g::H) W:=by
 refine⟨h.ext,fun x hx=>?_,fun x hx b hb hxb=>?_,h.apart.2⟩
 ·rcases List.mem_cons.1 hx with rfl|hx
  ·obtain⟨h1,o',h2,rfl⟩:=h.all _ List.mem_cons_self
   exact⟨h1,o',h2,ho⟩
  ·exact h.all x (List.mem_cons_of_mem _ hx)
 ·have:=(h.apart.1 x hx b hb hxb).1
  cases this
theorem St.at {g:Nat} {o:Obj} (h:St w0 H W) (hm:oE g o∈H):W.heap[g]?=some o:=by
 obtain⟨_,o',h2,rfl⟩:=h.all _ hm
 exact h2
theorem St.odd {D:Nat} {o:Obj} (h:St w0 H W) (hc:∀x∈H,x.spot≠some D) (hD:w0.heap.size≤D) (ho:W.heap[D]?=some o):St w0 (oE D o::H) W:=by
 refine⟨h.ext,fun x hx=>?_,fun x hx b hb hxb=>?_,h.apart⟩
 ·rcases List.mem_cons.1 hx with rfl|hx
  ·exact⟨hD,o,ho,rfl⟩
  ·exact h.all x hx
 ·simp only[Hl.spot,Option.some.injEq] at hb
  subst hb
  exact absurd hxb (hc x hx)
theorem St.notSpot {D B:Nat} {o:Obj} (h:St w0 H W) (hc:AllCells B H) (hD:B≤D) (ho:W.heap[D]?=some o) (hno:o.isCells=false):∀x∈H,x.spot≠some D:=fun x hx hxb=>by
 rcases hc x hx with hx2|hx2
 ·obtain⟨o',ho',hcc⟩:=hx2 _ W D (h.all x hx) hxb
  rw[ho] at ho'
  cases ho'
  rw[hno] at hcc
  cases hcc
 ·have:=hx2 D hxb
  omega
theorem onCells_oE {b:Nat} {o:Obj} (h:o.isCells=true):OnCells (oE b o):=fun base w c hh hs=>by
 simp only[Hl.spot,Option.some.injEq] at hs
 subst hs
 obtain⟨_,o',h2,rfl⟩:=hh
 exact⟨_,h2,h⟩
theorem St.allocT {o:Obj} (h:St w0 H W) (ho:o.isCells=true):St w0 (oT W.heap.size::H) (W.alloc o):=by
 have h1:=h.step ((Below.refl W.heap.size W).alloc (Nat.le_refl _) o)
 refine⟨h1.ext,fun x hx=>?_,fun x hx b hb hxb=>?_,h.apart⟩
 ·rcases List.mem_cons.1 hx with rfl|hx
  ·exact⟨h.ext.size,o,World.alloc_heap_new W o,ho⟩
  ·exact h1.all x hx
 ·simp only[Hl.spot,Option.some.injEq] at hb
  subst hb
  exact absurd (Hl.lt (h.all x hx) hxb) (Nat.lt_irrefl _)
theorem St.oneNew {x:Hl} {A:World} (h:St w0 H A) (hb:Below A.heap.size A W) (hx:x.holds A.heap.size W) (hn:x.isNew=true):St w0 (x::H) W:=h.news (Hn:=[x]) hb fun y hy=>by
 rcases List.mem_singleton.1 hy with rfl
 exact⟨hx,hn⟩
end
section
variable {P:Program} {n:Nat} {α ι κ:Type}
def outR (w0:World) (D g k1 k2:Nat) (oD oL oG o1 o2:Obj) (pr:List α→ι→Prop) (Hx:ι→List Hl) (px:List α→κ→Prop) (Hy:κ→List Hl) (xs:List α):Exit→Act→World→Prop
 |.normal,_,W'=>∃z,pr xs z∧St w0 (oE D oD::oE (D+1) oL::oE g oG::oE k1 o1::oE k2 o2::Hx z) W'
 |.ret,_,W'=>∃y,px xs y∧St w0 (oE D oD::oE (D+1) oL::Hy y) W'
 |_,_,_=>False
instance {w0:World} {D g k1 k2:Nat} {oD oL oG o1 o2:Obj} {pr:List α→ι→Prop} {Hx:ι→List Hl} {px:List α→κ→Prop} {Hy:κ→List Hl} {xs:List α} : NoOut (outR w0 D g k1 k2 oD oL oG o1 o2 pr Hx px Hy xs):=⟨fun⟨_,_,q⟩=>q⟩
theorem X.nextR {w0:World} {D g k1 k2:Nat} {oD oL oG o1 o2:Obj} {pr:List α→ι→Prop} {Hx:ι→List Hl} {px:List α→κ→Prop} {Hy:κ→List Hl} {xs:List α} {nT:Nat} {L:FL} {H:List Hl} (z:ι) (hp:pr xs z) (hH:∀W,St w0 H W→St w0 (oE D oD::oE (D+1) oL::oE g oG::oE k1 o1::oE k2 o2::Hx z) W):X (Qs [] (outR w0 D g k1 k2 oD oL oG o1 o2 pr Hx px Hy xs)) nT L w0 H .normal:=by
 unfold X
 exact fun _ W _ hw=>⟨z,hp,hH W hw⟩
theorem X.leaveR {w0:World} {D g k1 k2:Nat} {oD oL oG o1 o2:Obj} {pr:List α→ι→Prop} {Hx:ι→List Hl} {px:List α→κ→Prop} {Hy:κ→List Hl} {xs:List α} {nT:Nat} {L:FL} {H:List Hl} (y:κ) (hp:px xs y) (hH:∀W,St w0 H W→St w0 (oE D oD::oE (D+1) oL::Hy y) W):X (Qs [] (outR w0 D g k1 k2 oD oL oG o1 o2 pr Hx px Hy xs)) nT L w0 H .ret:=by
 unfold X
 exact fun _ W _ hw=>⟨y,hp,hH W hw⟩
def GoodH (xN:α→Hl) (m g:Nat) (x:α) (W:World):Prop:=g<m∧(xN x).holds m W
theorem range_st {gv:Operand} {ps:Array Tmp} {assign body:Code} {Q:Exit→Act→World→Prop} {a:Act} {w0 w:World} (h1:1≤n) {gf:Nat} {lb:Array Value} (hg:a.eval gv=.func (.func gf) #[] lb) (eg:∀args w,(callFunc gf args).run P w=.ok (.enter gf args) w)
  {encs:α→Array Value} {xN:α→Hl} (hxn:∀x,(xN x).isNew=true) (hxc:∀x,OnCells (xN x)) {k1 k2:Nat} {Pr:List α→α→Prop} {S Sp:List α→Prop} (hs:SeqOwn Fence.wide (n-1) P gf lb encs (GoodH xN) [k1,k2] Pr S Sp w) (hps:∀x,(encs x).size=ps.size)
  (pr:List α→ι→Prop) (Hx:ι→List Hl) (px:List α→κ→Prop) (Hy:κ→List Hl) (cx:∀z,AllCells w.heap.size (Hx z)) (cy:∀y,AllCells w.heap.size (Hy y)) (z0:ι) (h0:pr [] z0) (hst:St w0 (oT k1::oT k2::Hx z0) w) {nT:Nat} (L₁:α→FL)
  (hassign:∀(l:Nat) (x:α) (W:World) (K:Act→World→Prop),(∀a',Fr nT (L₁ x) a'→K a' W)→assign.wpIn (wF (some l)) (n-1-1) P (Exit.then K (fun _ _ _=>False)) { tmps:=(ps.zip (encs x)).foldl (fun t (p,v)=>t.setIfInBounds p v) a.tmps,defers:=[] } W)
  (hbody:∀(r D g:Nat) (pre:List α) (x:α) (z:ι) (oD oL oG o1 o2:Obj),Pr pre x→pr pre z→GI P (some r) (n-1-1) [] (outR w0 D g k1 k2 oD oL oG o1 o2 pr Hx px Hy (pre++[x])) nT (L₁ x) w0 (oE D oD::oE (D+1) oL::oE g oG::oE k1 o1::oE k2 o2::xN x::Hx z) body)
  (hdone:∀(D:Nat) (xs:List α) (z:ι) (W:World),w.heap.size≤D→S xs→pr xs z→St w0 (Hx z) W→W.heap[D]?=some (.deferred (some []))→Q .normal { a with defers:={ target:=.collected D,args:=#[] }::a.defers } W)
  (hstop:∀(D:Nat) (pre:List α) (y:κ) (W:World),w.heap.size≤D→Sp pre→px pre y→St w0 (Hy y) W→W.heap[D]?=some (.deferred (some []))→Code.ret.wpIn Fence.wide n P Q { a with defers:={ target:=.collected D,args:=#[] }::a.defers } W) :
  (Code.rangeFunc gv ps assign body).wpIn Fence.wide n P Q a w:=by
 have c3:∀g z,AllCells w.heap.size (oT g::oT k1::oT k2::Hx z):=fun g z h hm=>by
  rcases List.mem_cons.1 hm with rfl|hm
  ·exact .inl (onCells_oT _)
  rcases List.mem_cons.1 hm with rfl|hm
  ·exact .inl (onCells_oT _)
  rcases List.mem_cons.1 hm with rfl|hm
  ·exact .inl (onCells_oT _)
  exact cx z h hm
 have hsz:=hst.ext.size
 refine range_own rfl h1 hg trivial eg (ks:=[k1,k2]) ?hks hs hps ?oG (fun W=>St w0 (oT k1::oT k2::Hx z0) W) (fun g pre W=>∃z,pr pre z∧St w0 (oT g::oT k1::oT k2::Hx z) W) (fun pre W=>∃y,px pre y∧St w0 (Hy y) W) ?oI ?o0 ?oA ?oC ?oX hst (fun x a'=>Fr nT (L₁ x) a') hassign ?body ?done ?stop
 case hks =>
  intro k hk
  have e1:=Hl.lt (hst.all (oT k1) List.mem_cons_self) rfl
  have e2:=Hl.lt (hst.all (oT k2) (List.mem_cons_of_mem _ List.mem_cons_self)) rfl
  simp at hk
  rcases hk with rfl|rfl<;>assumption
 case oG =>
  rintro m g x A l o r ⟨hgm,hx⟩ hl
  refine⟨hgm,Hl.keep hx fun b hb=>World.putObj_heap_other fun e=>?_⟩
  subst e
  obtain⟨o',ho',hcc⟩:=hxc x _ A b hx hb
  rw[hl] at ho'
  cases ho'
  cases hcc
 case oI =>
  rintro g s A B row ⟨z,hz,h⟩ hgr hr
  exact⟨z,hz,h.grownO hsz (c3 g z) hgr hr⟩
 case o0 =>
  rintro s A B row h hgr hr
  exact h.grownO hsz (fun x hm=>c3 0 z0 x (List.mem_cons_of_mem _ hm)) hgr hr
 case oA =>
  rintro A o hc hA h
  exact⟨z0,h0,h.allocT hc⟩
 case oC =>
  rintro g s A i v hgw ⟨z,hz,h⟩
  exact⟨z,hz,h.putT v⟩
 case oX =>
  rintro s A B row ⟨y,hy,h⟩ hgr hr
  exact⟨y,hy,h.grownO hsz (cy y) hgr hr⟩
 case body =>
  rintro l D g pre x W₀ W a₀ ha₀ hD hgw hP ⟨z,hz,h⟩ hb ⟨hgm,hx⟩ hdf ⟨rr,hlp⟩
  have s1:=h.oneNew hb hx (hxn x)
  obtain⟨_,oG,hoG,cG⟩:=s1.all (oT g) (List.mem_cons_of_mem _ List.mem_cons_self)
  obtain⟨_,o1,ho1,c1⟩:=s1.all (oT k1) (List.mem_cons_of_mem _ (List.mem_cons_of_mem _ List.mem_cons_self))
  obtain⟨_,o2,ho2,c2⟩:=s1.all (oT k2) (List.mem_cons_of_mem _ (List.mem_cons_of_mem _ (List.mem_cons_of_mem _ List.mem_cons_self)))
  have s2:=(s1.perm (List.Perm.swap _ _ _)).know hoG
  have s3:=(s2.perm (H':=oT k1::oE g oG::xN x::oT k2::Hx z) (((List.Perm.swap _ _ _).cons _).trans (List.Perm.swap _ _ _))).know ho1
  have s4:=(s3.perm (H':=oT k2::oE k1 o1::oE g oG::xN x::Hx z) ((((List.Perm.swap _ _ _).cons _).cons _).trans (((List.Perm.swap _ _ _).cons _).trans (List.Perm.swap _ _ _)))).know ho2
  have s5:=s4.perm (H':=oE g oG::oE k1 o1::oE k2 o2::xN x::Hx z) (((List.Perm.swap _ _ _).cons _).trans ((List.Perm.swap _ _ _).trans ((List.Perm.swap _ _ _).cons _)))
  have ac:AllCells w.heap.size (oE g oG::oE k1 o1::oE k2 o2::xN x::Hx z):=fun y hm=>by
   rcases List.mem_cons.1 hm with rfl|hm
   ·exact .inl (onCells_oE cG)
   rcases List.mem_cons.1 hm with rfl|hm
   ·exact .inl (onCells_oE c1)
   rcases List.mem_cons.1 hm with rfl|hm
   ·exact .inl (onCells_oE c2)
   rcases List.mem_cons.1 hm with rfl|hm
   ·exact .inl (hxc x)
   exact cx z y hm
  have s6:=s5.odd (D:=D+1) (s5.notSpot ac (by omega) hlp rfl) (by omega) hlp
  have s7:=s6.odd (D:=D) (fun y hm=>by
   rcases List.mem_cons.1 hm with rfl|hm
   ·simp[Hl.spot]
   ·exact s5.notSpot ac hD hdf rfl y hm) (by omega) hdf
  have ea:({ a₀ with defers:=[] } : Act)=a₀:=by
   obtain⟨ts,dd⟩:=a₀
   have hdd:dd=[]:=ha₀.defs
   subst hdd
   rfl
  have hbd:=hbody l D g pre x z _ _ oG o1 o2 hP hz a₀ W ha₀ s7
  rw[ea] at hbd
  refine wpIn_mono hbd ?_
  rintro e a' W' hq
  cases e with
  |normal =>
   obtain⟨z',hz',s'⟩:=hq
   refine⟨fun k hk=>?_,z',hz',?_⟩
   ·simp at hk
    rcases hk with rfl|rfl|rfl|rfl|rfl
    ·exact(s'.at (by simp)).trans hdf.symm
    ·exact(s'.at (o:=.loop rr) (by simp)).trans hlp.symm
    ·exact(s'.at (o:=oG) (by simp)).trans hoG.symm
    ·exact(s'.at (o:=o1) (by simp)).trans ho1.symm
    ·exact(s'.at (o:=o2) (by simp)).trans ho2.symm
   ·have t1:=(s'.sub (.cons _ (.cons _ (List.Sublist.refl _)))).forget cG
    have t2:=(t1.perm (List.Perm.swap _ _ _)).forget c1
    have t3:=(t2.perm (H':=oE k2 o2::oT k1::oT g::Hx z') (((List.Perm.swap _ _ _).cons _).trans (List.Perm.swap _ _ _))).forget c2
    exact t3.perm (((List.Perm.swap _ _ _).cons _).trans ((List.Perm.swap _ _ _).trans ((List.Perm.swap _ _ _).cons _)))
  |ret =>
   obtain⟨y,hy,s'⟩:=hq
   refine⟨fun k hk=>?_,y,hy,s'.sub (.cons _ (.cons _ (List.Sublist.refl _)))⟩
   simp at hk
   rcases hk with rfl|rfl
   ·exact(s'.at (by simp)).trans hdf.symm
   ·exact(s'.at (o:=.loop rr) (by simp)).trans hlp.symm
  |exit id=>exact hq.elim
  |goto t=>exact hq.elim
  |panic ch=>exact hq.elim
  |outgrown=>exact hq.elim
 case done =>
  rintro D g xs W hD hS ⟨z,hz,h⟩ hK
  exact hdone D xs z W hD hS hz (h.sub (.cons _ (.cons _ (.cons _ (List.Sublist.refl _))))) hK
 case stop =>
  rintro D pre W hD hSp ⟨y,hy,h⟩ hK
  exact hstop D pre y W hD hSp hy h hK
abbrev colD (D:Nat):Deferred:={ target:=.collected D,args:=#[] }
abbrev oD (D:Nat):Hl:=oE D (.deferred (some []))
theorem GI.range {m:Nat} {ds:List Deferred} {Q:Exit→Act→World→Prop} {nT:Nat} {L:FL} {w0:World} {H:List Hl} {id:Nat} {gv:Operand} {ps:Array Tmp} {assign body:Code} {gf:Nat} {lb:Array Value} [hno:NoOut Q] (h1:1≤m) (hg:evO L gv=some (.func (.func gf) #[] lb)) (eg:isGo P gf=true)
  {encs:α→Array Value} {xN:α→Hl} (hxn:∀x,(xN x).isNew=true) (hxc:∀x,OnCells (xN x)) {k1 k2:Nat} {Pr:List α→α→Prop} {S Sp:List α→Prop} (hs:∀w,St w0 H w→SeqOwn Fence.wide (m-1) P gf lb encs (GoodH xN) [k1,k2] Pr S Sp w) (hps:∀x,(encs x).size=ps.size)
  (pr:List α→ι→Prop) (Hx:ι→List Hl) (px:List α→κ→Prop) (Hy:κ→List Hl) (cx:∀w,St w0 H w→∀z,AllCells w.heap.size (Hx z)) (cy:∀w,St w0 H w→∀y,AllCells w.heap.size (Hy y)) (z0:ι) (h0:pr [] z0) (hst:∀w,St w0 H w→St w0 (oT k1::oT k2::Hx z0) w) (L₁:α→FL)
  (hassign:∀(a:Act) (l:Nat) (x:α) (W:World) (K:Act→World→Prop),Fr nT L a→(∀a',Fr nT (L₁ x) a'→K a' W)→assign.wpIn (wF (some l)) (m-1-1) P (Exit.then K (fun _ _ _=>False)) { tmps:=(ps.zip (encs x)).foldl (fun t (p,v)=>t.setIfInBounds p v) a.tmps,defers:=[] } W)
  (hbody:∀(r D g:Nat) (pre:List α) (x:α) (z:ι) (oD oL oG o1 o2:Obj),Pr pre x→pr pre z→GI P (some r) (m-1-1) [] (outR w0 D g k1 k2 oD oL oG o1 o2 pr Hx px Hy (pre++[x])) nT (L₁ x) w0 (oE D oD::oE (D+1) oL::oE g oG::oE k1 o1::oE k2 o2::xN x::Hx z) body)
  (hdone:∀(D:Nat) (xs:List α) (z:ι),S xs→pr xs z→X (Qs (colD D::ds) Q) nT L w0 (oD D::Hx z) .normal)
  (hstop:∀(D:Nat) (pre:List α) (y':κ),Sp pre→px pre y'→X (Qs (colD D::ds) Q) nT L w0 (oD D::Hy y') .ret) :
  GI P none m ds Q nT L w0 H (.block id (.rangeFunc gv ps assign body)):=fun a w ha hw=>by
 refine wpIn_block ?_
 have hsz:=hw.ext.size
 refine range_st (a:={ a with defers:=ds }) (w0:=w0) h1 (ha.eval hg) (fun args w'=>run_isGo eg args w') hxn hxc (hs w hw) hps pr Hx px Hy (cx w hw) (cy w hw) z0 h0 (hst w hw) L₁ (fun l x W K hK=>hassign a l x W K ha hK) hbody ?_ ?_
 ·intro D xs z W hD hS hz h hK
  have hdn:=hdone D xs z hS hz
  unfold X at hdn
  exact hdn a W ha (h.odd (h.notSpot (cx w hw z) hD hK rfl) (by omega) hK)
 ·intro D pre y' W hD hSp hy h hK
  have hst:=hstop D pre y' hSp hy
  unfold X at hst
  refine wpIn_ret ?_
  exact hst a W ha (h.odd (h.notSpot (cy w hw y') hD hK rfl) (by omega) hK)
theorem asg_skip {nT p:Nat} {L:FL} {a:Act} {l m:Nat} {W:World} {K:Act→World→Prop} {v:Value} (ha:Fr nT L a) (hp:p<nT) (hK:∀a',Fr nT ((p,v)::L) a'→K a' W):Code.skip.wpIn (wF (some l)) m P (Exit.then K (fun _ _ _=>False)) { tmps:=((#[p]:Array Tmp).zip #[v]).foldl (fun t (p,v)=>t.setIfInBounds p v) a.tmps,defers:=[] } W:=by
 refine wpIn_skip ?_
 have h:=ha.put (v:=v) hp
 have hd:=ha.defs
 have e:({ tmps:=((#[p]:Array Tmp).zip #[v]).foldl (fun t (p,v)=>t.setIfInBounds p v) a.tmps,defers:=[] } : Act)=a.put (some p) v:=by
  obtain⟨ts,dd⟩:=a
  simp only at hd
  subst hd
  simp[Act.put]
 show K _ W
 rw[e]
 exact hK _ h
theorem asg_one {nT p d id:Nat} {L:FL} {a:Act} {l m:Nat} {W:World} {K:Act→World→Prop} {v:Value} {ty:TypeId} {pos:String} {af:Array Edge} (ha:Fr nT L a) (hp:p<nT) (hd:d<nT) (hK:∀a',Fr nT ((d,v)::(p,v)::L) a'→K a' W):(Code.region id #[⟨some d,.assign (.tmp p),ty,pos,af,none⟩] false).wpIn (wF (some l)) m P (Exit.then K (fun _ _ _=>False)) { tmps:=((#[p]:Array Tmp).zip #[v]).foldl (fun t (p,v)=>t.setIfInBounds p v) a.tmps,defers:=[] } W:=by
 have h:=ha.put (v:=v) hp
 have hdd:=ha.defs
 have e:({ tmps:=((#[p]:Array Tmp).zip #[v]).foldl (fun t (p,v)=>t.setIfInBounds p v) a.tmps,defers:=[] } : Act)=a.put (some p) v:=by
  obtain⟨ts,dd⟩:=a
  simp only at hdd
  subst hdd
  simp[Act.put]
 rw[e]
 refine wpIn_region_lit (l:=[⟨some d,.assign (.tmp p),ty,pos,af,none⟩]) ?_
 refine wpListIn_plain rfl fun K' hK'=>⟨fun _ _=>trivial,?_⟩
 rw[Oper.semAt_eq _ _ _ (by intro c hc;cases hc)]
 have ev:(a.put (some p) v).eval (.tmp p)=v:=h.eval (lk_cons_eq L p v)
 simp only[execOp,ev,Sem.run_pure]
 refine hK' _ _ ?_
 exact hK _ (h.put hd)
theorem St.close {w0 W:World} {H:List Hl} {D:Nat} (h:St w0 (oD D::H) W):St w0 H (W.putObj D (.deferred none)):=by
 have hD:=(h.all _ List.mem_cons_self).1
 refine⟨⟨h.ext.os,h.ext.tape,h.ext.output,by simpa using h.ext.size,fun k hk=>(World.putObj_heap_other (by have:w0.heap.size≤D:=hD;omega)).trans (h.ext.block k hk)⟩,fun x hx=>Hl.keep (h.all x (List.mem_cons_of_mem _ hx)) fun b hb=>World.putObj_heap_other fun e=>?_,h.apart.2⟩
 subst e
 have:=(h.apart.1 x hx b rfl hb).1
 cases this
def RVS (P:Program) (L:FL) (H:List Hl):List ResultVar→List Value→Prop
 |[],vs=>vs=[]
 |r::rs,vs=>match vs with
  |[]=>False
  |v::vs=>(match r with
   |.tmp t=>lk L t=some v
   |.cell a t=>∃b t',lk L a=some (.pointer (some ⟨b,0,none⟩))∧Hl.blk b t' [v]∈H∧scalarB P t=true)∧RVS P L H rs vs
theorem run_RVS {nT:Nat} {L:FL} {H:List Hl} {a:Act} {w0 w:World} (ha:Fr nT L a) (hw:St w0 H w):∀{rs:List ResultVar} {vs:List Value},RVS P L H rs vs→(rs.mapM (resOf a.tmps)).run P w=.ok vs w
 |[],vs,h=>by cases (show vs=[] from h);simp
 |r::rs,vs,h=>by
  cases vs with
  |nil=>exact h.elim
  |cons v vs =>
   obtain⟨h1,h2⟩:=h
   have ih:=run_RVS ha hw h2
   have h0:(resOf a.tmps r).run P w=.ok v w:=by
    cases r with
    |tmp t=>simp only[resOf,ha.at_ t v h1,Sem.run_pure]
    |cell c t =>
     obtain⟨b,t',h3,h4,h5⟩:=h1
     have hc:=hw.cell h4 0
     simp only[resOf,ha.at_ c _ h3]
     simp[asAddr,loadVar,run_isAgg_false h5,hc]
   simp[h0,ih]
theorem X.retS {m:Nat} {nT:Nat} {L:FL} {w0:World} {fn:Func} {R:Ending→World→Prop} {rs:List ResultVar} {vs:List Value} {v:Value} : ∀(Ds:List Nat) {H:List Hl} (hf:fn.results=rs.toArray) (hr:RVS P L H rs vs) (hv:(match vs with|[v]=>v|_=>.tuple vs.toArray)=v)
  (h:∀w,St w0 H w→R (.returned v) w),X (Qs (Ds.map colD) (bodyPostM Fence.wide m P fn R)) nT L w0 (Ds.map oD++H) .ret:=fun Ds H hf hr hv h=>by
 unfold X
 intro a w ha hw
 show LeavesInM Fence.wide m P fn a.tmps R (Ds.map colD) .returning w
 induction Ds generalizing w with
 |nil =>
  have h1:=run_RVS ha hw hr
  have h2:(rs.toArray.mapM (resOf a.tmps)).run P w=.ok vs.toArray w:=by
   rw[List.mapM_toArray]
   simp[h1]
  refine⟨v,?_,h w hw⟩
  have h3:results fn a.tmps=(do let vs ←fn.results.mapM (resOf a.tmps);pure (if h:vs.size=1 then vs[0] else .tuple vs)):=rfl
  rw[h3,hf]
  subst hv
  simp only[Sem.run_bind,h2,Result.andThen_ok,Sem.run_pure]
  match vs with
  |[]=>rfl
  |[u]=>rfl
  |u::u'::r=>simp
 |cons D Ds ih=>exact⟨(fun h=>by cases h),.inl ⟨D,_,rfl,run_takeDeferred (hw.at List.mem_cons_self),ih _ hw.close⟩⟩
theorem enterM {m:Nat} {f:FuncId} {fn:Func} {c:Code} {vs:List Value} {w:World} {R:Ending→World→Prop} {nT:Nat} (hf:P.funcs[f]?=some fn) (hb:fn.body=some c) (hn:fn.ntmps=nT) (hl:Nat.ble vs.length nT=true) {Hp:List Hl} (hH:∀h∈Hp,h.holds w.heap.size w∧h.excl=false)
  (h:GI P none m [] (bodyPostM Fence.wide m P fn R) nT (argsL 0 vs) w Hp c):Calls P f vs.toArray w R:=by
 refine(callsIn_wide (n:=m)).1 (callsIn_of_wp_marks hf hb trivial ?_ rfl)
 refine h { tmps:=vs.toArray++Array.replicate (fn.ntmps-vs.toArray.size) undef,defers:=[] } w ⟨?_,rfl,fun i v hi=>?_⟩ (St.start w hH)
 ·have:=Nat.le_of_ble_eq_true hl
  simp[hn];omega
 ·have:=(lk_argsL vs 0 i v hi).2
  have hlt:=(List.getElem?_eq_some_iff.1 this).1
  simp at this
  have hlt':i<vs.length:=by omega
  have h2:=(List.getElem?_eq_some_iff.1 this).2
  simpa [Array.getElem?_append,hlt'] using h2
end
end Go.Proofs.YtjmdeplmenbmmaaGreatDoor
set_option maxHeartbeats 8000000
namespace Go.Proofs.YtjmdeplmenbmmaaGreatDoor
open Go.RowKit
section
variable {P:Program} {n:Nat} {L:FL} {w0:World} {H:List Hl} {d:Option Tmp} {ty:TypeId} {pos:String} {af:Array Edge} {g:Option (Nat×Bool)} {x y:Operand} {t t':TypeId} {m m' r:Int}
theorem mask31 {m:Int} (h:0≤m∧m≤9223372036854775807):bits .and .i64 m 2147483647=m%2147483648:=by
 have h1:(BitVec.ofInt 64 m &&& BitVec.ofInt 64 2147483647).toNat=m.toNat%2147483648:=by
  rw[BitVec.toNat_and,BitVec.toNat_ofInt,BitVec.toNat_ofInt]
  have e1:(m%((2^64:Nat):Int)).toNat=m.toNat:=by
   have:=Int.emod_eq_of_lt (a:=m) (b:=((2^64:Nat):Int)) (by omega) (by omega)
   omega
  rw[e1]
  exact Nat.and_two_pow_sub_one_eq_mod m.toNat 31
 show IntKind.i64.wrap ((BitVec.ofInt 64 m &&& BitVec.ofInt 64 2147483647).toNat:Int)=_
 rw[h1,IntWalk.i64_in _ (by omega)];omega
theorem y_mask31 (hx:evO L x=some (.int .i64 m)) (hy:evO L y=some (.int .i64 2147483647)) (h:0≤m∧m≤9223372036854775807):V P n L w0 H ⟨d,.binOp .and t x y t',ty,pos,af,g⟩ (.int .i64 (m%2147483648)):=by
 have:=y_band (P:=P) (n:=n) (w0:=w0) (H:=H) (d:=d) (ty:=ty) (pos:=pos) (af:=af) (g:=g) (t:=t) (t':=t') hx hy
 rwa [mask31 h] at this
end
theorem hi62_int (a b:Nat):((TT.hi62 a b:Nat):Int)=(a:Int)/2147483648*((b:Int)/2147483648)+(a:Int)/2147483648*((b:Int)%2147483648)/2147483648+(a:Int)%2147483648*((b:Int)/2147483648)/2147483648:=by
 unfold TT.hi62
 simp only[Int.natCast_add,Int.natCast_mul,Int.natCast_ediv,Int.natCast_emod]
 rfl
theorem high_c {a b:Nat} (ha:a≤TT.W62) (hb:b≤TT.W62):Cont Tryz.prog 381 [.int .i64 (a:Int),.int .i64 (b:Int)] (.int .i64 ((TT.hi62 a b:Nat):Int)):=fun w=>by
 have e:=hi62_int a b
 have ha':a≤4611686018427387904:=ha
 have hb':b≤4611686018427387904:=hb
 have k1:=TT.abs_mul_le (A:=2147483648) (u:=2147483648) (a:=(a:Int)/2147483648) (t:=(b:Int)/2147483648) (by omega) (by omega)
 have k2:=TT.abs_mul_le (A:=2147483648) (u:=2147483648) (a:=(a:Int)/2147483648) (t:=(b:Int)%2147483648) (by omega) (by omega)
 have k3:=TT.abs_mul_le (A:=2147483648) (u:=2147483648) (a:=(a:Int)%2147483648) (t:=(b:Int)/2147483648) (by omega) (by omega)
 refine enter0 Tryz.func381 rfl rfl rfl ?_
 repeat' (first|(show YK _ _ _ _ _ ⟨_,.binOp .and _ _ _ _,_,_,_,_⟩ _;refine YK.ofV (y_mask31 (by rfl) (by rfl) (by omega)) ?_)|(refine nxV ?_)|(refine nSS ?_)|(refine nxX ?_)|done)
 exact X.ret (vs:=[_]) rfl ⟨rfl,rfl⟩ rfl (fun w hw=>⟨congrArg Ending.returned (congrArg (Value.int .i64) e.symm),hw.ext⟩)
structure QF (t:Nat→Nat) (s o:Nat) (R:Int):Prop where
 rec':∀i,t (i+1)=TT.hi62 (t i) s/TT.dd o i
 dec:∀i,t (i+1)≤t i
 bd:t 0≤TT.W62
 fin:t 12=0
 ans:∀k,k≤12→t k=0→R=TT.sq t 0 k
 hs:s≤TT.W62
 ho:o≤1
theorem QF.le {t:Nat→Nat} {s o:Nat} {R:Int} (h:QF t s o R):∀i,t i≤TT.W62
 |0=>h.bd
 |i+1=>Nat.le_trans (h.dec i) (h.le i)
theorem qf_of {o r:Nat} (ho:o≤1) (hr:r≤2700000):QF (TT.tq o (TT.radQ r) (TT.hi62 (TT.radQ r) (TT.radQ r))) (TT.hi62 (TT.radQ r) (TT.radQ r)) o (TT.quickF o r) where
 rec':=fun i=>rfl
 dec:=fun i=>by
  have:=TT.tq_dec (o:=o) (x:=TT.radQ r) (s:=TT.hi62 (TT.radQ r) (TT.radQ r)) (Nat.le_trans (TT.sqQ_le hr) (by decide)) i
  omega
 bd:=by
  have:=TT.radQ_le hr
  unfold TT.tq
  split
  ·exact Nat.le_trans this (by decide)
  ·exact Nat.le_refl _
 fin:=TT.tq_end ho hr
 ans:=fun k hk h=>TT.quick_at hr hk h
 hs:=Nat.le_trans (TT.sqQ_le hr) (by decide)
 ho:=ho
theorem dd_int (o i:Nat):((TT.dd o i:Nat):Int)=(2*(i:Int)+1+o)*(2*(i:Int)+2+o):=by
 unfold TT.dd
 simp only[Int.natCast_add,Int.natCast_mul]
 rfl
theorem quo_int {a b:Nat} {D:Int} (h:((b:Nat):Int)=D):((a:Nat):Int).tdiv D=((a/b:Nat):Int):=by
 subst h
 rw[Int.tdiv_eq_ediv_of_nonneg (by omega)];rfl
theorem quickG_c {rn:Nat} (hr:rn≤2700000) {c:Bool} {o:Nat} (hco:c=true∧o=0∨c=false∧o=1):Cont Tryz.prog 373 [.int .i64 (rn:Int),.bool c] (.int .i64 (TT.quickF o rn)):=fun w=>by
 have hq:=qf_of (o:=o) (by omega) hr
 have ht0:TT.tq o (TT.radQ rn) (TT.hi62 (TT.radQ rn) (TT.radQ rn)) 0=if o=1 then TT.radQ rn else 4611686018427387904:=rfl
 have hxl:=TT.radQ_le hr
 have hx:(rn:Int)*2620088056*512+(rn:Int)*658911831/4194304=((TT.radQ rn:Nat):Int):=by
  unfold TT.radQ
  simp only[Int.natCast_add,Int.natCast_mul,Int.natCast_ediv]
  rfl
 have q0:=high_c (a:=TT.radQ rn) (b:=TT.radQ rn) (by unfold TT.W62;omega) (by unfold TT.W62;omega)
 generalize TT.quickF o rn=R at *
 generalize TT.tq o (TT.radQ rn) (TT.hi62 (TT.radQ rn) (TT.radQ rn))=t at *
 generalize TT.hi62 (TT.radQ rn) (TT.radQ rn)=s at *
 generalize TT.radQ rn=x at *
 rcases hco with ⟨rfl,rfl⟩|⟨rfl,rfl⟩
 ·rw[if_neg (by decide)] at ht0
  refine enter0 Tryz.func373 rfl rfl rfl ?_
  repeat' (first|(show YK _ _ _ _ _ ⟨_,.binOp .shl _ _ _ _,_,_,_,_⟩ _;refine YK.ofV (y_shl (q:=512) (by rfl) (by rfl) (by decide) (by decide) (IntWalk.i64_in _ (by omega))) ?_)|(show YK _ _ _ _ _ ⟨_,.binOp .shr _ _ _ _,_,_,_,_⟩ _;refine YK.ofV (y_shr (q:=4194304) (by rfl) (by rfl) (by decide) (by decide)) ?_)|(show YK _ _ _ _ _ ⟨some 16,.binOp .add _ _ _ _,_,_,_,_⟩ _;refine YK.ofV (y_addN (by rfl) (by rfl) hx (by omega)) ?_)|(show YK _ _ _ _ _ _ _;refine YK.mk (zcA (q0) ⟨rfl,rfl,rfl⟩) ?_)|(refine nxV ?_)|(refine nSS ?_)|(refine nxX ?_)|(refine G.cN rfl (fun hc=>?_) (fun hc=>?_)<;>(try first|exact hc.elim|(exfalso;omega))))
  refine G.loop (ι:=Nat) (fun j=>[(6,.int .i64 (s:Int)),(7,.int .i64 ((t (2*j):Nat):Int)),(8,.int .i64 (4*(j:Int)+1+((0:Nat):Int))),(9,.int .i64 (TT.sq t 0 (2*j)))]) (fun _=>[]) (fun j=>2*j≤12) (fun j=>12-2*j) 0 (by omega) ⟨rfl,congrArg (fun z:Nat=>some (Value.int .i64 (z:Int))) ht0.symm,rfl,rfl,trivial⟩ (by exact fun w h=>h.sub subS) ?_
  rintro j mx g1 hmx
  (try dsimp only at g1 hmx ⊢)
  rcases Nat.eq_zero_or_pos (t (2*j)) with hz|hz
  ·have hR:=hq.ans (2*j) g1 hz
   repeat' (first|(refine nxV ?_)|(refine nSS ?_)|(refine nxX ?_)|(refine G.cN rfl (fun hc=>?_) (fun hc=>?_)<;>(try first|exact hc.elim|(exfalso;omega))))
   exact X.ret (vs:=[_]) rfl ⟨rfl,rfl⟩ rfl (fun w hw=>⟨congrArg Ending.returned (congrArg (Value.int .i64) hR.symm),hw.ext⟩)
  ·have hj:2*j<12:=by
    rcases Nat.lt_or_ge (2*j) 12 with h|h
    ·exact h
    ·have e:2*j=12:=by omega
     have hf:=hq.fin
     rw[e] at hz
     omega
   have l0:=hq.le (2*j)
   have l1:=hq.le (2*j+1)
   have q1:=high_c (a:=t (2*j)) (b:=s) l0 hq.hs
   have q2:=high_c (a:=t (2*j+1)) (b:=s) l1 hq.hs
   have b0:=TT.sq_bd hq.dec (2*j) 0
   have b1:=TT.sq_bd hq.dec (2*j+1) 0
   have b2:=TT.sq_bd hq.dec (2*j+2) 0
   have s1:TT.sq t 0 (2*j+1)=TT.sq t 0 (2*j)+((t (2*j):Nat):Int):=by
    rw[TT.sq_snoc,if_pos (by omega),Nat.zero_add]
   have s2:TT.sq t 0 (2*j+2)=TT.sq t 0 (2*j+1) + -((t (2*j+1):Nat):Int):=by
    rw[TT.sq_snoc (m:=2*j+1),if_neg (by omega),Nat.zero_add]
   have d1:=dd_int 0 (2*j)
   have d2:=dd_int 0 (2*j+1)
   have r1:=hq.rec' (2*j)
   have r2:=hq.rec' (2*j+1)
   have bd:=hq.bd
   obtain⟨d,hd⟩:∃d:Int,4*(j:Int)+1+((0:Nat):Int)=d:=⟨_,rfl⟩
   rw[show (2*((2*j:Nat):Int)+1+((0:Nat):Int))=d by omega,show (2*((2*j:Nat):Int)+2+((0:Nat):Int))=d+1 by omega] at d1
   rw[show (2*((2*j+1:Nat):Int)+1+((0:Nat):Int))=d+2 by omega,show (2*((2*j+1:Nat):Int)+2+((0:Nat):Int))=d+3 by omega] at d2
   have m1:=quo_int (a:=TT.hi62 (t (2*j)) s) d1
   have m2:=quo_int (a:=TT.hi62 (t (2*j+1)) s) d2
   rw[←r1] at m1
   rw[←r2] at m2
   have hd0:1≤d∧d≤30:=by omega
   have n1:=TT.abs_mul_le (A:=100) (u:=100) (a:=d) (t:=d+1) (by omega) (by omega)
   have n2:=TT.abs_mul_le (A:=100) (u:=100) (a:=d+2) (t:=d+3) (by omega) (by omega)
   have p1:d*(d+1)≠0:=Int.ne_of_gt (Int.mul_pos (by omega) (by omega))
   have p2:(d+2)*(d+3)≠0:=Int.ne_of_gt (Int.mul_pos (by omega) (by omega))
   have hS:TT.sq t 0 (2*j)+((t (2*j):Nat):Int)-((t (2*j+1):Nat):Int)=TT.sq t 0 (2*(j+1)):=by
    show _=TT.sq t 0 (2*j+2)
    omega
   have hdn:d+4=4*((j+1:Nat):Int)+1+((0:Nat):Int):=by omega
   have l2:=hq.le (2*j+1+1)
   unfold TT.W62 at l0 l1 l2 bd
   rw[hd]
   clear d1 d2 r1 r2 hq ht0 hx hxl q0 hd
   repeat' (first|(show YK _ _ _ _ _ ⟨some 34,.binOp .quo _ _ _ _,_,_,_,_⟩ _;refine YK.ofV (y_quoN (by rfl) (by rfl) m1 p1 (by omega)) ?_)|(show YK _ _ _ _ _ ⟨some 46,.binOp .quo _ _ _ _,_,_,_,_⟩ _;refine YK.ofV (y_quoN (by rfl) (by rfl) m2 p2 (by omega)) ?_)|(show YK _ _ _ _ _ _ _;first|refine YK.mk (zcA (q1) ⟨rfl,rfl,rfl⟩) ?_|refine YK.mk (zcA (q2) ⟨rfl,rfl,rfl⟩) ?_)|(refine nxV ?_)|(refine nSS ?_)|(refine nxX ?_)|(refine G.cN rfl (fun hc=>?_) (fun hc=>?_)<;>(try first|exact hc.elim|(exfalso;omega))))
   exact X.again (j+1) (by omega) (by omega) ⟨rfl,rfl,congrArg (fun z=>some (Value.int .i64 z)) hdn,congrArg (fun z=>some (Value.int .i64 z)) hS,trivial⟩ (by exact fun w h=>h.sub subS)
 ·rw[if_pos rfl] at ht0
  refine enter0 Tryz.func373 rfl rfl rfl ?_
  repeat' (first|(show YK _ _ _ _ _ ⟨_,.binOp .shl _ _ _ _,_,_,_,_⟩ _;refine YK.ofV (y_shl (q:=512) (by rfl) (by rfl) (by decide) (by decide) (IntWalk.i64_in _ (by omega))) ?_)|(show YK _ _ _ _ _ ⟨_,.binOp .shr _ _ _ _,_,_,_,_⟩ _;refine YK.ofV (y_shr (q:=4194304) (by rfl) (by rfl) (by decide) (by decide)) ?_)|(show YK _ _ _ _ _ ⟨some 16,.binOp .add _ _ _ _,_,_,_,_⟩ _;refine YK.ofV (y_addN (by rfl) (by rfl) hx (by omega)) ?_)|(show YK _ _ _ _ _ _ _;refine YK.mk (zcA (q0) ⟨rfl,rfl,rfl⟩) ?_)|(refine nxV ?_)|(refine nSS ?_)|(refine nxX ?_)|(refine G.cN rfl (fun hc=>?_) (fun hc=>?_)<;>(try first|exact hc.elim|(exfalso;omega))))
  refine G.loop (ι:=Nat) (fun j=>[(6,.int .i64 (s:Int)),(7,.int .i64 ((t (2*j):Nat):Int)),(8,.int .i64 (4*(j:Int)+1+((1:Nat):Int))),(9,.int .i64 (TT.sq t 0 (2*j)))]) (fun _=>[]) (fun j=>2*j≤12) (fun j=>12-2*j) 0 (by omega) ⟨rfl,congrArg (fun z:Nat=>some (Value.int .i64 (z:Int))) ht0.symm,rfl,rfl,trivial⟩ (by exact fun w h=>h.sub subS) ?_
  rintro j mx g1 hmx
  (try dsimp only at g1 hmx ⊢)
  rcases Nat.eq_zero_or_pos (t (2*j)) with hz|hz
  ·have hR:=hq.ans (2*j) g1 hz
   repeat' (first|(refine nxV ?_)|(refine nSS ?_)|(refine nxX ?_)|(refine G.cN rfl (fun hc=>?_) (fun hc=>?_)<;>(try first|exact hc.elim|(exfalso;omega))))
   exact X.ret (vs:=[_]) rfl ⟨rfl,rfl⟩ rfl (fun w hw=>⟨congrArg Ending.returned (congrArg (Value.int .i64) hR.symm),hw.ext⟩)
  ·have hj:2*j<12:=by
    rcases Nat.lt_or_ge (2*j) 12 with h|h
    ·exact h
    ·have e:2*j=12:=by omega
     have hf:=hq.fin
     rw[e] at hz
     omega
   have l0:=hq.le (2*j)
   have l1:=hq.le (2*j+1)
   have q1:=high_c (a:=t (2*j)) (b:=s) l0 hq.hs
   have q2:=high_c (a:=t (2*j+1)) (b:=s) l1 hq.hs
   have b0:=TT.sq_bd hq.dec (2*j) 0
   have b1:=TT.sq_bd hq.dec (2*j+1) 0
   have b2:=TT.sq_bd hq.dec (2*j+2) 0
   have s1:TT.sq t 0 (2*j+1)=TT.sq t 0 (2*j)+((t (2*j):Nat):Int):=by
    rw[TT.sq_snoc,if_pos (by omega),Nat.zero_add]
   have s2:TT.sq t 0 (2*j+2)=TT.sq t 0 (2*j+1) + -((t (2*j+1):Nat):Int):=by
    rw[TT.sq_snoc (m:=2*j+1),if_neg (by omega),Nat.zero_add]
   have d1:=dd_int 1 (2*j)
   have d2:=dd_int 1 (2*j+1)
   have r1:=hq.rec' (2*j)
   have r2:=hq.rec' (2*j+1)
   have bd:=hq.bd
   obtain⟨d,hd⟩:∃d:Int,4*(j:Int)+1+((1:Nat):Int)=d:=⟨_,rfl⟩
   rw[show (2*((2*j:Nat):Int)+1+((1:Nat):Int))=d by omega,show (2*((2*j:Nat):Int)+2+((1:Nat):Int))=d+1 by omega] at d1
   rw[show (2*((2*j+1:Nat):Int)+1+((1:Nat):Int))=d+2 by omega,show (2*((2*j+1:Nat):Int)+2+((1:Nat):Int))=d+3 by omega] at d2
   have m1:=quo_int (a:=TT.hi62 (t (2*j)) s) d1
   have m2:=quo_int (a:=TT.hi62 (t (2*j+1)) s) d2
   rw[←r1] at m1
   rw[←r2] at m2
   have hd0:1≤d∧d≤30:=by omega
   have n1:=TT.abs_mul_le (A:=100) (u:=100) (a:=d) (t:=d+1) (by omega) (by omega)
   have n2:=TT.abs_mul_le (A:=100) (u:=100) (a:=d+2) (t:=d+3) (by omega) (by omega)
   have p1:d*(d+1)≠0:=Int.ne_of_gt (Int.mul_pos (by omega) (by omega))
   have p2:(d+2)*(d+3)≠0:=Int.ne_of_gt (Int.mul_pos (by omega) (by omega))
   have hS:TT.sq t 0 (2*j)+((t (2*j):Nat):Int)-((t (2*j+1):Nat):Int)=TT.sq t 0 (2*(j+1)):=by
    show _=TT.sq t 0 (2*j+2)
    omega
   have hdn:d+4=4*((j+1:Nat):Int)+1+((1:Nat):Int):=by omega
   have l2:=hq.le (2*j+1+1)
   unfold TT.W62 at l0 l1 l2 bd
   rw[hd]
   clear d1 d2 r1 r2 hq ht0 hx hxl q0 hd
   repeat' (first|(show YK _ _ _ _ _ ⟨some 34,.binOp .quo _ _ _ _,_,_,_,_⟩ _;refine YK.ofV (y_quoN (by rfl) (by rfl) m1 p1 (by omega)) ?_)|(show YK _ _ _ _ _ ⟨some 46,.binOp .quo _ _ _ _,_,_,_,_⟩ _;refine YK.ofV (y_quoN (by rfl) (by rfl) m2 p2 (by omega)) ?_)|(show YK _ _ _ _ _ _ _;first|refine YK.mk (zcA (q1) ⟨rfl,rfl,rfl⟩) ?_|refine YK.mk (zcA (q2) ⟨rfl,rfl,rfl⟩) ?_)|(refine nxV ?_)|(refine nSS ?_)|(refine nxX ?_)|(refine G.cN rfl (fun hc=>?_) (fun hc=>?_)<;>(try first|exact hc.elim|(exfalso;omega))))
   exact X.again (j+1) (by omega) (by omega) ⟨rfl,rfl,congrArg (fun z=>some (Value.int .i64 z)) hdn,congrArg (fun z=>some (Value.int .i64 z)) hS,trivial⟩ (by exact fun w h=>h.sub subS)
end Go.Proofs.YtjmdeplmenbmmaaGreatDoor
