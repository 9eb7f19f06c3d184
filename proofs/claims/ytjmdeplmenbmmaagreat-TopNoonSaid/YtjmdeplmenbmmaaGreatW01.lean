/- Joined texts: Ground. -/
import Derived.WalkKit
import Derived.Deep.QuietTactic
import Derived.StillTail
import Derived.Laws.StructEq
import Derived.Laws.OwnMore
import Derived.Laws.Cover3
import Derived.Laws.Bits64b
set_option linter.unusedVariables false
namespace Go.Proofs.YtjmdeplmenbmmaaGreat
open Go.RowKit
/-! ### What the slots hold -/
abbrev FL:=List (Nat×Value)
def lk:FL→Nat→Option Value
 |[],_=>none
 |(j,v)::r,i=>match Nat.beq j i with
  |true=>some v
  |false=>lk r i
def evO (L:FL):Operand→Option Value
 |.tmp t=>lk L t
 |.const v=>some v
 |.global g=>some (.pointer (some ⟨g,0,none⟩))
 |.func f=>some (.func (.func f) #[] #[])
structure Fr (n:Nat) (L:FL) (a:Act):Prop where
 size:a.tmps.size=n
 defs:a.defers=[]
 at_:∀i v,lk L i=some v→a.tmps.getD i undef=v
theorem Fr.eval {n:Nat} {L:FL} {a:Act} {x:Operand} {v:Value} (h:Fr n L a) (hx:evO L x=some v):a.eval x=v:=by
 cases x with
 |tmp t=>exact h.at_ t v hx
 |const c=>simpa [evO,Act.eval] using hx
 |global g=>simpa [evO,Act.eval] using hx
 |func f=>simpa [evO,Act.eval] using hx
theorem lk_cons_eq (L:FL) (d:Nat) (v:Value):lk ((d,v)::L) d=some v:=by
 simp[lk]
theorem lk_cons_ne (L:FL) {d i:Nat} (v:Value) (h:d≠i):lk ((d,v)::L) i=lk L i:=by
 have:Nat.beq d i=false:=by
  cases hb:Nat.beq d i with
  |false=>rfl
  |true=>exact absurd (Nat.eq_of_beq_eq_true hb) h
 simp[lk,this]
theorem Fr.put {n:Nat} {L:FL} {a:Act} {d:Nat} {v:Value} (h:Fr n L a) (hd:d<n):Fr n ((d,v)::L) (a.put (some d) v):=by
 refine⟨by simp[Act.put,h.size],h.defs,fun i u hi=>?_⟩
 by_cases e:d=i
 ·subst e
  rw[lk_cons_eq] at hi
  cases hi
  simp[Act.put,h.size,hd]
 ·rw[lk_cons_ne L v e] at hi
  have:=h.at_ i u hi
  simpa [Act.put,Array.getElem?_setIfInBounds_ne e] using this
theorem Fr.weaken {n:Nat} {L L':FL} {a:Act} (h:Fr n L a) (hs:∀i v,lk L' i=some v→lk L i=some v):Fr n L' a :=
 ⟨h.size,h.defs,fun i v hi=>h.at_ i v (hs i v hi)⟩
def Sub (L:FL):FL→Prop
 |[]=>True
 |(i,v)::r=>lk L i=some v∧Sub L r
theorem Sub.spec {L:FL} : ∀{L':FL},Sub L L'→∀i v,lk L' i=some v→lk L i=some v
 |[],_,_,_,h=>by simp[lk] at h
 |(j,u)::r,hs,i,v,h=>by
  by_cases e:j=i
  ·subst e
   rw[lk_cons_eq] at h
   cases h
   exact hs.1
  ·rw[lk_cons_ne r u e] at h
   exact Sub.spec hs.2 i v h
/-! ### What memory holds: heaplets -/
def RO (w:World) (v:Value) (size n:Nat) (xs:List Value):Prop :=
 xs.length=n*size∧∃A c,v=.slice A n c∧n≤c∧(xs≠[]→∃a,A=some a∧∀j u,xs[j]?=some u→w.cell? (a.add j)=some u)∧(A=none→c=0)
inductive Hl where
 |blk (b:Nat) (t:TypeId) (cs:List Value)
 |row (v:Value) (e:TypeId) (size n:Nat) (xs:List Value)
 |ro (new:Bool) (v:Value) (size n:Nat) (xs:List Value)
 |oth (b:Nat) (I:Obj→Prop)
def Hl.holds (base:Nat) (w:World):Hl→Prop
 |.blk b t cs=>base≤b∧w.heap[b]?=some (.cells cs.toArray t (0,0))
 |.row v e size n xs=>w.ownsRow base e size v n xs
 |.ro new v size n xs=>RO w v size n xs∧(new=true→xs≠[]→∀b,v.ownBlock=some b→base≤b)
 |.oth b I=>base≤b∧∃o,w.heap[b]?=some o∧I o
def Hl.spot:Hl→Option Nat
 |.blk b _ _=>some b
 |.oth b _=>some b
 |.row v _ _ _ _=>v.ownBlock
 |.ro _ v _ _ xs=>match xs with
  |[]=>none
  |_::_=>v.ownBlock
def Hl.excl:Hl→Bool
 |.ro ..=>false
 |_=>true
def apartFrom (h:Hl) (H:List Hl):Prop:=∀h'∈H,∀b,h.spot=some b→h'.spot=some b→h.excl=false∧h'.excl=false
def allApart:List Hl→Prop
 |[]=>True
 |h::H=>apartFrom h H∧allApart H
structure St (w0:World) (H:List Hl) (w:World):Prop where
 ext:Below w0.heap.size w0 w
 all:∀h∈H,h.holds w0.heap.size w
 apart:allApart H
theorem heap_lt {w:World} {b:Nat} {o:Obj} (h:w.heap[b]?=some o):b<w.heap.size:=(Array.getElem?_eq_some_iff.1 h).1
theorem add_block (a:Addr) (j:Nat):(a.add j).block=a.block:=by unfold Addr.add;split<;>rfl
theorem Hl.lt {base:Nat} {w:World} {h:Hl} {b:Nat} (hh:h.holds base w) (ho:h.spot=some b):b<w.heap.size:=by
 cases h with
 |blk b' t cs =>
  simp only[Hl.spot,Option.some.injEq] at ho
  subst ho
  exact heap_lt hh.2
 |row v e size n xs =>
  rcases hh.2 with ⟨rfl,_⟩|⟨g,cap,cur,rfl,_,hg,_⟩
  ·simp[Hl.spot,Value.ownBlock] at ho
  ·simp only[Hl.spot,Value.ownBlock,Option.some.injEq] at ho
   subst ho
   exact heap_lt hg
 |ro new v size n xs =>
  cases xs with
  |nil=>simp[Hl.spot] at ho
  |cons u r =>
   obtain⟨⟨_,A,c,rfl,_,hc,_⟩,_⟩:=hh
   obtain⟨a,rfl,hc2⟩:=hc (by simp)
   simp only[Hl.spot,Value.ownBlock,Option.some.injEq] at ho
   subst ho
   have:=World.block_lt_of_cell? w _ (hc2 0 u rfl)
   rwa [add_block] at this
 |oth b' I =>
  simp only[Hl.spot,Option.some.injEq] at ho
  subst ho
  obtain⟨o,h1,_⟩:=hh.2
  exact heap_lt h1
theorem Hl.ge {base:Nat} {w:World} {h:Hl} {b:Nat} (hh:h.holds base w) (hx:h.excl=true) (ho:h.spot=some b):base≤b:=by
 cases h with
 |blk b' t cs =>
  simp only[Hl.spot,Option.some.injEq] at ho
  subst ho
  exact hh.1
 |row v e size n xs =>
  rcases hh.2 with ⟨rfl,_⟩|⟨g,cap,cur,rfl,hb,_⟩
  ·simp[Hl.spot,Value.ownBlock] at ho
  ·simp only[Hl.spot,Value.ownBlock,Option.some.injEq] at ho
   subst ho
   exact hb
 |ro new v size n xs=>simp[Hl.excl] at hx
 |oth b' I =>
  simp only[Hl.spot,Option.some.injEq] at ho
  subst ho
  exact hh.1
theorem Hl.keep {base:Nat} {w w':World} {h:Hl} (hh:h.holds base w) (hk:∀b,h.spot=some b→w'.heap[b]?=w.heap[b]?):h.holds base w':=by
 cases h with
 |blk b t cs=>exact⟨hh.1,(hk b rfl).trans hh.2⟩
 |row v e size n xs =>
  refine⟨hh.1,?_⟩
  rcases hh.2 with h0|⟨g,cap,cur,rfl,hb,hg,hr⟩
  ·exact .inl h0
  ·exact .inr ⟨g,cap,cur,rfl,hb,(hk g rfl).trans hg,hr⟩
 |ro new v size n xs =>
  obtain⟨⟨hl,A,c,rfl,hnc,hc,hz⟩,hnw⟩:=hh
  refine⟨⟨hl,A,c,rfl,hnc,fun hne=>?_,hz⟩,hnw⟩
  obtain⟨a,rfl,hc2⟩:=hc hne
  refine⟨a,rfl,fun j u hu=>?_⟩
  cases xs with
  |nil=>exact absurd rfl hne
  |cons x r=>exact(World.cell?_of_block (w:=w) (by rw[add_block];exact hk a.block rfl)).trans (hc2 j u hu)
 |oth b I=>exact⟨hh.1,let ⟨o,h1,h2⟩:=hh.2;⟨o,(hk b rfl).trans h1,h2⟩⟩
section
variable {w0 w w':World} {H:List Hl}
theorem St.step (h:St w0 H w) (hb:Below w.heap.size w w'):St w0 H w' :=
 ⟨h.ext.trans (hb.mono h.ext.size),fun x hx=>Hl.keep (h.all x hx) fun b ho=>hb.block b (Hl.lt (h.all x hx) ho),h.apart⟩
theorem St.drew (h:St w0 H w):St w0 H w.drew:=h.step ⟨rfl,rfl,rfl,Nat.le_refl _,fun _ _=>rfl⟩
theorem allApart_of_ro:∀{H:List Hl},(∀h∈H,h.excl=false)→allApart H
 |[],_=>trivial
 |h::H,hx=>⟨fun h' hm _ _ _=>⟨hx h List.mem_cons_self,hx h' (List.mem_cons_of_mem _ hm)⟩,allApart_of_ro fun x hm=>hx x (List.mem_cons_of_mem _ hm)⟩
theorem St.start {H:List Hl} (w:World) (hH:∀h∈H,h.holds w.heap.size w∧h.excl=false):St w H w:=⟨Below.refl _ _,fun h hm=>(hH h hm).1,allApart_of_ro fun h hm=>(hH h hm).2⟩
def Hl.isNew:Hl→Bool
 |.ro new ..=>new
 |_=>false
def New (w w':World) (Hn:List Hl):Prop:=∀h∈Hn,h.holds w.heap.size w'∧h.isNew=true
theorem New.spec {h:Hl} {base base':Nat} (hw:h.holds base w) (hn:h.isNew=true) (hb:base'≤base):h.holds base' w∧h.excl=false∧∀b,h.spot=some b→base≤b:=by
 cases h with
 |ro new v size n xs =>
  have h1:new=true:=hn
  refine⟨⟨hw.1,fun h2 h3 b hb'=>Nat.le_trans hb (hw.2 h2 h3 b hb')⟩,rfl,fun b hb'=>?_⟩
  cases xs with
  |nil=>simp[Hl.spot] at hb'
  |cons x r=>exact hw.2 h1 (by simp) b hb'
 |blk b t cs=>simp[Hl.isNew] at hn
 |row v e size n xs=>simp[Hl.isNew] at hn
 |oth b I=>simp[Hl.isNew] at hn
theorem St.news {Hn:List Hl} (h:St w0 H w) (hb:Below w.heap.size w w') (hn:New w w' Hn):St w0 (Hn++H) w':=by
 have h1:=h.step hb
 refine⟨h1.ext,fun x hx=>?_,?_⟩
 ·rcases List.mem_append.1 hx with hx|hx
  ·exact(New.spec (hn x hx).1 (hn x hx).2 h.ext.size).1
  ·exact h1.all x hx
 ·induction Hn with
  |nil=>exact h.apart
  |cons y Hn ih =>
   refine⟨fun z hz b hb1 hb2=>?_,ih fun x hx=>hn x (List.mem_cons_of_mem _ hx)⟩
   obtain⟨_,g2,g3⟩:=New.spec (hn y List.mem_cons_self).1 (hn y List.mem_cons_self).2 (Nat.le_refl _)
   refine⟨g2,?_⟩
   rcases List.mem_append.1 hz with hz|hz
   ·exact(New.spec (hn z (List.mem_cons_of_mem _ hz)).1 (hn z (List.mem_cons_of_mem _ hz)).2 (Nat.le_refl _)).2.1
   ·have:=g3 b hb1
    have:=Hl.lt (h.all z hz) hb2
    omega
theorem St.alloc (h:St w0 H w) (t:TypeId) (cs:List Value):St w0 (.blk w.heap.size t cs::H) (w.alloc (.cells cs.toArray t)):=by
 have h1:=h.step ((Below.refl w.heap.size w).alloc (Nat.le_refl _) (.cells cs.toArray t))
 refine⟨h1.ext,fun x hx=>?_,fun x hx b hb ho=>?_,h.apart⟩
 ·rcases List.mem_cons.1 hx with rfl|hx
  ·refine⟨h.ext.size,?_⟩
   show (w.heap.push _)[w.heap.size]?=_
   simp
  ·exact h1.all x hx
 ·simp only[Hl.spot,Option.some.injEq] at hb
  subst hb
  exact absurd (Hl.lt (h.all x hx) ho) (Nat.lt_irrefl _)
theorem m1 {h a:Hl} {r:List Hl} (x:h∈r):h∈a::r:=.tail _ x
theorem m4 {h a b c d:Hl} {r:List Hl} (x:h∈r):h∈a::b::c::d::r:=m1 (m1 (m1 (m1 x)))
theorem m8 {h a b c d e f g i:Hl} {r:List Hl} (x:h∈r):h∈a::b::c::d::e::f::g::i::r:=m4 (m4 x)
inductive Upd (x y:Hl):List Hl→List Hl→Prop where
 |here (r:List Hl):Upd x y (x::r) (y::r)
 |there (z:Hl) {r r':List Hl} (h:Upd x y r r'):Upd x y (z::r) (z::r')
theorem u1 {x y a:Hl} {r r':List Hl} (h:Upd x y r r'):Upd x y (a::r) (a::r'):=.there _ h
theorem u4 {x y a b c d:Hl} {r r':List Hl} (h:Upd x y r r'):Upd x y (a::b::c::d::r) (a::b::c::d::r'):=u1 (u1 (u1 (u1 h)))
theorem u8 {x y a b c d e f g i:Hl} {r r':List Hl} (h:Upd x y r r'):Upd x y (a::b::c::d::e::f::g::i::r) (a::b::c::d::e::f::g::i::r'):=u4 (u4 h)
theorem Upd.mem {x y:Hl} {H H':List Hl} (h:Upd x y H H'):x∈H:=by
 induction h with
 |here r=>exact List.mem_cons_self
 |there z _ ih=>exact List.mem_cons_of_mem _ ih
theorem Upd.from_ {x y:Hl} {H H':List Hl} (h:Upd x y H H'):∀z∈H',z=y∨z∈H:=by
 induction h with
 |here r=>intro z hz;rcases List.mem_cons.1 hz with h|h;exact .inl h;exact .inr (List.mem_cons_of_mem _ h)
 |there u _ ih =>
  intro z hz
  rcases List.mem_cons.1 hz with h|h
  ·exact .inr (h ▸ List.mem_cons_self)
  ·exact(ih z h).imp id (List.mem_cons_of_mem _)
theorem Upd.apart {x y:Hl} {H H':List Hl} (h:Upd x y H H') (ha:allApart H) (hxe:x.excl=true) (ho:∀b,y.spot=some b→x.spot=some b∨∀z∈H,z.spot≠some b):allApart H':=by
 induction h with
 |here r =>
  refine⟨fun z hz b hb hzb=>?_,ha.2⟩
  rcases ho b hb with h1|h1
  ·have:=(ha.1 z hz b h1 hzb).1
   rw[hxe] at this;cases this
  ·exact absurd hzb (h1 z (List.mem_cons_of_mem _ hz))
 |there u hu ih =>
  refine⟨fun z hz b hb hzb=>?_,ih ha.2 fun b hb=>(ho b hb).imp id fun h1 z hz=>h1 z (List.mem_cons_of_mem _ hz)⟩
  rcases hu.from_ z hz with rfl|hz'
  ·rcases ho b hzb with h1|h1
   ·have:=(ha.1 x hu.mem b hb h1).2
    rw[hxe] at this;cases this
   ·exact absurd hb (h1 u List.mem_cons_self)
  ·exact ha.1 z hz' b hb hzb
theorem Upd.others {x y:Hl} {H H':List Hl} (h:Upd x y H H') (ha:allApart H) (hxe:x.excl=true):∀z∈H',z=y∨(z∈H∧∀b,x.spot=some b→z.spot≠some b):=by
 induction h with
 |here r =>
  intro z hz
  rcases List.mem_cons.1 hz with h|h
  ·exact .inl h
  ·exact .inr ⟨List.mem_cons_of_mem _ h,fun b hb hzb=>by have:=(ha.1 z h b hb hzb).1;rw[hxe] at this;cases this⟩
 |there u hu ih =>
  intro z hz
  rcases List.mem_cons.1 hz with h|h
  ·subst h
   exact .inr ⟨List.mem_cons_self,fun b hb hz2=>by have:=(ha.1 x hu.mem b hz2 hb).2;rw[hxe] at this;cases this⟩
  ·rcases ih ha.2 z h with h1|⟨h1,h2⟩
   ·exact .inl h1
   ·exact .inr ⟨List.mem_cons_of_mem _ h1,h2⟩
theorem St.blk {b:Nat} {t:TypeId} {cs:List Value} (h:St w0 H w) (hm:Hl.blk b t cs∈H):w.heap[b]?=some (.cells cs.toArray t (0,0)):=(h.all _ hm).2
theorem St.cell {b:Nat} {t:TypeId} {cs:List Value} (h:St w0 H w) (hm:Hl.blk b t cs∈H) (i:Nat):w.cell? ⟨b,i,none⟩=cs[i]?:=by
 have:=cell_of_row w b i cs.toArray t (0,0) (h.blk hm)
 simpa using this
theorem St.free {b:Nat} {t:TypeId} {cs:List Value} (h:St w0 H w) (hm:Hl.blk b t cs∈H) (i:Nat):w.frozen? ⟨b,i,none⟩=false:=by
 have:=h.blk hm
 simp[World.frozen?,this]
theorem St.turn {x y:Hl} {H':List Hl} (h:St w0 H w) (hu:Upd x y H H') (hxe:x.excl=true) (hg:w.grownBy w' x.spot) (hy:y.holds w0.heap.size w') (ho:∀b,y.spot=some b→x.spot=some b∨w.heap.size≤b):St w0 H' w':=by
 have hge:∀k,x.spot=some k→w0.heap.size≤k:=fun k hk=>Hl.ge (h.all _ hu.mem) hxe hk
 refine⟨h.ext.grown hg h.ext.size hge,fun z hz=>?_,hu.apart h.apart hxe fun b hb=>(ho b hb).imp id fun hle z hz hzb=>?_⟩
 ·rcases hu.others h.apart hxe z hz with rfl|⟨hz',hne⟩
  ·exact hy
  ·exact Hl.keep (h.all z hz') fun c hc=>hg.block c (Hl.lt (h.all z hz') hc) fun e=>hne c e.symm hc
 ·have:=Hl.lt (h.all z hz) hzb
  omega
theorem St.change {b:Nat} {t:TypeId} {cs cs':List Value} {H':List Hl} (h:St w0 H w) (hu:Upd (.blk b t cs) (.blk b t cs') H H')
  (hos:w'.os=w.os) (htape:w'.tape=w.tape) (hout:w'.output=w.output) (hsz:w'.heap.size=w.heap.size)
  (hb:w'.heap[b]?=some (.cells cs'.toArray t (0,0))) (ho:∀k,k≠b→w'.heap[k]?=w.heap[k]?):St w0 H' w':=by
 have hge:w0.heap.size≤b:=(h.all _ hu.mem).1
 exact h.turn hu rfl ⟨hos,htape,hout,Nat.le_of_eq hsz.symm,fun k _ hk=>ho k fun e=>hk (by rw[e];rfl)⟩ ⟨hge,hb⟩ fun c hc=>.inl hc
theorem St.setCell {b i:Nat} {t:TypeId} {cs:List Value} {H':List Hl} (v:Value) (h:St w0 H w) (hu:Upd (.blk b t cs) (.blk b t (cs.set i v)) H H'):St w0 H' (w.setCell ⟨b,i,none⟩ v):=by
 have hb:=h.blk hu.mem
 refine h.change hu rfl rfl rfl (by simp[World.setCell]) ?_ (fun k hk=>?_)
 ·simp[World.setCell,Array.getElem?_modify,hb]
 ·exact Below.heap_setCell w _ v k hk
theorem RO.of_row {base:Nat} {v:Value} {e:TypeId} {size n:Nat} {xs:List Value} (h:w.ownsRow base e size v n xs):RO w v size n xs:=by
 refine⟨h.1,?_⟩
 rcases h.2 with ⟨rfl,rfl⟩|⟨g,cap,cur,rfl,_,hg,hnc,_,hcur,hxs⟩
 ·refine⟨none,0,rfl,Nat.le_refl _,fun hne=>?_,fun _=>rfl⟩
  have h1:=h.1
  rw[Nat.zero_mul] at h1
  exact absurd (List.eq_nil_of_length_eq_zero h1) hne
 ·refine⟨_,_,rfl,hnc,fun _=>⟨_,rfl,fun j u hu=>?_⟩,fun h=>by cases h⟩
  have e:(⟨g,0,none⟩:Addr).add j=⟨g,j,none⟩:=by unfold Addr.add;split<;>simp_all
  rw[e,cell_of_row w g j cur _ (0,0) hg]
  rw[←hxs] at hu
  have hj:=(List.getElem?_eq_some_iff.1 hu).1
  simp only[List.length_take] at hj
  rw[List.getElem?_take_of_lt (by omega)] at hu
  simpa using hu
theorem St.sub {H':List Hl} (h:St w0 H w) (hs:H'.Sublist H):St w0 H' w:=by
 refine⟨h.ext,fun x hx=>h.all x (hs.subset hx),?_⟩
 have ha:=h.apart
 clear h
 induction hs with
 |slnil=>trivial
 |cons a _ ih=>exact ih ha.2
 |cons_cons a hs ih=>exact⟨fun x hx=>ha.1 x (hs.subset hx),ih ha.2⟩
end
/-! ### A region that draws its order: what is pure is taken when it comes up in a fixed list; what acts comes up in one order only -/
def pureB (o:Oper):Bool:=match o.op with
 |.move _|.assign _|.pick ..|.build ..|.load ..|.nilCheck _|.binOp ..|.unOp ..|.convert ..|.makeInterface ..|.makeFunc ..|.slice ..|.fieldAddr ..|.field ..|.indexAddr ..|.index ..|.extract ..=>true
 |.call c=>match c.callee with
  |.builtin .len|.builtin .cap|.builtin .min|.builtin .max=>true
  |_=>false
 |_=>false
def depsL (md:Region.Mode) (ops:Array Oper) (k:Nat):List Nat:=match ops[k]? with
 |some o=>(o.after.toList.filter (Region.binds md)).map (·.on)
 |none=>[]
def newL (seen:List Nat):List Nat→List Nat→List Nat
 |[],acc=>acc
 |k::r,acc=>if seen.contains k||acc.contains k then newL seen r acc else newL seen r (k::acc)
def downL (md:Region.Mode) (ops:Array Oper):Nat→List Nat→List Nat→List Nat
 |0,seen,_=>seen
 |f+1,seen,fr=>match newL seen (fr.flatMap (depsL md ops)) [] with
  |[]=>seen
  |nw=>downL md ops f (nw++seen) nw
def lateB (md:Region.Mode) (ops:Array Oper) (j:Nat):Bool:=let d:=downL md ops 40 [] [j];(List.range ops.size).all fun i=>i==j||!((ops[i]?).map pureB).getD false||d.contains i||(downL md ops 40 [] [i]).contains j
def quietB (md:Region.Mode) (ops:Array Oper) (ks:List Nat) (l:Array Bool) (i:Nat):Bool:=!(l.getD i true)&&(List.range ops.size).all fun k=>!(l.getD k true||ks.contains k)||(depsL md ops k).all fun m=>l.getD m true
inductive Re (md:Region.Mode) (ops:Array Oper):Nat→Nat→Prop where
 |one {j i:Nat} (h:Region.waitsFor md ops j i=true):Re md ops j i
 |more {j k i:Nat} (h:Region.waitsFor md ops j k=true) (r:Re md ops k i):Re md ops j i
theorem deps_iff {md:Region.Mode} {ops:Array Oper} {k m:Nat} : m∈depsL md ops k↔Region.waitsFor md ops k m=true:=by
 unfold depsL Region.waitsFor
 cases ops[k]? with
 |none=>simp
 |some o =>
  simp only[List.mem_map,List.mem_filter,Array.any_eq_true',Bool.and_eq_true,beq_iff_eq,Array.mem_toList_iff]
  constructor
  ·rintro⟨e,⟨h1,h2⟩,h3⟩;exact⟨e,h1,h2,h3⟩
  ·rintro⟨e,h1,h2,h3⟩;exact⟨e,⟨h1,h2⟩,h3⟩
theorem newL_mem {seen:List Nat} {x:Nat} : ∀{l acc:List Nat},x∈newL seen l acc→x∈l∨x∈acc
 |[],acc,h=>.inr h
 |k::r,acc,h=>by
  unfold newL at h
  split at h
  ·exact(newL_mem h).imp (List.mem_cons_of_mem _) id
  ·rcases newL_mem h with h|h
   ·exact .inl (List.mem_cons_of_mem _ h)
   ·rcases List.mem_cons.1 h with rfl|h
    ·exact .inl List.mem_cons_self
    ·exact .inr h
theorem downL_mem {md:Region.Mode} {ops:Array Oper} {x:Nat} : ∀{f:Nat} {seen fr:List Nat},x∈downL md ops f seen fr→x∈seen∨∃y∈fr,Re md ops y x
 |0,seen,fr,h=>.inl h
 |f+1,seen,fr,h=>by
  have key:∀{z:Nat},z∈newL seen (fr.flatMap (depsL md ops)) []→∃y∈fr,Region.waitsFor md ops y z=true:=fun hz=>by
   rcases newL_mem hz with hz|hz
   ·obtain⟨y,hy,hz⟩:=List.mem_flatMap.1 hz
    exact⟨y,hy,deps_iff.1 hz⟩
   ·cases hz
  unfold downL at h
  split at h
  ·exact .inl h
  ·rename_i nw _
   rcases downL_mem h with h|⟨y,hy,h⟩
   ·rcases List.mem_append.1 h with h|h
    ·obtain⟨y,hy,h⟩:=key h
     exact .inr ⟨y,hy,.one h⟩
    ·exact .inl h
   ·obtain⟨z,hz,h'⟩:=key hy
    exact .inr ⟨z,hz,.more h' h⟩
section
variable {P:Program} {ops:Array Oper} {md:Region.Mode} {S:World→Prop} {Q:Exit→Act→World→Prop}
def wpAnyM (P:Program) (md:Region.Mode) (ops:Array Oper) (Q:Exit→Act→World→Prop) (S:World→Prop):Nat→Array Bool→Act→World→Prop
 |0,listed,a,w=>Region.ready md ops listed=[]∧Q .normal a w
 |f+1,listed,a,w=>(Region.ready md ops listed=[]→Q .normal a w) ∧
  ∀i∈Region.ready md ops listed,wpOp P ops Q i (fun a' w'=>(lateB md ops i=false→S w')∧wpAnyM P md ops Q S f (listed.setIfInBounds i true) a' w') a w
theorem wpAny_of_M:∀(f:Nat) (listed:Array Bool) (a:Act) (w:World),wpAnyM P md ops Q S f listed a w→wpAny P md ops Q f listed a w
 |0,_,_,_,h=>h
 |f+1,_,_,_,h=>⟨h.1,fun i hi=>wpOp_mono (fun a' w' h'=>wpAny_of_M f _ a' w' h'.2) (h.2 i hi)⟩
def YS (P:Program) (ops:Array Oper) (S:World→Prop) (o:Oper) (v:Value) (a:Act):Prop :=
 (Region.wanted o (yielded ops a.tmps)=true∧∀w,S w→(execOp a.eval o).run P w=.ok (.value v) w)∨(Region.wanted o (yielded ops a.tmps)=false∧v=undef)
theorem YS.same {o:Oper} {v:Value} {a a':Act} (hy:YS P ops S o v a) (he:execOp a'.eval o=execOp a.eval o) (hw:Region.wanted o (yielded ops a'.tmps)=Region.wanted o (yielded ops a.tmps)):YS P ops S o v a':=by
 unfold YS at *
 rw[he,hw]
 exact hy
theorem YS.wpOp {i:Nat} {o:Oper} {v:Value} {a:Act} {w:World} (hi:ops[i]?=some o) (hy:YS P ops S o v a) (hS:S w) {K:Act→World→Prop} (h:K (a.put o.dst v) w):wpOp P ops Q i K a w:=by
 unfold Go.wpOp
 simp only[hi]
 rcases hy with ⟨hw,hv⟩|⟨hw,rfl⟩
 ·simp only[hw,if_true,Oper.wp,hv w hS,Oper.upon];exact .inl h
 ·simp only[hw,Bool.false_eq_true,if_false];exact h
theorem wpOp_putS {j:Nat} {oi oj:Oper} {v:Value} (hj:ops[j]?=some oj) (hap:oi.apart ops oj=true) (hsi:∀cs b,oi.op≠.select cs b) (hsj:∀cs b,oj.op≠.select cs b)
  (hQ:∀c a w,¬Q (.panic c) a w) {K:Act→World→Prop} {a:Act} {w:World} (hy:YS P ops S oi v a) (h:wpOp P ops Q j K (a.put oi.dst v) w) :
  wpOp P ops Q j (fun a' w'=>YS P ops S oi v a'∧K (a'.put oi.dst v) w') a w:=by
 obtain⟨h1,h2,h3⟩:=Oper.apart_spec hap
 have keep:∀(a:Act) u,YS P ops S oi v a→YS P ops S oi v (a.put oj.dst u):=fun a u hy=>hy.same (execOp_put oi hsi a oj.dst u h3) (wanted_put oi a oj.dst u h3)
 have keepD:∀(a:Act) d,YS P ops S oi v a→YS P ops S oi v { a with defers:=d::a.defers }:=fun a d hy=>hy.same rfl rfl
 unfold wpOp at *
 simp only[hj] at *
 rw[wanted_put oj a oi.dst v h1] at h
 split
 ·rename_i hw
  simp only[hw,if_true] at h
  rcases h with h|⟨hasks,hlets⟩
  ·refine .inl ?_
   unfold Oper.wp at *
   rw[execOp_put oj hsj a oi.dst v h1] at h
   generalize (execOp a.eval oj).run P w=r at *
   cases r with
   |ok n w' =>
    cases n<;>simp only[Oper.upon] at h ⊢
    case value u=>exact⟨keep a u hy,by rw[←Act.put_comm a v u h2];exact h⟩
    case skip=>exact⟨keep a _ hy,by rw[←Act.put_comm a v undef h2];exact h⟩
    case defer d =>
     refine⟨keep _ _ (keepD a d hy),?_⟩
     rw[←Act.put_comm _ v undef h2,←Act.put_defers]
     exact h
    case enter f args =>
     refine Calls.mono h fun e w'' he=>?_
     cases e with
     |returned u=>exact⟨keep a u hy,by rw[←Act.put_comm a v u h2];exact he⟩
     |panicked c=>exact absurd he (hQ _ _ _)
     |outgrown=>exact he
    case row row args=>exact Rows.mono h fun u w'' he=>⟨keep a u hy,by rw[←Act.put_comm a v u h2];exact he⟩
   |halt x w' =>
    cases x<;>simp only[Oper.upon] at h ⊢
    case panic u=>exact absurd h (hQ _ _ _)
  ·refine .inr ⟨?_,hlets⟩
   unfold Oper.asks at *
   rw[execOp_put oj hsj a oi.dst v h1] at hasks
   exact hasks
 ·rename_i hw
  simp only[hw] at h
  exact⟨keep a _ hy,by rw[←Act.put_comm a v undef h2];exact h⟩
theorem late_waits {i j:Nat} {oi:Oper} (hi:ops[i]?=some oi) (hp:pureB oi=true) (hne:i≠j) (hl:lateB md ops j=true):Re md ops j i∨Re md ops i j:=by
 have hlt:i<ops.size:=(Array.getElem?_eq_some_iff.1 hi).1
 have:=List.all_eq_true.1 hl i (List.mem_range.2 hlt)
 simp only[hi,Option.map_some,Option.getD_some,hp,Bool.not_true,Bool.or_false,Bool.or_eq_true,beq_iff_eq,hne,false_or,List.contains_iff_mem] at this
 rcases this with this|this
 ·rcases downL_mem this with h|⟨y,hy,h⟩
  ·cases h
  ·rcases List.mem_singleton.1 hy with rfl
   exact .inl h
 ·rcases downL_mem this with h|⟨y,hy,h⟩
  ·cases h
  ·rcases List.mem_singleton.1 hy with rfl
   exact .inr h
theorem getD_set_true0 {l:Array Bool} {i j:Nat} (h:l.getD i true=true):(l.setIfInBounds j true).getD i true=true:=by
 by_cases e:j=i
 ·subst e
  rw[Array.getD_eq_getD_getElem?,Array.getElem?_setIfInBounds]
  split
  ·split<;>rfl
  ·rename_i h;exact absurd rfl h
 ·rw[getD_set_ne true e];exact h
theorem wpAnyM_first {i:Nat} {oi:Oper} {v:Value} (hi:ops[i]?=some oi) (hp:pureB oi=true) (hsel:∀(j:Nat) (o:Oper) cs b,ops[j]?=some o→o.op≠.select cs b) (hQ:∀c a w,¬Q (.panic c) a w) :
  ∀(f:Nat) (listed:Array Bool) (a:Act) (w:World),
   (∀j oj,ops[j]?=some oj→j≠i→listed.getD j true=false→(∀e∈oj.after,Region.binds md e=true→e.on≠i)→oi.apart ops oj=true) →
   (∀k,Re md ops k i→listed.getD k true=false) →
   (∀k,Re md ops i k→listed.getD k true=true) →
   i∈Region.ready md ops listed→YS P ops S oi v a→S w →
   wpAnyM P md ops Q S f (listed.setIfInBounds i true) (a.put oi.dst v) w→wpAnyM P md ops Q S (f+1) listed a w
 |0,listed,a,w,_,_,_,hr,hy,hS,hK=>by
  refine⟨fun h=>(by rw[h] at hr;cases hr),fun j hj=>?_⟩
  by_cases e:j=i
  ·subst e;exact hy.wpOp hi hS ⟨fun _=>hS,hK⟩
  ·have:=ready_mono hj e
   rw[hK.1] at this
   cases this
 |f+1,listed,a,w,hfree,hqu,hup,hr,hy,hS,hK=>by
  refine⟨fun h=>(by rw[h] at hr;cases hr),fun j hj=>?_⟩
  by_cases e:j=i
  ·subst e;exact hy.wpOp hi hS ⟨fun _=>hS,hK⟩
  ·obtain⟨hju,oj,hoj,hall⟩:=mem_ready.1 hj
   have hiu:=getD_both (mem_ready.1 hr).1
   have hnot:∀e∈oj.after,Region.binds md e=true→e.on≠i:=fun e he hb heq=>by
    have h1:=hall e he hb
    rw[heq,hiu] at h1
    cases h1
   have hno:¬Re md ops j i:=by
    rintro(hl1|⟨hl1,hl2⟩)
    ·obtain⟨o',ho',e',he',hb',hon⟩:=Region.waitsFor_spec hl1
     have:o'=oj:=Option.some.inj (ho'.symm.trans hoj)
     subst this
     exact absurd hon (hnot e' he' hb')
    ·obtain⟨o',ho',e',he',hb',hon⟩:=Region.waitsFor_spec hl1
     have:o'=oj:=Option.some.inj (ho'.symm.trans hoj)
     subst this
     have h1:=hall e' he' hb'
     have h2:=hqu _ hl2
     rw[hon] at h1
     rw[getD_both h2] at h1
     cases h1
   have hnl:lateB md ops j=false:=by
    cases hl:lateB md ops j with
    |false=>rfl
    |true =>
     rcases late_waits hi hp (Ne.symm e) hl with h|h
     ·exact absurd h hno
     ·have:=hup j h
      rw[hju] at this
      cases this
   have h2:=wpOp_putS hoj (hfree j oj hoj e hju hnot) (fun cs b=>hsel i oi cs b hi) (fun cs b=>hsel j oj cs b hoj) hQ hy (hK.2 j (ready_mono hj e))
   refine wpOp_mono (fun a' w' h3=>⟨h3.2.1,wpAnyM_first hi hp hsel hQ f _ a' w' ?_ ?_ (fun k hk=>getD_set_true0 (hup k hk)) (ready_mono hr (Ne.symm e)) h3.1 (h3.2.1 hnl) ?_⟩) h2
   ·intro k ok hk hki hku hno
    refine hfree k ok hk hki ?_ hno
    by_cases hjk:j=k
    ·subst hjk;exact hju
    ·rwa [getD_set_ne true hjk] at hku
   ·intro k hk
    have hjk:j≠k:=by
     rintro rfl
     exact hno hk
    rw[getD_set_ne true hjk]
    exact hqu k hk
   ·rw[Array.setIfInBounds_comm _ _ e]
    exact h3.2.2
def Calm (Q:Exit→Act→World→Prop):Exit→Act→World→Prop
 |.panic _,_,_=>False
 |e,a,w=>Q e a w
theorem Calm.out {Q:Exit→Act→World→Prop} : ∀(e:Exit) (a:Act) (w:World),Calm Q e a w→Q e a w:=fun e a w h=>by
 cases e<;>first|exact h|exact(h:False).elim
inductive Mv where
 |go (i:Nat)
 |pend (i:Nat)
 |done
def cnt (l:Array Bool):Nat:=(l.toList.filter (! ·)).length
theorem cnt_list:∀(l:List Bool) (i:Nat),l[i]?=some false→((l.set i true).filter (! ·)).length+1=(l.filter (! ·)).length
 |[],i,h=>by simp at h
 |b::l,0,h=>by simp at h;subst h;simp
 |b::l,i+1,h=>by
  have ih:=cnt_list l i (by simpa using h)
  cases b<;>simp_all
theorem getD_false {l:Array Bool} {i:Nat} (h:l.getD i true=false):l[i]?=some false:=by
 rw[Array.getD_eq_getD_getElem?] at h
 cases hx:l[i]? with
 |none=>rw[hx] at h;cases h
 |some b=>rw[hx] at h;simpa using h
theorem cnt_set {l:Array Bool} {i:Nat} (h:l.getD i true=false):cnt (l.setIfInBounds i true)+1=cnt l:=by
 have:=cnt_list l.toList i (by simpa using getD_false h)
 simpa [cnt] using this
def subsB:List Nat→Array Bool→(Array Bool→Bool)→Bool
 |[],l,p=>p l
 |k::ks,l,p=>subsB ks l p&&subsB ks (l.setIfInBounds k true) p
def dstB (ops:Array Oper) (i k:Nat):Bool:=(ops[i]?).bind (·.dst) != (ops[k]?).bind (·.dst)
def mixedB (md:Region.Mode) (ops:Array Oper):List Mv→List Nat→Array Bool→Bool
 |[],ks,l=>ks.isEmpty&&(Region.ready md ops l).isEmpty
 |.go i::r,ks,l=>(Region.ready md ops l).contains i&&!ks.contains i&&ks.all (dstB ops i)&&(match ops[i]? with
  |some o=>if pureB o=true then Region.free md ops l i&&quietB md ops ks l i else subsB ks l fun l=>(Region.ready md ops l).all fun k=>k==i||ks.contains k
  |none=>false)&&mixedB md ops r ks (l.setIfInBounds i true)
 |.pend i::r,ks,l=>(Region.ready md ops l).contains i&&!ks.contains i&&ks.all (dstB ops i)&&mixedB md ops r (i::ks) l
 |.done::r,ks,l=>match ks with
  |[]=>false
  |k::ks=>(Region.ready md ops l).contains k&&!ks.contains k&&(subsB ks l fun l=>(Region.ready md ops l).all fun j=>j==k||ks.contains j)&&mixedB md ops r ks (l.setIfInBounds k true)
def regionB (ops:List Oper) (ord:List Mv):Bool:=Region.noSelect ops.toArray&&mixedB .any ops.toArray ord [] (Array.replicate ops.length false)
theorem free_set {i k:Nat} {l:Array Bool} (h:Region.free md ops l i=true):Region.free md ops (l.setIfInBounds k true) i=true:=by
 unfold Region.free at *
 cases ho:ops[i]? with
 |none=>rw[ho] at h;cases h
 |some oi =>
  rw[ho] at h
  simp only[List.all_eq_true] at h ⊢
  intro j hj
  have:=h j hj
  simp only[Bool.or_eq_true] at this ⊢
  rcases this with (h1|h1)|h1
  ·exact .inl (.inl h1)
  ·refine .inl (.inr ?_)
   by_cases e:k=j
   ·subst e
    rw[Array.getD_eq_getD_getElem?,Array.getElem?_setIfInBounds]
    split
    ·split<;>rfl
    ·rename_i h;exact absurd rfl h
   ·rw[getD_set_ne true e];exact h1
  ·exact .inr h1
theorem wp_region_mix {id:Nat} {a:Act} {w:World} {l:List Oper} (hm:P.follows .mixedOrders=true) (h:wpAnyM P .any l.toArray (Calm Q) S l.length (Array.replicate l.length false) a w.drew):(Code.region id l.toArray true).wp P Q a w:=by
 refine Code.wp_mono Calm.out (wp_region_any hm (wpAny_of_M (S:=S) _ _ _ _ ?_))
 simpa using h
end
/-! ### One operation -/
section
variable {P:Program} {ops:Array Oper} {n:Nat} {L:FL} {w0:World} {H:List Hl}
def V (P:Program) (n:Nat) (L:FL) (w0:World) (H:List Hl) (o:Oper) (v:Value):Prop:=∀a w,Fr n L a→St w0 H w→(execOp a.eval o).run P w=.ok (.value v) w
def Y (P:Program) (n:Nat) (L:FL) (w0:World) (H:List Hl) (o:Oper) (v:Value):Prop:=∀a w,Fr n L a→St w0 H w→o.quietAt P a (fun w'=>Below w.heap.size w w') w v
theorem V.y {o:Oper} {v:Value} (h:V P n L w0 H o v):Y P n L w0 H o v:=fun a w ha hw=>by
 unfold Oper.quietAt;rw[h a w ha hw];exact⟨rfl,rfl⟩
def E (P:Program) (n:Nat) (L:FL) (w0:World) (H:List Hl) (o:Oper) (J:Act→World→Prop):Prop :=
 ∀a w,Fr n L a→St w0 H w→∀(K:Act→World→Prop) (Q:Exit→Act→World→Prop),(∀a' w',J a' w'→K a' w')→o.wp P a w K Q
theorem yielded_of {L:FL} {a:Act} {j g:Nat} {b:Bool} (h:Fr n L a) (hj:(ops[j]?).bind (·.dst)=some g) (hg:lk L g=some (.bool b)):yielded ops a.tmps j=some b:=by
 have h1:=h.at_ g _ hg
 have h2:a.tmps[g]?=some (.bool b):=by
  rcases hx:a.tmps[g]? with _|u
  ·rw[Array.getD_eq_getD_getElem?,hx] at h1
   cases h1
  ·rw[Array.getD_eq_getD_getElem?,hx] at h1
   simpa using h1
 simp[yielded,hj,h2]
theorem yielded_not {L:FL} {a:Act} {j g:Nat} (h:Fr n L a) (hj:(ops[j]?).bind (·.dst)=some g) (hg:lk L g=some undef):yielded ops a.tmps j=none:=by
 have h1:=h.at_ g _ hg
 rw[Array.getD_eq_getD_getElem?] at h1
 unfold yielded
 rw[hj]
 rcases hx:a.tmps[g]? with _|u
 ·simp[hx]
 ·rw[hx] at h1
  simp only[Option.getD_some] at h1
  subst h1
  simp[hx,undef]
theorem wp_of_Y {o:Oper} {v:Value} {K:Act→World→Prop} {Q:Exit→Act→World→Prop} {a:Act} {w:World} (hy:Y P n L w0 H o v) (ha:Fr n L a) (hw:St w0 H w)
  (hk:∀w',Below w.heap.size w w'→K (a.put o.dst v) w'):o.wp P a w K Q:=by
 have h3:=hy a w ha hw
 unfold Oper.quietAt at h3
 unfold Oper.wp
 generalize (execOp a.eval o).run P w=r at *
 cases r with
 |ok nx w' =>
  cases nx<;>simp only[Oper.quietUpon] at h3<;>simp only[Oper.upon]
  case value u =>
   obtain⟨e1,e2⟩:=h3
   rw[e1,e2]
   exact hk _ (Below.refl _ _)
  case skip =>
   obtain⟨e1,e2⟩:=h3
   rw[e1,←e2]
   exact hk _ (Below.refl _ _)
  case enter f args =>
   obtain⟨e1,hc⟩:=h3
   rw[e1]
   exact hc.mono fun e w'' ⟨he,hw''⟩=>by subst he;exact hk _ hw''
 |halt x w'=>simp only[Oper.quietUpon] at h3
end
/-! ### Regions: RS in the text's order; RM in the order of a list, what is pure first -/
section
variable {P:Program} {ops:Array Oper} {n:Nat} {L:FL} {w0:World} {H HS:List Hl} {Q:Exit→Act→World→Prop} {rest:List Oper} {d j g i:Nat} {op:Op} {ty:TypeId} {pos:String} {af:Array Edge} {v:Value} {b c:Bool} {o:Oper}
def RS (P:Program) (ops:Array Oper) (Q:Exit→Act→World→Prop) (n:Nat) (L:FL) (w0:World) (H:List Hl) (rest:List Oper):Prop:=∀a w,Fr n L a→St w0 H w→wpList P ops Q rest a w
theorem RS.step (hy:Y P n L w0 H ⟨some d,op,ty,pos,af,none⟩ v) (hd:Nat.blt d n=true) (h:RS P ops Q n ((d,v)::L) w0 H rest) :
  RS P ops Q n L w0 H (⟨some d,op,ty,pos,af,none⟩::rest):=fun a w ha hw=>by
 refine wpList_plain rfl fun K hK=>?_
 exact wp_of_Y hy ha hw fun w' hw'=>hK _ _ (h _ _ (ha.put (by simpa [Nat.blt_eq] using hd)) (hw.step hw'))
theorem RS.guarded {want:Bool} (ho:o=⟨some d,op,ty,pos,af,some (j,want)⟩) (hj:(ops[j]?).bind (·.dst)=some g) (hg:lk L g=some (bif c then .bool b else undef)) (hd:Nat.blt d n=true)
  (hy:c=true→b=want→Y P n L w0 H o v) (h:RS P ops Q n ((d,bif (c&&(b==want)) then v else undef)::L) w0 H rest):RS P ops Q n L w0 H (o::rest):=fun a w ha hw=>by
 subst ho
 refine wpList_step fun K hK=>?_
 have hd':d<n:=by simpa [Nat.blt_eq] using hd
 cases c with
 |true =>
  have h1:=yielded_of (b:=b) ha hj (by simpa using hg)
  simp only[Region.wanted,h1]
  by_cases hb:b=want
  ·subst hb
   simp only[beq_self_eq_true,if_true,cond_true,Bool.and_self] at h ⊢
   exact wp_of_Y (hy rfl rfl) ha hw fun w' hw'=>hK _ _ (h _ _ (ha.put hd') (hw.step hw'))
  ·have hb':(b==want)=false:=by simpa using hb
   have hb2:(some b==some want)=false:=by simpa using hb
   rw[hb'] at h
   simp only[hb2,Bool.false_eq_true,if_false]
   exact hK _ _ (h _ _ (ha.put hd') hw)
 |false =>
  have h1:=yielded_not ha hj (by simpa using hg)
  simp only[Region.wanted,h1]
  exact hK _ _ (h _ _ (ha.put hd') hw)
theorem RS.act {J:Act→World→Prop} (hg:o.guard=none) (he:E P n L w0 H o J) (h:∀a w,J a w→wpList P ops Q rest a w):RS P ops Q n L w0 H (o::rest):=fun a w ha hw =>
 wpList_plain hg fun K hK=>he a w ha hw K Q fun a' w' hj=>hK _ _ (h a' w' hj)
theorem RS.actT {J:Act→World→Prop} {want:Bool} {d:Option Tmp} (hj:(ops[j]?).bind (·.dst)=some g) (hg:lk L g=some (.bool b)) (hb:b=want) (he:E P n L w0 H ⟨d,op,ty,pos,af,some (j,want)⟩ J) (h:∀a w,J a w→wpList P ops Q rest a w) :
  RS P ops Q n L w0 H (⟨d,op,ty,pos,af,some (j,want)⟩::rest):=fun a w ha hw=>by
 subst hb
 refine wpList_step fun K hK=>?_
 simp only[Region.wanted,yielded_of ha hj hg,beq_self_eq_true,if_true]
 exact he a w ha hw K Q fun a' w' hj=>hK _ _ (h a' w' hj)
theorem RS.done (h:∀a w,Fr n L a→St w0 H w→Q .normal a w):RS P ops Q n L w0 H []:=fun a w ha hw=>wpList_nil (h a w ha hw)
end
/-! ### The state of a region in which new variables may be there already, or not yet -/
structure Pd where
 i:Nat
 d:Nat
 t:TypeId
 cs:List Value
def PS (w0:World) (n:Nat):List Pd→FL→List Hl→Array Bool→Act→World→Array Bool→Prop
 |[],L,H,l0,a,w,l=>Fr n L a∧St w0 H w∧l=l0
 |p::ps,L,H,l0,a,w,l=>PS w0 n ps L H l0 a w l∨∃b,PS w0 n ps ((p.d,.pointer (some ⟨b,0,none⟩))::L) (.blk b p.t p.cs::H) (l0.setIfInBounds p.i true) a w l
section
variable {w0:World} {n:Nat} {L:FL} {H:List Hl} {l0 l:Array Bool} {a a':Act} {w w':World} {ps:List Pd}
theorem allApart_iff:∀(H:List Hl),allApart H↔H.Pairwise fun h h'=>∀b,h.spot=some b→h'.spot=some b→h.excl=false∧h'.excl=false
 |[]=>by simp[allApart]
 |h::H=>by rw[List.pairwise_cons,←allApart_iff H];exact Iff.rfl
theorem St.perm {H':List Hl} (h:St w0 H w) (hp:H.Perm H'):St w0 H' w:=by
 refine⟨h.ext,fun x hx=>h.all x (hp.mem_iff.2 hx),?_⟩
 rw[allApart_iff]
 exact(hp.pairwise_iff (fun hxy b h1 h2=>(hxy b h2 h1).symm)).1 ((allApart_iff H).1 h.apart)
theorem PS.congr:∀{ps:List Pd} {L L':FL} {H H':List Hl} {l0:Array Bool},PS w0 n ps L H l0 a w l→(∀i v,lk L' i=some v→lk L i=some v)→H.Perm H'→PS w0 n ps L' H' l0 a w l
 |[],_,_,_,_,_,⟨h1,h2,h3⟩,hl,hp=>⟨h1.weaken hl,h2.perm hp,h3⟩
 |p::ps,L,L',H,H',l0,h,hl,hp=>by
  rcases h with h|⟨b,h⟩
  ·exact .inl (PS.congr h hl hp)
  ·refine .inr ⟨b,PS.congr h (fun i v hi=>?_) (hp.cons _)⟩
   by_cases e:p.d=i
   ·subst e;rw[lk_cons_eq] at hi ⊢;exact hi
   ·rw[lk_cons_ne _ _ e] at hi ⊢;exact hl i v hi
theorem lk_swap {d e:Nat} {u v:Value} (hne:d≠e) (i:Nat) (x:Value) (hi:lk ((e,v)::(d,u)::L) i=some x):lk ((d,u)::(e,v)::L) i=some x:=by
 by_cases he:e=i
 ·subst he
  rw[lk_cons_eq] at hi
  rw[lk_cons_ne _ _ hne,lk_cons_eq];exact hi
 ·rw[lk_cons_ne _ _ he] at hi
  by_cases hd:d=i
  ·subst hd;rw[lk_cons_eq] at hi ⊢;exact hi
  ·rw[lk_cons_ne _ _ hd] at hi ⊢
   rw[lk_cons_ne _ _ he];exact hi
theorem PS.ext {d j:Nat} {v:Value} {Hx:List Hl} (hstep:∀L' H',Fr n L' a→St w0 H' w→Fr n ((d,v)::L') a'∧St w0 (Hx++H') w'):∀{ps:List Pd} {L:FL} {H:List Hl} {l0:Array Bool},(∀p∈ps,p.d≠d)→PS w0 n ps L H l0 a w l →
  PS w0 n ps ((d,v)::L) (Hx++H) (l0.setIfInBounds j true) a' w' (l.setIfInBounds j true)
 |[],_,_,_,_,⟨h1,h2,h3⟩=>⟨(hstep _ _ h1 h2).1,(hstep _ _ h1 h2).2,by rw[h3]⟩
 |p::ps,L,H,l0,hd,h=>by
  have hd':∀q∈ps,q.d≠d:=fun q hq=>hd q (List.mem_cons_of_mem _ hq)
  rcases h with h|⟨b,h⟩
  ·exact .inl (PS.ext hstep hd' h)
  ·refine .inr ⟨b,?_⟩
   have h1:=PS.ext (j:=j) hstep hd' h
   have h2:=PS.congr h1 (L':=(p.d,.pointer (some ⟨b,0,none⟩))::(d,v)::L) (fun i x hi=>lk_swap (Ne.symm (hd p List.mem_cons_self)) i x hi) List.perm_middle
   by_cases e:j=p.i
   ·subst e;exact h2
   ·rwa [Array.setIfInBounds_comm _ _ e]
theorem PS.base:∀{ps:List Pd} {L:FL} {H:List Hl} {l0:Array Bool},(∀p∈ps,lk L p.d=none)→(ps.map (·.d)).Nodup→PS w0 n ps L H l0 a w l→Fr n L a∧St w0 H w
 |[],_,_,_,_,_,⟨h1,h2,_⟩=>⟨h1,h2⟩
 |p::ps,L,H,l0,hf,hn,h=>by
  rw[List.map_cons,List.nodup_cons] at hn
  rcases h with h|⟨b,h⟩
  ·exact PS.base (fun q hq=>hf q (List.mem_cons_of_mem _ hq)) hn.2 h
  ·have h0:=hf p List.mem_cons_self
   obtain⟨h1,h2⟩:=PS.base (fun q hq=>by
    rw[lk_cons_ne _ _ (fun e=>hn.1 (List.mem_map.2 ⟨q,hq,e.symm⟩))]
    exact hf q (List.mem_cons_of_mem _ hq)) hn.2 h
   refine⟨h1.weaken fun i v hi=>?_,h2.sub (List.sublist_cons_self _ _)⟩
   by_cases e:p.d=i
   ·subst e;rw[h0] at hi;cases hi
   ·rw[lk_cons_ne _ _ e];exact hi
theorem PS.same {i:Nat} {x:Bool} : ∀{ps:List Pd} {L:FL} {H:List Hl} {l0:Array Bool},(∀p∈ps,p.i≠i)→PS w0 n ps L H l0 a w l→l.getD i x=l0.getD i x
 |[],_,_,_,_,⟨_,_,h⟩=>by rw[h]
 |p::ps,L,H,l0,hi,h=>by
  have hi':∀q∈ps,q.i≠i:=fun q hq=>hi q (List.mem_cons_of_mem _ hq)
  rcases h with h|⟨b,h⟩
  ·exact PS.same hi' h
  ·exact(PS.same hi' h).trans (getD_set_ne x (hi p List.mem_cons_self))
theorem PS.subs {q:Array Bool→Bool} : ∀{ps:List Pd} {L:FL} {H:List Hl} {l0:Array Bool},subsB (ps.map (·.i)) l0 q=true→PS w0 n ps L H l0 a w l→q l=true
 |[],_,_,_,hq,⟨_,_,h⟩=>by rw[h];exact hq
 |p::ps,L,H,l0,hq,h=>by
  simp only[List.map_cons,subsB,Bool.and_eq_true] at hq
  rcases h with h|⟨b,h⟩
  ·exact PS.subs hq.1 h
  ·exact PS.subs hq.2 h
theorem PS.ready {ops:Array Oper} {md:Region.Mode} {i:Nat} : ∀{ps:List Pd} {L:FL} {H:List Hl} {l0:Array Bool},(∀p∈ps,p.i≠i)→i∈Region.ready md ops l0→PS w0 n ps L H l0 a w l→i∈Region.ready md ops l
 |[],_,_,_,_,hr,⟨_,_,h⟩=>by rw[h];exact hr
 |p::ps,L,H,l0,hi,hr,h=>by
  have hi':∀q∈ps,q.i≠i:=fun q hq=>hi q (List.mem_cons_of_mem _ hq)
  rcases h with h|⟨b,h⟩
  ·exact PS.ready hi' hr h
  ·exact PS.ready hi' (ready_mono hr (Ne.symm (hi p List.mem_cons_self))) h
theorem PS.free {ops:Array Oper} {md:Region.Mode} {i:Nat} : ∀{ps:List Pd} {L:FL} {H:List Hl} {l0:Array Bool},Region.free md ops l0 i=true→PS w0 n ps L H l0 a w l→Region.free md ops l i=true
 |[],_,_,_,hr,⟨_,_,h⟩=>by rw[h];exact hr
 |p::ps,L,H,l0,hr,h=>by
  rcases h with h|⟨b,h⟩
  ·exact PS.free hr h
  ·exact PS.free (free_set hr) h
theorem getD_set_true' {l:Array Bool} {i j:Nat} (h:l.getD i true=true):(l.setIfInBounds j true).getD i true=true:=by
 by_cases e:j=i
 ·subst e
  rw[Array.getD_eq_getD_getElem?,Array.getElem?_setIfInBounds]
  split
  ·split<;>rfl
  ·rename_i h;exact absurd rfl h
 ·rw[getD_set_ne true e];exact h
theorem getD_self {l:Array Bool} {i:Nat} : (l.setIfInBounds i true).getD i true=true:=by
 rw[Array.getD_eq_getD_getElem?,Array.getElem?_setIfInBounds]
 split
 ·split<;>rfl
 ·rename_i h;exact absurd rfl h
theorem PS.listed {i:Nat} : ∀{ps:List Pd} {L:FL} {H:List Hl} {l0:Array Bool},l0.getD i true=true→PS w0 n ps L H l0 a w l→l.getD i true=true
 |[],_,_,_,hr,⟨_,_,h⟩=>by rw[h];exact hr
 |p::ps,L,H,l0,hr,h=>by
  rcases h with h|⟨b,h⟩
  ·exact PS.listed hr h
  ·exact PS.listed (getD_set_true' hr) h
theorem PS.come {k:Pd} (hstep:∀L' H',Fr n L' a→St w0 H' w→Fr n ((k.d,.pointer (some ⟨w.heap.size,0,none⟩))::L') a'∧St w0 (.blk w.heap.size k.t k.cs::H') w') (hu:l.getD k.i true=false) :
  ∀{ps:List Pd} {L:FL} {H:List Hl} {l0:Array Bool},(ps.map (·.d)).Nodup→k∈ps→PS w0 n ps L H l0 a w l→PS w0 n ps L H l0 a' w' (l.setIfInBounds k.i true)
 |[],_,_,_,_,hk,_=>by cases hk
 |p::ps,L,H,l0,hn,hk,h=>by
  rw[List.map_cons,List.nodup_cons] at hn
  rcases List.mem_cons.1 hk with rfl|hk
  ·rcases h with h|⟨b,h⟩
   ·exact .inr ⟨_,PS.ext (Hx:=[.blk w.heap.size k.t k.cs]) hstep (fun q hq e=>hn.1 (List.mem_map.2 ⟨q,hq,e⟩)) h⟩
   ·rw[PS.listed getD_self h] at hu;cases hu
  ·rcases h with h|⟨b,h⟩
   ·exact .inl (PS.come hstep hu hn.2 hk h)
   ·exact .inr ⟨b,PS.come hstep hu hn.2 hk h⟩
end
section
variable {P:Program} {ops:Array Oper} {n:Nat} {L:FL} {w0:World} {H HS:List Hl} {Q:Exit→Act→World→Prop} {ps:List Pd} {ord:List Mv} {d i:Nat} {ty:TypeId} {pos:String} {af:Array Edge} {v:Value} {o:Oper} {ι:Type}
theorem quiet_spec {a:Act} {w:World} {l0 l:Array Bool} {md:Region.Mode} (hq:quietB md ops (ps.map (·.i)) l0 i=true) (hP:PS w0 n ps L H l0 a w l):∀k,Re md ops k i→l.getD k true=false:=fun k hk=>by
 unfold quietB at hq
 simp only[Bool.and_eq_true,Bool.not_eq_true',List.all_eq_true,List.mem_range,Bool.or_eq_true,Bool.or_eq_false_iff] at hq
 obtain⟨hi,hc⟩:=hq
 have key:∀{k m:Nat},Region.waitsFor md ops k m=true→l.getD k true=true→l0.getD m true=true:=fun {k m} hk hl=>by
  obtain⟨o,ho,_⟩:=Region.waitsFor_spec hk
  rcases hc k (Array.getElem?_eq_some_iff.1 ho).1 with ⟨h1,h2⟩|h
  ·rw[PS.same (x:=true) (fun p hp e=>?_) hP] at hl
   ·rw[h1] at hl;cases hl
   ·have h3:k∈ps.map (·.i):=List.mem_map.2 ⟨p,hp,e⟩
    rw[List.contains_iff_mem.2 h3] at h2
    cases h2
  ·exact h m (deps_iff.2 hk)
 induction hk with
 |one h =>
  rename_i j i'
  cases hl:l.getD j true with
  |false=>rfl
  |true=>rw[key h hl] at hi;cases hi
 |more h r ih =>
  rename_i j k i'
  cases hl:l.getD j true with
  |false=>rfl
  |true =>
   have:=PS.listed (key h hl) hP
   rw[ih hi] at this
   cases this
theorem quiet_up {a:Act} {w:World} {l0 l:Array Bool} {md:Region.Mode} (hq:quietB md ops (ps.map (·.i)) l0 i=true) (hP:PS w0 n ps L H l0 a w l) (hr:i∈Region.ready md ops l):∀k,Re md ops i k→l.getD k true=true:=by
 unfold quietB at hq
 simp only[Bool.and_eq_true,Bool.not_eq_true',List.all_eq_true,List.mem_range,Bool.or_eq_true,Bool.or_eq_false_iff] at hq
 obtain⟨hi,hc⟩:=hq
 have key:∀{k m:Nat},Region.waitsFor md ops k m=true→l.getD k true=true→l.getD m true=true:=fun {k m} hk hl=>by
  obtain⟨o,ho,_⟩:=Region.waitsFor_spec hk
  rcases hc k (Array.getElem?_eq_some_iff.1 ho).1 with ⟨h1,h2⟩|h
  ·rw[PS.same (x:=true) (fun p hp e=>?_) hP] at hl
   ·rw[h1] at hl;cases hl
   ·have h3:k∈ps.map (·.i):=List.mem_map.2 ⟨p,hp,e⟩
    rw[List.contains_iff_mem.2 h3] at h2
    cases h2
  ·exact PS.listed (h m (deps_iff.2 hk)) hP
 have all:∀{j k:Nat},Re md ops j k→l.getD j true=true→l.getD k true=true:=fun hk=>by
  induction hk with
  |one h=>exact key h
  |more h r ih=>exact fun hl=>ih (key h hl)
 obtain⟨_,oi,hoi,hall⟩:=mem_ready.1 hr
 have first:∀{m:Nat},Region.waitsFor md ops i m=true→l.getD m true=true:=fun {m} hm=>by
  obtain⟨o',ho',e',he',hb',hon⟩:=Region.waitsFor_spec hm
  have:o'=oi:=Option.some.inj (ho'.symm.trans hoi)
  subst this
  have h1:=hall e' he' hb'
  rw[hon] at h1
  cases hx:l.getD m true with
  |true=>rfl
  |false=>rw[getD_both hx] at h1;cases h1
 intro k hk
 cases hk with
 |one h=>exact first h
 |more h r=>exact all r (first h)
def okP (P:Program) (ops:Array Oper) (n:Nat) (ps:List Pd) (L:FL):Prop :=
 (∀p∈ps,lk L p.d=none)∧(ps.map (·.d)).Nodup∧∀p∈ps,p.d<n∧∃ty pos af z,ops[p.i]?=some ⟨some p.d,.alloc p.t,ty,pos,af,none⟩∧(P.info? p.t).bind (·.zero)=some z∧z.cells=p.cs.toArray
def RM (P:Program) (ops:Array Oper) (Q:Exit→Act→World→Prop) (HS:List Hl) (n:Nat) (ps:List Pd) (L:FL) (w0:World) (H:List Hl) (ord:List Mv):Prop :=
 okP P ops n ps L→∀l0,mixedB .any ops ord (ps.map (·.i)) l0=true→Region.noSelect ops=true→∀f a w l,cnt l≤f→PS w0 n ps L H l0 a w l→wpAnyM P .any ops (Calm Q) (St w0 HS) f l a w
theorem cnt_ready {md:Region.Mode} {l:Array Bool} {f:Nat} (hf:cnt l≤f) (hr:i∈Region.ready md ops l):∃g,f=g+1∧cnt (l.setIfInBounds i true)≤g:=by
 have:=cnt_set (mem_ready.1 hr).1
 exact⟨f-1,by omega,by omega⟩
theorem okP.put {d:Nat} {v:Value} (h:okP P ops n ps L) (hd:∀p∈ps,p.d≠d):okP P ops n ps ((d,v)::L) :=
 ⟨fun p hp=>by rw[lk_cons_ne _ _ (Ne.symm (hd p hp))];exact h.1 p hp,h.2⟩
theorem dst_ne {d:Nat} (h:okP P ops n ps L) (ho:ops[i]?=some o) (hd:o.dst=some d) (hk:(ps.map (·.i)).all (dstB ops i)=true):∀p∈ps,p.d≠d:=fun p hp e=>by
 obtain⟨_,ty,pos,af,z,h1,_⟩:=h.2.2 p hp
 have:=List.all_eq_true.1 hk p.i (List.mem_map_of_mem hp)
 simp[dstB,ho,h1,hd,e] at this
theorem not_pend (h:((ps.map (·.i)).contains i)=false):∀p∈ps,p.i≠i:=fun p hp e=>by
 have h2:i∈ps.map (·.i):=List.mem_map.2 ⟨p,hp,e⟩
 rw[List.contains_iff_mem.2 h2] at h
 cases h
theorem wpOp_come {p:Pd} {a:Act} {w:World} {K:Act→World→Prop} {R:Exit→Act→World→Prop} (h:okP P ops n ps L) (hp:p∈ps)
  (hK:∀a' w',(∀L' H',Fr n L' a→St w0 H' w→Fr n ((p.d,.pointer (some ⟨w.heap.size,0,none⟩))::L') a'∧St w0 (.blk w.heap.size p.t p.cs::H') w')→K a' w'):wpOp P ops R p.i K a w:=by
 obtain⟨hd,ty,pos,af,z,h1,hz,hc⟩:=h.2.2 p hp
 unfold wpOp
 simp only[h1,Region.wanted,if_true]
 refine .inl ?_
 unfold Oper.wp
 have e:(execOp a.eval ⟨some p.d,.alloc p.t,ty,pos,af,none⟩).run P w=.ok (.value (.pointer (some ⟨w.heap.size,0,none⟩))) (w.alloc (.cells p.cs.toArray p.t)):=by
  cases hi:P.info? p.t with
  |none=>simp[hi] at hz
  |some inf =>
   simp only[hi,Option.bind_some] at hz
   simp[execOp,Instr.alloc,zeroValue,typeInfo,hi,hz,newVar,newRow,hc]
 rw[e]
 exact hK _ _ fun L' H' hf hw=>⟨hf.put hd,hw.alloc p.t p.cs⟩
theorem RM.pure_ (ho:ops[i]?=some o) (hp:pureB o=true) (hd:o.dst=some d) (hdn:d<n) (hs:∀w,St w0 H w→St w0 HS w) (hy:∀a,Fr n L a→YS P ops (St w0 HS) o v a)
  (h:RM P ops Q HS n ps ((d,v)::L) w0 H ord):RM P ops Q HS n ps L w0 H (.go i::ord):=by
 intro ok l0 hB hsel f a w l hf hP
 simp only[mixedB,ho,hp,if_true,Bool.and_eq_true,Bool.not_eq_true',List.contains_iff_mem] at hB
 obtain⟨⟨⟨⟨hr,hni⟩,hds⟩,hfr,hqt⟩,hB⟩:=hB
 have hr':=PS.ready (not_pend hni) hr hP
 obtain⟨g,rfl,hg⟩:=cnt_ready hf hr'
 have hb:=PS.base ok.1 ok.2.1 hP
 have hdd:=dst_ne ok ho hd hds
 refine wpAnyM_first ho hp (Region.noSelect_spec hsel) (fun c a w h=>h) g l a w (Region.free_spec ho (PS.free hfr hP)) (quiet_spec hqt hP) (quiet_up hqt hP hr') hr' (hy a hb.1) (hs w hb.2) ?_
 rw[hd]
 exact h (ok.put hdd) _ hB hsel g _ _ _ hg (PS.ext (Hx:=[]) (fun L' H' h1 h2=>⟨h1.put hdn,h2⟩) hdd hP)
theorem RM.call_ {post:ι→Prop} {vx:ι→Value} {Hn:ι→List Hl} (ho:ops[i]?=some o) (hp:pureB o=false) (hd:o.dst=some d) (hdn:d<n) (hs:∀w,St w0 H w→St w0 HS w)
  (hc:∀a w,Fr n L a→St w0 H w→∀K,(∀x w',post x→Below w.heap.size w w'→New w w' (Hn x)→K (a.put (some d) (vx x)) w')→wpOp P ops (Calm Q) i K a w)
  (h:∀x,post x→RM P ops Q HS n ps ((d,vx x)::L) w0 (Hn x++H) ord):RM P ops Q HS n ps L w0 H (.go i::ord):=by
 intro ok l0 hB hsel f
 simp only[mixedB,ho,hp,Bool.false_eq_true,if_false,Bool.and_eq_true,Bool.not_eq_true',List.contains_iff_mem] at hB
 obtain⟨⟨⟨⟨hr,hni⟩,hds⟩,hso⟩,hB⟩:=hB
 have hdd:=dst_ne ok ho hd hds
 induction f with
 |zero =>
  intro a w l hf hP
  obtain⟨g,hg,_⟩:=cnt_ready hf (PS.ready (not_pend hni) hr hP)
  cases hg
 |succ f ih =>
  intro a w l hf hP
  have hr':=PS.ready (not_pend hni) hr hP
  have hb:=PS.base ok.1 ok.2.1 hP
  refine⟨fun e=>(by rw[e] at hr';cases hr'),fun k hk=>?_⟩
  have hk2:cnt (l.setIfInBounds k true)≤f:=by
   have:=cnt_set (mem_ready.1 hk).1
   omega
  have h1:=List.all_eq_true.1 (PS.subs hso hP) k hk
  simp only[Bool.or_eq_true,beq_iff_eq,List.contains_iff_mem,List.mem_map] at h1
  rcases h1 with rfl|⟨p,hp',rfl⟩
  ·refine hc a w hb.1 hb.2 _ fun x w' hx hbl hn=>?_
   have hP':PS w0 n ps ((d,vx x)::L) (Hn x++H) (l0.setIfInBounds k true) (a.put (some d) (vx x)) w' (l.setIfInBounds k true):=PS.ext (fun L' H' h1 h2=>⟨h1.put hdn,h2.news hbl hn⟩) hdd hP
   refine⟨fun _=>hs _ ((PS.base (ok.put hdd).1 ok.2.1 hP').2.sub (List.sublist_append_right _ _)),h x hx (ok.put hdd) _ hB hsel f _ _ _ hk2 hP'⟩
  ·refine wpOp_come (w0:=w0) ok hp' fun a' w' hst=>?_
   have hP':=PS.come hst (mem_ready.1 hk).1 ok.2.1 hp' hP
   exact⟨fun _=>hs _ (PS.base ok.1 ok.2.1 hP').2,ih _ _ _ hk2 hP'⟩
theorem RM.pend {t:TypeId} {cs:List Value} {z:Value} (ho:ops[i]?=some ⟨some d,.alloc t,ty,pos,af,none⟩) (hl:lk L d=none) (hdn:d<n) (hz:(P.info? t).bind (·.zero)=some z) (hc:z.cells=cs.toArray)
  (h:RM P ops Q HS n (⟨i,d,t,cs⟩::ps) L w0 H ord):RM P ops Q HS n ps L w0 H (.pend i::ord):=by
 intro ok l0 hB hsel f a w l hf hP
 simp only[mixedB,Bool.and_eq_true,Bool.not_eq_true',List.contains_iff_mem] at hB
 obtain⟨⟨⟨_,hni⟩,hds⟩,hB⟩:=hB
 have hdd:=dst_ne ok ho rfl hds
 refine h ⟨fun p hp=>?_,?_,fun p hp=>?_⟩ l0 hB hsel f a w l hf (.inl hP)
 ·rcases List.mem_cons.1 hp with rfl|hp
  ·exact hl
  ·exact ok.1 p hp
 ·rw[List.map_cons,List.nodup_cons]
  refine⟨fun hm=>?_,ok.2.1⟩
  obtain⟨p,hp,e⟩:=List.mem_map.1 hm
  exact hdd p hp e
 ·rcases List.mem_cons.1 hp with rfl|hp
  ·exact⟨hdn,ty,pos,af,z,ho,hz,hc⟩
  ·exact ok.2.2 p hp
theorem RM.came {p:Pd} (hs:∀w,St w0 H w→St w0 HS w) (hs':∀b w,St w0 (.blk b p.t p.cs::H) w→St w0 HS w) (h:∀b,RM P ops Q HS n ps ((p.d,.pointer (some ⟨b,0,none⟩))::L) w0 (.blk b p.t p.cs::H) ord):RM P ops Q HS n (p::ps) L w0 H (.done::ord):=by
 intro ok l0 hB hsel f
 simp only[mixedB,List.map_cons,Bool.and_eq_true,Bool.not_eq_true',List.contains_iff_mem] at hB
 obtain⟨⟨⟨hr,hni⟩,hso⟩,hB⟩:=hB
 have hn:=ok.2.1
 rw[List.map_cons,List.nodup_cons] at hn
 have hne:∀q∈ps,q.d≠p.d:=fun q hq e=>hn.1 (List.mem_map.2 ⟨q,hq,e⟩)
 have ok0:okP P ops n ps L:=⟨fun q hq=>ok.1 q (List.mem_cons_of_mem _ hq),hn.2,fun q hq=>ok.2.2 q (List.mem_cons_of_mem _ hq)⟩
 have ok':∀b,okP P ops n ps ((p.d,.pointer (some ⟨b,0,none⟩))::L):=fun b=>ok0.put hne
 induction f with
 |zero =>
  intro a w l hf hP
  rcases hP with hP|⟨b,hP⟩
  ·obtain⟨g,hg,_⟩:=cnt_ready hf (PS.ready (not_pend hni) hr hP)
   cases hg
  ·exact h b (ok' b) _ hB hsel 0 a w l hf hP
 |succ f ih =>
  intro a w l hf hP
  rcases hP with hP|⟨b,hP⟩
  ·have hr':=PS.ready (not_pend hni) hr hP
   refine⟨fun e=>(by rw[e] at hr';cases hr'),fun k hk=>?_⟩
   have hk2:cnt (l.setIfInBounds k true)≤f:=by
    have:=cnt_set (mem_ready.1 hk).1
    omega
   have h1:=List.all_eq_true.1 (PS.subs hso hP) k hk
   simp only[Bool.or_eq_true,beq_iff_eq,List.contains_iff_mem,List.mem_map] at h1
   rcases h1 with rfl|⟨q,hq,rfl⟩
   ·refine wpOp_come (w0:=w0) ok List.mem_cons_self fun a' w' hst=>?_
    have hP':PS w0 n ps ((p.d,.pointer (some ⟨w.heap.size,0,none⟩))::L) (.blk w.heap.size p.t p.cs::H) (l0.setIfInBounds p.i true) a' w' (l.setIfInBounds p.i true) :=
     PS.ext (Hx:=[.blk w.heap.size p.t p.cs]) hst hne hP
    exact⟨fun _=>hs' _ _ (PS.base (ok' _).1 hn.2 hP').2,h _ (ok' _) _ hB hsel f _ _ _ hk2 hP'⟩
   ·refine wpOp_come (w0:=w0) ok (List.mem_cons_of_mem _ hq) fun a' w' hst=>?_
    have hP':=PS.come hst (mem_ready.1 hk).1 hn.2 hq hP
    exact⟨fun _=>hs _ (PS.base ok0.1 hn.2 hP').2,ih _ _ _ hk2 (.inl hP')⟩
  ·exact h b (ok' b) _ hB hsel _ a w l hf hP
theorem RM.act_ (ho:ops[i]?=some o) (hp:pureB o=false) {J:Act→World→Prop} (hc:∀a w,Fr n L a→St w0 H w→∀K,(∀a' w',J a' w'→K a' w')→wpOp P ops (Calm Q) i K a w)
  (hs:(∀a w,J a w→St w0 HS w)∨lateB .any ops i=true) (hJ:∀a w,J a w→∃L' H',Fr n L' a∧St w0 H' w∧RM P ops Q HS n [] L' w0 H' ord):RM P ops Q HS n [] L w0 H (.go i::ord):=by
 intro ok l0 hB hsel f a w l hf hP
 simp only[mixedB,ho,hp,Bool.false_eq_true,if_false,Bool.and_eq_true,List.map_nil,List.contains_iff_mem,subsB] at hB
 obtain⟨⟨⟨⟨hr,hni⟩,hds⟩,hso⟩,hB⟩:=hB
 obtain⟨h1,h2,rfl⟩:=hP
 obtain⟨g,rfl,hg⟩:=cnt_ready hf hr
 refine⟨fun e=>(by rw[e] at hr;cases hr),fun k hk=>?_⟩
 have h3:=List.all_eq_true.1 hso k hk
 simp only[List.contains_nil,Bool.or_false,beq_iff_eq] at h3
 subst h3
 refine hc a w h1 h2 _ fun a' w' hj=>⟨fun hl=>hs.elim (fun hs=>hs a' w' hj) (fun hs=>by rw[hs] at hl;cases hl),?_⟩
 obtain⟨L',H',g1,g2,g3⟩:=hJ a' w' hj
 exact g3 ⟨fun _ h=>(by cases h),List.nodup_nil,fun _ h=>(by cases h)⟩ _ hB hsel g a' w' _ hg ⟨g1,g2,rfl⟩
theorem RM.done (h:∀a w,Fr n L a→St w0 H w→Q .normal a w) (hQ:∀a w,Q .normal a w→Calm Q .normal a w:=by exact fun _ _ h=>h):RM P ops Q HS n [] L w0 H []:=by
 intro ok l0 hB hsel f a w l hf hP
 simp only[mixedB,Bool.and_eq_true,List.isEmpty_iff] at hB
 obtain⟨h1,h2,rfl⟩:=hP
 cases f with
 |zero=>exact⟨hB.2,hQ _ _ (h a w h1 h2)⟩
 |succ f=>exact⟨fun _=>hQ _ _ (h a w h1 h2),fun k hk=>by rw[hB.2] at hk;cases hk⟩
variable {op:Op} {g j:Nat} {b c:Bool}
theorem RM.step (ho:ops[i]?=some ⟨some d,op,ty,pos,af,none⟩) (hp:pureB ⟨some d,op,ty,pos,af,none⟩=true) (hs:∀w,St w0 H w→St w0 HS w) (hy:V P n L w0 HS ⟨some d,op,ty,pos,af,none⟩ v) (hd:Nat.blt d n=true)
  (h:RM P ops Q HS n ps ((d,v)::L) w0 H ord):RM P ops Q HS n ps L w0 H (.go i::ord) :=
 RM.pure_ ho hp rfl (by simpa [Nat.blt_eq] using hd) hs (fun a ha=>.inl ⟨rfl,fun w hw=>hy a w ha hw⟩) h
theorem RM.guarded {want:Bool} (ho:ops[i]?=some o) (hoo:o=⟨some d,op,ty,pos,af,some (j,want)⟩) (hp:pureB o=true) (hs:∀w,St w0 H w→St w0 HS w) (hj:(ops[j]?).bind (·.dst)=some g) (hg:lk L g=some (bif c then .bool b else undef)) (hd:Nat.blt d n=true)
  (hy:c=true→b=want→V P n L w0 HS o v) (h:RM P ops Q HS n ps ((d,bif (c&&(b==want)) then v else undef)::L) w0 H ord):RM P ops Q HS n ps L w0 H (.go i::ord):=by
 subst hoo
 refine RM.pure_ ho hp rfl (by simpa [Nat.blt_eq] using hd) hs (fun a ha=>?_) h
 unfold YS
 cases c with
 |true =>
  have h1:=yielded_of (b:=b) ha hj (by simpa using hg)
  simp only[Region.wanted,h1]
  by_cases hb:b=want
  ·subst hb
   simp only[beq_self_eq_true,cond_true,Bool.and_self]
   exact .inl ⟨trivial,fun w' hw'=>hy rfl rfl a w' ha hw'⟩
  ·have hb':(b==want)=false:=by simpa using hb
   have hb2:(some b==some want)=false:=by simpa using hb
   simp[hb',hb2]
 |false =>
  have h1:=yielded_not ha hj (by simpa using hg)
  simp[Region.wanted,h1]
theorem New.none {w w':World} : New w w' []:=fun _ h=>(by cases h)
theorem RM.call (ho:ops[i]?=some ⟨some d,op,ty,pos,af,none⟩) (hp:pureB ⟨some d,op,ty,pos,af,none⟩=false) (hs:∀w,St w0 H w→St w0 HS w) (hy:Y P n L w0 H ⟨some d,op,ty,pos,af,none⟩ v) (hd:Nat.blt d n=true)
  (h:RM P ops Q HS n ps ((d,v)::L) w0 H ord):RM P ops Q HS n ps L w0 H (.go i::ord):=by
 refine RM.call_ (ι:=Unit) (post:=fun _=>True) (vx:=fun _=>v) (Hn:=fun _=>[]) ho hp rfl (by simpa [Nat.blt_eq] using hd) hs (fun a w ha hw K hK=>?_) fun _ _=>h
 unfold wpOp
 rw[ho]
 exact .inl (wp_of_Y hy ha hw fun w' hw'=>hK () w' trivial hw' New.none)
theorem RM.callG {want:Bool} (ho:ops[i]?=some o) (hoo:o=⟨some d,op,ty,pos,af,some (j,want)⟩) (hp:pureB o=false) (hs:∀w,St w0 H w→St w0 HS w) (hj:(ops[j]?).bind (·.dst)=some g) (hg:lk L g=some (bif c then .bool b else undef)) (hd:Nat.blt d n=true)
  (hy:c=true→b=want→Y P n L w0 H o v) (h:RM P ops Q HS n ps ((d,bif (c&&(b==want)) then v else undef)::L) w0 H ord):RM P ops Q HS n ps L w0 H (.go i::ord):=by
 subst hoo
 refine RM.call_ (ι:=Unit) (post:=fun _=>True) (vx:=fun _=>bif (c&&(b==want)) then v else undef) (Hn:=fun _=>[]) ho hp rfl (by simpa [Nat.blt_eq] using hd) hs (fun a w ha hw K hK=>?_) fun _ _=>h
 unfold wpOp
 rw[ho]
 cases c with
 |true =>
  have h1:=yielded_of (b:=b) ha hj (by simpa using hg)
  simp only[Region.wanted,h1]
  by_cases hb:b=want
  ·subst hb
   simp only[beq_self_eq_true,if_true,cond_true,Bool.and_self] at hK ⊢
   exact .inl (wp_of_Y (hy rfl rfl) ha hw fun w' hw'=>hK () w' trivial hw' New.none)
  ·have hb':(b==want)=false:=by simpa using hb
   have hb2:(some b==some want)=false:=by simpa using hb
   rw[hb'] at hK
   simp only[hb2,Bool.false_eq_true,if_false]
   exact hK () w trivial (Below.refl _ _) New.none
 |false =>
  have h1:=yielded_not ha hj (by simpa using hg)
  simp only[Region.wanted,h1]
  exact hK () w trivial (Below.refl _ _) New.none
end
/-! ### The operations -/
section
variable {P:Program} {n:Nat} {L:FL} {w0:World} {H:List Hl} {o:Oper} {v:Value}
def Cont (P:Program) (f:FuncId) (args:List Value) (v:Value):Prop :=
 ∀w,Calls P f args.toArray w fun e w'=>e=.returned v∧Below w.heap.size w w'
def AE (L:FL):List Operand→List Value→Prop
 |[],vs=>vs=[]
 |x::r,vs=>match vs with
  |[]=>False
  |v::vs=>evO L x=some v∧AE L r vs
theorem AE.map {a:Act} (ha:Fr n L a):∀{xs:List Operand} {vs:List Value},AE L xs vs→xs.map a.eval=vs
 |[],vs,h=>by cases vs with
  |nil=>rfl
  |cons _ _=>cases h
 |x::r,vs,h=>by
  cases vs with
  |nil=>exact h.elim
  |cons v vs=>simp[ha.eval h.1,AE.map ha h.2]
def isGo (P:Program) (f:FuncId):Bool:=match P.funcs[f]? with
 |some fn=>fn.name != "runtime.NumGoroutine"&&fn.body.isSome
 |none=>false
theorem run_isGo {f:FuncId} (h:isGo P f=true) (args:Array Value) (w:World):(callFunc f args).run P w=.ok (.enter f args) w:=by
 unfold isGo at h
 cases hf:P.funcs[f]? with
 |none=>simp[hf] at h
 |some fn =>
  simp only[hf,Bool.and_eq_true,bne_iff_ne,ne_eq] at h
  obtain⟨h1,h2⟩:=h
  obtain⟨c,hc⟩:=Option.isSome_iff_exists.1 h2
  simp[callFunc,hf,h1,hc]
section ops
variable {d:Option Tmp} {ty:TypeId} {pos:String} {af:Array Edge} {g:Option (Nat×Bool)} {x y z:Operand} {k:IntKind} {m m':Int} {t t':TypeId}
theorem y_call {f:FuncId} {xs:List Operand} {vs:List Value} {tys:Array TypeId} (hc:Cont P f vs v) (ha:AE L xs vs) (hg:isGo P f=true) :
  Y P n L w0 H ⟨d,.call { callee:=.value (.func f),args:=xs.toArray,argTypes:=tys },ty,pos,af,g⟩ v:=fun a w hfr hw=>by
 have e:(execOp a.eval ⟨d,.call { callee:=.value (.func f),args:=xs.toArray,argTypes:=tys },ty,pos,af,g⟩).run P w=.ok (.enter f vs.toArray) w:=by
  rw[show execOp a.eval ⟨d,.call { callee:=.value (.func f),args:=xs.toArray,argTypes:=tys },ty,pos,af,g⟩=callFunc f (#[]++xs.toArray.map a.eval++#[]) from rfl]
  have:=ha.map hfr
  simp[this,run_isGo hg]
 unfold Oper.quietAt
 rw[e]
 exact⟨rfl,hc w⟩
theorem y_move (hx:evO L x=some v):V P n L w0 H ⟨d,.move x,ty,pos,af,g⟩ v:=fun a w ha _=>by simp[execOp,ha.eval hx]
theorem y_assign (hx:evO L x=some v):V P n L w0 H ⟨d,.assign x,ty,pos,af,g⟩ v:=fun a w ha _=>by simp[execOp,ha.eval hx]
theorem y_pick {b:Bool} {u:Value} (hx:evO L x=some (.bool b)) (hy:evO L y=some v) (hz:evO L z=some u):V P n L w0 H ⟨d,.pick x y z,ty,pos,af,g⟩ (bif b then v else u):=fun a w ha _=>by
 simp[execOp,ha.eval hx,ha.eval hy,ha.eval hz,asBool]
theorem y_and {b p:Bool} {u:Value} (hx:evO L x=some (.bool b)) (hy:evO L y=some (bif b then .bool p else u)):V P n L w0 H ⟨d,.pick x y (.const (.bool false)),ty,pos,af,g⟩ (.bool (b&&p)):=by
 have:=y_pick (P:=P) (n:=n) (w0:=w0) (H:=H) (d:=d) (ty:=ty) (pos:=pos) (af:=af) (g:=g) (z:=.const (.bool false)) hx hy rfl
 cases b<;>simpa using this
theorem y_or {b p:Bool} {u:Value} (hx:evO L x=some (.bool b)) (hz:evO L z=some (bif !b then .bool p else u)):V P n L w0 H ⟨d,.pick x (.const (.bool true)) z,ty,pos,af,g⟩ (.bool (b||p)):=by
 have:=y_pick (P:=P) (n:=n) (w0:=w0) (H:=H) (d:=d) (ty:=ty) (pos:=pos) (af:=af) (g:=g) (y:=.const (.bool true)) hx rfl hz
 cases b<;>simpa using this
theorem y_pickT {b:Bool} (hx:evO L x=some (.bool b)) (hb:b=true) (hy:evO L y=some v):V P n L w0 H ⟨d,.pick x y z,ty,pos,af,g⟩ v:=fun a w ha _=>by
 subst hb;simp[execOp,ha.eval hx,ha.eval hy,asBool]
theorem y_pickF {b:Bool} (hx:evO L x=some (.bool b)) (hb:b=false) (hz:evO L z=some v):V P n L w0 H ⟨d,.pick x y z,ty,pos,af,g⟩ v:=fun a w ha _=>by
 subst hb;simp[execOp,ha.eval hx,ha.eval hz,asBool]
theorem y_extract {vs:Array Value} {i:Nat} (hx:evO L x=some (.tuple vs)) (hi:vs[i]?=some v):V P n L w0 H ⟨d,.extract x i,ty,pos,af,g⟩ v:=fun a w ha _=>by
 simp[execOp,ha.eval hx,Instr.extract,hi]
theorem y_ext20 {u0 u1:Value} (hx:evO L x=some (.tuple [u0,u1].toArray)):V P n L w0 H ⟨d,.extract x 0,ty,pos,af,g⟩ u0:=y_extract hx rfl
theorem y_ext21 {u0 u1:Value} (hx:evO L x=some (.tuple [u0,u1].toArray)):V P n L w0 H ⟨d,.extract x 1,ty,pos,af,g⟩ u1:=y_extract hx rfl
theorem y_ext30 {u0 u1 u2:Value} (hx:evO L x=some (.tuple [u0,u1,u2].toArray)):V P n L w0 H ⟨d,.extract x 0,ty,pos,af,g⟩ u0:=y_extract hx rfl
theorem y_ext31 {u0 u1 u2:Value} (hx:evO L x=some (.tuple [u0,u1,u2].toArray)):V P n L w0 H ⟨d,.extract x 1,ty,pos,af,g⟩ u1:=y_extract hx rfl
theorem y_ext32 {u0 u1 u2:Value} (hx:evO L x=some (.tuple [u0,u1,u2].toArray)):V P n L w0 H ⟨d,.extract x 2,ty,pos,af,g⟩ u2:=y_extract hx rfl
theorem y_not {b:Bool} (hx:evO L x=some (.bool b)):V P n L w0 H ⟨d,.unOp .not t x,ty,pos,af,g⟩ (.bool !b):=fun a w ha _=>by
 simp[execOp,ha.eval hx,Op.unary]
theorem y_notT {b:Bool} (hx:evO L x=some (.bool b)) (hb:b=true):V P n L w0 H ⟨d,.unOp .not t x,ty,pos,af,g⟩ (.bool false):=by subst hb;exact y_not hx
theorem y_notF {b:Bool} (hx:evO L x=some (.bool b)) (hb:b=false):V P n L w0 H ⟨d,.unOp .not t x,ty,pos,af,g⟩ (.bool true):=by subst hb;exact y_not hx
theorem y_neg (hx:evO L x=some (.int k m)):V P n L w0 H ⟨d,.unOp .neg t x,ty,pos,af,g⟩ (.int k (k.wrap (0-m))):=fun a w ha _=>by
 simp[execOp,ha.eval hx,Op.unary,Op.intArith]
theorem y_makeFunc {fn:Fn} {xs:List Operand} {vs:List Value} (ha:AE L xs vs):V P n L w0 H ⟨d,.makeFunc fn #[] xs.toArray,ty,pos,af,g⟩ (.func fn #[] vs.toArray):=fun a w hfr _=>by
 have:=ha.map hfr
 simp[execOp,Instr.makeFunc,this]
section bin
variable (hx:evO L x=some (.int k m)) (hy:evO L y=some (.int k m'))
include hx hy
theorem y_add:V P n L w0 H ⟨d,.binOp .add t x y t',ty,pos,af,g⟩ (.int k (k.wrap (m+m'))):=fun a w ha _=>by
 simp[execOp,ha.eval hx,ha.eval hy,eqGuard,binOp,Op.intArith]
theorem y_sub:V P n L w0 H ⟨d,.binOp .sub t x y t',ty,pos,af,g⟩ (.int k (k.wrap (m-m'))):=fun a w ha _=>by
 simp[execOp,ha.eval hx,ha.eval hy,eqGuard,binOp,Op.intArith]
theorem y_mul:V P n L w0 H ⟨d,.binOp .mul t x y t',ty,pos,af,g⟩ (.int k (k.wrap (m*m'))):=fun a w ha _=>by
 simp[execOp,ha.eval hx,ha.eval hy,eqGuard,binOp,Op.intArith]
theorem y_quo (h0:m'≠0):V P n L w0 H ⟨d,.binOp .quo t x y t',ty,pos,af,g⟩ (.int k (k.wrap (m.tdiv m'))):=fun a w ha _=>by
 simp[execOp,ha.eval hx,ha.eval hy,eqGuard,binOp,Op.intDiv,h0]
theorem y_rem (h0:m'≠0):V P n L w0 H ⟨d,.binOp .rem t x y t',ty,pos,af,g⟩ (.int k (m.tmod m')):=fun a w ha _=>by
 simp[execOp,ha.eval hx,ha.eval hy,eqGuard,binOp,Op.intDiv,h0]
theorem y_eql:V P n L w0 H ⟨d,.binOp .eql t x y t',ty,pos,af,g⟩ (.bool (decide (m=m'))):=fun a w ha _=>by
 simp[execOp,ha.eval hx,ha.eval hy,eqGuard,binOp,Op.intCmp];rfl
theorem y_neq:V P n L w0 H ⟨d,.binOp .neq t x y t',ty,pos,af,g⟩ (.bool (!decide (m=m'))):=fun a w ha _=>by
 simp[execOp,ha.eval hx,ha.eval hy,eqGuard,binOp,Op.intCmp];rfl
theorem y_lss:V P n L w0 H ⟨d,.binOp .lss t x y t',ty,pos,af,g⟩ (.bool (decide (m<m'))):=fun a w ha _=>by
 simp[execOp,ha.eval hx,ha.eval hy,eqGuard,binOp,Op.intCmp]
theorem y_leq:V P n L w0 H ⟨d,.binOp .leq t x y t',ty,pos,af,g⟩ (.bool (decide (m≤m'))):=fun a w ha _=>by
 simp[execOp,ha.eval hx,ha.eval hy,eqGuard,binOp,Op.intCmp]
theorem y_gtr:V P n L w0 H ⟨d,.binOp .gtr t x y t',ty,pos,af,g⟩ (.bool (decide (m'<m))):=fun a w ha _=>by
 simp[execOp,ha.eval hx,ha.eval hy,eqGuard,binOp,Op.intCmp]
theorem y_geq:V P n L w0 H ⟨d,.binOp .geq t x y t',ty,pos,af,g⟩ (.bool (decide (m'≤m))):=fun a w ha _=>by
 simp[execOp,ha.eval hx,ha.eval hy,eqGuard,binOp,Op.intCmp]
end bin
section bools
variable {b b':Bool} (hx:evO L x=some (.bool b)) (hy:evO L y=some (.bool b'))
include hx hy
theorem y_neqB (ht:P.underlying t=some .bool):V P n L w0 H ⟨d,.binOp .neq t x y t',ty,pos,af,g⟩ (.bool (!(b==b'))):=fun a w ha _=>by
 have e:(binOp .neq t (.bool b) (.bool b')).run P w=.ok (.bool (!(b==b'))) w:=by
  simp only[binOp]
  simp[Op.equal,Op.maxDepth,run_equalIn_bool' w 9999 t b b' ht]
 simp[execOp,ha.eval hx,ha.eval hy,eqGuard,e]
end bools
end ops
end
/-! ### Memory: the call's own blocks -/
section
variable {P:Program} {n:Nat} {L:FL} {w0:World} {H:List Hl} {o:Oper} {v:Value} {d:Option Tmp} {ty:TypeId} {pos:String} {af:Array Edge} {g:Option (Nat×Bool)} {x y:Operand} {t t':TypeId}
def scalarB (P:Program) (t:TypeId):Bool:=match P.underlying t with
 |some (.struct _)|some (.array _ _)|none=>false
 |some _=>(P.info? t).map (·.size)==some 1
def rowB (P:Program) (t:TypeId) (k:Nat):Bool:=(match P.underlying t with
 |some (.struct _)|some (.array _ _)=>true
 |_=>false)&&(P.info? t).map (·.size)==some k
def fieldOff (P:Program) (s:TypeId) (f:Nat):Option Nat:=match P.underlying s with
 |some (.struct fs)=>match fs[f]? with
  |some fl=>match P.info? fl.type with
   |some i=>if i.size=0 then none else some fl.offset
   |none=>none
  |none=>none
 |_=>none
theorem run_isAgg_false {w:World} (h:scalarB P t=true):(isAgg t).run P w=.ok false w:=by
 unfold scalarB at h
 cases hu:P.underlying t with
 |none=>simp[hu] at h
 |some dsc =>
  cases dsc<;>simp_all [isAgg,run_underlying hu]
theorem run_isAgg_true {w:World} {k:Nat} (h:rowB P t k=true):(isAgg t).run P w=.ok true w:=by
 unfold rowB at h
 cases hu:P.underlying t with
 |none=>simp[hu] at h
 |some dsc =>
  cases dsc<;>simp_all [isAgg,run_underlying hu]
theorem info_of_rowB {k:Nat} (h:rowB P t k=true):(P.info? t).map (·.size)=some k:=by
 simp only[rowB,Bool.and_eq_true,beq_iff_eq] at h;exact h.2
theorem info_of_scalarB (h:scalarB P t=true):(P.info? t).map (·.size)=some 1:=by
 unfold scalarB at h
 cases hu:P.underlying t with
 |none=>simp[hu] at h
 |some dsc=>cases dsc<;>simp_all
theorem run_sizeOf_of {k:Nat} {w:World} (h:(P.info? t).map (·.size)=some k):(sizeOf t).run P w=.ok k w:=by
 cases hi:P.info? t with
 |none=>simp[hi] at h
 |some i=>simp[hi] at h;simp[sizeOf,typeInfo,hi,h]
inductive LenIs:List Value→Nat→Prop where
 |nil:LenIs [] 0
 |cons (a:Value) {r:List Value} {k:Nat} (h:LenIs r k):LenIs (a::r) (k+1)
theorem LenIs.eq {cs:List Value} {k:Nat} (h:LenIs cs k):cs.length=k:=by
 induction h with
 |nil=>rfl
 |cons a _ ih=>simp[ih]
def fieldAt (P:Program) (s:TypeId) (f i:Nat):Option Nat:=(fieldOff P s f).map (i + ·)
theorem y_load {b i:Nat} {cs:List Value} (hx:evO L x=some (.pointer (some ⟨b,i,none⟩))) (hm:Hl.blk b t' cs∈H) (hi:cs[i]?=some v) (hs:scalarB P t=true) :
  V P n L w0 H ⟨d,.load t x,ty,pos,af,g⟩ v:=fun a w ha hw=>by
 have hc:w.cell? ⟨b,i,none⟩=some v:=(hw.cell hm i).trans hi
 simp[execOp,ha.eval hx,Instr.loadAt,Instr.sureAddr,loadVar,run_isAgg_false hs,hc]
theorem y_loadRow {b k:Nat} {cs:List Value} (hx:evO L x=some (.pointer (some ⟨b,0,none⟩))) (hm:Hl.blk b t' cs∈H) (hl:LenIs cs k) (hs:rowB P t k=true) :
  V P n L w0 H ⟨d,.load t x,ty,pos,af,g⟩ (.agg cs.toArray):=fun a w ha hw=>by
 rw[←hl.eq] at hs
 have hl:=run_loadCells_list (P:=P) w ⟨b,0,none⟩ cs (fun j u hu=>by
  have e:(⟨b,0,none⟩:Addr).add j=⟨b,j,none⟩:=by unfold Addr.add;split<;>simp_all
  rw[e]
  exact(hw.cell hm j).trans hu)
 simp[execOp,ha.eval hx,Instr.loadAt,Instr.sureAddr,loadVar,run_isAgg_true hs,run_sizeOf_of (info_of_rowB hs),hl]
theorem zlP {b i k:Nat} {cs:List Value} (hx:evO L x=some (.pointer (some ⟨b,i,none⟩))) (hm:Hl.blk b t' cs∈H) (hs:rowB P t k=true) (hk:Nat.ble (i+k) cs.length=true) :
  V P n L w0 H ⟨d,.load t x,ty,pos,af,g⟩ (.agg ((cs.drop i).take k).toArray):=fun a w ha hw=>by
 have hk':i+k≤cs.length:=Nat.le_of_ble_eq_true hk
 have hlen:((cs.drop i).take k).length=k:=by simp;omega
 have hl:=run_loadCells_list (P:=P) w ⟨b,i,none⟩ ((cs.drop i).take k) (fun j u hu=>by
  have hj:j<k:=by
   have:=(List.getElem?_eq_some_iff.1 hu).1
   omega
  have e:(⟨b,i,none⟩:Addr).add j=⟨b,i+j,none⟩:=by unfold Addr.add;split<;>simp_all
  rw[e]
  refine(hw.cell hm (i+j)).trans ?_
  rw[←hu,List.getElem?_take_of_lt hj,List.getElem?_drop])
 rw[hlen] at hl
 simp[execOp,ha.eval hx,Instr.loadAt,Instr.sureAddr,loadVar,run_isAgg_true hs,run_sizeOf_of (info_of_rowB hs),hl]
theorem y_fieldAddr' {b i k f:Nat} (hx:evO L x=some (.pointer (some ⟨b,i,none⟩))) (hf:fieldOff P t f=some k) :
  V P n L w0 H ⟨d,.fieldAddr t x f,ty,pos,af,g⟩ (.pointer (some ⟨b,i+k,none⟩)):=fun a w ha _=>by
 unfold fieldOff at hf
 cases hu:P.underlying t with
 |none=>simp[hu] at hf
 |some dsc =>
  cases dsc<;>simp only[hu,reduceCtorEq] at hf
  rename_i fs
  cases hfs:fs[f]? with
  |none=>simp[hfs] at hf
  |some fl =>
   simp only[hfs] at hf
   cases hi:P.info? fl.type with
   |none=>simp[hi] at hf
   |some inf =>
    simp only[hi] at hf
    split at hf
    ·cases hf
    ·rename_i hsz
     simp only[Option.some.injEq] at hf
     subst hf
     have e:(⟨b,i,none⟩:Addr).add fl.offset=⟨b,i+fl.offset,none⟩:=by unfold Addr.add;split<;>simp_all
     simp[execOp,ha.eval hx,Instr.fieldAt,Instr.sureAddr,run_underlying hu,hfs,fieldPlace,sizeOf,typeInfo,hi,hsz,e]
theorem y_fieldAddr {b i m f:Nat} (hx:evO L x=some (.pointer (some ⟨b,i,none⟩))) (hf:fieldAt P t f i=some m) :
  V P n L w0 H ⟨d,.fieldAddr t x f,ty,pos,af,g⟩ (.pointer (some ⟨b,m,none⟩)):=by
 unfold fieldAt at hf
 cases ho:fieldOff P t f with
 |none=>simp[ho] at hf
 |some k =>
  simp only[ho,Option.map_some,Option.some.injEq] at hf
  subst hf
  exact y_fieldAddr' hx ho
theorem y_build {parts:List (Nat×Operand)} {cells:List Value} {vs:List Value} (ha:AE L (parts.map (·.2)) vs) (hb:P.built t ((parts.map (·.1)).zip vs)=some cells.toArray) :
  V P n L w0 H ⟨d,.build t parts.toArray,ty,pos,af,g⟩ (.agg cells.toArray):=fun a w hfr _=>by
 have h1:(parts.toArray.map fun(p:Nat×Operand)=>(p.1,a.eval p.2))=(((parts.map (·.1)).zip vs)).toArray:=by
  have:=ha.map hfr
  subst this
  rw[List.map_toArray]
  congr 1
  clear ha hb
  induction parts with
  |nil=>rfl
  |cons p r ih=>simp[ih]
 have h2:=run_build (P:=P) w t (((parts.map (·.1)).zip vs)).toArray cells.toArray (by simpa using hb)
 simp only[execOp]
 rw[show (Array.map (fun x=>match x with|(i,x)=>(i,a.eval x)) parts.toArray)=(parts.toArray.map fun(p:Nat×Operand)=>(p.1,a.eval p.2)) from rfl,h1]
 simp[h2]
def zeroOf (P:Program) (t:TypeId):Option Value:=(P.info? t).bind (·.zero)
class IntTy (P:Program) (t:TypeId) (k:outParam IntKind):Prop where
 is:P.underlying t=some (.int k)
class BoolTy (P:Program) (t:TypeId):Prop where
 is:P.underlying t=some .bool
class StrTy (P:Program) (t:TypeId):Prop where
 is:P.underlying t=some .string
class ZeroTy (P:Program) (t:TypeId) (u:outParam Value):Prop where
 is:zeroOf P t=some u
theorem y_buildV {parts:List (Nat×Operand)} {vs:List Value} (ha:AE L (parts.map (·.2)) vs) (hb:P.built t ((parts.map (·.1)).zip vs)=some vs.toArray) :
  V P n L w0 H ⟨d,.build t parts.toArray,ty,pos,af,g⟩ (.agg vs.toArray):=y_build ha hb
theorem y_build0 {cs:List Value} (hz:zeroOf P t=some (.agg cs.toArray)) (hb:(P.built t []).isSome=true):V P n L w0 H ⟨d,.build t #[],ty,pos,af,g⟩ (.agg cs.toArray):=by
 have h:P.built t []=some cs.toArray:=by
  unfold zeroOf at hz
  unfold Program.built at hb ⊢
  cases hi:P.info? t with
  |none=>simp[hi] at hz
  |some it =>
   simp only[hi,Option.bind_some] at hz hb ⊢
   cases hu:P.underlying t with
   |none=>simp[hu] at hb
   |some dsc =>
    cases dsc<;>simp only[hu,hz] at hb ⊢<;>try(simp at hb;done)
    ·rename_i e
     cases he:P.info? e with
     |none=>simp[he] at hb
     |some ie=>simp[Instr.fill,Value.cells]
    ·rename_i fs
     generalize (fs.toList.mapM fun f=>(P.info? f.type).map fun i=>(f.offset,i.size))=ps at hb ⊢
     cases ps with
     |none=>simp at hb
     |some p=>simp[Instr.fill,Value.cells]
 exact y_build (parts:=[]) (vs:=[]) rfl h
def flatStructB (P:Program) (t:TypeId) (k:Nat):Bool:=match P.underlying t with
 |some (.struct fs)=>fs.size==k&&(List.range k).all fun i=>match fs[i]? with
  |some f=>f.offset==i&&(P.info? f.type).map (·.size)==some 1
  |none=>false
 |_=>false
def setAll (zs:List Value):List (Nat×Value)→List Value
 |[]=>zs
 |p::r=>setAll (zs.set p.1 p.2) r
theorem fill_setAll {place:Nat→Option (Nat×Nat)} : ∀(ps:List (Nat×Value)) (zs:List Value),(∀i,i<zs.length→place i=some (i,1))→(∀p∈ps,p.1<zs.length∧p.2.oneCell'=true) →
  Instr.fill place zs.toArray ps=some (setAll zs ps).toArray
 |[],zs,_,_=>rfl
 |(i,v)::r,zs,hp,h=>by
  have h1:=h (i,v) List.mem_cons_self
  have hc:v.cells=#[v]:=by
   have:=h1.2
   cases v<;>first|rfl|simp[Value.oneCell'] at this
  have ih:=fill_setAll (place:=place) r (zs.set i v) (by simpa using hp) (fun p hp'=>by simpa using h p (List.mem_cons_of_mem _ hp'))
  have hlt:¬zs.length<i+1:=by have:=h1.1;simp only at this;omega
  simp[Instr.fill,hp i h1.1,hc,hlt,setAll,ih]
def idxB (is:List Nat) (k:Nat):Bool:=is.all (· < k)
theorem y_buildP {parts:List (Nat×Operand)} {zs cs vs:List Value} {k:Nat} (hz:zeroOf P t=some (.agg zs.toArray)) (ha:AE L (parts.map (·.2)) vs) (hl:LenIs zs k) (hb:(flatStructB P t k&&idxB (parts.map (·.1)) k)=true)
  (h1:vs.all (·.oneCell')=true) (hcs:setAll zs ((parts.map (·.1)).zip vs)=cs):V P n L w0 H ⟨d,.build t parts.toArray,ty,pos,af,g⟩ (.agg cs.toArray):=by
 refine y_build ha ?_
 have hk:=hl.eq
 simp only[Bool.and_eq_true] at hb
 obtain⟨hb,hi⟩:=hb
 unfold flatStructB at hb
 unfold zeroOf at hz
 unfold Program.built
 cases hit:P.info? t with
 |none=>simp[hit] at hz
 |some it =>
  simp only[hit,Option.bind_some] at hz
  cases hu:P.underlying t with
  |none=>simp[hu] at hb
  |some dsc =>
   cases dsc<;>simp[hu] at hb
   rename_i fs
   obtain⟨hsz,hall⟩:=hb
   have hpl:∀(l:List Field) (k0:Nat),(∀j f,l[j]?=some f→f.offset=k0+j∧(P.info? f.type).map (·.size)=some 1) →
     l.mapM (fun f=>(P.info? f.type).map fun i=>(f.offset,i.size))=some ((List.range' k0 l.length).map fun i=>(i,1)):=by
    intro l
    induction l with
    |nil=>intro k0 _;rfl
    |cons f l ih =>
     intro k0 hf
     have h0:=hf 0 f rfl
     have ih':=ih (k0+1) (fun j f' hj=>by have:=hf (j+1) f' (by simpa using hj);exact⟨by omega,this.2⟩)
     cases hi0:P.info? f.type with
     |none=>simp[hi0] at h0
     |some i0 =>
      have h0':=h0.2
      simp only[hi0,Option.map_some,Option.some.injEq] at h0'
      simp[List.mapM_cons,hi0,ih',h0.1,h0',List.range'_succ]
   have hp:=hpl fs.toList 0 (fun j f hj=>by
    have hj':j<fs.size:=by
     have:=(List.getElem?_eq_some_iff.1 hj).1
     simpa using this
    have:=hall j (by omega)
    rw[show fs[j]?=some f by simpa using hj] at this
    simpa using this)
   have hlen:fs.toList.length=zs.length:=by simp[hsz,hk]
   simp only[hz,hp,Value.cells]
   rw[fill_setAll _ zs (fun i hi'=>by simp[hlen,hi']) (fun p hp'=>?_),hcs]
   have hm:p.1∈parts.map (·.1)∧p.2∈vs:=List.of_mem_zip (a:=p.1) (b:=p.2) hp'
   simp only[idxB,List.all_eq_true,decide_eq_true_eq] at hi h1
   exact⟨by rw[hk];exact hi _ hm.1,h1 _ hm.2⟩
end
/-! ### int, where the result fits -/
section
variable {P:Program} {n:Nat} {L:FL} {w0:World} {H:List Hl} {d:Option Tmp} {ty:TypeId} {pos:String} {af:Array Edge} {g:Option (Nat×Bool)} {x y:Operand} {m m':Int} {t t':TypeId}
theorem wrap_in {n:Int} (h : -9223372036854775808≤n∧n≤9223372036854775807):IntKind.i64.wrap n=n:=IntWalk.i64_in n h
section
variable (hx:evO L x=some (.int .i64 m)) (hy:evO L y=some (.int .i64 m'))
include hx hy
theorem y_add64 (h : -9223372036854775808≤m+m'∧m+m'≤9223372036854775807):V P n L w0 H ⟨d,.binOp .add t x y t',ty,pos,af,g⟩ (.int .i64 (m+m')):=by
 have:=y_add (P:=P) (n:=n) (w0:=w0) (H:=H) (d:=d) (ty:=ty) (pos:=pos) (af:=af) (g:=g) (t:=t) (t':=t') hx hy
 rwa [wrap_in h] at this
theorem y_sub64 (h : -9223372036854775808≤m-m'∧m-m'≤9223372036854775807):V P n L w0 H ⟨d,.binOp .sub t x y t',ty,pos,af,g⟩ (.int .i64 (m-m')):=by
 have:=y_sub (P:=P) (n:=n) (w0:=w0) (H:=H) (d:=d) (ty:=ty) (pos:=pos) (af:=af) (g:=g) (t:=t) (t':=t') hx hy
 rwa [wrap_in h] at this
theorem y_mul64 (h : -9223372036854775808≤m*m'∧m*m'≤9223372036854775807):V P n L w0 H ⟨d,.binOp .mul t x y t',ty,pos,af,g⟩ (.int .i64 (m*m')):=by
 have:=y_mul (P:=P) (n:=n) (w0:=w0) (H:=H) (d:=d) (ty:=ty) (pos:=pos) (af:=af) (g:=g) (t:=t) (t':=t') hx hy
 rwa [wrap_in h] at this
theorem y_quo64 (h:0≤m∧m≤9223372036854775807∧0<m'):V P n L w0 H ⟨d,.binOp .quo t x y t',ty,pos,af,g⟩ (.int .i64 (m/m')):=by
 have:=y_quo (P:=P) (n:=n) (w0:=w0) (H:=H) (d:=d) (ty:=ty) (pos:=pos) (af:=af) (g:=g) (t:=t) (t':=t') hx hy (by omega)
 have h1:m.tdiv m'=m/m':=Int.tdiv_eq_ediv_of_nonneg h.1
 have h2:0≤m/m':=Int.ediv_nonneg h.1 (by omega)
 have h3:m/m'≤m:=Int.ediv_le_self _ h.1
 rwa [h1,wrap_in ⟨by omega,by omega⟩] at this
theorem y_rem64 (h:0≤m∧0<m'):V P n L w0 H ⟨d,.binOp .rem t x y t',ty,pos,af,g⟩ (.int .i64 (m%m')):=by
 have:=y_rem (P:=P) (n:=n) (w0:=w0) (H:=H) (d:=d) (ty:=ty) (pos:=pos) (af:=af) (g:=g) (t:=t) (t':=t') hx hy (by omega)
 rwa [Int.tmod_eq_emod_of_nonneg h.1] at this
end
theorem y_neg64 (hx:evO L x=some (.int .i64 m)) (h : -9223372036854775807≤m∧m≤9223372036854775807):V P n L w0 H ⟨d,.unOp .neg t x,ty,pos,af,g⟩ (.int .i64 (-m)):=by
 have:=y_neg (P:=P) (n:=n) (w0:=w0) (H:=H) (d:=d) (ty:=ty) (pos:=pos) (af:=af) (g:=g) (t:=t) hx
 rw[wrap_in ⟨by omega,by omega⟩] at this
 rwa [Int.zero_sub] at this
end
/-! ### More operations -/
section
variable {P:Program} {n:Nat} {L:FL} {w0:World} {H:List Hl} {v:Value} {d:Option Tmp} {ty:TypeId} {pos:String} {af:Array Edge} {g:Option (Nat×Bool)} {x y:Operand} {k k':IntKind} {m m' r:Int} {t t':TypeId}
def arrayB (P:Program) (t:TypeId) (len:Nat):Bool:=match P.underlying t with
 |some (.array l e)=>l==len&&scalarB P e
 |_=>false
theorem y_index {cs:List Value} {i:Nat} (hx:evO L x=some (.agg cs.toArray)) (hy:evO L y=some (.int k m)) (hi:m=(i:Int)) {l:Nat} (hv:cs[i]?=some v) (hl:LenIs cs l) (ha:arrayB P t l=true) :
  V P n L w0 H ⟨d,.index t x y,ty,pos,af,g⟩ v:=fun a w hfr _=>by
 have hlt:=(List.getElem?_eq_some_iff.1 hv).1
 rw[←hl.eq] at ha
 unfold arrayB at ha
 cases hu:P.underlying t with
 |none=>simp[hu] at ha
 |some dsc =>
  cases dsc<;>simp[hu] at ha
  rename_i l e
  obtain⟨rfl,hs⟩:=ha
  subst hi
  simp[execOp,hfr.eval hx,hfr.eval hy,Instr.index,asIntOf,run_underlying hu,hlt,part,run_isAgg_false hs,run_sizeOf_of (info_of_scalarB hs)]
  have h2:cs[i]?=some v:=hv
  rw[List.getElem?_eq_getElem hlt] at h2
  injection h2
theorem y_conv (ht:P.underlying t'=some (.int k')) (hs:(P.underlying t).isSome=true) (hx:evO L x=some (.int k m)) (hw:k'.wrap m=r) :
  V P n L w0 H ⟨d,.convert t t' x,ty,pos,af,g⟩ (.int k' r):=fun a w ha _=>by
 obtain⟨dsc,hd⟩:=Option.isSome_iff_exists.1 hs
 simp[execOp,ha.eval hx,convert,run_underlying hd,run_underlying ht,Conv.intToInt,hw]
theorem y_shr {c:Int} {q:Int} (hx:evO L x=some (.int k m)) (hy:evO L y=some (.int k' c)) (hc:0≤c) (hq:(2:Int)^(min c.toNat k.bits)=q) :
  V P n L w0 H ⟨d,.binOp .shr t x y t',ty,pos,af,g⟩ (.int k (m/q)):=fun a w ha _=>by
 have hn:¬c<0:=by omega
 have h2:m.fdiv q=m/q:=Int.fdiv_eq_ediv_of_nonneg m (by rw[←hq];exact Int.le_of_lt (Int.pow_pos (by omega)))
 simp[execOp,ha.eval hx,ha.eval hy,eqGuard,binOp,Op.shift,hn,hq,h2]
theorem y_shl {c:Int} {q:Int} (hx:evO L x=some (.int k m)) (hy:evO L y=some (.int k' c)) (hc:0≤c) (hq:(2:Int)^(min c.toNat k.bits)=q) (hw:k.wrap (m*q)=r) :
  V P n L w0 H ⟨d,.binOp .shl t x y t',ty,pos,af,g⟩ (.int k r):=fun a w ha _=>by
 have hn:¬c<0:=by omega
 simp[execOp,ha.eval hx,ha.eval hy,eqGuard,binOp,Op.shift,hn,hq,hw]
section
variable (hx:evO L x=some (.int k m)) (hy:evO L y=some (.int k' m'))
include hx hy
theorem y_shlV (hc:0≤m'):V P n L w0 H ⟨d,.binOp .shl t x y t',ty,pos,af,g⟩ (.int k (k.wrap (m*2^(min m'.toNat k.bits)))):=fun a w ha _=>by
 have hn:¬m'<0:=by omega
 simp[execOp,ha.eval hx,ha.eval hy,eqGuard,binOp,Op.shift,hn]
theorem y_shrV (hc:0≤m'):V P n L w0 H ⟨d,.binOp .shr t x y t',ty,pos,af,g⟩ (.int k (m/2^(min m'.toNat k.bits))):=fun a w ha _=>by
 have hn:¬m'<0:=by omega
 have h2:m.fdiv (2^(min m'.toNat k.bits))=m/2^(min m'.toNat k.bits):=Int.fdiv_eq_ediv_of_nonneg m (Int.le_of_lt (Int.pow_pos (by omega)))
 simp[execOp,ha.eval hx,ha.eval hy,eqGuard,binOp,Op.shift,hn,h2]
end
/-! uint64, where the result fits -/
theorem wrapU {n:Int} (h:0≤n∧n≤18446744073709551615):IntKind.u64.wrap n=n:=IntWalk.u64_in n h
section
variable (hx:evO L x=some (.int .u64 m)) (hy:evO L y=some (.int .u64 m'))
include hx hy
theorem y_addU (h:0≤m+m'∧m+m'≤18446744073709551615):V P n L w0 H ⟨d,.binOp .add t x y t',ty,pos,af,g⟩ (.int .u64 (m+m')):=by
 have:=y_add (P:=P) (n:=n) (w0:=w0) (H:=H) (d:=d) (ty:=ty) (pos:=pos) (af:=af) (g:=g) (t:=t) (t':=t') hx hy
 rwa [wrapU h] at this
theorem y_subU (h:0≤m-m'∧m-m'≤18446744073709551615):V P n L w0 H ⟨d,.binOp .sub t x y t',ty,pos,af,g⟩ (.int .u64 (m-m')):=by
 have:=y_sub (P:=P) (n:=n) (w0:=w0) (H:=H) (d:=d) (ty:=ty) (pos:=pos) (af:=af) (g:=g) (t:=t) (t':=t') hx hy
 rwa [wrapU h] at this
theorem y_mulU (h:0≤m*m'∧m*m'≤18446744073709551615):V P n L w0 H ⟨d,.binOp .mul t x y t',ty,pos,af,g⟩ (.int .u64 (m*m')):=by
 have:=y_mul (P:=P) (n:=n) (w0:=w0) (H:=H) (d:=d) (ty:=ty) (pos:=pos) (af:=af) (g:=g) (t:=t) (t':=t') hx hy
 rwa [wrapU h] at this
theorem y_quoU (h:0≤m∧m≤18446744073709551615∧0<m'):V P n L w0 H ⟨d,.binOp .quo t x y t',ty,pos,af,g⟩ (.int .u64 (m/m')):=by
 have:=y_quo (P:=P) (n:=n) (w0:=w0) (H:=H) (d:=d) (ty:=ty) (pos:=pos) (af:=af) (g:=g) (t:=t) (t':=t') hx hy (by omega)
 have h1:m.tdiv m'=m/m':=Int.tdiv_eq_ediv_of_nonneg h.1
 have h2:0≤m/m':=Int.ediv_nonneg h.1 (by omega)
 have h3:m/m'≤m:=Int.ediv_le_self _ h.1
 rwa [h1,wrapU ⟨by omega,by omega⟩] at this
theorem y_remU (h:0≤m∧0<m'):V P n L w0 H ⟨d,.binOp .rem t x y t',ty,pos,af,g⟩ (.int .u64 (m%m')):=by
 have:=y_rem (P:=P) (n:=n) (w0:=w0) (H:=H) (d:=d) (ty:=ty) (pos:=pos) (af:=af) (g:=g) (t:=t) (t':=t') hx hy (by omega)
 rwa [Int.tmod_eq_emod_of_nonneg h.1] at this
end
theorem y_band (hx:evO L x=some (.int k m)) (hy:evO L y=some (.int k m')):V P n L w0 H ⟨d,.binOp .and t x y t',ty,pos,af,g⟩ (.int k (bits .and k m m')):=fun a w ha _=>by
 simp[execOp,ha.eval hx,ha.eval hy,eqGuard,binOp,intBits_and]
theorem y_bor (hx:evO L x=some (.int k m)) (hy:evO L y=some (.int k m')):V P n L w0 H ⟨d,.binOp .or t x y t',ty,pos,af,g⟩ (.int k (bits .or k m m')):=fun a w ha _=>by
 simp[execOp,ha.eval hx,ha.eval hy,eqGuard,binOp,intBits_or]
theorem y_mask32 (hx:evO L x=some (.int .u64 m)) (hy:evO L y=some (.int .u64 4294967295)) (h:0≤m∧m≤18446744073709551615):V P n L w0 H ⟨d,.binOp .and t x y t',ty,pos,af,g⟩ (.int .u64 (m%4294967296)):=by
 have:=y_band (P:=P) (n:=n) (w0:=w0) (H:=H) (d:=d) (ty:=ty) (pos:=pos) (af:=af) (g:=g) (t:=t) (t':=t') hx hy
 have e:bits .and .u64 m 4294967295=m%4294967296:=by
  have h1:=bits_and_u64_nat m.toNat 4294967295 (by omega) (by omega)
  have h2:m.toNat &&& 4294967295=m.toNat%4294967296:=Nat.and_two_pow_sub_one_eq_mod m.toNat 32
  rw[h2] at h1
  have h3:(m.toNat:Int)=m:=by omega
  rw[h3] at h1
  rw[show (4294967295:Int)=((4294967295:Nat):Int) from rfl,h1];omega
 rwa [e] at this
def ContIn (P:Program) (C:World→Prop) (f:FuncId) (args:List Value) (v:Value):Prop :=
 ∀w,C w→Calls P f args.toArray w fun e w'=>e=.returned v∧Below w.heap.size w w'
theorem zcI {C:World→Prop} {f:FuncId} {xs:List Operand} {vs:List Value} {tys:Array TypeId} (hc:ContIn P C f vs v) (hC:∀w,St w0 H w→C w) (ha:AE L xs vs) (hg:isGo P f=true) :
  Y P n L w0 H ⟨d,.call { callee:=.value (.func f),args:=xs.toArray,argTypes:=tys },ty,pos,af,g⟩ v:=fun a w hfr hw=>by
 have e:(execOp a.eval ⟨d,.call { callee:=.value (.func f),args:=xs.toArray,argTypes:=tys },ty,pos,af,g⟩).run P w=.ok (.enter f vs.toArray) w:=by
  rw[show execOp a.eval ⟨d,.call { callee:=.value (.func f),args:=xs.toArray,argTypes:=tys },ty,pos,af,g⟩=callFunc f (#[]++xs.toArray.map a.eval++#[]) from rfl]
  have:=ha.map hfr
  simp[this,run_isGo hg]
 unfold Oper.quietAt
 rw[e]
 exact⟨rfl,hc w (hC w hw)⟩
theorem y_callV {C:World→Prop} {f:FuncId} {cap:Array Value} {fv:Operand} {xs:List Operand} {vs:List Value} {tys:Array TypeId} (hf:evO L fv=some (.func (.func f) #[] cap)) (hc:ContIn P C f (vs++cap.toList) v) (hC:∀w,St w0 H w→C w)
  (ha:AE L xs vs) (hg:isGo P f=true):Y P n L w0 H ⟨d,.call { callee:=.value fv,args:=xs.toArray,argTypes:=tys },ty,pos,af,g⟩ v:=fun a w hfr hw=>by
 have e:(execOp a.eval ⟨d,.call { callee:=.value fv,args:=xs.toArray,argTypes:=tys },ty,pos,af,g⟩).run P w=.ok (.enter f (vs++cap.toList).toArray) w:=by
  have h1:=ha.map hfr
  simp[execOp,resolve,hfr.eval hf,Deferred.ofValue,invoke,h1,run_isGo hg]
 unfold Oper.quietAt
 rw[e]
 exact⟨rfl,hc w (hC w hw)⟩
/-! structs compared -/
def vEq:Value→Value→Bool
 |.int _ a,.int _ b=>decide (a=b)
 |.bool a,.bool b=>a==b
 |.string a,.string b=>decide (a.data.toList=b.data.toList)
 |_,_=>false
inductive Kd where
 |int (k:IntKind)
 |bool
 |string
inductive KdsAre:List Value→List Kd→Prop where
 |nil:KdsAre [] []
 |int (k:IntKind) (a:Int) {r:List Value} {ks:List Kd} (h:KdsAre r ks):KdsAre (.int k a::r) (.int k::ks)
 |bool (a:Bool) {r:List Value} {ks:List Kd} (h:KdsAre r ks):KdsAre (.bool a::r) (.bool::ks)
 |string (a:ByteArray) {r:List Value} {ks:List Kd} (h:KdsAre r ks):KdsAre (.string a::r) (.string::ks)
def likeB (P:Program) (t:TypeId):Kd→Bool
 |.int _=>match P.underlying t with|some (.int _)=>true|_=>false
 |.bool=>match P.underlying t with|some .bool=>true|_=>false
 |.string=>match P.underlying t with|some .string=>true|_=>false
def eqCells:List Value→List Value→Bool
 |[],_=>true
 |_::_,[]=>true
 |[a],[b]=>vEq a b
 |a::r,b::s=>vEq a b&&eqCells r s
def flatFrom (P:Program):Nat→List Field→List Kd→Bool
 |_,[],[]=>true
 |i,f::fs,k::r=>f.name != "_"&&f.offset==i&&scalarB P f.type&&likeB P f.type k&&flatFrom P (i+1) fs r
 |_,_,_=>false
def flatB (P:Program) (t:TypeId) (ks:List Kd):Bool:=match P.underlying t with
 |some (.struct fs)=>!P.stoodInHeld t&&!P.eqGuardType P.depth t&&flatFrom P 0 fs.toList ks
 |_=>false
theorem run_equalIn_like {w:World} {dd:Nat} {a b:Value} {k:Kd} {r s:List Value} {ks:List Kd} (h:likeB P t k=true) (h1:KdsAre (a::r) (k::ks)) (h2:KdsAre (b::s) (k::ks)) :
  (Op.equalIn (dd+1) t a b).run P w=.ok (vEq a b) w∧KdsAre r ks∧KdsAre s ks:=by
 cases h1 with
 |int k a h1 =>
  cases h2 with
  |int _ b h2 =>
   refine⟨?_,h1,h2⟩
   simp only[likeB] at h
   split at h<;>simp at h
   rename_i hu
   rw[run_equalIn_int w dd t _ _ _ _ hu];rfl
 |bool a h1 =>
  cases h2 with
  |bool b h2 =>
   refine⟨?_,h1,h2⟩
   simp only[likeB] at h
   split at h<;>simp at h
   rename_i hu
   rw[run_equalIn_bool' w dd t _ _ hu];rfl
 |string p h1 =>
  cases h2 with
  |string q h2 =>
   refine⟨?_,h1,h2⟩
   simp only[likeB] at h
   split at h<;>simp at h
   rename_i hu
   rw[run_equalIn_string w dd t p q hu]
   have e:(p.toList==q.toList)=decide (p.data.toList=q.data.toList):=by
    rw[ByteArray.toList_eq,ByteArray.toList_eq,Bool.eq_iff_iff]
    simp only[beq_iff_eq,decide_eq_true_eq]
   simp only[vEq,e]
theorem run_eqFields_flat {w:World} {dd:Nat} : ∀(fs:List Field) (i:Nat) (as bs r s:List Value) (ks:List Kd),as.length=i→bs.length=i→flatFrom P i fs ks=true→KdsAre r ks→KdsAre s ks →
  (Op.eqFields (dd+1) (as++r).toArray (bs++s).toArray fs).run P w=.ok (eqCells r s) w
 |[],i,as,bs,r,s,ks,_,_,h,hr,hs=>by
  cases ks<;>simp[flatFrom] at h
  cases hr;cases hs
  simp[Op.eqFields,eqCells]
 |f::fs,i,as,bs,r,s,ks,ha,hb,h,hr,hs=>by
  cases ks with
  |nil=>simp[flatFrom] at h
  |cons k ks =>
   have hne:∃a r',r=a::r':=by cases hr<;>exact⟨_,_,rfl⟩
   have hne2:∃b s',s=b::s':=by cases hs<;>exact⟨_,_,rfl⟩
   obtain⟨a,r,rfl⟩:=hne
   obtain⟨b,s,rfl⟩:=hne2
   simp only[flatFrom,Bool.and_eq_true,bne_iff_ne,ne_eq,beq_iff_eq] at h
   obtain⟨⟨⟨⟨h1,h2⟩,h3⟩,h4⟩,h5⟩:=h
   obtain⟨e3,hr',hs'⟩:=run_equalIn_like (P:=P) (w:=w) (dd:=dd) h4 hr hs
   have ih:=run_eqFields_flat (w:=w) (dd:=dd) fs (i+1) (as++[a]) (bs++[b]) r s ks (by simp[ha]) (by simp[hb]) h5 hr' hs'
   simp only[List.append_assoc,List.singleton_append] at ih
   have e1:(part f.type (as++a::r).toArray f.offset).run P w=.ok a w:=by
    simp[part,run_isAgg_false h3,h2,←ha]
   have e2:(part f.type (bs++b::s).toArray f.offset).run P w=.ok b w:=by
    simp[part,run_isAgg_false h3,h2,←hb]
   have hc:eqCells (a::r) (b::s)=(vEq a b&&eqCells r s):=by
    cases hr'<;>cases hs'<;>simp[eqCells]
   simp only[Op.eqFields,ne_eq,h1,not_false_eq_true,if_true,Sem.run_bind,e1,e2,e3,Result.andThen_ok,hc]
   cases hv:vEq a b with
   |true=>simp only[Bool.not_true,Bool.false_eq_true,if_false,ih,Bool.true_and]
   |false=>simp only[Bool.not_false,if_true,Sem.run_pure,Bool.false_and]
theorem run_equalIn_flat {w:World} {xs ys:List Value} {ks:List Kd} (h:flatB P t ks=true) (k1:KdsAre xs ks) (k2:KdsAre ys ks):(Op.equalIn 10000 t (.agg xs.toArray) (.agg ys.toArray)).run P w=.ok (eqCells xs ys) w∧P.eqGuardType P.depth t=false:=by
 unfold flatB at h
 cases hu:P.underlying t with
 |none=>simp[hu] at h
 |some dsc =>
  cases dsc<;>simp[hu] at h
  rename_i fs
  obtain⟨⟨h1,h2⟩,h3⟩:=h
  have hf:P.fieldsOf t=fs:=by simp[Program.fieldsOf,hu]
  have:=run_eqFields_flat (P:=P) (w:=w) (dd:=9998) fs.toList 0 [] [] xs ys ks rfl rfl h3 k1 k2
  simp only[List.nil_append] at this
  rw[run_equalIn_agg w 9999 t xs.toArray ys.toArray (by rw[hf];exact hu) h1,hf]
  exact⟨this,h2⟩
theorem y_eqlS {xs ys:List Value} {ks:List Kd} (hx:evO L x=some (.agg xs.toArray)) (hy:evO L y=some (.agg ys.toArray)) (k1:KdsAre xs ks) (k2:KdsAre ys ks) (h:flatB P t ks=true) :
  V P n L w0 H ⟨d,.binOp .eql t x y t',ty,pos,af,g⟩ (.bool (eqCells xs ys)):=fun a w ha _=>by
 obtain⟨h1,h2⟩:=run_equalIn_flat (w:=w) h k1 k2
 have h3:=run_eqGuard_agg (P:=P) w .eql t x y xs.toArray ys.toArray h2
 have h4:=run_eql_struct (P:=P) w t xs.toArray ys.toArray
 rw[h1] at h4
 simp only[Result.andThen_ok] at h4
 simp[execOp,ha.eval hx,ha.eval hy,h3,h4]
theorem y_neqS {xs ys:List Value} {ks:List Kd} (hx:evO L x=some (.agg xs.toArray)) (hy:evO L y=some (.agg ys.toArray)) (k1:KdsAre xs ks) (k2:KdsAre ys ks) (h:flatB P t ks=true) :
  V P n L w0 H ⟨d,.binOp .neq t x y t',ty,pos,af,g⟩ (.bool (!eqCells xs ys)):=fun a w ha _=>by
 obtain⟨h1,h2⟩:=run_equalIn_flat (w:=w) h k1 k2
 have h3:=run_eqGuard_agg (P:=P) w .neq t x y xs.toArray ys.toArray h2
 have h4:=run_neq_struct (P:=P) w t xs.toArray ys.toArray
 rw[h1] at h4
 simp only[Result.andThen_ok] at h4
 simp[execOp,ha.eval hx,ha.eval hy,h3,h4]
theorem y_loadX {a0:Addr} (hx:evO L x=some (.pointer (some a0))) (h0:w0.cell? a0=some v) (hs:scalarB P t=true):V P n L w0 H ⟨d,.load t x,ty,pos,af,g⟩ v:=fun a w ha hw=>by
 have hc:w.cell? a0=some v:=(hw.ext.cell (World.block_lt_of_cell? w0 a0 h0)).trans h0
 simp[execOp,ha.eval hx,Instr.loadAt,Instr.sureAddr,loadVar,run_isAgg_false hs,hc]
theorem ret_int {k:IntKind} {a b:Int} (h:a=b):Ending.returned (.int k a)=.returned (.int k b):=by rw[h]
theorem ret_bool {a b:Bool} (h:a=b):Ending.returned (.bool a)=.returned (.bool b):=by rw[h]
end
/-! ### Code -/
section
variable {P:Program} {Q:Exit→Act→World→Prop} {n:Nat} {L:FL} {w0:World} {H:List Hl}
def G (P:Program) (Q:Exit→Act→World→Prop) (n:Nat) (L:FL) (w0:World) (H:List Hl) (c:Code):Prop :=
 ∀a w,Fr n L a→St w0 H w→c.wp P Q a w
def X (Q:Exit→Act→World→Prop) (n:Nat) (L:FL) (w0:World) (H:List Hl) (e:Exit):Prop :=
 ∀a w,Fr n L a→St w0 H w→Q e a w
theorem G.seq {x y:Code} (h:G P (Exit.then (fun a w=>y.wp P Q a w) Q) n L w0 H x):G P Q n L w0 H (.seq x y):=fun a w ha hw=>wp_seq (h a w ha hw)
theorem G.cond {x y:Code} {c:Operand} {b:Bool} (hc:evO L c=some (.bool b)) (h1:b=true→G P Q n L w0 H x) (h2:b=false→G P Q n L w0 H y):G P Q n L w0 H (.cond c x y):=fun a w ha hw =>
 wp_cond_split (ha.eval hc) (fun e=>h1 e a w ha hw) (fun e=>h2 e a w ha hw)
theorem G.block {id:Nat} {c:Code} (h:G P (Exit.inBlock id Q) n L w0 H c):G P Q n L w0 H (.block id c):=fun a w ha hw=>wp_block (h a w ha hw)
theorem G.skip (h:X Q n L w0 H .normal):G P Q n L w0 H .skip:=fun a w ha hw=>wp_skip (h a w ha hw)
theorem G.exit {id:Nat} (h:X Q n L w0 H (.exit id)):G P Q n L w0 H (.exit id):=fun a w ha hw=>wp_exit (h a w ha hw)
theorem G.ret (h:X Q n L w0 H .ret):G P Q n L w0 H .ret:=fun a w ha hw=>wp_ret (h a w ha hw)
theorem G.region {id:Nat} {l:List Oper} (h:RS P l.toArray Q n L w0 H l):G P Q n L w0 H (.region id l.toArray false):=fun a w ha hw=>wp_region_lit (h a w ha hw)
theorem G.mixed {id:Nat} {l:List Oper} (ord:List Mv) (HS:List Hl) (h:RM P l.toArray Q HS n [] L w0 H ord) (hm:P.follows .mixedOrders=true) (hB:regionB l ord=true):G P Q n L w0 H (.region id l.toArray true):=fun a w ha hw=>by
 simp only[regionB,Bool.and_eq_true] at hB
 refine wp_region_mix (S:=St w0 HS) hm (h ⟨fun _ h=>(by cases h),List.nodup_nil,fun _ h=>(by cases h)⟩ _ hB.2 hB.1 _ a w.drew _ ?_ ⟨ha,hw.drew,rfl⟩)
 refine Nat.le_trans (List.length_filter_le _ _) ?_
 simp
theorem G.mA (id:Nat) (ord:List Mv) {l:List Oper} (h:RM P l.toArray Q H n [] L w0 H ord) (hm:P.follows .mixedOrders=true:=by decide +kernel) (hB:regionB l ord=true:=by decide +kernel):G P Q n L w0 H (.region id l.toArray true):=G.mixed ord H h hm hB
def maskH:List Bool→List Hl→List Hl
 |true::m,h::r=>h::maskH m r
 |false::m,_::r=>maskH m r
 |[],r=>r
 |_,[]=>[]
theorem G.mixedM (id:Nat) (ord:List Mv) (m:List Bool) {l:List Oper} (h:RM P l.toArray Q (maskH m H) n [] L w0 H ord) (hm:P.follows .mixedOrders=true:=by decide +kernel) (hB:regionB l ord=true:=by decide +kernel):G P Q n L w0 H (.region id l.toArray true):=G.mixed ord (maskH m H) h hm hB
theorem RS.finish {ops:Array Oper} (h:X Q n L w0 H .normal):RS P ops Q n L w0 H []:=RS.done h
theorem RM.finish {ops:Array Oper} {HS:List Hl} (h:X Q n L w0 H .normal):RM P ops Q HS n [] L w0 H []:=RM.done h
theorem X.then_normal {y:Code} (h:G P Q n L w0 H y):X (Exit.then (fun a w=>y.wp P Q a w) Q) n L w0 H .normal:=h
theorem X.then_ret {K:Act→World→Prop} (h:X Q n L w0 H .ret):X (Exit.then K Q) n L w0 H .ret:=h
theorem X.then_exit {K:Act→World→Prop} {i:Nat} (h:X Q n L w0 H (.exit i)):X (Exit.then K Q) n L w0 H (.exit i):=h
theorem X.block_normal {id:Nat} (h:X Q n L w0 H .normal):X (Exit.inBlock id Q) n L w0 H .normal:=h
theorem X.block_ret {id:Nat} (h:X Q n L w0 H .ret):X (Exit.inBlock id Q) n L w0 H .ret:=h
theorem X.block_out {id:Nat} (h:X Q n L w0 H .normal):X (Exit.inBlock id Q) n L w0 H (.exit id):=fun a w ha hw=>by simp only[Exit.inBlock,if_true];exact h a w ha hw
theorem X.block_exit {id i:Nat} (hne:Nat.beq i id=false) (h:X Q n L w0 H (.exit i)):X (Exit.inBlock id Q) n L w0 H (.exit i):=fun a w ha hw=>by
 have:i≠id:=fun e=>by subst e;simp at hne
 simp only[Exit.inBlock,this,if_false]
 exact h a w ha hw
theorem least (p:Nat→Prop) (h:∃n,p n):∃n,p n∧∀k,p k→n≤k:=by
 obtain⟨n,hn⟩:=h
 induction n using Nat.strongRecOn with
 |_ n ih =>
  by_cases hk:∃k,k<n∧p k
  ·obtain⟨k,hlt,hpk⟩:=hk
   exact ih k hlt hpk
  ·exact⟨n,hn,fun k hpk=>Nat.le_of_not_lt fun hlt=>hk ⟨k,hlt,hpk⟩⟩
theorem G.loop {ι:Type} {c:Code} (Lx:ι→FL) (Hx:ι→List Hl) (pre:ι→Prop) (μ:ι→Nat) (x0:ι) (h0:pre x0) (hL:Sub L (Lx x0)) (hH:∀w,St w0 H w→St w0 (Hx x0) w)
  (round:∀x mx,pre x→μ x=mx→G P (Exit.then (fun a w=>∃x',pre x'∧μ x'<mx∧Fr n (Lx x') a∧St w0 (Hx x') w) Q) n (Lx x) w0 (Hx x) c):G P Q n L w0 H (.loop c):=fun a w ha hw=>by
 classical
 let J (x:ι) (a:Act) (w:World):Prop:=pre x∧Fr n (Lx x) a∧St w0 (Hx x) w
 let p (a:Act) (w:World) (m:Nat):Prop:=∃x,J x a w∧μ x=m
 have hmin:∀a w,(∃m,p a w m)→∃m,p a w m∧∀k,p a w k→m≤k:=fun a w=>least (p a w)
 refine wp_loop (fun a w=>∃m,p a w m) (fun a w=>if h:∃m,p a w m then Classical.choose (hmin a w h) else 0) ⟨_,x0,⟨h0,ha.weaken hL.spec,hH w hw⟩,rfl⟩ fun a w hI=>?_
 have hs:=Classical.choose_spec (hmin a w hI)
 generalize hm:Classical.choose (hmin a w hI)=m at hs
 obtain⟨⟨x,hx,hxm⟩,_⟩:=hs
 refine Code.wp_mono (fun e a' w' hq=>?_) (round x (μ x) hx.1 rfl a w hx.2.1 hx.2.2)
 cases e<;>first|exact hq|skip
 obtain⟨x',hp,hlt,h1,h2⟩:=hq
 have hI':∃m,p a' w' m:=⟨_,x',⟨hp,h1,h2⟩,rfl⟩
 refine⟨hI',?_⟩
 rw[dif_pos hI',dif_pos hI,hm]
 have:=(Classical.choose_spec (hmin a' w' hI')).2 _ ⟨x',⟨hp,h1,h2⟩,rfl⟩
 omega
theorem X.again {ι:Type} {Lx:ι→FL} {Hx:ι→List Hl} {pre:ι→Prop} {μ:ι→Nat} {mx:Nat} (x':ι) (hp:pre x') (hμ:μ x'<mx) (hL:Sub L (Lx x')) (hH:∀w,St w0 H w→St w0 (Hx x') w) :
  X (Exit.then (fun a w=>∃x',pre x'∧μ x'<mx∧Fr n (Lx x') a∧St w0 (Hx x') w) Q) n L w0 H .normal:=fun _ w ha hw =>
 ⟨x',hp,hμ,ha.weaken hL.spec,hH w hw⟩
theorem G.mid (L1:FL) (H1:List Hl) {id:Nat} {c y:Code} (h1:G P (Exit.inBlock id (Exit.then (fun a w=>Fr n L1 a∧St w0 H1 w) Q)) n L w0 H c) (h2:G P Q n L1 w0 H1 y):G P (Exit.inBlock id (Exit.then (fun a w=>y.wp P Q a w) Q)) n L w0 H c:=fun a w ha hw=>by
 refine Code.wp_mono (fun e a' w' he=>?_) (h1 a w ha hw)
 cases e with
 |normal=>exact h2 a' w' he.1 he.2
 |exit i =>
  simp only[Exit.inBlock] at he ⊢
  split at he
  ·rename_i h;rw[if_pos h];exact h2 a' w' he.1 he.2
  ·rename_i h;rw[if_neg h];exact he
 |ret=>exact he
 |panic c=>exact he
 |goto l=>exact he
 |outgrown=>exact he
theorem X.mid {L1:FL} {H1:List Hl} (hL:Sub L L1) (hH:∀w,St w0 H w→St w0 H1 w):X (Exit.then (fun a w=>Fr n L1 a∧St w0 H1 w) Q) n L w0 H .normal:=fun _ w ha hw=>⟨ha.weaken hL.spec,hH w hw⟩
def RV (P:Program) (L:FL) (H:List Hl):List ResultVar→List Value→Prop
 |[],vs=>vs=[]
 |r::rs,vs=>match vs with
  |[]=>False
  |v::vs=>(match r with
   |.tmp t=>lk L t=some v
   |.cell a t=>∃b t' cs k,lk L a=some (.pointer (some ⟨b,0,none⟩))∧Hl.blk b t' cs∈H∧LenIs cs k∧rowB P t k=true∧v=.agg cs.toArray)∧RV P L H rs vs
def resOf (tmps:Array Value):ResultVar→Sem Value
 |.tmp t=>pure (tmps.getD t undef)
 |.cell a t=>do loadVar t (←asAddr (tmps.getD a undef))
theorem run_RV {L:FL} {H:List Hl} {a:Act} {w:World} (ha:Fr n L a) (hw:St w0 H w):∀{rs:List ResultVar} {vs:List Value},RV P L H rs vs →
  (rs.mapM (resOf a.tmps)).run P w=.ok vs w
 |[],vs,h=>by cases (show vs=[] from h);simp
 |r::rs,vs,h=>by
  cases vs with
  |nil=>exact h.elim
  |cons v vs =>
   obtain⟨h1,h2⟩:=h
   have ih:=run_RV ha hw h2
   have h0:(resOf a.tmps r).run P w=.ok v w:=by
    cases r with
    |tmp t=>simp only[resOf,ha.at_ t v h1,Sem.run_pure]
    |cell c t =>
     obtain⟨b,t',cs,k,h3,h4,hl,h5,rfl⟩:=h1
     rw[←hl.eq] at h5
     have hl:=run_loadCells_list (P:=P) w ⟨b,0,none⟩ cs (fun j u hu=>by
      have e:(⟨b,0,none⟩:Addr).add j=⟨b,j,none⟩:=by unfold Addr.add;split<;>simp_all
      rw[e]
      exact(hw.cell h4 j).trans hu)
     simp only[resOf,ha.at_ c _ h3]
     simp[asAddr,loadVar,run_isAgg_true h5,run_sizeOf_of (info_of_rowB h5),hl]
   simp[h0,ih]
theorem X.ret {fn:Func} {R:Ending→World→Prop} {rs:List ResultVar} {vs:List Value} {v:Value} (hf:fn.results=rs.toArray) (hr:RV P L H rs vs) (hv:(match vs with|[v]=>v|_=>.tuple vs.toArray)=v)
  (h:∀w,St w0 H w→R (.returned v) w):X (bodyPost P fn R) n L w0 H .ret:=fun a w ha hw=>by
 refine⟨ha.defs,v,?_,h w hw⟩
 have h1:=run_RV ha hw hr
 have h2:(rs.toArray.mapM (resOf a.tmps)).run P w=.ok vs.toArray w:=by
  rw[List.mapM_toArray]
  simp[h1]
 have h3:results fn a.tmps=(do let vs ←fn.results.mapM (resOf a.tmps);pure (if h:vs.size=1 then vs[0] else .tuple vs)):=rfl
 rw[h3,hf]
 subst hv
 simp only[Sem.run_bind,h2,Result.andThen_ok,Sem.run_pure]
 match vs with
 |[]=>rfl
 |[u]=>rfl
 |u::u'::r=>simp
def argsL:Nat→List Value→FL
 |_,[]=>[]
 |i,v::r=>(i,v)::argsL (i+1) r
theorem lk_argsL:∀(vs:List Value) (k i:Nat) (v:Value),lk (argsL k vs) i=some v→k≤i∧vs[i-k]?=some v
 |[],_,_,_,h=>by simp[argsL,lk] at h
 |u::r,k,i,v,h=>by
  by_cases e:k=i
  ·subst e
   rw[argsL,lk_cons_eq] at h
   simpa using h
  ·rw[argsL,lk_cons_ne _ _ e] at h
   have:=lk_argsL r (k+1) i v h
   refine⟨by omega,?_⟩
   rw[show i-k=(i-(k+1))+1 by omega]
   simpa using this.2
theorem enter {f:FuncId} {fn:Func} {c:Code} {vs:List Value} {w:World} {R:Ending→World→Prop} (hf:P.funcs[f]?=some fn) (hb:fn.body=some c) (hn:fn.ntmps=n) (hl:Nat.ble vs.length n=true) {Hp:List Hl} (hH:∀h∈Hp,h.holds w.heap.size w∧h.excl=false)
  (h:G P (bodyPost P fn R) n (argsL 0 vs) w Hp c):Calls P f vs.toArray w R:=by
 refine calls_of_wp hf hb (h _ _ ⟨?_,rfl,fun i v hi=>?_⟩ (St.start w hH))
 ·have:=Nat.le_of_ble_eq_true hl
  simp[hn];omega
 ·have:=(lk_argsL vs 0 i v hi).2
  have hlt:=(List.getElem?_eq_some_iff.1 this).1
  simp at this
  have hlt':i<vs.length:=by omega
  have h2:=(List.getElem?_eq_some_iff.1 this).2
  simpa [Array.getElem?_append,hlt'] using h2
theorem enter0 {f:FuncId} {fn:Func} {c:Code} {vs:List Value} {w:World} {R:Ending→World→Prop} (hf:P.funcs[f]?=some fn) (hb:fn.body=some c) (hn:fn.ntmps=n) (hl:Nat.ble vs.length n=true)
  (h:G P (bodyPost P fn R) n (argsL 0 vs) w [] c):Calls P f vs.toArray w R:=enter hf hb hn hl (Hp:=[]) (fun _ h=>by cases h) h
end
/-! ### Slices: what they read as, their elements -/
theorem add_add (a:Addr) (x y:Nat):(a.add x).add y=a.add (x+y):=by
 unfold Addr.add
 by_cases hx:x=0
 ·simp[hx]
 ·by_cases hy:y=0
  ·simp[hx,hy]
  ·simp[hx,hy,Nat.add_assoc]
def cutV (v:Value) (s i j:Nat):Value:=match v with
 |.slice A _ c=>sliced A i j c s
 |_=>undef
def elA (v:Value) (s:Nat) (m:Int) (k:Nat):Value:=match v with
 |.slice (some a) _ _=>.pointer (some (a.add (m.toNat*s+k)))
 |_=>undef
def nilB (v:Value):Bool:=match v with
 |.slice none _ _=>true
 |_=>false
def nth {α:Type} [Inhabited α] (l:List α) (m:Int):α:=l.getD m.toNat default
section
variable {α:Type} {f:α→List Value} {s:Nat}
theorem flat_get (hf:∀a,(f a).length=s):∀(l:List α) (i k:Nat) (a:α),l[i]?=some a→k<s→(l.flatMap f)[i*s+k]?=(f a)[k]?
 |[],i,k,a,h,hk=>by simp at h
 |x::r,0,k,a,h,hk=>by
  simp only[List.getElem?_cons_zero,Option.some.injEq] at h
  subst h
  rw[List.flatMap_cons,Nat.zero_mul,Nat.zero_add,List.getElem?_append_left (by rw[hf];exact hk)]
 |x::r,i+1,k,a,h,hk=>by
  have h1:(f x).length≤(i+1)*s+k:=by rw[hf,Nat.succ_mul];omega
  rw[List.flatMap_cons,List.getElem?_append_right h1,hf,←flat_get hf r i k a (by simpa using h) hk]
  congr 1
  rw[Nat.succ_mul];omega
theorem flat_len (hf:∀a,(f a).length=s):∀(l:List α),(l.flatMap f).length=l.length*s
 |[]=>by simp
 |x::r=>by rw[List.flatMap_cons,List.length_append,hf,flat_len hf r,List.length_cons,Nat.succ_mul];omega
theorem flat_drop (hf:∀a,(f a).length=s):∀(l:List α) (i:Nat),(l.flatMap f).drop (i*s)=(l.drop i).flatMap f
 |[],i=>by simp
 |x::r,0=>by simp
 |x::r,i+1=>by
  rw[List.flatMap_cons,Nat.succ_mul,Nat.add_comm,←List.drop_drop,List.drop_left' (hf x),flat_drop hf r i,List.drop_succ_cons]
theorem flat_take (hf:∀a,(f a).length=s):∀(l:List α) (i:Nat),(l.flatMap f).take (i*s)=(l.take i).flatMap f
 |[],i=>by simp
 |x::r,0=>by simp
 |x::r,i+1=>by
  rw[List.flatMap_cons,List.take_succ_cons,List.flatMap_cons,Nat.succ_mul,List.take_append,hf,←flat_take hf r i]
  congr 1
  ·exact List.take_of_length_le (by rw[hf];omega)
  ·congr 1;omega
theorem flat_set (hf:∀a,(f a).length=s):∀(l:List α) (i k:Nat) (a b:α) (u:Value),l[i]?=some a→(f a).set k u=f b→k<s→(l.flatMap f).set (i*s+k) u=(l.set i b).flatMap f
 |[],i,k,a,b,u,h,_,_=>by simp at h
 |x::r,0,k,a,b,u,h,hb,hk=>by
  simp only[List.getElem?_cons_zero,Option.some.injEq] at h
  subst h
  rw[List.flatMap_cons,Nat.zero_mul,Nat.zero_add,List.set_append_left _ _ (by rw[hf];exact hk),hb,List.set_cons_zero,List.flatMap_cons]
 |x::r,i+1,k,a,b,u,h,hb,hk=>by
  have h1:(f x).length≤(i+1)*s+k:=by rw[hf,Nat.succ_mul];omega
  rw[List.flatMap_cons,List.set_append_right _ _ h1,hf,List.set_cons_succ,List.flatMap_cons,←flat_set hf r i k a b u (by simpa using h) hb hk]
  congr 2
  rw[Nat.succ_mul];omega
theorem flat_ne (hf:∀a,(f a).length=s) (hs:0<s) {l:List α} {m:Int} (hm:0≤m∧m<l.length):l.flatMap f≠[]:=fun e=>by
 have h1:=flat_len hf l
 have h2:0<l.length*s:=Nat.mul_pos (by omega) hs
 rw[e] at h1
 simp only[List.length_nil] at h1
 omega
theorem nth_some [Inhabited α] {l:List α} {m:Int} (h0:0≤m) (h1:m<l.length):l[m.toNat]?=some (nth l m):=by
 have hlt:m.toNat<l.length:=by omega
 simp[nth,List.getD,hlt]
theorem RO.cut {w:World} {v:Value} {n:Nat} {xs:List Value} (h:RO w v s n xs) {i j:Nat} (hij:i≤j) (hj:j≤n):RO w (cutV v s i j) s (j-i) ((xs.drop (i*s)).take ((j-i)*s)):=by
 obtain⟨hl,A,c,rfl,hnc,hc,hz⟩:=h
 have h1:(j-i)*s≤n*s-i*s:=by rw[←Nat.sub_mul];exact Nat.mul_le_mul_right _ (by omega)
 refine⟨by rw[List.length_take,List.length_drop,hl];omega,_,_,rfl,by omega,fun hne=>?_,fun hn=>?_⟩
 ·have hlen:0<((xs.drop (i*s)).take ((j-i)*s)).length:=List.length_pos_iff.2 hne
  rw[List.length_take,List.length_drop] at hlen
  have hji:0<j-i:=by
   rcases Nat.eq_zero_or_pos (j-i) with e|e
   ·rw[e,Nat.zero_mul] at hlen;omega
   ·exact e
  have hci:c≠i:=by omega
  obtain⟨a,rfl,hcell⟩:=hc (fun e=>by subst e;simp at hlen)
  refine⟨a.add (i*s),by simp[hci],fun t u hu=>?_⟩
  rw[List.getElem?_take] at hu
  split at hu
  ·rw[List.getElem?_drop] at hu
   rw[add_add]
   exact hcell _ _ hu
  ·cases hu
 ·split at hn
  ·rw[hz hn];omega
  ·cases A with
   |none=>rw[hz rfl];omega
   |some a=>simp at hn
def RdT (H:List Hl) (v:Value) (f:α→List Value) (s:Nat) (l:List α):Prop:=∀w0 w,St w0 H w→RO w v s l.length (l.flatMap f)
abbrev cI (n:Int):List Value:=[.int .i64 n]
abbrev Hl.rd (v:Value) (f:α→List Value) (s:Nat) (l:List α):Hl:=.ro false v s l.length (l.flatMap f)
abbrev Hl.nw (v:Value) (f:α→List Value) (s:Nat) (l:List α):Hl:=.ro true v s l.length (l.flatMap f)
abbrev Hl.rw (v:Value) (e:TypeId) (f:α→List Value) (s:Nat) (l:List α):Hl:=.row v e s l.length (l.flatMap f)
variable {H:List Hl} {v:Value} {l:List α} {e:TypeId}
theorem RdT.rd (h:Hl.rd v f s l∈H):RdT H v f s l:=fun _ _ hw=>(hw.all _ h).1
theorem RdT.nw (h:Hl.nw v f s l∈H):RdT H v f s l:=fun _ _ hw=>(hw.all _ h).1
theorem RdT.rw (h:Hl.rw v e f s l∈H):RdT H v f s l:=fun _ _ hw=>RO.of_row (hw.all _ h)
theorem RO.nil (w:World) (s:Nat):RO w (.slice none 0 0) s 0 []:=⟨by simp,none,0,rfl,Nat.le_refl _,fun h=>absurd rfl h,fun _=>rfl⟩
theorem RdT.nil:RdT H (.slice none 0 0) f s []:=fun _ _ _=>RO.nil _ _
theorem RdT.cut {i j:Nat} (h:RdT H v f s l) (hf:∀a,(f a).length=s) (hij:i≤j) (hj:j≤l.length):RdT H (cutV v s i j) f s ((l.drop i).take (j-i)):=fun _ _ hw=>by
 have:=(h _ _ hw).cut hij hj
 rw[flat_drop hf,flat_take hf] at this
 rwa [show ((l.drop i).take (j-i)).length=j-i by simp;omega]
def RdAll (H:List Hl):List Hl→Prop
 |[]=>True
 |h::r=>(match h with
  |.ro false v s n xs=>∀w0 w,St w0 H w→RO w v s n xs
  |_=>False)∧RdAll H r
theorem RdAll.nil:RdAll H []:=trivial
theorem RdAll.cons {Hp:List Hl} (h:RdT H v f s l) (hr:RdAll H Hp):RdAll H (Hl.rd v f s l::Hp):=⟨h,hr⟩
theorem RdAll.spec {w0 w:World} : ∀{Hp:List Hl},RdAll H Hp→St w0 H w→∀h∈Hp,h.holds w.heap.size w∧h.excl=false
 |[],_,_,_,hm=>by cases hm
 |x::r,hs,hw,h,hm=>by
  rcases List.mem_cons.1 hm with rfl|hm
  ·have h1:=hs.1
   cases h with
   |ro new v s k xs =>
    cases new with
    |false=>exact⟨⟨h1 _ _ hw,fun h=>by cases h⟩,rfl⟩
    |true=>exact h1.elim
   |blk b t cs=>exact h1.elim
   |row v e s k xs=>exact h1.elim
   |oth b I=>exact h1.elim
  ·exact RdAll.spec hs.2 hw h hm
def NewIn (H:List Hl):List Hl→Prop
 |[]=>True
 |h::r=>(∀w0 w,St w0 H w→h.holds w0.heap.size w∧h.isNew=true)∧NewIn H r
theorem NewIn.nil:NewIn H []:=trivial
theorem NewIn.rw {Hn:List Hl} (h:Hl.rw v e f s l∈H) (hr:NewIn H Hn):NewIn H (Hl.nw v f s l::Hn):=⟨fun _ _ hw=>⟨⟨RO.of_row (hw.all _ h),fun _ _ b hb=>((hw.all _ h:World.ownsRow _ _ _ _ _ _ _).lt b hb).1⟩,rfl⟩,hr⟩
theorem NewIn.spec {w0 w:World} : ∀{Hn:List Hl},NewIn H Hn→St w0 H w→New w0 w Hn
 |[],_,_,_,hm=>by cases hm
 |x::r,hs,hw,h,hm=>by
  rcases List.mem_cons.1 hm with rfl|hm
  ·exact hs.1 _ _ hw
  ·exact NewIn.spec hs.2 hw h hm
theorem St.nilRow {w0 w:World} (e:TypeId) (f:α→List Value) (s:Nat) (h:St w0 H w):St w0 (Hl.rw (.slice none 0 0) e f s []::H) w:=by
 refine⟨h.ext,fun x hx=>?_,fun z hz b hb _=>by simp[Hl.spot,Value.ownBlock] at hb,h.apart⟩
 rcases List.mem_cons.1 hx with rfl|hx
 ·exact World.ownsRow_nil _ _ _ _
 ·exact h.all x hx
variable {P:Program} {n:Nat} {L:FL} {w0:World} {d:Option Tmp} {ty:TypeId} {pos:String} {af:Array Edge} {g:Option (Nat×Bool)} {x y:Operand} {t t':TypeId} {u:Value} {k:IntKind} {m m':Int}
def isSliceB (P:Program) (t:TypeId):Bool:=match P.underlying t with
 |some (.slice _)=>true
 |_=>false
def sliceB (P:Program) (t:TypeId) (s:Nat):Bool:=match P.underlying t with
 |some (.slice e)=>(P.info? e).map (·.size)==some s
 |_=>false
theorem sliceB_spec (h:sliceB P t s=true):∃e i,P.underlying t=some (.slice e)∧P.info? e=some i∧i.size=s:=by
 unfold sliceB at h
 cases hu:P.underlying t with
 |none=>simp[hu] at h
 |some dsc =>
  cases dsc<;>simp[hu] at h
  obtain⟨i,hi,hs⟩:=h
  exact⟨_,_,rfl,hi,hs⟩
theorem y_len (hx:evO L x=some v) (h:RdT H v f s l) (ht:isSliceB P t=true):V P n L w0 H ⟨d,.call { callee:=.builtin .len,args:=#[x],argTypes:=#[t] },ty,pos,af,g⟩ (.int .i64 l.length):=fun a w ha hw=>by
 obtain⟨_,A,c,rfl,_⟩:=h _ _ hw
 unfold isSliceB at ht
 cases hu:P.underlying t with
 |none=>simp[hu] at ht
 |some dsc =>
  cases dsc<;>simp[hu] at ht
  simp[execOp,resolve,invoke,builtin,ha.eval hx,Builtin.len_,run_underlying hu,goInt]
theorem y_isNil (hx:evO L x=some v) (h:RdT H v f s l) (ht:isSliceB P t=true):V P n L w0 H ⟨d,.binOp .eql t x (.const (.slice none 0 0)) t',ty,pos,af,g⟩ (.bool (nilB v)):=fun a w ha hw=>by
 obtain⟨_,A,c,rfl,_⟩:=h _ _ hw
 unfold isSliceB at ht
 cases hu:P.underlying t with
 |none=>simp[hu] at ht
 |some dsc =>
  cases dsc<;>simp[hu] at ht
  have e:(binOp .eql t (.slice A l.length c) (.slice none 0 0)).run P w=.ok (.bool A.isNone) w:=by
   simp only[binOp]
   simp[run_equal_slice_nil w t _ A l.length c hu]
  have e2:nilB (.slice A l.length c)=A.isNone:=by cases A<;>rfl
  have hc:a.eval (.const (.slice none 0 0))=.slice none 0 0:=rfl
  simp[execOp,ha.eval hx,hc,eqGuard,e,e2]
theorem y_max (hx:evO L x=some (.int k m)) (hy:evO L y=some (.int k m')) {tys:Array TypeId} : V P n L w0 H ⟨d,.call { callee:=.builtin .max,args:=#[x,y],argTypes:=tys },ty,pos,af,g⟩ (.int k (max m m')):=fun a w ha hw=>by
 have e:(if m'>m then m' else m)=max m m':=by rw[Int.max_def];split<;>split<;>omega
 simp[execOp,resolve,invoke,builtin,ha.eval hx,ha.eval hy,run_max_int2,←e]
theorem y_min (hx:evO L x=some (.int k m)) (hy:evO L y=some (.int k m')) {tys:Array TypeId} : V P n L w0 H ⟨d,.call { callee:=.builtin .min,args:=#[x,y],argTypes:=tys },ty,pos,af,g⟩ (.int k (min m m')):=fun a w ha hw=>by
 have e:(if m'<m then m' else m)=min m m':=by rw[Int.min_def];split<;>split<;>omega
 simp[execOp,resolve,invoke,builtin,ha.eval hx,ha.eval hy,run_min_int2,←e]
theorem y_indexAddr (hx:evO L x=some v) (hy:evO L y=some (.int k m)) (h:RdT H v f s l) (hf:∀a,(f a).length=s) (hm:0≤m∧m<l.length) (hs:Nat.blt 0 s=true) (ht:sliceB P t s=true) :
  V P n L w0 H ⟨d,.indexAddr t x y,ty,pos,af,g⟩ (elA v s m 0):=fun a w ha hw=>by
 obtain⟨hl,A,c,rfl,_,hc,_⟩:=h _ _ hw
 obtain⟨e,i,hu,hi,rfl⟩:=sliceB_spec ht
 have hs':0<i.size:=by simpa [Nat.blt_eq] using hs
 obtain⟨ad,rfl,_⟩:=hc (flat_ne hf hs' hm)
 simp[execOp,ha.eval hx,ha.eval hy,Instr.indexAt,asIntOf,run_underlying hu,hm.1,hm.2,sizeOf,typeInfo,hi,elA]
theorem y_fieldEl {i fl k':Nat} (hx:evO L x=some (elA v s m i)) (h:RdT H v f s l) (hf:∀a,(f a).length=s) (hm:0≤m∧m<l.length) (hs:Nat.blt 0 s=true) (hfo:fieldAt P t fl i=some k') :
  V P n L w0 H ⟨d,.fieldAddr t x fl,ty,pos,af,g⟩ (elA v s m k'):=fun a w ha hw=>by
 obtain⟨hl,A,c,rfl,_,hc,_⟩:=h _ _ hw
 have hs':0<s:=by simpa [Nat.blt_eq] using hs
 obtain⟨ad,rfl,_⟩:=hc (flat_ne hf hs' hm)
 unfold fieldAt fieldOff at hfo
 cases hu:P.underlying t with
 |none=>simp[hu] at hfo
 |some dsc =>
  cases dsc<;>simp only[hu,Option.map_none,reduceCtorEq] at hfo
  rename_i fs
  cases hfs:fs[fl]? with
  |none=>simp[hfs] at hfo
  |some fld =>
   simp only[hfs] at hfo
   cases hi:P.info? fld.type with
   |none=>simp[hi] at hfo
   |some inf =>
    simp only[hi] at hfo
    split at hfo
    ·cases hfo
    ·rename_i hsz
     simp only[Option.map_some,Option.some.injEq] at hfo
     subst hfo
     simp[execOp,ha.eval hx,elA,Instr.fieldAt,Instr.sureAddr,run_underlying hu,hfs,fieldPlace,sizeOf,typeInfo,hi,hsz,add_add,Nat.add_assoc]
theorem RdT.at_ [Inhabited α] {w:World} (h:RdT H v f s l) (hf:∀a,(f a).length=s) (hm:0≤m∧m<l.length) (hs:0<s) (hw:St w0 H w):∃ad c,v=.slice (some ad) l.length c∧∀j u,(f (nth l m))[j]?=some u→w.cell? (ad.add (m.toNat*s+j))=some u:=by
 obtain⟨hl,A,c,rfl,_,hc,_⟩:=h _ _ hw
 obtain⟨ad,rfl,hcell⟩:=hc (flat_ne hf hs hm)
 refine⟨ad,c,rfl,fun j u hu=>hcell _ _ ?_⟩
 have hj:j<s:=by
  have:=(List.getElem?_eq_some_iff.1 hu).1
  rwa [hf] at this
 rw[flat_get hf l m.toNat j _ (nth_some hm.1 hm.2) hj]
 exact hu
theorem y_loadEl {inst:Inhabited α} {i:Nat} (hx:evO L x=some (elA v s m i)) (h:RdT H v f s l) (hf:∀a,(f a).length=s) (hm:0≤m∧m<l.length) (hs:Nat.blt 0 s=true) (hv:(f (nth l m))[i]?=some u) (ht:scalarB P t=true) :
  V P n L w0 H ⟨d,.load t x,ty,pos,af,g⟩ u:=fun a w ha hw=>by
 obtain⟨ad,c,rfl,hc⟩:=h.at_ hf hm (by simpa [Nat.blt_eq] using hs) hw
 simp[execOp,ha.eval hx,elA,Instr.loadAt,Instr.sureAddr,loadVar,run_isAgg_false ht,hc i u hv]
theorem y_loadElRow {inst:Inhabited α} (hx:evO L x=some (elA v s m 0)) (h:RdT H v f s l) (hf:∀a,(f a).length=s) (hm:0≤m∧m<l.length) (hs:Nat.blt 0 s=true) (hv:Value.agg (f (nth l m)).toArray=u) (ht:rowB P t s=true) :
  V P n L w0 H ⟨d,.load t x,ty,pos,af,g⟩ u:=fun a w ha hw=>by
 subst hv
 obtain⟨ad,c,rfl,hc⟩:=h.at_ hf hm (by simpa [Nat.blt_eq] using hs) hw
 have hl:=run_loadCells_list (P:=P) w (ad.add (m.toNat*s)) (f (nth l m)) (fun j u hu=>by
  rw[add_add]
  exact hc j u hu)
 rw[hf] at hl
 simp[execOp,ha.eval hx,elA,Instr.loadAt,Instr.sureAddr,loadVar,run_isAgg_true ht,run_sizeOf_of (info_of_rowB ht),hl]
section
variable (hx:evO L x=some v) (h:RdT H v f s l) (hs:sliceB P t s=true)
include hx h hs
theorem y_sliceL (hy:evO L y=some (.int k m)) (hm:0≤m∧m≤l.length):V P n L w0 H ⟨d,.slice t x (some y) none none,ty,pos,af,g⟩ (cutV v s m.toNat l.length):=fun a w ha hw=>by
 obtain⟨hl,A,c,rfl,hnc,_⟩:=h _ _ hw
 obtain⟨e,i,hu,hi,rfl⟩:=sliceB_spec hs
 have h1:=run_sliceBound (P:=P) (w:=w) k m l.length .sliceB hm.1 (by omega)
 simp[execOp,ha.eval hx,ha.eval hy,Instr.sliceAt,Instr.slice,Instr.sliceBounds,run_underlying hu,h1,sizeOf,typeInfo,hi,cutV,sliced]
end
end
/-! ### Operations that act -/
section
variable {P:Program} {ops:Array Oper} {n:Nat} {L:FL} {w0:World} {H HS:List Hl} {Q:Exit→Act→World→Prop} {rest:List Oper} {ord:List Mv} {ps:List Pd} {o:Oper} {i g j:Nat} {b:Bool} {ι:Type}
def EX (P:Program) (n:Nat) (L:FL) (w0:World) (H:List Hl) (o:Oper) {ι:Type} (post:ι→Prop) (L':ι→FL) (H':ι→List Hl):Prop :=
 E P n L w0 H o fun a w=>∃x,post x∧Fr n (L' x) a∧St w0 (H' x) w
theorem RS.actX {post:ι→Prop} {L':ι→FL} {H':ι→List Hl} (hg:o.guard=none) (he:EX P n L w0 H o post L' H') (h:∀x,post x→RS P ops Q n (L' x) w0 (H' x) rest):RS P ops Q n L w0 H (o::rest) :=
 RS.act hg he fun a w ⟨x,hx,ha,hw⟩=>h x hx a w ha hw
theorem RS.actXT {post:ι→Prop} {L':ι→FL} {H':ι→List Hl} {want:Bool} {d:Option Tmp} {op:Op} {ty:TypeId} {pos:String} {af:Array Edge} (hj:(ops[j]?).bind (·.dst)=some g) (hg:lk L g=some (.bool b)) (hb:b=want)
  (he:EX P n L w0 H ⟨d,op,ty,pos,af,some (j,want)⟩ post L' H') (h:∀x,post x→RS P ops Q n (L' x) w0 (H' x) rest):RS P ops Q n L w0 H (⟨d,op,ty,pos,af,some (j,want)⟩::rest) :=
 RS.actT hj hg hb he fun a w ⟨x,hx,ha,hw⟩=>h x hx a w ha hw
theorem RM.actX {post:ι→Prop} {L':ι→FL} {H':ι→List Hl} (ho:ops[i]?=some o) (hp:pureB o=false) (hg:o.guard=none) (he:EX P n L w0 H o post L' H') (hs:(∀x w,St w0 (H' x) w→St w0 HS w)∨lateB .any ops i=true)
  (h:∀x,post x→RM P ops Q HS n [] (L' x) w0 (H' x) ord):RM P ops Q HS n [] L w0 H (.go i::ord):=by
 refine RM.act_ ho hp (J:=fun a w=>∃x,post x∧Fr n (L' x) a∧St w0 (H' x) w) (fun a w ha hw K hK=>?_) (hs.imp (fun hs a w ⟨x,_,_,hw⟩=>hs x w hw) id) fun a w ⟨x,hx,ha,hw⟩=>⟨_,_,ha,hw,h x hx⟩
 unfold wpOp
 rw[ho]
 simp only[Region.wanted,hg,if_true]
 exact .inl (he a w ha hw _ _ fun a' w' hj=>hK a' w' hj)
theorem RM.actXT {post:ι→Prop} {L':ι→FL} {H':ι→List Hl} {want:Bool} {d:Option Tmp} {op:Op} {ty:TypeId} {pos:String} {af:Array Edge} (ho:ops[i]?=some ⟨d,op,ty,pos,af,some (j,want)⟩) (hp:pureB ⟨d,op,ty,pos,af,some (j,want)⟩=false)
  (hj:(ops[j]?).bind (·.dst)=some g) (hg:lk L g=some (.bool b)) (hb:b=want) (he:EX P n L w0 H ⟨d,op,ty,pos,af,some (j,want)⟩ post L' H') (hs:(∀x w,St w0 (H' x) w→St w0 HS w)∨lateB .any ops i=true)
  (h:∀x,post x→RM P ops Q HS n [] (L' x) w0 (H' x) ord):RM P ops Q HS n [] L w0 H (.go i::ord):=by
 refine RM.act_ ho hp (J:=fun a w=>∃x,post x∧Fr n (L' x) a∧St w0 (H' x) w) (fun a w ha hw K hK=>?_) (hs.imp (fun hs a w ⟨x,_,_,hw⟩=>hs x w hw) id) fun a w ⟨x,hx,ha,hw⟩=>⟨_,_,ha,hw,h x hx⟩
 unfold wpOp
 rw[ho]
 subst hb
 simp only[Region.wanted,yielded_of ha hj hg,beq_self_eq_true,if_true]
 exact .inl (he a w ha hw _ _ fun a' w' hj=>hK a' w' hj)
variable {op:Op} {ty:TypeId} {pos:String} {af:Array Edge} {gd:Option (Nat×Bool)} {x y:Operand} {t t':TypeId} {dd:Nat}
theorem EX.of_run {post:ι→Prop} {L':ι→FL} {H':ι→List Hl} (h:∀a w,Fr n L a→St w0 H w→∃u w' z,(execOp a.eval ⟨some dd,op,ty,pos,af,gd⟩).run P w=.ok (.value u) w'∧post z∧L' z=(dd,u)::L∧St w0 (H' z) w') (hd:Nat.blt dd n=true) :
  EX P n L w0 H ⟨some dd,op,ty,pos,af,gd⟩ post L' H':=fun a w ha hw K Q hK=>by
 obtain⟨u,w',z,e,hp,hl,hs⟩:=h a w ha hw
 unfold Oper.wp
 rw[e]
 refine hK _ _ ⟨z,hp,?_,hs⟩
 rw[hl]
 exact ha.put (by simpa [Nat.blt_eq] using hd)
theorem EX.of_skip {post:ι→Prop} {L':ι→FL} {H':ι→List Hl} (h:∀a w,Fr n L a→St w0 H w→∃w' z,(execOp a.eval ⟨none,op,ty,pos,af,gd⟩).run P w=.ok .skip w'∧post z∧L' z=L∧St w0 (H' z) w') :
  EX P n L w0 H ⟨none,op,ty,pos,af,gd⟩ post L' H':=fun a w ha hw K Q hK=>by
 obtain⟨w',z,e,hp,hl,hs⟩:=h a w ha hw
 unfold Oper.wp
 rw[e]
 refine hK _ _ ⟨z,hp,?_,hs⟩
 rw[hl]
 exact ha
theorem x_box {u:Value} {cs:List Value} (hx:evO L x=some u) (hc:u.cells=cs.toArray) (hd:Nat.blt dd n=true) :
  EX P n L w0 H ⟨some dd,.box t x,ty,pos,af,gd⟩ (fun _:Nat=>True) (fun b=>(dd,.pointer (some ⟨b,0,none⟩))::L) (fun b=>.blk b t cs::H) :=
 EX.of_run (fun a w ha hw=>⟨_,_,w.heap.size,by simp[execOp,ha.eval hx,Instr.box,newVar,newRow,hc],trivial,rfl,hw.alloc t cs⟩) hd
theorem x_alloc {u:Value} {cs:List Value} (hz:zeroOf P t=some u) (hc:u.cells=cs.toArray) (hd:Nat.blt dd n=true) :
  EX P n L w0 H ⟨some dd,.alloc t,ty,pos,af,gd⟩ (fun _:Nat=>True) (fun b=>(dd,.pointer (some ⟨b,0,none⟩))::L) (fun b=>.blk b t cs::H) :=
 EX.of_run (fun a w ha hw=>⟨_,_,w.heap.size,by
  unfold zeroOf at hz
  cases hi:P.info? t with
  |none=>simp[hi] at hz
  |some inf =>
   simp only[hi,Option.bind_some] at hz
   simp[execOp,Instr.alloc,zeroValue,typeInfo,hi,hz,newVar,newRow,hc],trivial,rfl,hw.alloc t cs⟩) hd
theorem oneCell_cells {u:Value} (h:u.oneCell'=true):u.cells=#[u]:=by cases u<;>first|rfl|simp[Value.oneCell'] at h
theorem x_store {b i:Nat} {cs:List Value} {H':List Hl} {u:Value} (hx:evO L x=some (.pointer (some ⟨b,i,none⟩))) (hy:evO L y=some u) (hu:u.oneCell'=true)
  (hm:Upd (.blk b t' cs) (.blk b t' (cs.set i u)) H H') (hi:Nat.blt i cs.length=true) (hs:scalarB P t=true) :
  EX P n L w0 H ⟨none,.store t x y,ty,pos,af,gd⟩ (fun _:Unit=>True) (fun _=>L) (fun _=>H') :=
 EX.of_skip fun a w ha hw=>by
  have hi':i<cs.length:=by simpa [Nat.blt_eq] using hi
  have hc:w.cell? ⟨b,i,none⟩=some cs[i]:=(hw.cell hm.mem i).trans (List.getElem?_eq_getElem hi')
  have hf:=hw.free hm.mem i
  have hadd:(⟨b,i,none⟩:Addr).add 0=⟨b,i,none⟩:=rfl
  exact⟨w.setCell ⟨b,i,none⟩ u,(),by simp[execOp,ha.eval hx,ha.eval hy,Instr.storeAt,Instr.sureAddr,storeVar,oneCell_cells hu,run_sizeOf_of (info_of_scalarB hs),storeCells,hadd,run_store P w _ u _ hu,hc,hf],trivial,rfl,hw.setCell u hm⟩
theorem x_storeRow {b k:Nat} {cs us:List Value} {H':List Hl} (hx:evO L x=some (.pointer (some ⟨b,0,none⟩))) (hy:evO L y=some (.agg us.toArray)) (hu:us.all (·.oneCell')=true)
  (hm:Upd (.blk b t' cs) (.blk b t' us) H H') (hl:LenIs cs k) (hl2:LenIs us k) (hs:rowB P t k=true):EX P n L w0 H ⟨none,.store t x y,ty,pos,af,gd⟩ (fun _:Unit=>True) (fun _=>L) (fun _=>H') :=
 EX.of_skip fun a w ha hw=>by
  have hb:=hw.blk hm.mem
  have hl':cs.length=us.length:=hl.eq.trans hl2.eq.symm
  rw[←hl2.eq] at hs
  have hr:=run_storeVar_row (P:=P) w b t' t cs.toArray us.toArray hb (by simpa using info_of_rowB hs) (by simpa using hl') (by simpa using hu)
  exact⟨w.setRow b us.toArray,(),by simp[execOp,ha.eval hx,ha.eval hy,Instr.storeAt,Instr.sureAddr,hr],trivial,rfl,
   hw.change hm rfl rfl rfl (by simp) (setRow_heap w b cs.toArray us.toArray t' (0,0) hb) (fun k hk=>setRow_other w b k us.toArray hk)⟩
def RetX {ι:Type} (post:ι→Prop) (v:ι→Value) (Hn:ι→List Hl) (w:World) (e:Ending) (w':World):Prop:=∃z,post z∧e=.returned (v z)∧Below w.heap.size w w'∧New w w' (Hn z)
def ContX (P:Program) (Hp:List Hl) (f:FuncId) (args:List Value) {ι:Type} (post:ι→Prop) (v:ι→Value) (Hn:ι→List Hl):Prop :=
 ∀w,(∀h∈Hp,h.holds w.heap.size w∧h.excl=false)→Calls P f args.toArray w (RetX post v Hn w)
def ContR (P:Program) (Hp:List Hl) (f:FuncId) (args:List Value) (v:Value):Prop :=
 ∀w,(∀h∈Hp,h.holds w.heap.size w∧h.excl=false)→Calls P f args.toArray w fun e w'=>e=.returned v∧Below w.heap.size w w'
theorem reads_of {Hp:List Hl} {w:World} (hs:RdAll H Hp) (hw:St w0 H w):∀h∈Hp,h.holds w.heap.size w∧h.excl=false:=RdAll.spec hs hw
theorem run_call {f:FuncId} {xs:List Operand} {vs:List Value} {tys:Array TypeId} {a:Act} {w:World} (hfr:Fr n L a) (ha:AE L xs vs) (hg:isGo P f=true) :
  (execOp a.eval ⟨some dd,.call { callee:=.value (.func f),args:=xs.toArray,argTypes:=tys },ty,pos,af,gd⟩).run P w=.ok (.enter f vs.toArray) w:=by
 rw[show execOp a.eval ⟨some dd,.call { callee:=.value (.func f),args:=xs.toArray,argTypes:=tys },ty,pos,af,gd⟩=callFunc f (#[]++xs.toArray.map a.eval++#[]) from rfl]
 have:=ha.map hfr
 simp[this,run_isGo hg]
theorem x_call {Hp:List Hl} {f:FuncId} {xs:List Operand} {vs:List Value} {tys:Array TypeId} {post:ι→Prop} {v:ι→Value} {Hn:ι→List Hl} (hc:ContX P Hp f vs post v Hn) (ha:AE L xs vs) (hs:RdAll H Hp) (hg:isGo P f=true) (hd:Nat.blt dd n=true) :
  EX P n L w0 H ⟨some dd,.call { callee:=.value (.func f),args:=xs.toArray,argTypes:=tys },ty,pos,af,gd⟩ post (fun x=>(dd,v x)::L) (fun x=>Hn x++H):=fun a w hfr hw K Q hK=>by
 unfold Oper.wp
 rw[run_call hfr ha hg]
 refine(hc w (reads_of hs hw)).mono ?_
 rintro e w' ⟨z,hz,rfl,hb,hn⟩
 exact hK _ _ ⟨z,hz,hfr.put (by simpa [Nat.blt_eq] using hd),hw.news hb hn⟩
theorem y_callR {Hp:List Hl} {f:FuncId} {xs:List Operand} {vs:List Value} {tys:Array TypeId} {v:Value} (hc:ContR P Hp f vs v) (ha:AE L xs vs) (hs:RdAll H Hp) (hg:isGo P f=true) :
  Y P n L w0 H ⟨some dd,.call { callee:=.value (.func f),args:=xs.toArray,argTypes:=tys },ty,pos,af,gd⟩ v:=fun a w hfr hw=>by
 unfold Oper.quietAt
 rw[run_call hfr ha hg]
 exact⟨rfl,hc w (reads_of hs hw)⟩
end
/-! ### Slices that turn -/
structure Sl where
 a:Option Addr
 n:Nat
 c:Nat
abbrev Sl.v (x:Sl):Value:=.slice x.a x.n x.c
theorem owns_sl {w:World} {base:Nat} {e:TypeId} {s n:Nat} {v:Value} {xs:List Value} (h:w.ownsRow base e s v n xs):∃x:Sl,v=x.v:=by
 rcases h.2 with ⟨rfl,_⟩|⟨g,cap,cur,rfl,_⟩
 ·exact⟨⟨none,0,0⟩,rfl⟩
 ·exact⟨⟨some ⟨g,0,none⟩,n,cap⟩,rfl⟩
def rowTyB (P:Program) (t e:TypeId) (s bytes:Nat):Bool:=match P.underlying t with
 |some (.slice e')=>e'==e&&Nat.blt 0 s&&(match P.info? e with
  |some i=>i.size==s&&i.bytes==bytes&&(match i.zero with
   |some z=>z.cells.size==s
   |none=>false)
  |none=>false)
 |_=>false
theorem rowTyB_spec {P:Program} {t e:TypeId} {s bytes:Nat} (h:rowTyB P t e s bytes=true):∃i z,P.underlying t=some (.slice e)∧P.info? e=some i∧i.zero=some z∧i.size=s∧i.bytes=bytes∧z.cells.size=s∧0<s:=by
 unfold rowTyB at h
 cases hu:P.underlying t with
 |none=>simp[hu] at h
 |some dsc =>
  cases dsc<;>simp only[hu,Bool.false_eq_true] at h
  rename_i e'
  simp only[Bool.and_eq_true,beq_iff_eq] at h
  obtain⟨⟨rfl,h0⟩,h⟩:=h
  cases hi:P.info? e' with
  |none=>simp[hi] at h
  |some i =>
   simp only[hi,Bool.and_eq_true,beq_iff_eq] at h
   obtain⟨⟨h1,h2⟩,h⟩:=h
   cases hz:i.zero with
   |none=>simp[hz] at h
   |some z =>
    simp only[hz,beq_iff_eq] at h
    exact⟨i,z,rfl,rfl,hz,h1,h2,h,by simpa [Nat.blt_eq] using h0⟩
def rowTy (P:Program) (t:TypeId):Option (TypeId×Nat×Nat):=match P.underlying t with
 |some (.slice e)=>match P.info? e with
  |some i=>match i.zero with
   |some z=>bif (Nat.blt 0 i.size&&z.cells.size==i.size) then some (e,i.size,i.bytes) else none
   |none=>none
  |none=>none
 |_=>none
class RowTy (P:Program) (t:TypeId) (e:outParam TypeId) (s bytes:outParam Nat):Prop where
 is:rowTy P t=some (e,s,bytes)
theorem rowTy_B {P:Program} {t e:TypeId} {s bytes:Nat} (h:rowTy P t=some (e,s,bytes)):rowTyB P t e s bytes=true:=by
 unfold rowTy at h
 unfold rowTyB
 cases hu:P.underlying t with
 |none=>simp[hu] at h
 |some dsc =>
  cases dsc<;>simp only[hu,reduceCtorEq] at h
  rename_i e'
  cases hi:P.info? e' with
  |none=>simp[hi] at h
  |some i =>
   simp only[hi] at h
   cases hz:i.zero with
   |none=>simp[hz] at h
   |some z =>
    simp only[hz] at h
    cases hc:(Nat.blt 0 i.size&&z.cells.size==i.size) with
    |false=>rw[hc] at h;cases h
    |true =>
     rw[hc] at h
     simp only[cond_true,Option.some.injEq,Prod.mk.injEq] at h
     obtain⟨rfl,rfl,rfl⟩:=h
     simp only[Bool.and_eq_true,beq_iff_eq] at hc
     simp[hi,hz,hc.1,hc.2]
section
variable {P:Program}
theorem run_append_at (w:World) (base:Nat) (t ty e:TypeId) (i:TypeInfo) (z:Value) (size bytes:Nat) (ht:P.underlying t=some (.slice e)) (hi:P.info? e=some i) (hz:i.zero=some z)
  (hsize:i.size=size) (hby:i.bytes=bytes) (hzs:z.cells.size=size) (hsz:0<size) (v:Value) (n:Nat) (xs:List Value) (hown:w.ownsRow base e size v n xs)
  (u:Value) (m:Nat) (news:List Value) (hu:RO w u size m news) (h1:∀u∈news,u.oneCell'=true) (hbytes:(n+m)*bytes≤140737488355328) (hlen:n+m≤140737488355328) (hbase:base≤w.heap.size) :
  ∃v' w',(Builtin.append_ #[t,t] ty #[v,u]).run P w=.ok v' w'∧w'.ownsRow base e size v' (n+m) (xs++news)∧w.grownBy w' v.ownBlock∧∀b,v'.ownBlock=some b→v.ownBlock=some b∨w.heap.size≤b:=by
 obtain⟨hl,A,c,rfl,hmc,hcell,hz0⟩:=hu
 have h63:n+m≤maxLen:=by simp only[maxLen];omega
 by_cases hm:m=0∧A=none
 ·obtain⟨rfl,rfl⟩:=hm
  have hn:news=[]:=List.eq_nil_of_length_eq_zero (by omega)
  subst hn
  have hc:=hz0 rfl
  subst hc
  have:=run_append_owned_none (P:=P) w base t ty e i size ht hi v n xs hown
  exact⟨v,w,this,by simpa using hown,World.grownBy.refl w _,fun b hb=>.inl hb⟩
 ·obtain⟨a,rfl,hnews⟩:∃a,A=some a∧∀j u,news[j]?=some u→w.cell? (a.add j)=some u:=by
   by_cases hne:news=[]
   ·subst hne
    have h0:m*size=0:=by simpa using hl.symm
    have hm0:m=0:=by
     rcases Nat.mul_eq_zero.1 h0 with h|h
     ·exact h
     ·omega
    cases A with
    |none=>exact absurd ⟨hm0,rfl⟩ hm
    |some a=>exact⟨a,rfl,fun j u hj=>by simp at hj⟩
   ·exact hcell hne
  obtain⟨v',w',hr,h2,h3,h4⟩:=run_append_own (P:=P) w base t ty e i z size bytes ht hi hz hsize hby hzs hsz v n xs hown a m c news hl hnews h1 h63 hbytes hbase
  refine⟨v',w',hr,h2,h3,fun b hb=>?_⟩
  rcases hown.2 with ⟨rfl,rfl⟩|⟨g,cap,cur,rfl,hbg,hg,hnc,hcm,hcs,htake⟩
  ·by_cases hm0:m=0
   ·rw[h4.2 ⟨rfl,hm0⟩] at hb;simp[Value.ownBlock] at hb
   ·have h5:=run_append_nil (P:=P) w t ty e i z ht hi hz a m c news (by rw[hsize];exact hl) hnews (by omega) (by omega) (by rw[hby];simp only[Nat.zero_add] at hbytes;omega)
    rw[h5] at hr
    simp only[Result.ok.injEq] at hr
    rw[←hr.1] at hb
    simp only[Value.ownBlock,Option.some.injEq] at hb
    exact .inr (by omega)
  ·by_cases hroom:n+m≤cap
   ·have hfit:n*i.size+news.length≤cur.size:=by rw[hl,hcs,hsize,←Nat.add_mul];exact Nat.mul_le_mul_right _ hroom
    have h5:=run_append_room (P:=P) w t ty e i ht hi g n cap cur hg a m c news (by rw[hsize];exact hl) hnews h1 hroom hfit
    rw[h5] at hr
    simp only[Result.ok.injEq] at hr
    rw[←hr.1] at hb
    exact .inl hb
   ·have holds:∀j u,xs[j]?=some u→w.cell? ((⟨g,0,none⟩:Addr).add j)=some u:=hown.cells (g:=g) rfl
    have h5:=run_append_grow (P:=P) w t ty e i z ht hi hz ⟨g,0,none⟩ n cap xs (by rw[hsize];exact hown.1) holds a m c news (by rw[hsize];exact hl) hnews (by omega) (by omega) (by rw[hby];exact growslice_fits (by omega) hbytes)
    rw[h5] at hr
    simp only[Result.ok.injEq] at hr
    rw[←hr.1] at hb
    simp only[Value.ownBlock,Option.some.injEq] at hb
    exact .inr (by omega)
end
section
variable {P:Program} {n:Nat} {L:FL} {w0:World} {H:List Hl} {dd:Nat} {ty:TypeId} {pos:String} {af:Array Edge} {gd:Option (Nat×Bool)} {x y:Operand} {t e:TypeId} {u v:Value} {k:IntKind} {m:Int} {α:Type} {f:α→List Value} {s bytes:Nat} {l l':List α} {z:Value}
theorem flat_one (h1:∀a,(f a).all (·.oneCell')=true) (l:List α):∀u∈l.flatMap f,u.oneCell'=true:=fun u hu=>by
 obtain⟨a,_,ha⟩:=List.mem_flatMap.1 hu
 exact List.all_eq_true.1 (h1 a) u ha
theorem x_append {H':Sl→List Hl} (hx:evO L x=some v) (hy:evO L y=some u) (hu:∀v':Sl,Upd (Hl.rw v e f s l) (Hl.rw v'.v e f s (l++l')) H (H' v')) (hr:RdT H u f s l') (h1:∀a,(f a).all (·.oneCell')=true)
  (hb:(l.length+l'.length)*bytes≤140737488355328∧l.length+l'.length≤140737488355328) (ht:rowTyB P t e s bytes=true) (hd:Nat.blt dd n=true) :
  EX P n L w0 H ⟨some dd,.call { callee:=.builtin .append,args:=#[x,y],argTypes:=#[t,t] },ty,pos,af,gd⟩ (fun _:Sl=>True) (fun v'=>(dd,v'.v)::L) H' :=
 EX.of_run (fun a w ha hw=>by
  obtain⟨i,z,hu1,hi,hz,hs,hby,hzs,h0⟩:=rowTyB_spec ht
  obtain⟨v',w',hr1,h2,h3,h4⟩:=run_append_at (P:=P) w w0.heap.size t ty e i z s bytes hu1 hi hz hs hby hzs h0 v l.length _ (hw.all _ (hu ⟨none,0,0⟩).mem) u l'.length _ (hr _ _ hw) (flat_one h1 l') hb.1 hb.2 hw.ext.size
  obtain⟨x',rfl⟩:=owns_sl h2
  refine⟨_,w',x',by simp[execOp,resolve,invoke,builtin,ha.eval hx,ha.eval hy,hr1],trivial,rfl,hw.turn (hu x') rfl h3 ?_ h4⟩
  show w'.ownsRow _ _ _ _ _ _
  rw[List.length_append,List.flatMap_append]
  exact h2) hd
theorem x_appendNil (hx:evO L x=some (.slice none 0 0)) (hy:evO L y=some u) (hr:RdT H u f s l') (h1:∀a,(f a).all (·.oneCell')=true)
  (hb:l'.length*bytes≤140737488355328∧l'.length≤140737488355328) (ht:rowTyB P t e s bytes=true) (hd:Nat.blt dd n=true) :
  EX P n L w0 H ⟨some dd,.call { callee:=.builtin .append,args:=#[x,y],argTypes:=#[t,t] },ty,pos,af,gd⟩ (fun _:Sl=>True) (fun v'=>(dd,v'.v)::L) (fun v'=>Hl.rw v'.v e f s l'::H):=fun a w ha hw =>
 x_append (L:=L) (H:=Hl.rw (.slice none 0 0) e f s []::H) (H':=fun v'=>Hl.rw v'.v e f s l'::H) hx hy (fun v'=>.here _) (fun w0 w hw=>hr w0 w (hw.sub (List.sublist_cons_self _ _))) h1 (by simpa using hb) ht hd a w ha (hw.nilRow e f s)
theorem St.newRow {w:World} (h:St w0 H w) (e:TypeId) (cs:Array Value) (s:Nat) (k:Nat) (hs:cs.size=k*s) (hk:k≤maxLen):St w0 (.row (.slice (some ⟨w.heap.size,0,none⟩) k k) e s k cs.toList::H) (w.alloc (.cells cs e)):=by
 have h1:=h.step ((Below.refl w.heap.size w).alloc (Nat.le_refl _) (.cells cs e))
 refine⟨h1.ext,fun x hx=>?_,fun x hx b hb ho=>?_,h.apart⟩
 ·rcases List.mem_cons.1 hx with rfl|hx
  ·exact World.ownsRow_lit w cs k h.ext.size hk hs
  ·exact h1.all x hx
 ·simp only[Hl.spot,Value.ownBlock,Option.some.injEq] at hb
  subst hb
  exact absurd (Hl.lt (h.all x hx) ho) (Nat.lt_irrefl _)
theorem map_range0 {β:Type} (g:Nat→β):Array.map g (Array.range 0)=#[]:=Array.eq_empty_of_size_eq_zero (by simp)
theorem setAll_range:∀(vs zs pre:List Value),zs.length=vs.length→setAll (pre++zs) ((List.range' pre.length vs.length).zip vs)=pre++vs
 |[],zs,pre,h=>by
  have:zs=[]:=List.eq_nil_of_length_eq_zero (by simpa using h)
  subst this
  simp[setAll]
 |v::r,[],pre,h=>by simp at h
 |v::r,z::zs,pre,h=>by
  have ih:=setAll_range r zs (pre++[v]) (by simpa using h)
  rw[List.length_cons,List.range'_succ,List.zip_cons_cons,setAll]
  have e:(pre++z::zs).set pre.length v=(pre++[v])++zs:=by
   rw[List.set_append_right _ _ (Nat.le_refl _)]
   simp
  rw[e]
  simpa using ih
theorem x_lit {parts:List (Nat×Operand)} {vs:List Value} {k:Nat} (ha:AE L (parts.map (·.2)) vs) (h1:vs.all (·.oneCell')=true) (hi:parts.map (·.1)=List.range' 0 k) (hk:Nat.ble k 16777216=true) (hvk:vs.length=k)
  (hc:vs=l.flatMap f) (hlk:l.length=k) (ht:rowTyB P t e 1 bytes=true) (hd:Nat.blt dd n=true) :
  EX P n L w0 H ⟨some dd,.buildSlice t k parts.toArray,ty,pos,af,gd⟩ (fun _:Sl=>True) (fun v'=>(dd,v'.v)::L) (fun v'=>Hl.rw v'.v e f 1 l::H) :=
 EX.of_run (fun a w hfr hw=>by
  obtain⟨i,z,hu1,hi1,hz1,hs,hby,hzs,h0⟩:=rowTyB_spec ht
  have hk':k≤16777216:=Nat.le_of_ble_eq_true hk
  have hk2:¬(16777216<k):=by omega
  have hparts:(Array.map (fun x=>match x with|(i,x)=>(i,a.eval x)) parts.toArray).toList=(List.range' 0 k).zip vs:=by
   have:=ha.map hfr
   subst this
   rw[←hi]
   simp only[List.map_toArray,List.toList_toArray]
   clear hc h1 hi ha hvk
   induction parts with
   |nil=>rfl
   |cons p r ih=>simp[ih]
  have main:∀zs:List Value,zs.length=k→Instr.fill (fun i=>some (i,1)) zs.toArray ((List.range' 0 k).zip vs)=some vs.toArray:=fun zs hzl=>by
   have h2:=fill_setAll (place:=fun i=>some (i,1)) ((List.range' 0 k).zip vs) zs (fun i hi'=>by rfl) (fun p hp=>by
    have hm:p.1∈List.range' 0 k∧p.2∈vs:=List.of_mem_zip (a:=p.1) (b:=p.2) hp
    have h3:=List.mem_range'.1 hm.1
    have h4:=List.all_eq_true.1 h1 _ hm.2
    exact⟨by omega,h4⟩)
   have h3:=setAll_range vs zs [] (by omega)
   simp only[List.nil_append,List.length_nil,hvk] at h3
   rw[h2,h3]
  have hrun:(Instr.buildSlice t k (Array.map (fun x=>match x with|(i,x)=>(i,a.eval x)) parts.toArray)).run P w=.ok (.slice (some ⟨w.heap.size,0,none⟩) k k) (w.alloc (.cells vs.toArray e)):=by
   unfold Instr.buildSlice
   have hsz:(P.info? e).map (·.size)=some 1:=by simp[hi1,hs]
   have hzv:(zeroValue e).run P w=.ok z w:=by simp[zeroValue,typeInfo,hi1,hz1]
   simp only[Sem.run_bind,run_underlying hu1,Result.andThen_ok,run_sizeOf_of hsz,Nat.mul_one,hparts]
   by_cases hk0:k=0
   ·subst hk0
    have hv0:vs=[]:=List.eq_nil_of_length_eq_zero hvk
    subst hv0
    simp[Instr.fill,newRow,map_range0]
   ·have h5:=main ((Array.map (fun x=>z.cells[x%z.cells.size]!) (Array.range k)).toList) (by simp)
    simp only[Array.toArray_toList] at h5
    simp[hk0,hk2,hzv,h5,newRow]
  refine⟨.slice (some ⟨w.heap.size,0,none⟩) k k,w.alloc (.cells vs.toArray e),⟨some ⟨w.heap.size,0,none⟩,k,k⟩,by simp only[execOp,Sem.run_bind,hrun,Result.andThen_ok,Sem.run_pure],trivial,rfl,?_⟩
  have h6:=hw.newRow e vs.toArray 1 k (by simp[hvk]) (by simp only[maxLen];omega)
  subst hc
  rw[←hlk] at h6 ⊢
  exact h6) hd
theorem x_lit0 {k:Nat} (ht:rowTyB P t e s bytes=true) (hd:Nat.blt dd n=true) :
  EX P n L w0 H ⟨some dd,.buildSlice t 0 #[],ty,pos,af,gd⟩ (fun _:Sl=>True) (fun v'=>(dd,v'.v)::L) (fun v'=>.row v'.v e s 0 []::H) :=
 EX.of_run (fun a w hfr hw=>by
  obtain⟨i,z,hu1,hi1,hz1,hs,hby,hzs,h0⟩:=rowTyB_spec ht
  have hrun:(Instr.buildSlice t 0 #[]).run P w=.ok (.slice (some ⟨w.heap.size,0,none⟩) 0 0) (w.alloc (.cells #[] e)):=by
   unfold Instr.buildSlice
   have hsz:(P.info? e).map (·.size)=some s:=by simp[hi1,hs]
   simp[run_underlying hu1,run_sizeOf_of hsz,Instr.fill,newRow,map_range0]
  refine⟨.slice (some ⟨w.heap.size,0,none⟩) 0 0,w.alloc (.cells #[] e),⟨some ⟨w.heap.size,0,none⟩,0,0⟩,by simp[execOp,hrun],trivial,rfl,?_⟩
  exact hw.newRow e #[] s 0 (by simp) (Nat.zero_le _)) hd
theorem x_storeEl [Inhabited α] {c:Nat} {b:α} {H':List Hl} (hx:evO L x=some (elA v s m c)) (hy:evO L y=some u) (hu1:u.oneCell'=true) (hu:Upd (Hl.rw v e f s l) (Hl.rw v e f s (l.set m.toNat b)) H H') (hm:0≤m∧m<l.length)
  (hf:∀a,(f a).length=s) (hb:(f (nth l m)).set c u=f b) (hc:Nat.blt c s=true) (hs:scalarB P t=true) :
  EX P n L w0 H ⟨none,.store t x y,ty,pos,af,gd⟩ (fun _:Unit=>True) (fun _=>L) (fun _=>H') :=
 EX.of_skip fun a w ha hw=>by
  have hc':c<s:=by simpa [Nat.blt_eq] using hc
  have hown:w.ownsRow w0.heap.size e s v l.length (l.flatMap f):=hw.all _ hu.mem
  obtain⟨ad,cap,rfl,hcell⟩:=(RdT.rw hu.mem).at_ hf hm (by omega) hw
  rcases hown.2 with ⟨h',_⟩|⟨g,cap',cur,h',hb',hg,hnc,hcm,hcs,htake⟩
  ·simp at h'
  ·simp only[Value.slice.injEq,Option.some.injEq] at h'
   obtain⟨rfl,_,rfl⟩:=h'
   have hj:m.toNat*s+c<l.length*s:=by
    have h2:(m.toNat+1)*s≤l.length*s:=Nat.mul_le_mul_right _ (by omega)
    rw[Nat.succ_mul] at h2
    omega
   have hadd:(⟨g,0,none⟩:Addr).add (m.toNat*s+c)=⟨g,m.toNat*s+c,none⟩:=by unfold Addr.add;split<;>simp_all
   have hold:w.cell? ⟨g,m.toNat*s+c,none⟩=(l.flatMap f)[m.toNat*s+c]?:=hown.cellAt _ hj
   have hlen:=flat_len hf l
   have hcl:w.cell? ⟨g,m.toNat*s+c,none⟩=some ((l.flatMap f)[m.toNat*s+c]'(by omega)):=hold.trans (List.getElem?_eq_getElem (by omega))
   have hfr:=hown.frozenAt (m.toNat*s+c)
   have hst:=hown.stored (m.toNat*s+c) u
   rw[flat_set hf l m.toNat c _ b u (nth_some hm.1 hm.2) hb hc'] at hst
   have h0:(⟨g,m.toNat*s+c,none⟩:Addr).add 0=⟨g,m.toNat*s+c,none⟩:=rfl
   refine⟨w.setCell ⟨g,m.toNat*s+c,none⟩ u,(),by simp[execOp,ha.eval hx,ha.eval hy,elA,Instr.storeAt,Instr.sureAddr,storeVar,oneCell_cells hu1,run_sizeOf_of (info_of_scalarB hs),storeCells,hadd,h0,run_store P w _ u _ hu1,hcl,hfr],trivial,rfl,?_⟩
   refine hw.turn hu rfl hst.2 ?_ fun b hb=>.inl hb
   show World.ownsRow _ _ _ _ _ _ _
   rw[List.length_set]
   exact hst.1
end
theorem nfT:true = !false:=rfl
theorem nfF:false = !true:=rfl
/-! ### The rules with what is found by search -/
theorem memA {h:Hl} {H:List Hl} (x:h∈H:=by(first|exact .head _|exact m1 (.head _)|exact m1 (m1 (.head _))|exact m1 (m1 (m1 (.head _)))|exact m4 (.head _)|exact m4 (m1 (.head _))|exact m4 (m1 (m1 (.head _)))|exact m4 (m1 (m1 (m1 (.head _))))|exact m8 (.head _)|exact m8 (m1 (.head _))|exact m8 (m1 (m1 (.head _)))|exact m8 (m1 (m1 (m1 (.head _))))|exact m8 (m4 (.head _))|exact m8 (m4 (m1 (.head _)))|exact m8 (m4 (m1 (m1 (.head _))))|exact m8 (m4 (m1 (m1 (m1 (.head _)))))|exact m8 (m8 (.head _))|exact m8 (m8 (m1 (.head _)))|exact m8 (m8 (m1 (m1 (.head _))))|exact m8 (m8 (m1 (m1 (m1 (.head _))))))):h∈H:=x
theorem updA {x y:Hl} {H H':List Hl} (h:Upd x y H H':=by(first|exact .here _|exact u1 (.here _)|exact u1 (u1 (.here _))|exact u1 (u1 (u1 (.here _)))|exact u4 (.here _)|exact u4 (u1 (.here _))|exact u4 (u1 (u1 (.here _)))|exact u4 (u1 (u1 (u1 (.here _))))|exact u8 (.here _)|exact u8 (u1 (.here _))|exact u8 (u1 (u1 (.here _)))|exact u8 (u1 (u1 (u1 (.here _))))|exact u8 (u4 (.here _))|exact u8 (u4 (u1 (.here _)))|exact u8 (u4 (u1 (u1 (.here _))))|exact u8 (u4 (u1 (u1 (u1 (.here _)))))|exact u8 (u8 (.here _))|exact u8 (u8 (u1 (.here _)))|exact u8 (u8 (u1 (u1 (.here _))))|exact u8 (u8 (u1 (u1 (u1 (.here _))))))):Upd x y H H':=h
theorem omA {p:Prop} (h:p:=by(first|omega|(simp at hb;omega)|(simp at hc;omega)|(simp at hb hc;omega))):p:=h
theorem omlA {p:Prop} (h:p:=by(first|omega|(simp only[List.length_set,List.length_append,List.length_cons,List.length_nil,List.length_replicate,List.length_take,List.length_drop];omega)|(simp at hb;omega)|(simp at hb;simp only[List.length_set,List.length_append,List.length_cons,List.length_nil,List.length_replicate,List.length_take,List.length_drop];omega)|(simp at hc;omega)|(simp at hb hc;omega))):p:=h
theorem rdA {α:Type} {H:List Hl} {v:Value} {f:α→List Value} {s:Nat} {l:List α} (h:RdT H v f s l:=by(first|exact RdT.rd (by exact memA)|exact RdT.nw (by exact memA)|exact RdT.rw (by exact memA)|exact RdT.nil|exact RdT.cut (by(first|exact RdT.rd (by exact memA)|exact RdT.nw (by exact memA)|exact RdT.rw (by exact memA)|exact RdT.nil)) (by exact fun _=>rfl) (by exact omlA) (by exact omlA)|exact RdT.cast (by(first|exact RdT.rd (by exact memA)|exact RdT.nw (by exact memA)|exact RdT.rw (by exact memA)|exact RdT.nil)) (by simp only[Int.natAbs_neg]))):RdT H v f s l:=h
section
variable {P:Program} {n:Nat} {L:FL} {w0:World} {H HS:List Hl} {o:Oper} {v:Value} {K:Value→Prop} {p:Prop}
theorem vAuto (h:V P n L w0 H o v:=by
 first
  |(apply y_move;rfl;done)
  |(apply y_assign;rfl;done)
  |(apply y_pickT;rfl;(with_reducible rfl);rfl;done)
  |(apply y_pickF;rfl;(with_reducible rfl);rfl;done)
  |(apply y_and;rfl;rfl;done)
  |(apply y_or;rfl;rfl;done)
  |(apply y_pick;rfl;rfl;rfl;done)
  |(apply y_ext20;rfl;done)
  |(apply y_ext21;rfl;done)
  |(apply y_ext30;rfl;done)
  |(apply y_ext31;rfl;done)
  |(apply y_ext32;rfl;done)
  |(apply y_ext40;rfl;done)
  |(apply y_ext41;rfl;done)
  |(apply y_ext42;rfl;done)
  |(apply y_ext43;rfl;done)
  |(apply y_notT;rfl;with_reducible rfl;done)
  |(apply y_notF;rfl;with_reducible rfl;done)
  |(apply y_not;rfl;done)
  |(apply y_fieldAddr;rfl;(first|exact(show fieldAt _ _ _ _=some 0 by decide +kernel)|exact(show fieldAt _ _ _ _=some 1 by decide +kernel)|exact(show fieldAt _ _ _ _=some 2 by decide +kernel)|exact(show fieldAt _ _ _ _=some 3 by decide +kernel)|exact(show fieldAt _ _ _ _=some 4 by decide +kernel)|exact(show fieldAt _ _ _ _=some 5 by decide +kernel)|exact(show fieldAt _ _ _ _=some 6 by decide +kernel)|exact(show fieldAt _ _ _ _=some 7 by decide +kernel)|exact(show fieldAt _ _ _ _=some 8 by decide +kernel)|exact(show fieldAt _ _ _ _=some 9 by decide +kernel)|exact(show fieldAt _ _ _ _=some 10 by decide +kernel)|exact(show fieldAt _ _ _ _=some 11 by decide +kernel)|exact(show fieldAt _ _ _ _=some 12 by decide +kernel)|exact(show fieldAt _ _ _ _=some 13 by decide +kernel));done)
  |(apply y_load;rfl;exact memA;rfl;decide +kernel;done)
  |(apply y_loadRow;rfl;exact memA;(repeat(first|exact .nil|apply LenIs.cons));decide +kernel;done)
  |(apply zlP;rfl;exact memA;decide +kernel;rfl;done)
  |(apply y_lss;rfl;rfl;done)
  |(apply y_leq;rfl;rfl;done)
  |(apply y_gtr;rfl;rfl;done)
  |(apply y_geq;rfl;rfl;done)
  |(apply y_eql;rfl;rfl;done)
  |(apply y_neq;rfl;rfl;done)
  |(apply y_eqlB;rfl;rfl;exact BoolTy.is;done)
  |(apply y_neqB;rfl;rfl;exact BoolTy.is;done)
  |(apply y_eqlS;rfl;rfl;(repeat(first|exact .nil|apply KdsAre.int|apply KdsAre.bool|apply KdsAre.string));(repeat(first|exact .nil|apply KdsAre.int|apply KdsAre.bool|apply KdsAre.string));decide +kernel;done)
  |(apply y_neqS;rfl;rfl;(repeat(first|exact .nil|apply KdsAre.int|apply KdsAre.bool|apply KdsAre.string));(repeat(first|exact .nil|apply KdsAre.int|apply KdsAre.bool|apply KdsAre.string));decide +kernel;done)
  |(apply y_conv;exact IntTy.is;decide +kernel;rfl;(first|exact IntWalk.i64_in _ (by exact omA)|exact IntWalk.u64_in _ (by exact omA)|exact IntWalk.u8_in _ (by exact omA)|rfl);done)
  |(apply y_add64;rfl;rfl;exact omA;done)
  |(apply y_addU;rfl;rfl;exact omA;done)
  |(apply y_add;rfl;rfl;done)
  |(apply y_sub64;rfl;rfl;exact omA;done)
  |(apply y_subU;rfl;rfl;exact omA;done)
  |(apply y_sub;rfl;rfl;done)
  |(apply y_mul64;rfl;rfl;exact omA;done)
  |(apply y_mulU;rfl;rfl;exact omA;done)
  |(apply y_mul;rfl;rfl;done)
  |(apply y_shr;rfl;rfl;decide;(first|exact(show _=(2:Int) by decide)|exact(show _=(4:Int) by decide)|exact(show _=(8:Int) by decide)|exact(show _=(16:Int) by decide)|exact(show _=(256:Int) by decide)|exact(show _=(1024:Int) by decide)|exact(show _=(65536:Int) by decide)|exact(show _=(268435456:Int) by decide)|exact(show _=(1073741824:Int) by decide)|exact(show _=(2147483648:Int) by decide)|exact(show _=(4294967296:Int) by decide)|exact(show _=(1152921504606846976:Int) by decide)|exact(show _=(4611686018427387904:Int) by decide)|exact(show _=(9223372036854775808:Int) by decide));done)
  |(apply y_shl;rfl;rfl;decide;(first|exact(show _=(2:Int) by decide)|exact(show _=(4:Int) by decide)|exact(show _=(8:Int) by decide)|exact(show _=(16:Int) by decide)|exact(show _=(256:Int) by decide)|exact(show _=(1024:Int) by decide)|exact(show _=(65536:Int) by decide)|exact(show _=(268435456:Int) by decide)|exact(show _=(1073741824:Int) by decide)|exact(show _=(2147483648:Int) by decide)|exact(show _=(4294967296:Int) by decide)|exact(show _=(1152921504606846976:Int) by decide)|exact(show _=(4611686018427387904:Int) by decide)|exact(show _=(9223372036854775808:Int) by decide));(first|exact IntWalk.i64_in _ (by exact omA)|exact IntWalk.u64_in _ (by exact omA)|rfl);done)
  |(apply y_shrV;rfl;rfl;exact omA;done)
  |(apply y_shlV;rfl;rfl;exact omA;done)
  |(apply y_mask32;rfl;rfl;exact omA;done)
  |(apply y_band;rfl;rfl;done)
  |(apply y_bor;rfl;rfl;done)
  |(apply y_neg64;rfl;exact omA;done)
  |(apply y_neg;rfl;done)
  |(apply y_quoU;rfl;rfl;exact omA;done)
  |(apply y_remU;rfl;rfl;exact omA;done)
  |(apply y_quo64;rfl;rfl;exact omA;done)
  |(apply y_quo;rfl;rfl;exact omA;done)
  |(apply y_rem64;rfl;rfl;exact omA;done)
  |(apply y_rem;rfl;rfl;exact omA;done)
  |(apply y_buildP (vs:=[]);exact ZeroTy.is;exact rfl;(repeat(first|exact .nil|apply LenIs.cons));decide +kernel;rfl;(simp only[List.map_cons,List.map_nil,List.zip_cons_cons,List.zip_nil_right,List.zip_nil_left,setAll,List.set_cons_zero,List.set_cons_succ];rfl);done)
  |(apply y_buildP (vs:=[_]);exact ZeroTy.is;exact⟨rfl,rfl⟩;(repeat(first|exact .nil|apply LenIs.cons));decide +kernel;rfl;(simp only[List.map_cons,List.map_nil,List.zip_cons_cons,List.zip_nil_right,List.zip_nil_left,setAll,List.set_cons_zero,List.set_cons_succ];rfl);done)
  |(apply y_buildP (vs:=[_,_]);exact ZeroTy.is;exact⟨rfl,rfl,rfl⟩;(repeat(first|exact .nil|apply LenIs.cons));decide +kernel;rfl;(simp only[List.map_cons,List.map_nil,List.zip_cons_cons,List.zip_nil_right,List.zip_nil_left,setAll,List.set_cons_zero,List.set_cons_succ];rfl);done)
  |(apply y_buildP (vs:=[_,_,_]);exact ZeroTy.is;exact⟨rfl,rfl,rfl,rfl⟩;(repeat(first|exact .nil|apply LenIs.cons));decide +kernel;rfl;(simp only[List.map_cons,List.map_nil,List.zip_cons_cons,List.zip_nil_right,List.zip_nil_left,setAll,List.set_cons_zero,List.set_cons_succ];rfl);done)
  |(apply y_buildP (vs:=[_,_,_,_]);exact ZeroTy.is;exact⟨rfl,rfl,rfl,rfl,rfl⟩;(repeat(first|exact .nil|apply LenIs.cons));decide +kernel;rfl;(simp only[List.map_cons,List.map_nil,List.zip_cons_cons,List.zip_nil_right,List.zip_nil_left,setAll,List.set_cons_zero,List.set_cons_succ];rfl);done)
  |(apply y_buildP (vs:=[_,_,_,_,_]);exact ZeroTy.is;exact⟨rfl,rfl,rfl,rfl,rfl,rfl⟩;(repeat(first|exact .nil|apply LenIs.cons));decide +kernel;rfl;(simp only[List.map_cons,List.map_nil,List.zip_cons_cons,List.zip_nil_right,List.zip_nil_left,setAll,List.set_cons_zero,List.set_cons_succ];rfl);done)
  |(apply y_buildP (vs:=[_,_,_,_,_,_]);exact ZeroTy.is;exact⟨rfl,rfl,rfl,rfl,rfl,rfl,rfl⟩;(repeat(first|exact .nil|apply LenIs.cons));decide +kernel;rfl;(simp only[List.map_cons,List.map_nil,List.zip_cons_cons,List.zip_nil_right,List.zip_nil_left,setAll,List.set_cons_zero,List.set_cons_succ];rfl);done)
  |(apply y_buildP (vs:=[_,_,_,_,_,_,_]);exact ZeroTy.is;exact⟨rfl,rfl,rfl,rfl,rfl,rfl,rfl,rfl⟩;(repeat(first|exact .nil|apply LenIs.cons));decide +kernel;rfl;(simp only[List.map_cons,List.map_nil,List.zip_cons_cons,List.zip_nil_right,List.zip_nil_left,setAll,List.set_cons_zero,List.set_cons_succ];rfl);done)
  |exact y_makeFunc (vs:=[]) rfl
  |exact y_makeFunc (vs:=[_]) ⟨rfl,rfl⟩
  |exact y_makeFunc (vs:=[_,_]) ⟨rfl,rfl,rfl⟩
  |exact y_makeFunc (vs:=[_,_,_]) ⟨rfl,rfl,rfl,rfl⟩
  |(apply y_len;rfl;exact rdA;decide +kernel;done)
  |(apply y_indexAddr;rfl;rfl;exact rdA;exact fun _=>rfl;exact omlA;rfl;decide +kernel;done)
  |(apply y_fieldEl;rfl;exact rdA;exact fun _=>rfl;exact omlA;rfl;(first|exact(show fieldAt _ _ _ _=some 0 by decide +kernel)|exact(show fieldAt _ _ _ _=some 1 by decide +kernel)|exact(show fieldAt _ _ _ _=some 2 by decide +kernel)|exact(show fieldAt _ _ _ _=some 3 by decide +kernel)|exact(show fieldAt _ _ _ _=some 4 by decide +kernel)|exact(show fieldAt _ _ _ _=some 5 by decide +kernel)|exact(show fieldAt _ _ _ _=some 6 by decide +kernel)|exact(show fieldAt _ _ _ _=some 7 by decide +kernel)|exact(show fieldAt _ _ _ _=some 8 by decide +kernel)|exact(show fieldAt _ _ _ _=some 9 by decide +kernel)|exact(show fieldAt _ _ _ _=some 10 by decide +kernel)|exact(show fieldAt _ _ _ _=some 11 by decide +kernel)|exact(show fieldAt _ _ _ _=some 12 by decide +kernel)|exact(show fieldAt _ _ _ _=some 13 by decide +kernel));done)
  |(apply y_loadEl;rfl;exact rdA;(case inst=>infer_instance);exact fun _=>rfl;exact omlA;rfl;rfl;decide +kernel;done)
  |(apply y_loadElRow;rfl;exact rdA;(case inst=>infer_instance);exact fun _=>rfl;exact omlA;rfl;rfl;decide +kernel;done)
  |(apply y_sliceH;rfl;exact rdA;decide +kernel;rfl;exact omlA;done)
  |(apply y_sliceL;rfl;exact rdA;decide +kernel;rfl;exact omlA;done)
  |(apply y_sliceLH;rfl;exact rdA;decide +kernel;rfl;rfl;exact omlA;done)
  |(apply y_max;rfl;rfl;done)
  |(apply y_min;rfl;rfl;done)
  |(apply y_isNil;rfl;exact rdA;decide +kernel;done)):V P n L w0 H o v:=h
theorem zcA {f:FuncId} {d:Option Tmp} {ty:TypeId} {pos:String} {af:Array Edge} {g:Option (Nat×Bool)} {xs:List Operand} {vs:List Value} {tys:Array TypeId} (hc:Cont P f vs v)
  (ha:AE L xs vs) (hg:isGo P f=true:=by decide +kernel) :
  Y P n L w0 H ⟨d,.call { callee:=.value (.func f),args:=xs.toArray,argTypes:=tys },ty,pos,af,g⟩ v:=y_call hc ha hg
theorem zcR {Hp:List Hl} {f:FuncId} {d:Tmp} {ty:TypeId} {pos:String} {af:Array Edge} {g:Option (Nat×Bool)} {xs:List Operand} {vs:List Value} {tys:Array TypeId} (hc:ContR P Hp f vs v)
  (ha:AE L xs vs) (hs:RdAll H Hp:=by(first|exact RdAll.nil|exact RdAll.cons (by exact rdA) (RdAll.nil)|exact RdAll.cons (by exact rdA) (RdAll.cons (by exact rdA) (RdAll.nil))|exact RdAll.cons (by exact rdA) (RdAll.cons (by exact rdA) (RdAll.cons (by exact rdA) (RdAll.nil)))|exact RdAll.cons (by exact rdA) (RdAll.cons (by exact rdA) (RdAll.cons (by exact rdA) (RdAll.cons (by exact rdA) (RdAll.nil))))|fail)) (hg:isGo P f=true:=by decide +kernel) :
  Y P n L w0 H ⟨some d,.call { callee:=.value (.func f),args:=xs.toArray,argTypes:=tys },ty,pos,af,g⟩ v:=y_callR hc ha hs hg
def VK (P:Program) (n:Nat) (L:FL) (w0:World) (H:List Hl) (o:Oper) (K:Value→Prop):Prop:=∃v,V P n L w0 H o v∧K v
def VG (p:Prop) (P:Program) (n:Nat) (L:FL) (w0:World) (H:List Hl) (o:Oper) (K:Value→Prop):Prop:=∃v,(p→V P n L w0 H o v)∧K v
def YK (P:Program) (n:Nat) (L:FL) (w0:World) (H:List Hl) (o:Oper) (K:Value→Prop):Prop:=∃v,Y P n L w0 H o v∧K v
def YG (p:Prop) (P:Program) (n:Nat) (L:FL) (w0:World) (H:List Hl) (o:Oper) (K:Value→Prop):Prop:=∃v,(p→Y P n L w0 H o v)∧K v
theorem VK.mk (hy:V P n L w0 H o v) (h:K v):VK P n L w0 H o K:=⟨v,hy,h⟩
theorem VG.mk (hy:p→V P n L w0 H o v) (h:K v):VG p P n L w0 H o K:=⟨v,hy,h⟩
theorem YK.mk (hy:Y P n L w0 H o v) (h:K v):YK P n L w0 H o K:=⟨v,hy,h⟩
theorem YG.mk (hy:p→Y P n L w0 H o v) (h:K v):YG p P n L w0 H o K:=⟨v,hy,h⟩
theorem YK.ofV (hy:V P n L w0 H o v) (h:K v):YK P n L w0 H o K:=⟨v,hy.y,h⟩
variable {ops:Array Oper} {rest:List Oper} {ord:List Mv} {ps:List Pd} {d g j i:Nat} {op:Op} {ty:TypeId} {pos:String} {af:Array Edge} {b c:Bool} {Q:Exit→Act→World→Prop}
def steadyB (o:Oper):Bool:=pureB o||(match o.op with
 |.call c=>match c.callee with
  |.builtin _=>false
  |_=>true
 |_=>false)
theorem RS.stepK (_hr:steadyB ⟨some d,op,ty,pos,af,none⟩=true) (hd:Nat.blt d n=true) (h:YK P n L w0 H ⟨some d,op,ty,pos,af,none⟩ fun v=>RS P ops Q n ((d,v)::L) w0 H rest) :
  RS P ops Q n L w0 H (⟨some d,op,ty,pos,af,none⟩::rest):=let ⟨_,h1,h2⟩:=h;RS.step h1 hd h2
theorem RM.stepK (ho:ops[i]?=some ⟨some d,op,ty,pos,af,none⟩) (hp:pureB ⟨some d,op,ty,pos,af,none⟩=true) (hd:Nat.blt d n=true) (hs:∀w,St w0 H w→St w0 HS w) (h:VK P n L w0 HS ⟨some d,op,ty,pos,af,none⟩ fun v=>RM P ops Q HS n ps ((d,v)::L) w0 H ord) :
  RM P ops Q HS n ps L w0 H (.go i::ord):=let ⟨_,h1,h2⟩:=h;RM.step ho hp hs h1 hd h2
theorem RM.callK (ho:ops[i]?=some ⟨some d,op,ty,pos,af,none⟩) (hp:pureB ⟨some d,op,ty,pos,af,none⟩=false) (_hr:steadyB ⟨some d,op,ty,pos,af,none⟩=true) (hd:Nat.blt d n=true) (hs:∀w,St w0 H w→St w0 HS w) (h:YK P n L w0 H ⟨some d,op,ty,pos,af,none⟩ fun v=>RM P ops Q HS n ps ((d,v)::L) w0 H ord) :
  RM P ops Q HS n ps L w0 H (.go i::ord):=let ⟨_,h1,h2⟩:=h;RM.call ho hp hs h1 hd h2
theorem RS.lTK (hj:(ops[j]?).bind (·.dst)=some g) (hg:lk L g=some (.bool b)) (hb:b=true) (_hr:steadyB ⟨some d,op,ty,pos,af,some (j,true)⟩=true) (hd:Nat.blt d n=true) (h:YK P n L w0 H ⟨some d,op,ty,pos,af,some (j,true)⟩ fun v=>RS P ops Q n ((d,v)::L) w0 H rest) :
  RS P ops Q n L w0 H (⟨some d,op,ty,pos,af,some (j,true)⟩::rest):=by
 obtain⟨v,h1,h2⟩:=h
 subst hb
 exact RS.guarded (c:=true) rfl hj (by simpa using hg) hd (fun _ _=>h1) (by simpa using h2)
theorem RS.xT (hj:(ops[j]?).bind (·.dst)=some g) (hg:lk L g=some (.bool b)) (hb:b = !true) (hd:Nat.blt d n=true) (h:RS P ops Q n ((d,undef)::L) w0 H rest) :
  RS P ops Q n L w0 H (⟨some d,op,ty,pos,af,some (j,true)⟩::rest):=by
 subst hb
 exact RS.guarded (c:=true) (v:=undef) rfl hj (by simpa using hg) hd (fun _ h=>by simp at h) (by simpa using h)
theorem RS.gTK (hj:(ops[j]?).bind (·.dst)=some g) (hg:lk L g=some (.bool b)) (_hr:steadyB ⟨some d,op,ty,pos,af,some (j,true)⟩=true) (hd:Nat.blt d n=true) (h:YG (b=true) P n L w0 H ⟨some d,op,ty,pos,af,some (j,true)⟩ fun v=>RS P ops Q n ((d,bif b then v else undef)::L) w0 H rest) :
  RS P ops Q n L w0 H (⟨some d,op,ty,pos,af,some (j,true)⟩::rest):=let ⟨_,h1,h2⟩:=h;RS.guarded (c:=true) rfl hj (by simpa using hg) hd (fun _=>h1) (by simpa using h2)
theorem RS.gTcK (hj:(ops[j]?).bind (·.dst)=some g) (hg:lk L g=some (bif c then .bool b else undef)) (_hr:steadyB ⟨some d,op,ty,pos,af,some (j,true)⟩=true) (hd:Nat.blt d n=true)
  (h:YG (c=true∧b=true) P n L w0 H ⟨some d,op,ty,pos,af,some (j,true)⟩ fun v=>RS P ops Q n ((d,bif (c&&b) then v else undef)::L) w0 H rest) :
  RS P ops Q n L w0 H (⟨some d,op,ty,pos,af,some (j,true)⟩::rest):=let ⟨_,h1,h2⟩:=h;RS.guarded rfl hj hg hd (fun hc hb=>h1 ⟨hc,hb⟩) (by simpa using h2)
theorem RM.lTK (ho:ops[i]?=some ⟨some d,op,ty,pos,af,some (j,true)⟩) (hp:pureB ⟨some d,op,ty,pos,af,some (j,true)⟩=true) (hj:(ops[j]?).bind (·.dst)=some g) (hg:lk L g=some (.bool b)) (hb:b=true) (hd:Nat.blt d n=true) (hs:∀w,St w0 H w→St w0 HS w)
  (h:VK P n L w0 HS ⟨some d,op,ty,pos,af,some (j,true)⟩ fun v=>RM P ops Q HS n ps ((d,v)::L) w0 H ord):RM P ops Q HS n ps L w0 H (.go i::ord):=by
 obtain⟨v,h1,h2⟩:=h
 subst hb
 exact RM.guarded (c:=true) ho rfl hp hs hj (by simpa using hg) hd (fun _ _=>h1) (by simpa using h2)
theorem RM.xT (ho:ops[i]?=some ⟨some d,op,ty,pos,af,some (j,true)⟩) (hp:pureB ⟨some d,op,ty,pos,af,some (j,true)⟩=true) (hj:(ops[j]?).bind (·.dst)=some g) (hg:lk L g=some (.bool b)) (hb:b = !true) (hd:Nat.blt d n=true) (hs:∀w,St w0 H w→St w0 HS w)
  (h:RM P ops Q HS n ps ((d,undef)::L) w0 H ord):RM P ops Q HS n ps L w0 H (.go i::ord):=by
 subst hb
 exact RM.guarded (c:=true) (v:=undef) ho rfl hp hs hj (by simpa using hg) hd (fun _ h=>by simp at h) (by simpa using h)
theorem RM.gTK (ho:ops[i]?=some ⟨some d,op,ty,pos,af,some (j,true)⟩) (hp:pureB ⟨some d,op,ty,pos,af,some (j,true)⟩=true) (hj:(ops[j]?).bind (·.dst)=some g) (hg:lk L g=some (.bool b)) (hd:Nat.blt d n=true) (hs:∀w,St w0 H w→St w0 HS w)
  (h:VG (b=true) P n L w0 HS ⟨some d,op,ty,pos,af,some (j,true)⟩ fun v=>RM P ops Q HS n ps ((d,bif b then v else undef)::L) w0 H ord):RM P ops Q HS n ps L w0 H (.go i::ord) :=
 let ⟨_,h1,h2⟩:=h;RM.guarded (c:=true) ho rfl hp hs hj (by simpa using hg) hd (fun _=>h1) (by simpa using h2)
theorem RM.gTcK (ho:ops[i]?=some ⟨some d,op,ty,pos,af,some (j,true)⟩) (hp:pureB ⟨some d,op,ty,pos,af,some (j,true)⟩=true) (hj:(ops[j]?).bind (·.dst)=some g) (hg:lk L g=some (bif c then .bool b else undef)) (hd:Nat.blt d n=true) (hs:∀w,St w0 H w→St w0 HS w)
  (h:VG (c=true∧b=true) P n L w0 HS ⟨some d,op,ty,pos,af,some (j,true)⟩ fun v=>RM P ops Q HS n ps ((d,bif (c&&b) then v else undef)::L) w0 H ord):RM P ops Q HS n ps L w0 H (.go i::ord) :=
 let ⟨_,h1,h2⟩:=h;RM.guarded ho rfl hp hs hj hg hd (fun hc hb=>h1 ⟨hc,hb⟩) (by simpa using h2)
theorem RM.lTyK (ho:ops[i]?=some ⟨some d,op,ty,pos,af,some (j,true)⟩) (hp:pureB ⟨some d,op,ty,pos,af,some (j,true)⟩=false) (hj:(ops[j]?).bind (·.dst)=some g) (hg:lk L g=some (.bool b)) (hb:b=true) (hd:Nat.blt d n=true) (hs:∀w,St w0 H w→St w0 HS w)
  (h:YK P n L w0 H ⟨some d,op,ty,pos,af,some (j,true)⟩ fun v=>RM P ops Q HS n ps ((d,v)::L) w0 H ord):RM P ops Q HS n ps L w0 H (.go i::ord):=by
 obtain⟨v,h1,h2⟩:=h
 subst hb
 exact RM.callG (c:=true) ho rfl hp hs hj (by simpa using hg) hd (fun _ _=>h1) (by simpa using h2)
theorem RM.xTy (ho:ops[i]?=some ⟨some d,op,ty,pos,af,some (j,true)⟩) (hp:pureB ⟨some d,op,ty,pos,af,some (j,true)⟩=false) (hj:(ops[j]?).bind (·.dst)=some g) (hg:lk L g=some (.bool b)) (hb:b = !true) (hd:Nat.blt d n=true) (hs:∀w,St w0 H w→St w0 HS w)
  (h:RM P ops Q HS n ps ((d,undef)::L) w0 H ord):RM P ops Q HS n ps L w0 H (.go i::ord):=by
 subst hb
 exact RM.callG (c:=true) (v:=undef) ho rfl hp hs hj (by simpa using hg) hd (fun _ h=>by simp at h) (by simpa using h)
theorem RM.gTyK (ho:ops[i]?=some ⟨some d,op,ty,pos,af,some (j,true)⟩) (hp:pureB ⟨some d,op,ty,pos,af,some (j,true)⟩=false) (hj:(ops[j]?).bind (·.dst)=some g) (hg:lk L g=some (.bool b)) (hd:Nat.blt d n=true) (hs:∀w,St w0 H w→St w0 HS w)
  (h:YG (b=true) P n L w0 H ⟨some d,op,ty,pos,af,some (j,true)⟩ fun v=>RM P ops Q HS n ps ((d,bif b then v else undef)::L) w0 H ord):RM P ops Q HS n ps L w0 H (.go i::ord) :=
 let ⟨_,h1,h2⟩:=h;RM.callG (c:=true) ho rfl hp hs hj (by simpa using hg) hd (fun _=>h1) (by simpa using h2)
theorem RS.lFK (hj:(ops[j]?).bind (·.dst)=some g) (hg:lk L g=some (.bool b)) (hb:b=false) (_hr:steadyB ⟨some d,op,ty,pos,af,some (j,false)⟩=true) (hd:Nat.blt d n=true) (h:YK P n L w0 H ⟨some d,op,ty,pos,af,some (j,false)⟩ fun v=>RS P ops Q n ((d,v)::L) w0 H rest) :
  RS P ops Q n L w0 H (⟨some d,op,ty,pos,af,some (j,false)⟩::rest):=by
 obtain⟨v,h1,h2⟩:=h
 subst hb
 exact RS.guarded (c:=true) rfl hj (by simpa using hg) hd (fun _ _=>h1) (by simpa using h2)
theorem RS.xF (hj:(ops[j]?).bind (·.dst)=some g) (hg:lk L g=some (.bool b)) (hb:b = !false) (hd:Nat.blt d n=true) (h:RS P ops Q n ((d,undef)::L) w0 H rest) :
  RS P ops Q n L w0 H (⟨some d,op,ty,pos,af,some (j,false)⟩::rest):=by
 subst hb
 exact RS.guarded (c:=true) (v:=undef) rfl hj (by simpa using hg) hd (fun _ h=>by simp at h) (by simpa using h)
theorem RS.gFK (hj:(ops[j]?).bind (·.dst)=some g) (hg:lk L g=some (.bool b)) (_hr:steadyB ⟨some d,op,ty,pos,af,some (j,false)⟩=true) (hd:Nat.blt d n=true) (h:YG (b=false) P n L w0 H ⟨some d,op,ty,pos,af,some (j,false)⟩ fun v=>RS P ops Q n ((d,bif !b then v else undef)::L) w0 H rest) :
  RS P ops Q n L w0 H (⟨some d,op,ty,pos,af,some (j,false)⟩::rest):=let ⟨_,h1,h2⟩:=h;RS.guarded (c:=true) rfl hj (by simpa using hg) hd (fun _=>h1) (by simpa using h2)
theorem RS.gFcK (hj:(ops[j]?).bind (·.dst)=some g) (hg:lk L g=some (bif c then .bool b else undef)) (_hr:steadyB ⟨some d,op,ty,pos,af,some (j,false)⟩=true) (hd:Nat.blt d n=true)
  (h:YG (c=true∧b=false) P n L w0 H ⟨some d,op,ty,pos,af,some (j,false)⟩ fun v=>RS P ops Q n ((d,bif (c&&!b) then v else undef)::L) w0 H rest) :
  RS P ops Q n L w0 H (⟨some d,op,ty,pos,af,some (j,false)⟩::rest):=let ⟨_,h1,h2⟩:=h;RS.guarded rfl hj hg hd (fun hc hb=>h1 ⟨hc,hb⟩) (by simpa using h2)
theorem RM.gFK (ho:ops[i]?=some ⟨some d,op,ty,pos,af,some (j,false)⟩) (hp:pureB ⟨some d,op,ty,pos,af,some (j,false)⟩=true) (hj:(ops[j]?).bind (·.dst)=some g) (hg:lk L g=some (.bool b)) (hd:Nat.blt d n=true) (hs:∀w,St w0 H w→St w0 HS w)
  (h:VG (b=false) P n L w0 HS ⟨some d,op,ty,pos,af,some (j,false)⟩ fun v=>RM P ops Q HS n ps ((d,bif !b then v else undef)::L) w0 H ord):RM P ops Q HS n ps L w0 H (.go i::ord) :=
 let ⟨_,h1,h2⟩:=h;RM.guarded (c:=true) ho rfl hp hs hj (by simpa using hg) hd (fun _=>h1) (by simpa using h2)
theorem RM.gFyK (ho:ops[i]?=some ⟨some d,op,ty,pos,af,some (j,false)⟩) (hp:pureB ⟨some d,op,ty,pos,af,some (j,false)⟩=false) (hj:(ops[j]?).bind (·.dst)=some g) (hg:lk L g=some (.bool b)) (hd:Nat.blt d n=true) (hs:∀w,St w0 H w→St w0 HS w)
  (h:YG (b=false) P n L w0 H ⟨some d,op,ty,pos,af,some (j,false)⟩ fun v=>RM P ops Q HS n ps ((d,bif !b then v else undef)::L) w0 H ord):RM P ops Q HS n ps L w0 H (.go i::ord) :=
 let ⟨_,h1,h2⟩:=h;RM.callG (c:=true) ho rfl hp hs hj (by simpa using hg) hd (fun _=>h1) (by simpa using h2)
theorem G.cN {x y:Code} {c:Operand} {b:Bool} {p q:Prop} (hc:evO L c=some (.bool b)) (h1:p→G P Q n L w0 H x) (h2:q→G P Q n L w0 H y)
  (hp:(b=true)↔p:=by first|(simp only[eqCells,vEq,Bool.and_eq_true,Bool.or_eq_true,Bool.and_eq_false_iff,Bool.or_eq_false_iff,decide_eq_true_eq,decide_eq_false_iff_not,Bool.not_eq_true',Bool.not_eq_false',Int.not_le,Int.not_lt,Bool.not_true,Bool.not_false,beq_self_eq_true,Bool.or_false,Bool.false_or,Bool.or_self,Bool.and_true,Bool.true_and,Bool.and_self,Bool.or_true,Bool.true_or,Bool.and_false,Bool.false_and,decide_true,eq_self,Bool.false_eq_true,Bool.true_eq_false,reduceCtorEq];exact Iff.rfl)|exact Iff.rfl) (hq:(b=false)↔q:=by first|(simp only[eqCells,vEq,Bool.and_eq_true,Bool.or_eq_true,Bool.and_eq_false_iff,Bool.or_eq_false_iff,decide_eq_true_eq,decide_eq_false_iff_not,Bool.not_eq_true',Bool.not_eq_false',Int.not_le,Int.not_lt,Bool.not_true,Bool.not_false,beq_self_eq_true,Bool.or_false,Bool.false_or,Bool.or_self,Bool.and_true,Bool.true_and,Bool.and_self,Bool.or_true,Bool.true_or,Bool.and_false,Bool.false_and,decide_true,eq_self,Bool.false_eq_true,Bool.true_eq_false,reduceCtorEq];exact Iff.rfl)|exact Iff.rfl):G P Q n L w0 H (.cond c x y):=G.cond hc (fun h=>h1 (hp.1 h)) (fun h=>h2 (hq.1 h))
end
section
variable {P:Program} {n:Nat} {L:FL} {w0:World} {H HS:List Hl} {Q:Exit→Act→World→Prop} {ops:Array Oper} {rest:List Oper} {ord:List Mv} {ps:List Pd} {dd i:Nat} {op:Op} {ty:TypeId} {pos:String} {af:Array Edge} {x y:Operand} {t t':TypeId} {ι:Type}
theorem RS.boxA {u:Value} {cs:List Value} (h:∀b,RS P ops Q n ((dd,.pointer (some ⟨b,0,none⟩))::L) w0 (.blk b t cs::H) rest) (hx:evO L x=some u:=by rfl) (hc:u.cells=cs.toArray:=by rfl) (hd:Nat.blt dd n=true:=by rfl) :
  RS P ops Q n L w0 H (⟨some dd,.box t x,ty,pos,af,none⟩::rest):=RS.actX rfl (x_box hx hc hd) fun b _=>h b
theorem RS.allocA {u:Value} {cs:List Value} (h:∀b,RS P ops Q n ((dd,.pointer (some ⟨b,0,none⟩))::L) w0 (.blk b t cs::H) rest) (hz:zeroOf P t=some u:=by exact ZeroTy.is) (hc:u.cells=cs.toArray:=by rfl) (hd:Nat.blt dd n=true:=by rfl) :
  RS P ops Q n L w0 H (⟨some dd,.alloc t,ty,pos,af,none⟩::rest):=RS.actX rfl (x_alloc hz hc hd) fun b _=>h b
theorem RS.storeA {b i:Nat} {cs:List Value} {H':List Hl} {u:Value} (h:RS P ops Q n L w0 H' rest) (hx:evO L x=some (.pointer (some ⟨b,i,none⟩)):=by rfl) (hy:evO L y=some u:=by rfl) (hu:u.oneCell'=true:=by rfl)
  (hm:Upd (.blk b t' cs) (.blk b t' (cs.set i u)) H H':=by exact updA) (hi:Nat.blt i cs.length=true:=by rfl) (hs:scalarB P t=true:=by decide +kernel) :
  RS P ops Q n L w0 H (⟨none,.store t x y,ty,pos,af,none⟩::rest):=RS.actX rfl (x_store hx hy hu hm hi hs) fun _ _=>h
theorem RS.storeRowA {b:Nat} {cs us:List Value} {H':List Hl} {k:Nat} (h:RS P ops Q n L w0 H' rest) (hx:evO L x=some (.pointer (some ⟨b,0,none⟩)):=by rfl) (hy:evO L y=some (.agg us.toArray):=by rfl) (hu:us.all (·.oneCell')=true:=by rfl)
  (hm:Upd (.blk b t' cs) (.blk b t' us) H H':=by exact updA) (hl:LenIs cs k:=by(repeat(first|exact .nil|apply LenIs.cons))) (hl2:LenIs us k:=by(repeat(first|exact .nil|apply LenIs.cons))) (hs:rowB P t k=true:=by decide +kernel) :
  RS P ops Q n L w0 H (⟨none,.store t x y,ty,pos,af,none⟩::rest):=RS.actX rfl (x_storeRow hx hy hu hm hl hl2 hs) fun _ _=>h
theorem RS.callX {Hp:List Hl} {f:FuncId} {xs:List Operand} {vs:List Value} {tys:Array TypeId} {post:ι→Prop} {v:ι→Value} {Hn:ι→List Hl} (hc:ContX P Hp f vs post v Hn) (ha:AE L xs vs) (h:∀x,post x→RS P ops Q n ((dd,v x)::L) w0 (Hn x++H) rest)
  (hs:RdAll H Hp:=by(first|exact RdAll.nil|exact RdAll.cons (by exact rdA) (RdAll.nil)|exact RdAll.cons (by exact rdA) (RdAll.cons (by exact rdA) (RdAll.nil))|exact RdAll.cons (by exact rdA) (RdAll.cons (by exact rdA) (RdAll.cons (by exact rdA) (RdAll.nil)))|exact RdAll.cons (by exact rdA) (RdAll.cons (by exact rdA) (RdAll.cons (by exact rdA) (RdAll.cons (by exact rdA) (RdAll.nil))))|fail)) (hg:isGo P f=true:=by decide +kernel) (hd:Nat.blt dd n=true:=by rfl) :
  RS P ops Q n L w0 H (⟨some dd,.call { callee:=.value (.func f),args:=xs.toArray,argTypes:=tys },ty,pos,af,none⟩::rest):=RS.actX rfl (x_call hc ha hs hg hd) h
theorem RM.storeA {b k:Nat} {cs:List Value} {H':List Hl} {u:Value} (h:RM P ops Q HS n [] L w0 H' ord) (ho:ops[i]?=some ⟨none,.store t x y,ty,pos,af,none⟩:=by rfl) (hx:evO L x=some (.pointer (some ⟨b,k,none⟩)):=by rfl) (hy:evO L y=some u:=by rfl) (hu:u.oneCell'=true:=by rfl)
  (hm:Upd (.blk b t' cs) (.blk b t' (cs.set k u)) H H':=by exact updA) (hi:Nat.blt k cs.length=true:=by rfl) (hs:scalarB P t=true:=by decide +kernel) (hl:lateB .any ops i=true:=by decide +kernel) :
  RM P ops Q HS n [] L w0 H (.go i::ord):=RM.actX ho rfl rfl (x_store hx hy hu hm hi hs) (.inr hl) fun _ _=>h
theorem RM.storeRowB {b:Nat} {cs us:List Value} {H':List Hl} {k:Nat} (h:RM P ops Q HS n [] L w0 H' ord) (ho:ops[i]?=some ⟨none,.store t x y,ty,pos,af,none⟩:=by rfl) (hx:evO L x=some (.pointer (some ⟨b,0,none⟩)):=by rfl) (hy:evO L y=some (.agg us.toArray):=by rfl) (hu:us.all (·.oneCell')=true:=by rfl)
  (hm:Upd (.blk b t' cs) (.blk b t' us) H H':=by exact updA) (hl:LenIs cs k:=by(repeat(first|exact .nil|apply LenIs.cons))) (hl2:LenIs us k:=by(repeat(first|exact .nil|apply LenIs.cons))) (hs:rowB P t k=true:=by decide +kernel) (hla:∀w,St w0 H' w→St w0 HS w:=by exact fun _ h=>h.sub (by(first|exact List.Sublist.refl _|exact .cons _ (List.Sublist.refl _)|exact .cons _ (.cons _ (List.Sublist.refl _))|exact .cons _ (.cons _ (.cons _ (List.Sublist.refl _)))|exact .cons _ (.cons _ (.cons _ (.cons _ (List.Sublist.refl _))))|exact .cons _ (.cons _ (.cons _ (.cons _ (.cons _ (List.Sublist.refl _)))))|exact .cons _ (.cons _ (.cons _ (.cons _ (.cons _ (.cons _ (List.Sublist.refl _))))))|exact .cons _ (.cons _ (.cons _ (.cons _ (.cons _ (.cons _ (.cons _ (List.Sublist.refl _)))))))|exact .cons _ (.cons _ (.cons _ (.cons _ (.cons _ (.cons _ (.cons _ (.cons _ (List.Sublist.refl _))))))))))) :
  RM P ops Q HS n [] L w0 H (.go i::ord):=RM.actX ho rfl rfl (x_storeRow hx hy hu hm hl hl2 hs) (.inl fun _ w h=>hla w h) fun _ _=>h
theorem RM.storeRowA {b:Nat} {cs us:List Value} {H':List Hl} {k:Nat} (h:RM P ops Q HS n [] L w0 H' ord) (ho:ops[i]?=some ⟨none,.store t x y,ty,pos,af,none⟩:=by rfl) (hx:evO L x=some (.pointer (some ⟨b,0,none⟩)):=by rfl) (hy:evO L y=some (.agg us.toArray):=by rfl) (hu:us.all (·.oneCell')=true:=by rfl)
  (hm:Upd (.blk b t' cs) (.blk b t' us) H H':=by exact updA) (hl:LenIs cs k:=by(repeat(first|exact .nil|apply LenIs.cons))) (hl2:LenIs us k:=by(repeat(first|exact .nil|apply LenIs.cons))) (hs:rowB P t k=true:=by decide +kernel) (hla:lateB .any ops i=true:=by decide +kernel) :
  RM P ops Q HS n [] L w0 H (.go i::ord):=RM.actX ho rfl rfl (x_storeRow hx hy hu hm hl hl2 hs) (.inr hla) fun _ _=>h
theorem RM.pendA {d:Nat} {u:Value} {cs:List Value} (h:RM P ops Q HS n (⟨i,d,t,cs⟩::ps) L w0 H ord) (ho:ops[i]?=some ⟨some d,.alloc t,ty,pos,af,none⟩:=by rfl) (hl:lk L d=none:=by rfl) (hz:zeroOf P t=some u:=by exact ZeroTy.is) (hc:u.cells=cs.toArray:=by rfl)
  (hd:Nat.blt d n=true:=by rfl):RM P ops Q HS n ps L w0 H (.pend i::ord):=RM.pend ho hl (by simpa [Nat.blt_eq] using hd) hz hc h
theorem RM.cameA {d:Nat} {cs:List Value} (h:∀b,RM P ops Q HS n ps ((d,.pointer (some ⟨b,0,none⟩))::L) w0 (.blk b t cs::H) ord) (hs:∀w,St w0 H w→St w0 HS w:=by exact fun _ h=>h.sub (by(first|exact List.Sublist.refl _|exact .cons _ (List.Sublist.refl _)|exact .cons _ (.cons _ (List.Sublist.refl _))|exact .cons _ (.cons _ (.cons _ (List.Sublist.refl _)))|exact .cons _ (.cons _ (.cons _ (.cons _ (List.Sublist.refl _))))|exact .cons _ (.cons _ (.cons _ (.cons _ (.cons _ (List.Sublist.refl _)))))|exact .cons _ (.cons _ (.cons _ (.cons _ (.cons _ (.cons _ (List.Sublist.refl _))))))|exact .cons _ (.cons _ (.cons _ (.cons _ (.cons _ (.cons _ (.cons _ (List.Sublist.refl _)))))))|exact .cons _ (.cons _ (.cons _ (.cons _ (.cons _ (.cons _ (.cons _ (.cons _ (List.Sublist.refl _)))))))))))
  (hs':∀b w,St w0 (.blk b t cs::H) w→St w0 HS w:=by exact fun _ _ h=>h.sub (by(first|exact List.Sublist.refl _|exact .cons _ (List.Sublist.refl _)|exact .cons _ (.cons _ (List.Sublist.refl _))|exact .cons _ (.cons _ (.cons _ (List.Sublist.refl _)))|exact .cons _ (.cons _ (.cons _ (.cons _ (List.Sublist.refl _))))|exact .cons _ (.cons _ (.cons _ (.cons _ (.cons _ (List.Sublist.refl _)))))|exact .cons _ (.cons _ (.cons _ (.cons _ (.cons _ (.cons _ (List.Sublist.refl _))))))|exact .cons _ (.cons _ (.cons _ (.cons _ (.cons _ (.cons _ (.cons _ (List.Sublist.refl _)))))))|exact .cons _ (.cons _ (.cons _ (.cons _ (.cons _ (.cons _ (.cons _ (.cons _ (List.Sublist.refl _))))))))))):RM P ops Q HS n (⟨i,d,t,cs⟩::ps) L w0 H (.done::ord):=RM.came hs hs' h
end
/-! ### Slices, by search -/
section
variable {P:Program} {n:Nat} {L:FL} {w0:World} {H HS:List Hl} {Q:Exit→Act→World→Prop} {ops:Array Oper} {rest:List Oper} {ord:List Mv} {ps:List Pd} {dd i:Nat} {op:Op} {ty:TypeId} {pos:String} {af:Array Edge} {x y:Operand} {t t' e:TypeId} {ι α:Type} {f:α→List Value} {s bytes:Nat} {l l':List α} {u v:Value} {k:IntKind} {m:Int}
theorem RS.appendA {H':Sl→List Hl} (h:∀v':Sl,RS P ops Q n ((dd,v'.v)::L) w0 (H' v') rest) (hx:evO L x=some v:=by rfl) (hy:evO L y=some u:=by rfl) (hu:∀v':Sl,Upd (Hl.rw v e f s l) (Hl.rw v'.v e f s (l++l')) H (H' v'):=by intro v';exact updA) (hr:RdT H u f s l':=by exact rdA)
  (h1:∀a,(f a).all (·.oneCell')=true:=by exact fun _=>rfl) [ht:RowTy P t e s bytes] (hb:(l.length+l'.length)*bytes≤140737488355328∧l.length+l'.length≤140737488355328:=by exact omlA) (hd:Nat.blt dd n=true:=by rfl) :
  RS P ops Q n L w0 H (⟨some dd,.call { callee:=.builtin .append,args:=#[x,y],argTypes:=#[t,t] },ty,pos,af,none⟩::rest):=RS.actX rfl (x_append hx hy hu hr h1 hb (rowTy_B ht.is) hd) fun v' _=>h v'
theorem RS.append0A {H':Sl→List Hl} (h:∀v':Sl,RS P ops Q n ((dd,v'.v)::L) w0 (H' v') rest) (hx:evO L x=some v:=by rfl) (hy:evO L y=some u:=by rfl) (hr:RdT H u f s l':=by exact rdA) (hu:∀v':Sl,Upd (.row v e s 0 []) (Hl.rw v'.v e f s ([]++l')) H (H' v'):=by intro v';exact updA)
  (h1:∀a,(f a).all (·.oneCell')=true:=by exact fun _=>rfl) [ht:RowTy P t e s bytes] (hb:(0+l'.length)*bytes≤140737488355328∧0+l'.length≤140737488355328:=by exact omlA) (hd:Nat.blt dd n=true:=by rfl) :
  RS P ops Q n L w0 H (⟨some dd,.call { callee:=.builtin .append,args:=#[x,y],argTypes:=#[t,t] },ty,pos,af,none⟩::rest):=RS.actX rfl (x_append (l:=[]) hx hy hu hr h1 hb (rowTy_B ht.is) hd) fun v' _=>h v'
theorem RS.appendNA (h:∀v':Sl,RS P ops Q n ((dd,v'.v)::L) w0 (Hl.rw v'.v e f s l'::H) rest) (hx:evO L x=some (.slice none 0 0):=by rfl) (hy:evO L y=some u:=by rfl) (hr:RdT H u f s l':=by exact rdA)
  (h1:∀a,(f a).all (·.oneCell')=true:=by exact fun _=>rfl) [ht:RowTy P t e s bytes] (hb:l'.length*bytes≤140737488355328∧l'.length≤140737488355328:=by exact omlA) (hd:Nat.blt dd n=true:=by rfl) :
  RS P ops Q n L w0 H (⟨some dd,.call { callee:=.builtin .append,args:=#[x,y],argTypes:=#[t,t] },ty,pos,af,none⟩::rest):=RS.actX rfl (x_appendNil hx hy hr h1 hb (rowTy_B ht.is) hd) fun v' _=>h v'
theorem RS.lit0 (h:∀v':Sl,RS P ops Q n ((dd,v'.v)::L) w0 (.row v'.v e s 0 []::H) rest) [ht:RowTy P t e s bytes] (hd:Nat.blt dd n=true:=by rfl) :
  RS P ops Q n L w0 H (⟨some dd,.buildSlice t 0 #[],ty,pos,af,none⟩::rest):=RS.actX rfl (x_lit0 (k:=0) (rowTy_B ht.is) hd) fun v' _=>h v'
theorem Fr.known {a:Act} {g:Nat} {v:Value} (h:Fr n L a) (hg:lk L g=some v):Fr n ((g,v)::L) a:=h.weaken fun i u hi=>by
 by_cases e:g=i
 ·subst e;rw[lk_cons_eq] at hi;rw[hg,hi]
 ·rwa [lk_cons_ne _ _ e] at hi
theorem RS.spl {p:Prop} [Decidable p] (g:Nat) (hg:lk L g=some (.bool (decide p))) (h1:p→RS P ops Q n ((g,.bool true)::L) w0 H rest) (h2:¬p→RS P ops Q n ((g,.bool false)::L) w0 H rest):RS P ops Q n L w0 H rest:=fun a w ha hw=>by
 by_cases hp:p
 ·rw[decide_eq_true hp] at hg
  exact h1 hp a w (ha.known hg) hw
 ·rw[decide_eq_false hp] at hg
  exact h2 hp a w (ha.known hg) hw
theorem PS.known {a:Act} {w:World} {l0 l:Array Bool} {g:Nat} {v:Value} (hg:lk L g=some v) (h:PS w0 n ps L H l0 a w l):PS w0 n ps ((g,v)::L) H l0 a w l:=h.congr (fun i u hi=>by
 by_cases e:g=i
 ·subst e;rw[lk_cons_eq] at hi;rw[hg,hi]
 ·rwa [lk_cons_ne _ _ e] at hi) (List.Perm.refl _)
theorem okP.known {g:Nat} {v:Value} (h:okP P ops n ps L) (hg:lk L g=some v):okP P ops n ps ((g,v)::L):=h.put fun p hp e=>by
 have:=h.1 p hp
 rw[e,hg] at this;cases this
theorem RM.spl {p:Prop} [Decidable p] (g:Nat) (hg:lk L g=some (.bool (decide p))) (h1:p→RM P ops Q HS n ps ((g,.bool true)::L) w0 H ord) (h2:¬p→RM P ops Q HS n ps ((g,.bool false)::L) w0 H ord):RM P ops Q HS n ps L w0 H ord:=fun ok l0 hB hsel f a w l hf hP=>by
 by_cases hp:p
 ·rw[decide_eq_true hp] at hg
  exact h1 hp (ok.known hg) l0 hB hsel f a w l hf (hP.known hg)
 ·rw[decide_eq_false hp] at hg
  exact h2 hp (ok.known hg) l0 hB hsel f a w l hf (hP.known hg)
theorem X.retN {fn:Func} {rs:List ResultVar} {vs:List Value} {v:Value} {post:ι→Prop} {vx:ι→Value} {Hn:ι→List Hl} (z:ι) (hf:fn.results=rs.toArray) (hr:RV P L H rs vs) (hv:(match vs with|[v]=>v|_=>.tuple vs.toArray)=v) (hp:post z) (he:v=vx z) (hn:NewIn H (Hn z)) :
  X (bodyPost P fn (RetX post vx Hn w0)) n L w0 H .ret:=X.ret hf hr hv fun w hw=>⟨z,hp,by rw[he],hw.ext,NewIn.spec hn hw⟩
end
attribute [irreducible] G RS RM X Y V VK VG YK YG
theorem subS {α:Type} {a b:List α} (h:a.Sublist b:=by repeat(first|exact List.Sublist.refl _|apply List.Sublist.cons_cons|apply List.Sublist.cons)):a.Sublist b:=h
theorem lenA {cs:List Value} {k:Nat} (h:LenIs cs k:=by(repeat(first|exact .nil|apply LenIs.cons))):LenIs cs k:=h
theorem rE {v:Value} {w0:World} {H:List Hl} : ∀w,St w0 H w→(Ending.returned v=.returned v∧Below w0.heap.size w0 w):=fun w hw=>⟨rfl,hw.ext⟩
theorem X.ret1 {P:Program} {n:Nat} {L:FL} {w0:World} {H:List Hl} {fn:Func} {t:Nat} {v:Value} (hf:fn.results=#[.tmp t]:=by rfl) (hr:lk L t=some v:=by rfl):X (bodyPost P fn (fun e w'=>e=.returned v∧Below w0.heap.size w0 w')) n L w0 H .ret:=X.ret (vs:=[_]) hf ⟨hr,rfl⟩ rfl fun w hw=>⟨rfl,hw.ext⟩
end Go.Proofs.YtjmdeplmenbmmaaGreat
