/- Joined texts: Rg5, Rg6, Rg7, Rg8. -/
import Derived.Test.YtjmdeplmenbmmaaGreatDoorU01
set_option linter.unusedVariables false
namespace Go.Proofs.YtjmdeplmenbmmaaGreatDoor.RR
def kid (a:CellT) (i j:Nat):CellT:=⟨a.lv,2*(a.r/2)+i,2*(a.c/2)+j⟩
theorem CellT.eq_of {a b:CellT} (h1:a.lv=b.lv) (h2:a.r=b.r) (h3:a.c=b.c):a=b:=by
 cases a;cases b;simp only at h1 h2 h3;subst h1;subst h2;subst h3;rfl
theorem bro_iff {a b c d:CellT} (ha:okC a) (hb:okC b) (hc:okC c) (hd:okC d):bro a b c d↔0<a.lv∧a=kid a 0 0∧b=kid a 0 1∧c=kid a 1 0∧d=kid a 1 1:=by
 obtain⟨la,ra,ca⟩:=a
 obtain⟨lb,rb,cb⟩:=b
 obtain⟨lc,rc,cc⟩:=c
 obtain⟨ld,rd,cd⟩:=d
 have hk:∀i j,kid ⟨la,ra,ca⟩ i j=⟨la,2*(ra/2)+i,2*(ca/2)+j⟩:=fun _ _=>rfl
 simp only[bro,hk,CellT.mk.injEq]
 cases la with
 |zero=>simp
 |succ L =>
  constructor
  ·rintro⟨-,rfl,rfl,rfl,p,e1,e2,e3,e4⟩
   have f:∀r c,mc (L+1) r c=4*mc L (r/2) (c/2)+2*(r%2)+c%2:=fun _ _=>rfl
   rw[f] at e1 e2 e3 e4
   have h2:∀r,r<2^(L+1)→r/2<2^L:=fun r h=>by rw[Nat.pow_succ] at h;omega
   have ia:ra/2<2^L:=h2 ra ha.2.1
   have ib:rb/2<2^L:=h2 rb hb.2.1
   have ic:rc/2<2^L:=h2 rc hc.2.1
   have id:rd/2<2^L:=h2 rd hd.2.1
   have p1:mc L (ra/2) (ca/2)=p:=by omega
   have p2:mc L (rb/2) (cb/2)=p:=by omega
   have p3:mc L (rc/2) (cc/2)=p:=by omega
   have p4:mc L (rd/2) (cd/2)=p:=by omega
   have k2:=mc_inj L _ _ _ _ ib ia (p2.trans p1.symm)
   have k3:=mc_inj L _ _ _ _ ic ia (p3.trans p1.symm)
   have k4:=mc_inj L _ _ _ _ id ia (p4.trans p1.symm)
   refine⟨by omega,⟨trivial,?_,?_⟩,⟨rfl,?_,?_⟩,⟨rfl,?_,?_⟩,⟨rfl,?_,?_⟩⟩<;>omega
  ·rintro⟨-,⟨-,e1,e2⟩,⟨rfl,e3,e4⟩,⟨rfl,e5,e6⟩,⟨rfl,e7,e8⟩⟩
   have f:∀r c,mc (L+1) r c=4*mc L (r/2) (c/2)+2*(r%2)+c%2:=fun _ _=>rfl
   have q:∀r c i j,r=2*(ra/2)+i→c=2*(ca/2)+j→i<2→j<2→mc (L+1) r c=4*mc L (ra/2) (ca/2)+2*i+j:=fun r c i j h1 h2 h3 h4=>by
    rw[f,show r/2=ra/2 by omega,show c/2=ca/2 by omega,show r%2=i by omega,show c%2=j by omega]
   refine⟨by omega,rfl,rfl,rfl,mc L (ra/2) (ca/2),?_,?_,?_,?_⟩
   ·rw[q ra ca 0 0 e1 e2 (by omega) (by omega),Nat.mul_zero,Nat.add_zero]
   ·rw[q rb cb 0 1 e3 e4 (by omega) (by omega)]
   ·rw[q rc cc 1 0 e5 e6 (by omega) (by omega)]
   ·rw[q rd cd 1 1 e7 e8 (by omega) (by omega)]
def nextB (a b:CellT):Bool:=!(within b a)&&!(within a b)&&before a b
theorem nextB_iff {a b:CellT} (ha:okC a) (hb:okC b):nextB a b=true↔to a≤fr b:=by
 unfold nextB
 rw[before_iff ha hb]
 constructor
 ·intro h
  simp only[Bool.and_eq_true,decide_eq_true_eq] at h
  exact h.2
 ·intro h
  obtain⟨h1,h2⟩:=within_no ha hb h
  rw[h1,h2,decide_eq_true h];rfl
def broB (a b c d:CellT):Bool:=decide (0<a.lv)&&decide (a=kid a 0 0)&&decide (b=kid a 0 1)&&decide (c=kid a 1 0)&&decide (d=kid a 1 1)
theorem broB_iff {a b c d:CellT} (ha:okC a) (hb:okC b) (hc:okC c) (hd:okC d):broB a b c d=true↔bro a b c d:=by
 rw[bro_iff ha hb hc hd]
 simp only[broB,Bool.and_eq_true,decide_eq_true_eq,and_assoc]
structure IdxOk (l:List CellT):Prop where
 next:∀i a b,l[i]?=some a→l[i+1]?=some b→nextB a b=true
 bros:∀i a b c d,l[i]?=some a→l[i+1]?=some b→l[i+2]?=some c→l[i+3]?=some d→broB a b c d=false
theorem chain_idx:∀{l:List CellT},(∀x∈l,okC x)→((∀i a b,l[i]?=some a→l[i+1]?=some b→nextB a b=true)↔Chain l)
 |[],_=>⟨fun _=>trivial,fun _ i a b h=>by simp at h⟩
 |[x],_=>⟨fun _=>trivial,fun _ i a b _ h=>by simp at h⟩
 |x::y::r,ho=>by
  have ih:=chain_idx (l:=y::r) fun z hz=>ho z (List.mem_cons_of_mem _ hz)
  have hx:=ho x (by simp)
  have hy:=ho y (by simp)
  constructor
  ·intro h
   exact⟨(nextB_iff hx hy).1 (h 0 x y rfl rfl),ih.1 fun i a b h1 h2=>h (i+1) a b h1 h2⟩
  ·rintro⟨h1,h2⟩ i a b ha hb
   cases i with
   |zero =>
    obtain rfl:=Option.some.inj ha
    obtain rfl:=Option.some.inj hb
    exact(nextB_iff hx hy).2 h1
   |succ i=>exact ih.2 h2 i a b ha hb
theorem noB_idx:∀{l:List CellT},(∀x∈l,okC x)→((∀i a b c d,l[i]?=some a→l[i+1]?=some b→l[i+2]?=some c→l[i+3]?=some d→broB a b c d=false)↔noB l)
 |[],_=>⟨fun _=>trivial,fun _ i a b c d h=>by simp at h⟩
 |[x],_=>⟨fun _=>trivial,fun _ i a b c d _ h=>by simp at h⟩
 |[x,y],_=>⟨fun _=>trivial,fun _ i a b c d _ _ h=>by simp at h⟩
 |[x,y,z],_=>⟨fun _=>trivial,fun _ i a b c d _ _ _ h=>by simp at h⟩
 |x::y::z::u::r,ho=>by
  have ih:=noB_idx (l:=y::z::u::r) fun z hz=>ho z (List.mem_cons_of_mem _ hz)
  have k:=broB_iff (ho x (by simp)) (ho y (by simp)) (ho z (by simp)) (ho u (by simp))
  constructor
  ·intro h
   refine⟨fun hb=>?_,ih.1 fun i a b c d h1 h2 h3 h4=>h (i+1) a b c d h1 h2 h3 h4⟩
   have:=h 0 x y z u rfl rfl rfl rfl
   rw[k.2 hb] at this;cases this
  ·rintro⟨h1,h2⟩ i a b c d ha hb hc hd
   cases i with
   |zero =>
    obtain rfl:=Option.some.inj ha
    obtain rfl:=Option.some.inj hb
    obtain rfl:=Option.some.inj hc
    obtain rfl:=Option.some.inj hd
    cases hq:broB x y z u with
    |false=>rfl
    |true=>exact absurd (k.1 hq) h1
   |succ i=>exact ih.2 h2 i a b c d ha hb hc hd
theorem idx_iff {l:List CellT} (ho:∀x∈l,okC x):IdxOk l↔Chain l∧noB l :=
 ⟨fun h=>⟨(chain_idx ho).1 h.next,(noB_idx ho).1 h.bros⟩,fun h=>⟨(chain_idx ho).2 h.1,(noB_idx ho).2 h.2⟩⟩
def spanLe (x y:Nat×Nat):Prop:=x.1<y.1∨x.1=y.1∧y.2≤x.2
theorem asc_of:∀{l:List (Nat×Nat)},l.Pairwise spanLe→Asc l
 |[],_=>trivial
 |[_],_=>trivial
 |x::y::r,h=>by
  obtain⟨h1,h2⟩:=List.pairwise_cons.1 h
  refine⟨?_,asc_of h2⟩
  rcases h1 y (by simp) with g|g<;>omega
theorem spanLe_anti {x y:Nat×Nat} (h1:spanLe x y) (h2:spanLe y x):x=y:=by
 obtain⟨a,b⟩:=x
 obtain⟨c,d⟩:=y
 unfold spanLe at h1 h2
 simp only at h1 h2
 have e1:a=c:=by omega
 have e2:b=d:=by omega
 rw[e1,e2]
theorem chain_sorted {l:List CellT} (hc:Chain l):(l.map spanC).Pairwise spanLe:=by
 rw[List.pairwise_map]
 refine(chain_pairs hc).imp fun {a b} h=>?_
 have h1:=to_fr a
 have h2:=sz_pos a.lv
 refine .inl ?_
 show fr a<fr b
 omega
theorem region_iff {l:List CellT} (ho:∀x∈l,okC x) {S:List (Nat×Nat)} (hp:S.Perm (l.map spanC)) (hs:S.Pairwise spanLe):tidyL (S.foldl mergeS [])=l↔IdxOk l:=by
 rw[merge_foldl,idx_iff ho]
 constructor
 ·intro h
  have hm:∀s∈S,s.1<s.2∧s.2≤2*4^16:=fun s hs=>by
   have:=hp.mem_iff.1 hs
   obtain⟨x,hx,rfl⟩:=List.mem_map.1 this
   exact okC_span (ho x hx)
  have:=tidy_is hm (asc_of hs)
  rw[h] at this
  exact this
 ·rintro⟨hc,hb⟩
  have e:S=l.map spanC:=List.Perm.eq_of_pairwise (fun a b _ _ g1 g2=>spanLe_anti g1 g2) hs (chain_sorted hc) hp
  rw[e]
  exact tidy_back ho hc hb
def kids (x:CellT):List CellT:=[⟨x.lv+1,2*x.r,2*x.c⟩,⟨x.lv+1,2*x.r,2*x.c+1⟩,⟨x.lv+1,2*x.r+1,2*x.c⟩,⟨x.lv+1,2*x.r+1,2*x.c+1⟩]
def par (x:CellT):CellT:=⟨x.lv-1,x.r/2,x.c/2⟩
def mrg (l:List CellT):Option (List CellT) :=
 if 4≤l.length∧0<(l.getD (l.length-4) ⟨0,0,0⟩).lv∧kids (par (l.getD (l.length-4) ⟨0,0,0⟩))=l.drop (l.length-4) then some (l.take (l.length-4)++[par (l.getD (l.length-4) ⟨0,0,0⟩)]) else none
def mrgN:Nat→List CellT→List CellT
 |0,l=>l
 |k+1,l=>match mrg l with
  |none=>l
  |some l'=>mrgN k l'
def push (l:List CellT) (c:CellT):List CellT:=mrgN (l.length+1) (l++[c])
theorem okC_kid {x y:CellT} (h:okC x) (hl:x.lv<16) (hy:y∈kids x):okC y:=by
 obtain⟨h1,h2,h3⟩:=h
 have e:2^(x.lv+1)=2*2^x.lv:=by rw[Nat.pow_succ,Nat.mul_comm]
 simp only[kids,List.mem_cons,List.not_mem_nil,or_false] at hy
 rcases hy with rfl|rfl|rfl|rfl<;>(refine⟨?_,?_,?_⟩<;>dsimp only<;>(try rw[e])<;>omega)
theorem okC_par {x:CellT} (h:okC x) (hl:0<x.lv):okC (par x):=by
 obtain⟨h1,h2,h3⟩:=h
 obtain⟨k,hk⟩:∃k,x.lv=k+1:=⟨x.lv-1,by omega⟩
 have e:2^(k+1)=2*2^k:=by rw[Nat.pow_succ,Nat.mul_comm]
 unfold par
 refine⟨?_,?_,?_⟩<;>dsimp only
 ·omega
 ·rw[hk] at h2 ⊢
  rw[e] at h2
  rw[Nat.add_sub_cancel]
  omega
 ·rw[hk] at h3 ⊢
  rw[e] at h3
  rw[Nat.add_sub_cancel]
  omega
theorem kids_par {x y:CellT} (hy:y∈kids x):par y=x:=by
 simp only[kids,List.mem_cons,List.not_mem_nil,or_false] at hy
 rcases hy with rfl|rfl|rfl|rfl<;>(refine CellT.eq_of ?_ ?_ ?_<;>(unfold par;dsimp only;omega))
theorem sz_kid {L:Nat} (h:L<16):sz L=4*sz (L+1):=by
 unfold sz
 rw[show 16-L=(16-(L+1))+1 by omega,Nat.pow_succ,Nat.mul_comm]
theorem mc_kid (L r c i j:Nat) (hi:i<2) (hj:j<2):mc (L+1) (2*r+i) (2*c+j)=4*mc L r c+2*i+j:=by
 show 4*mc L ((2*r+i)/2) ((2*c+j)/2)+2*((2*r+i)%2)+(2*c+j)%2=_
 rw[show (2*r+i)/2=r by omega,show (2*c+j)/2=c by omega,show (2*r+i)%2=i by omega,show (2*c+j)%2=j by omega]
theorem kids_fr {x:CellT} (hl:x.lv<16):∃a b c d,kids x=[a,b,c,d]∧fr a=fr x∧to a=fr b∧to b=fr c∧to c=fr d∧to d=to x:=by
 refine⟨_,_,_,_,rfl,?_⟩
 have k0:=mc_kid x.lv x.r x.c 0 0 (by omega) (by omega)
 have k1:=mc_kid x.lv x.r x.c 0 1 (by omega) (by omega)
 have k2:=mc_kid x.lv x.r x.c 1 0 (by omega) (by omega)
 have k3:=mc_kid x.lv x.r x.c 1 1 (by omega) (by omega)
 have s:=sz_kid hl
 simp only[Nat.add_zero,Nat.mul_zero,Nat.mul_one] at k0 k1 k2 k3
 unfold fr to
 dsimp only
 rw[k0,k1,k2,k3,s]
 generalize mc x.lv x.r x.c=m
 generalize sz (x.lv+1)=z
 refine⟨?_,?_,?_,?_,?_⟩<;>grind
theorem drop4 {l:List CellT} {a b c d:CellT} (h:l.drop (l.length-4)=[a,b,c,d]):l=l.take (l.length-4)++[a,b,c,d]∧l.getD (l.length-4) ⟨0,0,0⟩=a:=by
 refine⟨by rw[←h];exact(List.take_append_drop _ _).symm,?_⟩
 have h0:(l.drop (l.length-4))[0]?=some a:=by rw[h];rfl
 rw[List.getElem?_drop,Nat.add_zero] at h0
 rw[List.getD_eq_getElem?_getD,h0]
 rfl
theorem mrg_some {l l':List CellT} (h:mrg l=some l'):∃r p,l=r++kids p∧l'=r++[p]:=by
 unfold mrg at h
 split at h
 ·rename_i hc
  obtain⟨h1,h2,h3⟩:=hc
  refine⟨l.take (l.length-4),par (l.getD (l.length-4) ⟨0,0,0⟩),?_,(Option.some.inj h).symm⟩
  rw[h3]
  exact(List.take_append_drop _ _).symm
 ·cases h
theorem mrg_none {l r:List CellT} {p:CellT} (h:mrg l=none) (hl:l=r++kids p):False:=by
 unfold mrg at h
 have hlen:l.length=r.length+4:=by rw[hl,List.length_append];rfl
 have hd:l.drop (l.length-4)=kids p:=by
  rw[hlen,Nat.add_sub_cancel,hl]
  exact List.drop_left
 obtain⟨e1,e2⟩:=drop4 (l:=l) (a:=⟨p.lv+1,2*p.r,2*p.c⟩) hd
 rw[if_pos] at h
 ·cases h
 ·refine⟨by omega,?_,?_⟩
  ·rw[e2];exact Nat.succ_pos _
  ·rw[e2,hd,show par ⟨p.lv+1,2*p.r,2*p.c⟩=p from kids_par (List.mem_cons_self)]
theorem bro_kids {a b c d:CellT} (ha:okC a) (hb:okC b) (hc:okC c) (hd:okC d) (h:bro a b c d):[a,b,c,d]=kids (par a):=by
 obtain⟨h0,h1,h2,h3,h4⟩:=(bro_iff ha hb hc hd).1 h
 have k:∀i j,kid a i j=⟨(par a).lv+1,2*(par a).r+i,2*(par a).c+j⟩:=fun i j=>CellT.eq_of (by unfold kid par;dsimp only;omega) rfl rfl
 have e:kids (par a)=[kid a 0 0,kid a 0 1,kid a 1 0,kid a 1 1]:=by
  rw[k,k,k,k];rfl
 rw[e,←h1,←h2,←h3,←h4]
def Up (l:List CellT) (t:Nat):Prop:=∀x∈l,to x≤t
theorem Chain.snoc:∀{l:List CellT} {x:CellT},Chain l→Up l (fr x)→Chain (l++[x])
 |[],x,_,_=>trivial
 |[a],x,_,h=>⟨h a List.mem_cons_self,trivial⟩
 |a::b::r,x,⟨h1,h2⟩,h=>⟨h1,Chain.snoc (l:=b::r) h2 fun y hy=>h y (List.mem_cons_of_mem _ hy)⟩
theorem Chain.front:∀{l s:List CellT},Chain (l++s)→Chain l
 |[],s,_=>trivial
 |[a],s,_=>trivial
 |a::b::r,s,⟨h1,h2⟩=>⟨h1,Chain.front (l:=b::r) h2⟩
theorem Chain.before:∀{l:List CellT} {x:CellT} {s:List CellT},Chain (l++x::s)→Up l (fr x)
 |[],x,s,_=>fun y hy=>by cases hy
 |a::r,x,s,h=>fun y hy=>by
  rcases List.mem_cons.1 hy with rfl|hy
  ·exact Chain.after (a:=y) (l:=r++x::s) h x (List.mem_append_right _ List.mem_cons_self)
  ·exact Chain.before (l:=r) (Chain.tail h) y hy
theorem noB_snoc:∀{l:List CellT} {x:CellT},noB l→(∀r a b c,l=r++[a,b,c]→¬bro a b c x)→noB (l++[x])
 |[],x,_,_=>trivial
 |[a],x,_,_=>trivial
 |[a,b],x,_,_=>trivial
 |[a,b,c],x,_,h=>⟨h [] a b c rfl,trivial⟩
 |a::b::c::d::r,x,⟨h1,h2⟩,h=>⟨h1,noB_snoc (l:=b::c::d::r) h2 fun s u v w e=>h (a::s) u v w (by rw[e];rfl)⟩
structure Pre (l:List CellT) (t:Nat):Prop where
 ok:∀x∈l,okC x
 ch:Chain l
 nb:noB l.dropLast
 up:Up l t
structure Tdy (l:List CellT) (t:Nat):Prop where
 ok:∀x∈l,okC x
 ch:Chain l
 nb:noB l
 up:Up l t
theorem mrg_keep {l l':List CellT} {t:Nat} (h:Pre l t) (hm:mrg l=some l'):Pre l' t∧l'.length+3=l.length∧∃r p,l=r++kids p∧l'=r++[p]∧p.lv<16:=by
 obtain⟨r,p,rfl,rfl⟩:=mrg_some hm
 have hk0:(⟨p.lv+1,2*p.r,2*p.c⟩:CellT)∈kids p:=List.mem_cons_self
 have ok0:=h.ok _ (List.mem_append_right r hk0)
 have hp:p.lv<16:=by have:=ok0.1;dsimp only at this;omega
 obtain⟨a,b,c,d,e,f1,f2,f3,f4,f5⟩:=kids_fr hp
 have hc:=h.ch
 have hn:=h.nb
 have hu:=h.up
 rw[e] at hc hn hu
 have hpo:okC p:=by
  have:=okC_par ok0 (Nat.succ_pos _)
  rwa [show par ⟨p.lv+1,2*p.r,2*p.c⟩=p from kids_par hk0] at this
 refine⟨⟨fun x hx=>?_,?_,?_,fun x hx=>?_⟩,?_,r,p,rfl,rfl,hp⟩
 ·rcases List.mem_append.1 hx with hx|hx
  ·exact h.ok x (List.mem_append_left _ hx)
  ·rw[List.mem_singleton.1 hx];exact hpo
 ·refine Chain.snoc (Chain.front hc) ?_
  rw[←f1]
  exact Chain.before hc
 ·rw[List.dropLast_concat]
  rw[show r++[a,b,c,d]=(r++[a,b,c])++[d] by simp,List.dropLast_concat] at hn
  exact noB_front _ _ hn
 ·rcases List.mem_append.1 hx with hx|hx
  ·exact hu x (List.mem_append_left _ hx)
  ·rw[List.mem_singleton.1 hx,←f5]
   exact hu d (List.mem_append_right _ (by simp))
 ·simp[kids]
theorem mrg_done {l:List CellT} {t:Nat} (h:Pre l t) (hm:mrg l=none):Tdy l t:=by
 refine⟨h.ok,h.ch,?_,h.up⟩
 rcases List.eq_nil_or_concat l with rfl|⟨l',x,rfl⟩
 ·trivial
 ·rw[List.concat_eq_append] at *
  have hn:=h.nb
  rw[List.dropLast_concat] at hn
  refine noB_snoc hn fun r a b c e hb=>?_
  subst e
  have ho:=h.ok
  have hk:=bro_kids (ho a (by simp)) (ho b (by simp)) (ho c (by simp)) (ho x (by simp)) hb
  exact mrg_none hm (r:=r) (p:=par a) (by rw[←hk];simp)
theorem mrgN_tidy:∀(k:Nat) {l:List CellT} {t:Nat},Pre l t→l.length≤k→Tdy (mrgN k l) t
 |0,l,t,h,hk=>by
  have:l=[]:=List.eq_nil_of_length_eq_zero (by omega)
  subst this
  exact⟨h.ok,trivial,trivial,h.up⟩
 |k+1,l,t,h,hk=>by
  unfold mrgN
  cases hm:mrg l with
  |none=>exact mrg_done h hm
  |some l' =>
   obtain⟨h1,h2,_⟩:=mrg_keep h hm
   exact mrgN_tidy k h1 (by omega)
theorem push_tidy {l:List CellT} {c:CellT} {t:Nat} (h:Tdy l t) (ht:t≤fr c) (hc:okC c):Tdy (push l c) (to c):=by
 have hf:=to_fr c
 refine mrgN_tidy (l.length+1) ⟨fun x hx=>?_,?_,by rw[List.dropLast_concat];exact h.nb,fun x hx=>?_⟩ (by simp)
 ·rcases List.mem_append.1 hx with hx|hx
  ·exact h.ok x hx
  ·rw[List.mem_singleton.1 hx];exact hc
 ·exact Chain.snoc h.ch fun x hx=>Nat.le_trans (h.up x hx) ht
 ·rcases List.mem_append.1 hx with hx|hx
  ·have:=h.up x hx
   omega
  ·rw[List.mem_singleton.1 hx];exact Nat.le_refl _
theorem mrgN_ex {Q:CellT→Prop} (hQ:∀p,∀x∈kids p,Q x→Q p):∀(k:Nat) {l:List CellT},(∃x∈l,Q x)→∃x∈mrgN k l,Q x
 |0,l,h=>h
 |k+1,l,h=>by
  unfold mrgN
  cases hm:mrg l with
  |none=>exact h
  |some l' =>
   obtain⟨r,p,rfl,rfl⟩:=mrg_some hm
   refine mrgN_ex hQ k ?_
   obtain⟨x,hx,hq⟩:=h
   rcases List.mem_append.1 hx with hx|hx
   ·exact⟨x,List.mem_append_left _ hx,hq⟩
   ·exact⟨p,List.mem_append_right _ List.mem_cons_self,hQ p x hx hq⟩
theorem push_ex {Q:CellT→Prop} (hQ:∀p,∀x∈kids p,Q x→Q p) {l:List CellT} {c:CellT} (h:(∃x∈l,Q x)∨Q c):∃x∈push l c,Q x:=by
 refine mrgN_ex hQ _ ?_
 rcases h with ⟨x,hx,hq⟩|hq
 ·exact⟨x,List.mem_append_left _ hx,hq⟩
 ·exact⟨c,List.mem_append_right _ List.mem_cons_self,hq⟩
theorem mrgN_lv {n:Nat} : ∀(k:Nat) {l:List CellT},(∀x∈l,x.lv≤n)→∀x∈mrgN k l,x.lv≤n
 |0,l,h=>h
 |k+1,l,h=>by
  unfold mrgN
  cases hm:mrg l with
  |none=>exact h
  |some l' =>
   obtain⟨r,p,rfl,rfl⟩:=mrg_some hm
   refine mrgN_lv k fun x hx=>?_
   rcases List.mem_append.1 hx with hx|hx
   ·exact h x (List.mem_append_left _ hx)
   ·have:=h ⟨p.lv+1,2*p.r,2*p.c⟩ (List.mem_append_right _ List.mem_cons_self)
    rw[List.mem_singleton.1 hx]
    dsimp only at this
    omega
theorem push_lv {n:Nat} {l:List CellT} {c:CellT} (h:∀x∈l,x.lv≤n) (hc:c.lv≤n):∀x∈push l c,x.lv≤n :=
 mrgN_lv _ fun x hx=>by
  rcases List.mem_append.1 hx with hx|hx
  ·exact h x hx
  ·rw[List.mem_singleton.1 hx];exact hc
theorem mrg_len {l l':List CellT} (h:mrg l=some l'):l'.length+3=l.length:=by
 obtain⟨r,p,rfl,rfl⟩:=mrg_some h
 simp[kids]
theorem mrgN_len:∀(k:Nat) (l:List CellT),(mrgN k l).length≤l.length
 |0,l=>Nat.le_refl _
 |k+1,l=>by
  unfold mrgN
  cases hm:mrg l with
  |none=>exact Nat.le_refl _
  |some l' =>
   have:=mrg_len hm
   have:=mrgN_len k l'
   show (mrgN k l').length≤_
   omega
theorem push_len (l:List CellT) (c:CellT):(push l c).length≤l.length+1:=by
 have:=mrgN_len (l.length+1) (l++[c])
 rw[List.length_append] at this
 exact this
abbrev LkS:=Nat×List CellT
def lookL {σ:Type} (f:CellT→σ→Bool×σ):List CellT→σ→Bool×σ
 |[],s=>(true,s)
 |c::r,s=>if (f c s).1=true then lookL f r (f c s).2 else (false,(f c s).2)
def lookF (A S:CellT→Bool) (n:Nat):Nat→CellT→LkS→Bool×LkS
 |d,c,s =>
  if 100000<s.1+1 then (false,(s.1+1,s.2))
  else if A c=false then (true,(s.1+1,s.2))
  else if n≤c.lv∨S c=true then (true,(s.1+1,s.2++[c]))
  else match d with
   |0=>(true,(s.1+1,s.2))
   |d+1=>lookL (lookF A S n d) (kids c) (s.1+1,s.2)
structure Lk (l:List CellT) (t m:Nat):Prop where
 ok:∀x∈l,okC x
 ch:Chain l
 up:Up l t
 lv:∀x∈l,x.lv≤m
theorem Lk.mono {l:List CellT} {t t' m:Nat} (h:Lk l t m) (ht:t≤t'):Lk l t' m:=⟨h.ok,h.ch,fun x hx=>Nat.le_trans (h.up x hx) ht,h.lv⟩
theorem Lk.snoc {l:List CellT} {m:Nat} {c:CellT} (h:Lk l (fr c) m) (hc:okC c) (hm:c.lv≤m):Lk (l++[c]) (to c) m:=by
 have hf:=to_fr c
 refine⟨fun x hx=>?_,Chain.snoc h.ch h.up,fun x hx=>?_,fun x hx=>?_⟩
 ·rcases List.mem_append.1 hx with hx|hx
  ·exact h.ok x hx
  ·rw[List.mem_singleton.1 hx];exact hc
 ·rcases List.mem_append.1 hx with hx|hx
  ·have:=h.up x hx
   omega
  ·rw[List.mem_singleton.1 hx];exact Nat.le_refl _
 ·rcases List.mem_append.1 hx with hx|hx
  ·exact h.lv x hx
  ·rw[List.mem_singleton.1 hx];exact hm
def Seq:Nat→Nat→List CellT→Prop
 |f,t,[]=>f≤t
 |f,t,x::r=>f≤fr x∧okC x∧Seq (to x) t r
theorem seq_kids {x:CellT} (h:okC x) (hl:x.lv<16):Seq (fr x) (to x) (kids x):=by
 obtain⟨a,b,c,d,e,f1,f2,f3,f4,f5⟩:=kids_fr hl
 have ho:∀y∈kids x,okC y:=fun y hy=>okC_kid h hl hy
 rw[e] at ho ⊢
 exact⟨by omega,ho a (by simp),by omega,ho b (by simp),by omega,ho c (by simp),by omega,ho d (by simp),by rw[f5];exact Nat.le_refl _⟩
theorem lookL_lk {f:CellT→LkS→Bool×LkS} {m:Nat} : ∀(cs:List CellT) {s:LkS} {a b:Nat},Seq a b cs→(∀c∈cs,∀s:LkS,Lk s.2 (fr c) m→Lk (f c s).2.2 (to c) m)→Lk s.2 a m→Lk (lookL f cs s).2.2 b m
 |[],s,a,b,hs,hf,h=>h.mono hs
 |c::r,s,a,b,⟨h1,h2,h3⟩,hf,h=>by
  have h4:=hf c List.mem_cons_self s (h.mono h1)
  unfold lookL
  split
  ·exact lookL_lk r h3 (fun x hx=>hf x (List.mem_cons_of_mem _ hx)) h4
  ·refine h4.mono ?_
   have:∀(r:List CellT) (p:Nat),Seq p b r→p≤b:=fun r=>by
    induction r with
    |nil=>exact fun p h=>h
    |cons y r ih=>exact fun p ⟨k1,_,k3⟩=>by have:=ih _ k3;have:=to_fr y;omega
   exact this r _ h3
theorem lookF_lk {A S:CellT→Bool} {n m:Nat} (hn:n≤16) (hnm:n≤m):∀(d:Nat) {c:CellT} {s:LkS},okC c→c.lv≤m→Lk s.2 (fr c) m→Lk (lookF A S n d c s).2.2 (to c) m
 |d,c,s,hc,hm,h=>by
  have hf:=to_fr c
  have h':Lk s.2 (to c) m:=h.mono (by omega)
  unfold lookF
  split
  ·exact h'
  split
  ·exact h'
  split
  ·exact h.snoc hc hm
  ·rename_i hl
   have hlv:c.lv<n:=Nat.lt_of_not_le fun h=>hl (.inl h)
   cases d with
   |zero=>exact h'
   |succ d =>
    refine lookL_lk (kids c) (seq_kids hc (by omega)) (fun x hx s hs=>?_) h
    refine lookF_lk hn hnm d (okC_kid hc (by omega) hx) ?_ hs
    simp only[kids,List.mem_cons,List.not_mem_nil,or_false] at hx
    rcases hx with rfl|rfl|rfl|rfl<;>(dsimp only;omega)
theorem lookL_sub {f:CellT→LkS→Bool×LkS} (hf:∀c s,∀x∈s.2,x∈(f c s).2.2):∀(cs:List CellT) (s:LkS),∀x∈s.2,x∈(lookL f cs s).2.2
 |[],s=>fun x hx=>hx
 |c::r,s=>fun x hx=>by
  unfold lookL
  split
  ·exact lookL_sub hf r _ x (hf c s x hx)
  ·exact hf c s x hx
theorem lookF_sub {A S:CellT→Bool} {n:Nat} : ∀(d:Nat) (c:CellT) (s:LkS),∀x∈s.2,x∈(lookF A S n d c s).2.2
 |d,c,s=>fun x hx=>by
  unfold lookF
  split
  ·exact hx
  split
  ·exact hx
  split
  ·exact List.mem_append_left _ hx
  ·cases d with
   |zero=>exact hx
   |succ d=>exact lookL_sub (fun c s=>lookF_sub d c s) (kids c) _ x hx
theorem lookL_ex {f:CellT→LkS→Bool×LkS} {Q:CellT→Prop} (hsub:∀c s,∀x∈s.2,x∈(f c s).2.2):∀(cs:List CellT) (s:LkS),(∀c∈cs,∀s,Q c→(f c s).1=true→∃x∈(f c s).2.2,Q x)→(∃c∈cs,Q c)→(lookL f cs s).1=true→∃x∈(lookL f cs s).2.2,Q x
 |[],s,_,h,_=>by obtain⟨c,hc,_⟩:=h;cases hc
 |c::r,s,hf,h,ht=>by
  unfold lookL at ht ⊢
  split at ht
  ·rename_i h1
   rw[if_pos h1]
   obtain⟨x,hx,hq⟩:=h
   rcases List.mem_cons.1 hx with rfl|hx
   ·obtain⟨y,hy,hy2⟩:=hf x List.mem_cons_self s hq h1
    exact⟨y,lookL_sub hsub r _ y hy,hy2⟩
   ·exact lookL_ex hsub r _ (fun x hx=>hf x (List.mem_cons_of_mem _ hx)) ⟨x,hx,hq⟩ ht
  ·cases ht
theorem lookF_ex {A S:CellT→Bool} {n:Nat} {Q:CellT→Prop} (hn:n≤16) (hA:∀c,okC c→Q c→A c=true) (hk:∀c,okC c→c.lv<16→Q c→∃x∈kids c,Q x):∀(d:Nat) (c:CellT) (s:LkS),okC c→n≤c.lv+d→Q c→(lookF A S n d c s).1=true→∃x∈(lookF A S n d c s).2.2,Q x
 |d,c,s,hc,hd,hq,ht=>by
  unfold lookF at ht ⊢
  split at ht
  ·cases ht
  rename_i h1
  rw[if_neg h1,if_neg (by rw[hA c hc hq];simp)]
  rw[if_neg (by rw[hA c hc hq];simp)] at ht
  split at ht
  ·rename_i h2
   rw[if_pos h2]
   exact⟨c,List.mem_append_right _ List.mem_cons_self,hq⟩
  ·rename_i h2
   rw[if_neg h2]
   have hlv:c.lv<n:=Nat.lt_of_not_le fun h=>h2 (.inl h)
   cases d with
   |zero=>omega
   |succ d =>
    refine lookL_ex (fun c s=>lookF_sub d c s) (kids c) _ (fun x hx s hqx hts=>?_) (hk c hc (by omega) hq) ht
    refine lookF_ex hn hA hk d x s (okC_kid hc (by omega) hx) ?_ hqx hts
    simp only[kids,List.mem_cons,List.not_mem_nil,or_false] at hx
    rcases hx with rfl|rfl|rfl|rfl<;>(dsimp only;omega)
def LkN (s:LkS):Prop:=s.2.length≤s.1∧s.1≤100001
theorem lookF_n {A S:CellT→Bool} {n:Nat} : ∀(d:Nat) (c:CellT) (s:LkS),s.1≤100000→LkN s→LkN (lookF A S n d c s).2∧((lookF A S n d c s).1=true→(lookF A S n d c s).2.1≤100000)
 |d,c,s,hs,h=>by
  obtain⟨h1,h2⟩:=h
  unfold lookF
  split
  ·exact⟨⟨by dsimp only;omega,by dsimp only;omega⟩,fun h=>by cases h⟩
  rename_i h3
  split
  ·exact⟨⟨by dsimp only;omega,by dsimp only;omega⟩,fun _=>by dsimp only;omega⟩
  split
  ·exact⟨⟨by dsimp only;rw[List.length_append,List.length_singleton];omega,by dsimp only;omega⟩,fun _=>by dsimp only;omega⟩
  ·cases d with
   |zero=>exact⟨⟨by dsimp only;omega,by dsimp only;omega⟩,fun _=>by dsimp only;omega⟩
   |succ d =>
    have go:∀(cs:List CellT) (s:LkS),s.1≤100000→LkN s→LkN (lookL (lookF A S n d) cs s).2∧((lookL (lookF A S n d) cs s).1=true→(lookL (lookF A S n d) cs s).2.1≤100000):=fun cs=>by
     induction cs with
     |nil=>exact fun s hs h=>⟨h,fun _=>hs⟩
     |cons x r ih =>
      intro s hs h
      obtain⟨k1,k2⟩:=lookF_n d x s hs h
      unfold lookL
      split
      ·rename_i ht
       exact ih _ (k2 ht) k1
      ·exact⟨k1,fun h=>by cases h⟩
    exact go (kids c) (s.1+1,s.2) (by dsimp only;omega) ⟨by dsimp only;omega,by dsimp only;omega⟩
theorem tdy_nil:Tdy [] 0:=⟨(fun x hx=>by cases hx),trivial,trivial,(fun x hx=>by cases hx)⟩
def tid (l:List CellT):List CellT:=l.foldl push []
theorem fold_tidy:∀(l g:List CellT) {t b:Nat},Tdy g t→Seq t b l→Tdy (l.foldl push g) b
 |[],g,t,b,h,hs=>⟨h.ok,h.ch,h.nb,fun x hx=>Nat.le_trans (h.up x hx) hs⟩
 |c::r,g,t,b,h,⟨h1,h2,h3⟩=>fold_tidy r (push g c) (push_tidy h h1 h2) h3
theorem seq_of {t:Nat} : ∀{l:List CellT} {a:Nat},(∀x∈l,okC x)→Chain l→Up l t→(∀x∈l,a≤fr x)→a≤t→Seq a t l
 |[],a,_,_,_,_,h=>h
 |x::r,a,h1,h2,h3,h4,h5=>⟨h4 x List.mem_cons_self,h1 x List.mem_cons_self,seq_of (fun y hy=>h1 y (List.mem_cons_of_mem _ hy)) (Chain.tail h2) (fun y hy=>h3 y (List.mem_cons_of_mem _ hy)) (fun y hy=>Chain.after h2 y hy) (h3 x List.mem_cons_self)⟩
theorem tid_tidy {l:List CellT} {t m:Nat} (h:Lk l t m):Tdy (tid l) t :=
 fold_tidy l [] tdy_nil (seq_of h.ok h.ch h.up (fun _ _=>Nat.zero_le _) (Nat.zero_le _))
theorem fold_lv {n:Nat} : ∀(l g:List CellT),(∀x∈g,x.lv≤n)→(∀x∈l,x.lv≤n)→∀x∈l.foldl push g,x.lv≤n
 |[],g,h,_=>h
 |c::r,g,h,h'=>fold_lv r (push g c) (push_lv h (h' c List.mem_cons_self)) fun x hx=>h' x (List.mem_cons_of_mem _ hx)
theorem tid_lv {n:Nat} {l:List CellT} (h:∀x∈l,x.lv≤n):∀x∈tid l,x.lv≤n:=fold_lv l [] (fun _ h=>by cases h) h
theorem fold_ex {Q:CellT→Prop} (hQ:∀p,∀x∈kids p,Q x→Q p):∀(l g:List CellT),(∃x∈g,Q x)∨(∃x∈l,Q x)→∃x∈l.foldl push g,Q x
 |[],g,h=>by
  rcases h with h|⟨x,hx,_⟩
  ·exact h
  ·cases hx
 |c::r,g,h=>by
  refine fold_ex hQ r (push g c) ?_
  rcases h with h|⟨x,hx,hq⟩
  ·exact .inl (push_ex hQ (.inl h))
  ·rcases List.mem_cons.1 hx with rfl|hx
   ·exact .inl (push_ex hQ (.inr hq))
   ·exact .inr ⟨x,hx,hq⟩
theorem tid_ex {Q:CellT→Prop} (hQ:∀p,∀x∈kids p,Q x→Q p) {l:List CellT} (h:∃x∈l,Q x):∃x∈tid l,Q x:=fold_ex hQ l [] (.inr h)
theorem fold_len:∀(l g:List CellT),(l.foldl push g).length≤g.length+l.length
 |[],g=>Nat.le_refl _
 |c::r,g=>by
  have:=fold_len r (push g c)
  have:=push_len g c
  simp only[List.foldl_cons,List.length_cons]
  omega
def covF (M:CellT→Bool) (m:Nat):Nat→CellT→List CellT→List CellT
 |d,c,out =>
  if M c=false then out
  else if c.lv=m then push out c
  else match d with
   |0=>out
   |d+1=>(kids c).foldl (fun o x=>covF M m d x o) out
theorem covL_tidy {f:CellT→List CellT→List CellT} : ∀(cs:List CellT) {o:List CellT} {a b:Nat},Seq a b cs→(∀c∈cs,∀o:List CellT,Tdy o (fr c)→Tdy (f c o) (to c))→Tdy o a→Tdy (cs.foldl (fun o x=>f x o) o) b
 |[],o,a,b,hs,hf,h=>⟨h.ok,h.ch,h.nb,fun x hx=>Nat.le_trans (h.up x hx) hs⟩
 |c::r,o,a,b,⟨h1,h2,h3⟩,hf,h=>covL_tidy r h3 (fun x hx=>hf x (List.mem_cons_of_mem _ hx)) (hf c List.mem_cons_self o ⟨h.ok,h.ch,h.nb,fun x hx=>Nat.le_trans (h.up x hx) h1⟩)
theorem Tdy.mono {l:List CellT} {t t':Nat} (h:Tdy l t) (ht:t≤t'):Tdy l t':=⟨h.ok,h.ch,h.nb,fun x hx=>Nat.le_trans (h.up x hx) ht⟩
theorem covF_tidy {M:CellT→Bool} {m:Nat} (hm:m≤16):∀(d:Nat) {c:CellT} {o:List CellT},okC c→c.lv+d=m→Tdy o (fr c)→Tdy (covF M m d c o) (to c)
 |d,c,o,hc,hd,h=>by
  have hf:=to_fr c
  unfold covF
  split
  ·exact h.mono (by omega)
  split
  ·exact push_tidy h (Nat.le_refl _) hc
  ·cases d with
   |zero=>exact h.mono (by omega)
   |succ d =>
    refine covL_tidy (kids c) (seq_kids hc (by omega)) (fun x hx o ho=>?_) h
    refine covF_tidy hm d (okC_kid hc (by omega) hx) ?_ ho
    simp only[kids,List.mem_cons,List.not_mem_nil,or_false] at hx
    rcases hx with rfl|rfl|rfl|rfl<;>(dsimp only;omega)
theorem covL_lv {f:CellT→List CellT→List CellT} {n:Nat} : ∀(cs:List CellT) {o:List CellT},(∀c∈cs,∀o:List CellT,(∀x∈o,x.lv≤n)→∀x∈f c o,x.lv≤n)→(∀x∈o,x.lv≤n)→∀x∈cs.foldl (fun o x=>f x o) o,x.lv≤n
 |[],o,hf,h=>h
 |c::r,o,hf,h=>covL_lv r (fun x hx=>hf x (List.mem_cons_of_mem _ hx)) (hf c List.mem_cons_self o h)
theorem covF_lv {M:CellT→Bool} {m:Nat} : ∀(d:Nat) {c:CellT} {o:List CellT},(∀x∈o,x.lv≤m)→∀x∈covF M m d c o,x.lv≤m
 |d,c,o,h=>by
  unfold covF
  split
  ·exact h
  split
  ·rename_i e
   exact push_lv h (Nat.le_of_eq e)
  ·cases d with
   |zero=>exact h
   |succ d=>exact covL_lv (kids c) (fun x hx o ho=>covF_lv d ho) h
theorem covL_ex {f:CellT→List CellT→List CellT} {Q:CellT→Prop} (hs:∀c o,(∃x∈o,Q x)→∃x∈f c o,Q x):∀(cs:List CellT) (o:List CellT),(∀c∈cs,∀o,Q c→∃x∈f c o,Q x)→(∃x∈o,Q x)∨(∃c∈cs,Q c)→∃x∈cs.foldl (fun o x=>f x o) o,Q x
 |[],o,hf,h=>by
  rcases h with h|⟨x,hx,_⟩
  ·exact h
  ·cases hx
 |c::r,o,hf,h=>by
  refine covL_ex hs r (f c o) (fun x hx=>hf x (List.mem_cons_of_mem _ hx)) ?_
  rcases h with h|⟨x,hx,hq⟩
  ·exact .inl (hs c o h)
  ·rcases List.mem_cons.1 hx with rfl|hx
   ·exact .inl (hf x List.mem_cons_self o hq)
   ·exact .inr ⟨x,hx,hq⟩
theorem covF_keep {M:CellT→Bool} {m:Nat} {Q:CellT→Prop} (hQ:∀p,∀x∈kids p,Q x→Q p):∀(d:Nat) (c:CellT) (o:List CellT),(∃x∈o,Q x)→∃x∈covF M m d c o,Q x
 |d,c,o,h=>by
  unfold covF
  split
  ·exact h
  split
  ·exact push_ex hQ (.inl h)
  ·cases d with
   |zero=>exact h
   |succ d =>
    have:∀(cs:List CellT) (o:List CellT),(∃x∈o,Q x)→∃x∈cs.foldl (fun o x=>covF M m d x o) o,Q x:=fun cs=>by
     induction cs with
     |nil=>exact fun o h=>h
     |cons y r ih=>exact fun o h=>ih _ (covF_keep hQ d y o h)
    exact this (kids c) o h
theorem covF_ex {M:CellT→Bool} {m:Nat} {Q:CellT→Prop} (hm:m≤16) (hQ:∀p,∀x∈kids p,Q x→Q p) (hM:∀c,okC c→Q c→M c=true) (hk:∀c,okC c→c.lv<16→Q c→∃x∈kids c,Q x):∀(d:Nat) (c:CellT) (o:List CellT),okC c→c.lv+d=m→Q c→∃x∈covF M m d c o,Q x
 |d,c,o,hc,hd,hq=>by
  unfold covF
  rw[if_neg (by rw[hM c hc hq];simp)]
  split
  ·exact push_ex hQ (.inr hq)
  ·cases d with
   |zero=>omega
   |succ d =>
    refine covL_ex (fun c o h=>covF_keep hQ d c o h) (kids c) o (fun x hx o hqx=>?_) (.inr (hk c hc (by omega) hq))
    refine covF_ex hm hQ hM hk d x o (okC_kid hc (by omega) hx) ?_ hqx
    simp only[kids,List.mem_cons,List.not_mem_nil,or_false] at hx
    rcases hx with rfl|rfl|rfl|rfl<;>(dsimp only;omega)
theorem covF_len {M:CellT→Bool} {m:Nat} : ∀(d:Nat) (c:CellT) (o:List CellT),(covF M m d c o).length≤o.length+4^d
 |d,c,o=>by
  unfold covF
  have hp:1≤4^d:=Nat.pow_pos (by decide)
  split
  ·omega
  split
  ·have:=push_len o c
   omega
  ·cases d with
   |zero=>exact Nat.le_add_right _ _
   |succ d =>
    have h1:∀x o,(covF M m d x o).length≤o.length+4^d:=covF_len d
    have e:4^(d+1)=4^d+4^d+4^d+4^d:=by rw[Nat.pow_succ];omega
    show ((kids c).foldl (fun o x=>covF M m d x o) o).length≤_
    rw[e]
    unfold kids
    simp only[List.foldl_cons,List.foldl_nil]
    have k1:=h1 ⟨c.lv+1,2*c.r,2*c.c⟩ o
    generalize covF M m d ⟨c.lv+1,2*c.r,2*c.c⟩ o=o1 at *
    have k2:=h1 ⟨c.lv+1,2*c.r,2*c.c+1⟩ o1
    generalize covF M m d ⟨c.lv+1,2*c.r,2*c.c+1⟩ o1=o2 at *
    have k3:=h1 ⟨c.lv+1,2*c.r+1,2*c.c⟩ o2
    generalize covF M m d ⟨c.lv+1,2*c.r+1,2*c.c⟩ o2=o3 at *
    have k4:=h1 ⟨c.lv+1,2*c.r+1,2*c.c+1⟩ o3
    omega
def eg (i lv:Nat):Nat:=i*10800000/2^lv
theorem eg_le {i j lv:Nat} (h:i≤j):eg i lv≤eg j lv:=Nat.div_le_div_right (Nat.mul_le_mul_right _ h)
theorem eg_two (i lv:Nat):eg (2*i) (lv+1)=eg i lv:=by
 unfold eg
 rw[Nat.pow_succ,Nat.mul_comm (2^lv) 2,Nat.mul_assoc 2 i,Nat.mul_div_mul_left _ _ (by decide)]
def inQ (u v:Nat) (x:CellT):Prop:=(eg x.r x.lv≤u∧u≤eg (x.r+1) x.lv)∧eg x.c x.lv≤v∧v≤eg (x.c+1) x.lv
theorem inQ_up {u v:Nat} (p:CellT):∀x∈kids p,inQ u v x→inQ u v p:=fun x hx ⟨⟨h1,h2⟩,h3,h4⟩=>by
 have a1:=eg_two p.r p.lv
 have a2:=eg_two (p.r+1) p.lv
 have b1:=eg_two p.c p.lv
 have b2:=eg_two (p.c+1) p.lv
 have a3:=eg_le (i:=2*p.r) (j:=2*p.r+1) (lv:=p.lv+1) (by omega)
 have a4:=eg_le (i:=2*p.r+1) (j:=2*(p.r+1)) (lv:=p.lv+1) (by omega)
 have b3:=eg_le (i:=2*p.c) (j:=2*p.c+1) (lv:=p.lv+1) (by omega)
 have b4:=eg_le (i:=2*p.c+1) (j:=2*(p.c+1)) (lv:=p.lv+1) (by omega)
 rw[show 2*(p.r+1)=2*p.r+1+1 by omega] at a2 a4
 rw[show 2*(p.c+1)=2*p.c+1+1 by omega] at b2 b4
 simp only[kids,List.mem_cons,List.not_mem_nil,or_false] at hx
 rcases hx with rfl|rfl|rfl|rfl<;>(unfold inQ;dsimp only at h1 h2 h3 h4;omega)
theorem inQ_down {u v:Nat} (p:CellT) (h:inQ u v p):∃x∈kids p,inQ u v x:=by
 obtain⟨⟨h1,h2⟩,h3,h4⟩:=h
 have a1:=eg_two p.r p.lv
 have a2:=eg_two (p.r+1) p.lv
 have b1:=eg_two p.c p.lv
 have b2:=eg_two (p.c+1) p.lv
 rw[show 2*(p.r+1)=2*p.r+1+1 by omega] at a2
 rw[show 2*(p.c+1)=2*p.c+1+1 by omega] at b2
 unfold kids inQ
 rcases Nat.le_total u (eg (2*p.r+1) (p.lv+1)) with hu|hu<;>rcases Nat.le_total v (eg (2*p.c+1) (p.lv+1)) with hv|hv
 ·exact⟨_,List.mem_cons_self,by dsimp only;omega⟩
 ·exact⟨_,List.mem_cons_of_mem _ List.mem_cons_self,by dsimp only;omega⟩
 ·exact⟨_,List.mem_cons_of_mem _ (List.mem_cons_of_mem _ List.mem_cons_self),by dsimp only;omega⟩
 ·exact⟨_,List.mem_cons_of_mem _ (List.mem_cons_of_mem _ (List.mem_cons_of_mem _ List.mem_cons_self)),by dsimp only;omega⟩
theorem inQ_top {u v:Nat} (hu:u≤10800000) (hv:v≤21600000):inQ u v ⟨0,0,0⟩∨inQ u v ⟨0,0,1⟩:=by
 have e0:eg 0 0=0:=rfl
 have e1:eg 1 0=10800000:=rfl
 have e2:eg 2 0=21600000:=rfl
 unfold inQ
 dsimp only
 rw[e0,e1,e2]
 omega
theorem ok0:okC ⟨0,0,0⟩:=⟨by decide,by decide,by decide⟩
theorem ok1:okC ⟨0,0,1⟩:=⟨by decide,by decide,by decide⟩
def arF (M:CellT→Bool) (m:Nat):List CellT:=covF M m m ⟨0,0,1⟩ (covF M m m ⟨0,0,0⟩ [])
theorem arF_tidy {M:CellT→Bool} {m:Nat} (hm:m≤16):Tdy (arF M m) (2*4^16):=by
 have h1:=covF_tidy (M:=M) hm m (c:=⟨0,0,0⟩) (o:=[]) ok0 (by simp) tdy_nil
 have h2:=covF_tidy (M:=M) hm m (c:=⟨0,0,1⟩) ok1 (by simp) (show Tdy _ (fr ⟨0,0,1⟩) from h1.mono (by decide +kernel))
 exact h2.mono (by decide +kernel)
theorem arF_lv {M:CellT→Bool} {m:Nat} : ∀x∈arF M m,x.lv≤m:=covF_lv m (covF_lv m fun x hx=>by cases hx)
theorem arF_len {M:CellT→Bool} {m:Nat} : (arF M m).length≤4^m+4^m:=by
 have a:=covF_len (M:=M) (m:=m) m ⟨0,0,0⟩ []
 have b:=covF_len (M:=M) (m:=m) m ⟨0,0,1⟩ (covF M m m ⟨0,0,0⟩ [])
 rw[List.length_nil] at a
 unfold arF
 omega
theorem arF_ex {M:CellT→Bool} {m u v:Nat} (hm:m≤16) (hM:∀c,okC c→inQ u v c→M c=true) (hu:u≤10800000) (hv:v≤21600000):∃x∈arF M m,inQ u v x:=by
 unfold arF
 rcases inQ_top hu hv with h|h
 ·exact covF_keep inQ_up m _ _ (covF_ex hm inQ_up hM (fun c _ _ hq=>inQ_down c hq) m _ _ ok0 (by simp) h)
 ·exact covF_ex hm inQ_up hM (fun c _ _ hq=>inQ_down c hq) m _ _ ok1 (by simp) h
def ofF (A S:CellT→Bool) (n:Nat) (start:List CellT):Int×List CellT :=
 if (lookL (lookF A S n 16) start (0,[])).1=false then (6,[])
 else if 4000<(tid (lookL (lookF A S n 16) start (0,[])).2.2).length then (4,[])
 else (0,tid (lookL (lookF A S n 16) start (0,[])).2.2)
structure RgOk (u v n:Nat) (l:List CellT):Prop where
 ok:∀x∈l,okC x
 idx:IdxOk l
 lv:∀x∈l,x.lv≤n
 len:l.length≤4000
 has:∃x∈l,inQ u v x
theorem ofF_ok {A S:CellT→Bool} {n m u v:Nat} {start:List CellT} (hn:n≤16) (hmn:m≤n) (ht:Tdy start (2*4^16)) (hl:∀x∈start,x.lv≤m) (hs:∃x∈start,inQ u v x) (hA:∀c,okC c→inQ u v c→A c=true) (h:(ofF A S n start).1=0):RgOk u v n (ofF A S n start).2:=by
 unfold ofF at h ⊢
 split at h
 ·cases h
 rename_i h1
 rw[if_neg h1]
 split at h
 ·cases h
 rename_i h2
 rw[if_neg h2]
 have h1':(lookL (lookF A S n 16) start (0,[])).1=true:=by simpa using h1
 have hseq:Seq 0 (2*4^16) start:=seq_of ht.ok ht.ch ht.up (fun _ _=>Nat.zero_le _) (Nat.zero_le _)
 have lk:Lk (lookL (lookF A S n 16) start (0,[])).2.2 (2*4^16) n:=lookL_lk start hseq (fun c hc s hs=>lookF_lk hn (Nat.le_refl _) 16 (ht.ok c hc) (Nat.le_trans (hl c hc) hmn) hs) ⟨(fun x hx=>by cases hx),trivial,(fun x hx=>by cases hx),(fun x hx=>by cases hx)⟩
 have ex:=lookL_ex (Q:=inQ u v) (fun c s=>lookF_sub (A:=A) (S:=S) (n:=n) 16 c s) start (0,[]) (fun c hc s hq hts=>lookF_ex hn hA (fun c _ _ hq=>inQ_down c hq) 16 c s (ht.ok c hc) (by omega) hq hts) hs h1'
 have td:=tid_tidy lk
 exact⟨td.ok,(idx_iff td.ok).2 ⟨td.ch,td.nb⟩,tid_lv lk.lv,Nat.le_of_not_lt h2,tid_ex inQ_up ex⟩
def sizeF (n:Nat) (l:List CellT):Nat:=(l.map fun x=>4^(n-x.lv)).sum
end Go.Proofs.YtjmdeplmenbmmaaGreatDoor.RR
