/- Joined texts: Rg1, Rg2, Rg3, Rg4, Rg5, Rg6, Rg7, Rg8, Rg9. -/
set_option linter.unusedVariables false
namespace Go.Proofs.YtjmdeplmenbmmaaGreat.RR
def mc:Nat→Nat→Nat→Nat
 |0,_,c=>c
 |L+1,r,c=>4*mc L (r/2) (c/2)+2*(r%2)+c%2
structure CellT where
 lv:Nat
 r:Nat
 c:Nat
deriving DecidableEq
def okC (x:CellT):Prop:=x.lv≤16∧x.r<2^x.lv∧x.c<2*2^x.lv
def sz (L:Nat):Nat:=4^(16-L)
def fr (x:CellT):Nat:=mc x.lv x.r x.c*sz x.lv
def to (x:CellT):Nat:=(mc x.lv x.r x.c+1)*sz x.lv
theorem mc_anc (L:Nat):∀(d r c:Nat),mc (L+d) r c/4^d=mc L (r/2^d) (c/2^d)
 |0,r,c=>by simp
 |d+1,r,c=>by
  have ih:=mc_anc L d (r/2) (c/2)
  rw[Nat.pow_succ,Nat.pow_succ,Nat.mul_comm (4^d) 4,Nat.mul_comm (2^d) 2,←Nat.div_div_eq_div_mul,←Nat.div_div_eq_div_mul,←Nat.div_div_eq_div_mul,←ih]
  congr 1
  show (4*mc (L+d) (r/2) (c/2)+2*(r%2)+c%2)/4=_
  omega
def cd (x:CellT) (k:Nat):Nat:=mc k (x.r/2^(x.lv-k)) (x.c/2^(x.lv-k))
theorem cd_eq {x:CellT} {k:Nat} (h:k≤x.lv):cd x k=mc x.lv x.r x.c/4^(x.lv-k):=by
 have:=mc_anc k (x.lv-k) x.r x.c
 rw[show k+(x.lv-k)=x.lv by omega] at this
 exact this.symm
theorem span_in {x:CellT} {k:Nat} (h:k≤x.lv) (h16:x.lv≤16):cd x k*sz k≤fr x∧to x≤(cd x k+1)*sz k:=by
 rw[cd_eq h]
 unfold fr to sz
 generalize mc x.lv x.r x.c=m
 have e:4^(16-k)=4^(x.lv-k)*4^(16-x.lv):=by rw[←Nat.pow_add];congr 1;omega
 rw[e,←Nat.mul_assoc,←Nat.mul_assoc]
 have hp:0<4^(x.lv-k):=Nat.pow_pos (by decide)
 have h1:=Nat.div_mul_le_self m (4^(x.lv-k))
 have h2:=Nat.lt_div_mul_add hp (a:=m)
 refine⟨Nat.mul_le_mul_right _ h1,Nat.mul_le_mul_right _ ?_⟩
 rw[Nat.succ_mul];omega
def within (a b:CellT):Bool:=decide (b.lv≤a.lv)&&decide (a.r/2^(a.lv-b.lv)=b.r)&&decide (a.c/2^(a.lv-b.lv)=b.c)
def befL (a b:CellT):Nat→Nat→Bool
 |_,0=>false
 |k,n+1 =>
  if a.r/2^(a.lv-k)≠b.r/2^(b.lv-k) then decide (a.r/2^(a.lv-k)<b.r/2^(b.lv-k))
  else if a.c/2^(a.lv-k)≠b.c/2^(b.lv-k) then decide (a.c/2^(a.lv-k)<b.c/2^(b.lv-k))
  else befL a b (k+1) n
def before (a b:CellT):Bool:=befL a b 0 (min a.lv b.lv+1)
def drow:Nat→Nat→Nat
 |0,_=>0
 |L+1,n=>2*drow L (n/4)+n%4/2
def dcol:Nat→Nat→Nat
 |0,n=>n
 |L+1,n=>2*dcol L (n/4)+n%2
def cellAt (n L:Nat):CellT:=⟨L,drow L n,dcol L n⟩
end Go.Proofs.YtjmdeplmenbmmaaGreat.RR
set_option linter.unusedVariables false
namespace Go.Proofs.YtjmdeplmenbmmaaGreat.RR
theorem CellT.eq_of {a b:CellT} (h1:a.lv=b.lv) (h2:a.r=b.r) (h3:a.c=b.c):a=b:=by
 cases a;cases b;simp only at h1 h2 h3;subst h1;subst h2;subst h3;rfl
def kids (x:CellT):List CellT:=[⟨x.lv+1,2*x.r,2*x.c⟩,⟨x.lv+1,2*x.r,2*x.c+1⟩,⟨x.lv+1,2*x.r+1,2*x.c⟩,⟨x.lv+1,2*x.r+1,2*x.c+1⟩]
def par (x:CellT):CellT:=⟨x.lv-1,x.r/2,x.c/2⟩
def mrg (l:List CellT):Option (List CellT) :=
 if 4≤l.length∧0<(l.getD (l.length-4) ⟨0,0,0⟩).lv∧kids (par (l.getD (l.length-4) ⟨0,0,0⟩))=l.drop (l.length-4) then some (l.take (l.length-4)++[par (l.getD (l.length-4) ⟨0,0,0⟩)]) else none
def mrgN:Nat→List CellT→List CellT
 |0,l=>l
 |k+1,l=>match mrg l with
  |none=>l
  |some l'=>mrgN k l'
def push (l:List CellT) (c:CellT):List CellT:=mrgN (l.length+1) (l++[c])
theorem okC_kid {x y:CellT} (h:okC x) (hl:x.lv<16) (hy:y∈kids x):okC y:=by
 obtain⟨h1,h2,h3⟩:=h
 have e:2^(x.lv+1)=2*2^x.lv:=by rw[Nat.pow_succ,Nat.mul_comm]
 simp only[kids,List.mem_cons,List.not_mem_nil,or_false] at hy
 rcases hy with rfl|rfl|rfl|rfl<;>(refine⟨?_,?_,?_⟩<;>dsimp only<;>(try rw[e])<;>omega)
theorem okC_par {x:CellT} (h:okC x) (hl:0<x.lv):okC (par x):=by
 obtain⟨h1,h2,h3⟩:=h
 obtain⟨k,hk⟩:∃k,x.lv=k+1:=⟨x.lv-1,by omega⟩
 have e:2^(k+1)=2*2^k:=by rw[Nat.pow_succ,Nat.mul_comm]
 unfold par
 refine⟨?_,?_,?_⟩<;>dsimp only
 ·omega
 ·rw[hk] at h2 ⊢
  rw[e] at h2
  rw[Nat.add_sub_cancel]
  omega
 ·rw[hk] at h3 ⊢
  rw[e] at h3
  rw[Nat.add_sub_cancel]
  omega
theorem kids_par {x y:CellT} (hy:y∈kids x):par y=x:=by
 simp only[kids,List.mem_cons,List.not_mem_nil,or_false] at hy
 rcases hy with rfl|rfl|rfl|rfl<;>(refine CellT.eq_of ?_ ?_ ?_<;>(unfold par;dsimp only;omega))
theorem mrg_some {l l':List CellT} (h:mrg l=some l'):∃r p,l=r++kids p∧l'=r++[p]:=by
 unfold mrg at h
 split at h
 ·rename_i hc
  obtain⟨h1,h2,h3⟩:=hc
  refine⟨l.take (l.length-4),par (l.getD (l.length-4) ⟨0,0,0⟩),?_,(Option.some.inj h).symm⟩
  rw[h3]
  exact(List.take_append_drop _ _).symm
 ·cases h
theorem mrg_len {l l':List CellT} (h:mrg l=some l'):l'.length+3=l.length:=by
 obtain⟨r,p,rfl,rfl⟩:=mrg_some h
 simp[kids]
theorem mrgN_len:∀(k:Nat) (l:List CellT),(mrgN k l).length≤l.length
 |0,l=>Nat.le_refl _
 |k+1,l=>by
  unfold mrgN
  cases hm:mrg l with
  |none=>exact Nat.le_refl _
  |some l' =>
   have:=mrg_len hm
   have:=mrgN_len k l'
   show (mrgN k l').length≤_
   omega
theorem push_len (l:List CellT) (c:CellT):(push l c).length≤l.length+1:=by
 have:=mrgN_len (l.length+1) (l++[c])
 rw[List.length_append] at this
 exact this
abbrev LkS:=Nat×List CellT
def lookL {σ:Type} (f:CellT→σ→Bool×σ):List CellT→σ→Bool×σ
 |[],s=>(true,s)
 |c::r,s=>if (f c s).1=true then lookL f r (f c s).2 else (false,(f c s).2)
def lookF (A S:CellT→Bool) (n:Nat):Nat→CellT→LkS→Bool×LkS
 |d,c,s =>
  if 100000<s.1+1 then (false,(s.1+1,s.2))
  else if A c=false then (true,(s.1+1,s.2))
  else if n≤c.lv∨S c=true then (true,(s.1+1,s.2++[c]))
  else match d with
   |0=>(true,(s.1+1,s.2))
   |d+1=>lookL (lookF A S n d) (kids c) (s.1+1,s.2)
def covF (M:CellT→Bool) (m:Nat):Nat→CellT→List CellT→List CellT
 |d,c,out =>
  if M c=false then out
  else if c.lv=m then push out c
  else match d with
   |0=>out
   |d+1=>(kids c).foldl (fun o x=>covF M m d x o) out
theorem covF_len {M:CellT→Bool} {m:Nat} : ∀(d:Nat) (c:CellT) (o:List CellT),(covF M m d c o).length≤o.length+4^d
 |d,c,o=>by
  unfold covF
  have hp:1≤4^d:=Nat.pow_pos (by decide)
  split
  ·omega
  split
  ·have:=push_len o c
   omega
  ·cases d with
   |zero=>exact Nat.le_add_right _ _
   |succ d =>
    have h1:∀x o,(covF M m d x o).length≤o.length+4^d:=covF_len d
    have e:4^(d+1)=4^d+4^d+4^d+4^d:=by rw[Nat.pow_succ];omega
    show ((kids c).foldl (fun o x=>covF M m d x o) o).length≤_
    rw[e]
    unfold kids
    simp only[List.foldl_cons,List.foldl_nil]
    have k1:=h1 ⟨c.lv+1,2*c.r,2*c.c⟩ o
    generalize covF M m d ⟨c.lv+1,2*c.r,2*c.c⟩ o=o1 at *
    have k2:=h1 ⟨c.lv+1,2*c.r,2*c.c+1⟩ o1
    generalize covF M m d ⟨c.lv+1,2*c.r,2*c.c+1⟩ o1=o2 at *
    have k3:=h1 ⟨c.lv+1,2*c.r+1,2*c.c⟩ o2
    generalize covF M m d ⟨c.lv+1,2*c.r+1,2*c.c⟩ o2=o3 at *
    have k4:=h1 ⟨c.lv+1,2*c.r+1,2*c.c+1⟩ o3
    omega
def eg (i lv:Nat):Nat:=i*10800000/2^lv
theorem ok0:okC ⟨0,0,0⟩:=⟨by decide,by decide,by decide⟩
theorem ok1:okC ⟨0,0,1⟩:=⟨by decide,by decide,by decide⟩
def arF (M:CellT→Bool) (m:Nat):List CellT:=covF M m m ⟨0,0,1⟩ (covF M m m ⟨0,0,0⟩ [])
theorem arF_len {M:CellT→Bool} {m:Nat} : (arF M m).length≤4^m+4^m:=by
 have a:=covF_len (M:=M) (m:=m) m ⟨0,0,0⟩ []
 have b:=covF_len (M:=M) (m:=m) m ⟨0,0,1⟩ (covF M m m ⟨0,0,0⟩ [])
 rw[List.length_nil] at a
 unfold arF
 omega
theorem mrgN_stop {k:Nat} {l:List CellT} (h:mrg l=none):mrgN k l=l:=by
 cases k with
 |zero=>rfl
 |succ k=>unfold mrgN;rw[h]
theorem mrgN_any:∀(m k:Nat) (l:List CellT),k≤m→l.length≤k→mrgN k l=mrgN l.length l
 |0,k,l,hm,h=>by rw[show l.length=0 by omega,show k=0 by omega]
 |m+1,0,l,hm,h=>by rw[show l.length=0 by omega]
 |m+1,k+1,l,hkm,h=>by
  cases hm:mrg l with
  |none=>rw[mrgN_stop hm,mrgN_stop hm]
  |some l' =>
   have hl:=mrg_len hm
   obtain⟨n,hn⟩:∃n,l.length=n+1:=⟨l.length-1,by omega⟩
   rw[hn]
   show (match mrg l with|none=>l|some l'=>mrgN k l')=(match mrg l with|none=>l|some l'=>mrgN n l')
   rw[hm]
   exact(mrgN_any m k l' (by omega) (by omega)).trans (mrgN_any m n l' (by omega) (by omega)).symm
theorem mrgN_step {l l':List CellT} (h:mrg l=some l'):mrgN l.length l=mrgN l'.length l':=by
 have hl:=mrg_len h
 obtain⟨n,hn⟩:∃n,l.length=n+1:=⟨l.length-1,by omega⟩
 rw[hn]
 show (match mrg l with|none=>l|some l'=>mrgN n l')=_
 rw[h]
 exact mrgN_any n n l' (Nat.le_refl _) (by omega)
theorem push_eq (l:List CellT) (c:CellT):push l c=mrgN (l++[c]).length (l++[c]):=by
 unfold push
 rw[List.length_append,List.length_singleton]
theorem mrg_ok {l l':List CellT} (ok:∀x∈l,okC x) (h:mrg l=some l'):∀x∈l',okC x:=by
 obtain⟨r,p,rfl,rfl⟩:=mrg_some h
 intro x hx
 rcases List.mem_append.1 hx with hx|hx
 ·exact ok x (List.mem_append_left _ hx)
 ·rw[List.mem_singleton.1 hx]
  have hk0:(⟨p.lv+1,2*p.r,2*p.c⟩:CellT)∈kids p:=List.mem_cons_self
  have:=okC_par (ok _ (List.mem_append_right _ hk0)) (Nat.succ_pos _)
  rwa [show par ⟨p.lv+1,2*p.r,2*p.c⟩=p from kids_par hk0] at this
theorem mrgN_ok:∀(k:Nat) {l:List CellT},(∀x∈l,okC x)→∀x∈mrgN k l,okC x
 |0,l,h=>h
 |k+1,l,h=>by
  unfold mrgN
  cases hm:mrg l with
  |none=>exact h
  |some l'=>exact mrgN_ok k (mrg_ok h hm)
theorem push_ok {l:List CellT} {c:CellT} (h:∀x∈l,okC x) (hc:okC c):∀x∈push l c,okC x :=
 mrgN_ok _ fun x hx=>by
  rcases List.mem_append.1 hx with hx|hx
  ·exact h x hx
  ·rw[List.mem_singleton.1 hx];exact hc
theorem mrg_eq (l:List CellT):mrg l=if 4≤l.length∧0<(l.getD (l.length-4) ⟨0,0,0⟩).lv∧kids (par (l.getD (l.length-4) ⟨0,0,0⟩))=l.drop (l.length-4) then some (l.take (l.length-4)++[par (l.getD (l.length-4) ⟨0,0,0⟩)]) else none:=rfl
end Go.Proofs.YtjmdeplmenbmmaaGreat.RR
