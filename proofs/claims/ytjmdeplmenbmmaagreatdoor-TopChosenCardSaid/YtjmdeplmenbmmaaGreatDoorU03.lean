/- Joined texts: Rg9. -/
import Derived.Test.YtjmdeplmenbmmaaGreatDoorU02
set_option linter.unusedVariables false
namespace Go.Proofs.YtjmdeplmenbmmaaGreatDoor.RR
theorem mrgN_stop {k:Nat} {l:List CellT} (h:mrg l=none):mrgN k l=l:=by
 cases k with
 |zero=>rfl
 |succ k=>unfold mrgN;rw[h]
theorem mrgN_any:∀(m k:Nat) (l:List CellT),k≤m→l.length≤k→mrgN k l=mrgN l.length l
 |0,k,l,hm,h=>by rw[show l.length=0 by omega,show k=0 by omega]
 |m+1,0,l,hm,h=>by rw[show l.length=0 by omega]
 |m+1,k+1,l,hkm,h=>by
  cases hm:mrg l with
  |none=>rw[mrgN_stop hm,mrgN_stop hm]
  |some l' =>
   have hl:=mrg_len hm
   obtain⟨n,hn⟩:∃n,l.length=n+1:=⟨l.length-1,by omega⟩
   rw[hn]
   show (match mrg l with|none=>l|some l'=>mrgN k l')=(match mrg l with|none=>l|some l'=>mrgN n l')
   rw[hm]
   exact(mrgN_any m k l' (by omega) (by omega)).trans (mrgN_any m n l' (by omega) (by omega)).symm
theorem mrgN_step {l l':List CellT} (h:mrg l=some l'):mrgN l.length l=mrgN l'.length l':=by
 have hl:=mrg_len h
 obtain⟨n,hn⟩:∃n,l.length=n+1:=⟨l.length-1,by omega⟩
 rw[hn]
 show (match mrg l with|none=>l|some l'=>mrgN n l')=_
 rw[h]
 exact mrgN_any n n l' (Nat.le_refl _) (by omega)
theorem push_eq (l:List CellT) (c:CellT):push l c=mrgN (l++[c]).length (l++[c]):=by
 unfold push
 rw[List.length_append,List.length_singleton]
theorem mrg_ok {l l':List CellT} (ok:∀x∈l,okC x) (h:mrg l=some l'):∀x∈l',okC x:=by
 obtain⟨r,p,rfl,rfl⟩:=mrg_some h
 intro x hx
 rcases List.mem_append.1 hx with hx|hx
 ·exact ok x (List.mem_append_left _ hx)
 ·rw[List.mem_singleton.1 hx]
  have hk0:(⟨p.lv+1,2*p.r,2*p.c⟩:CellT)∈kids p:=List.mem_cons_self
  have:=okC_par (ok _ (List.mem_append_right _ hk0)) (Nat.succ_pos _)
  rwa [show par ⟨p.lv+1,2*p.r,2*p.c⟩=p from kids_par hk0] at this
theorem mrgN_ok:∀(k:Nat) {l:List CellT},(∀x∈l,okC x)→∀x∈mrgN k l,okC x
 |0,l,h=>h
 |k+1,l,h=>by
  unfold mrgN
  cases hm:mrg l with
  |none=>exact h
  |some l'=>exact mrgN_ok k (mrg_ok h hm)
theorem push_ok {l:List CellT} {c:CellT} (h:∀x∈l,okC x) (hc:okC c):∀x∈push l c,okC x :=
 mrgN_ok _ fun x hx=>by
  rcases List.mem_append.1 hx with hx|hx
  ·exact h x hx
  ·rw[List.mem_singleton.1 hx];exact hc
theorem fold_ok:∀(l g:List CellT),(∀x∈g,okC x)→(∀x∈l,okC x)→∀x∈l.foldl push g,okC x
 |[],g,h,_=>h
 |c::r,g,h,h'=>fold_ok r (push g c) (push_ok h (h' c List.mem_cons_self)) fun x hx=>h' x (List.mem_cons_of_mem _ hx)
theorem tid_take {l:List CellT} {i:Nat} (h:i<l.length):tid (l.take (i+1))=push (tid (l.take i)) l[i]:=by
 unfold tid
 rw[List.take_succ_eq_append_getElem h,List.foldl_append]
 rfl
theorem tid_ok {l:List CellT} (h:∀x∈l,okC x):∀x∈tid l,okC x:=fold_ok l [] (fun x hx=>by cases hx) h
theorem tid_len (l:List CellT):(tid l).length≤l.length:=by
 have:=fold_len l []
 rw[List.length_nil,Nat.zero_add] at this
 exact this
theorem lookF_ok {A S:CellT→Bool} {n:Nat} (hn:n≤16):∀(d:Nat) {c:CellT} {s:LkS},okC c→(∀x∈s.2,okC x)→∀x∈(lookF A S n d c s).2.2,okC x
 |d,c,s,hc,h=>by
  unfold lookF
  split
  ·exact h
  split
  ·exact h
  split
  ·intro x hx
   rcases List.mem_append.1 hx with hx|hx
   ·exact h x hx
   ·rw[List.mem_singleton.1 hx];exact hc
  ·rename_i hl
   have hlv:c.lv<n:=Nat.lt_of_not_le fun h=>hl (.inl h)
   cases d with
   |zero=>exact h
   |succ d =>
    have go:∀(cs:List CellT) (s:LkS),(∀x∈cs,okC x)→(∀x∈s.2,okC x)→∀x∈(lookL (lookF A S n d) cs s).2.2,okC x:=fun cs=>by
     induction cs with
     |nil=>exact fun s _ h=>h
     |cons y r ih =>
      intro s ho h
      have h1:=lookF_ok (A:=A) (S:=S) hn d (ho y List.mem_cons_self) h
      unfold lookL
      split
      ·exact ih _ (fun x hx=>ho x (List.mem_cons_of_mem _ hx)) h1
      ·exact h1
    exact go (kids c) (s.1+1,s.2) (fun x hx=>okC_kid hc (by omega) hx) h
theorem mrg_eq (l:List CellT):mrg l=if 4≤l.length∧0<(l.getD (l.length-4) ⟨0,0,0⟩).lv∧kids (par (l.getD (l.length-4) ⟨0,0,0⟩))=l.drop (l.length-4) then some (l.take (l.length-4)++[par (l.getD (l.length-4) ⟨0,0,0⟩)]) else none:=rfl
end Go.Proofs.YtjmdeplmenbmmaaGreatDoor.RR
