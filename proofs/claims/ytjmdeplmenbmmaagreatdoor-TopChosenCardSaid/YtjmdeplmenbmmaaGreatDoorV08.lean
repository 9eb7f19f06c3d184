/- Joined texts: Atf, RgA, RfP, TrR. -/
import Derived.Test.YtjmdeplmenbmmaaGreatDoorV07
import Derived.Test.YtjmdeplmenbmmaaGreatDoorU03
import Derived.Test.YtjmdeplmenbmmaaGreatDoorV01
set_option linter.unusedVariables false
namespace Go.Proofs.YtjmdeplmenbmmaaGreatDoor.TT
theorem cosE_turn (lo hi k:Int):cosE (lo+21600000*k) (hi+21600000*k)=cosE lo hi:=by
 unfold cosE
 rw[show lo+21600000*k+5400000=lo+5400000+21600000*k by omega,show hi+21600000*k+5400000=hi+5400000+21600000*k by omega,encl_turn]
theorem cosE_full {lo hi:Int} (h:21600000≤hi-lo):cosE lo hi=(-1073741824,1073741824):=by
 have m:∀n:Int,meetsI (lo+5400000) (hi+5400000) n=true:=fun n=>by
  unfold meetsI turnI
  exact decide_eq_true (by omega)
 unfold cosE encl
 rw[if_pos (m _),if_pos (m _)]
theorem lha_in {L e1 e2:Int} {w lon:Int×Int} (hL:e1≤L∧L≤e2) (hw:w.1≤w.2) (h:(lon.1 = -10800000∧lon.2=10800000)∨∃k:Int,lon.1=L+w.1+21600000*k∧lon.2=L+w.2+21600000*k) :
  (cosE (e1-lon.2) (e2-lon.1)).1≤(cosE w.1 w.2).1∧(cosE w.1 w.2).2≤(cosE (e1-lon.2) (e2-lon.1)).2:=by
 rcases h with ⟨h1,h2⟩|⟨k,h1,h2⟩
 ·rw[cosE_full (by omega)]
  have:=cosE_ord hw
  exact⟨this.1,this.2.2⟩
 ·have a:=cosE_mono (lo:=-w.2+21600000*(-k)) (hi:=-w.1+21600000*(-k)) (l:=e1-lon.2) (h:=e2-lon.1) (by omega) (by omega) (by omega)
  rw[cosE_turn,←cosE_sym hw] at a
  exact a
theorem at_meet {P r0 k0:Int} {r K:Int×Int} (hP:ok8 P) (hr:r.1≤r0∧r0≤r.2) (hr0:ok8 r0) (hK:K.1≤k0∧k0≤K.2) (hk0:ok8 k0):(meetO (gdS P r K)).1≤(meetO (gdS P r K)).2∧-1073741824≤(meetO (gdS P r K)).1∧(meetO (gdS P r K)).2≤1073741824:=by
 have sp:=sin_encA (lo:=P) (hi:=P) (n:=P) (Int.le_refl _) (Int.le_refl _) hP
 have cp:=cos_encA (lo:=P) (hi:=P) (n:=P) (Int.le_refl _) (Int.le_refl _) hP
 have sr:=sin_encA hr.1 hr.2 hr0
 have cr:=cos_encA hr.1 hr.2 hr0
 have ck:=cos_encA hK.1 hK.2 hk0
 have o1:=encl_ord (lo:=P) (hi:=P) (Int.le_refl _)
 have o2:=cosE_ord (lo:=P) (hi:=P) (Int.le_refl _)
 have o3:=encl_ord (lo:=r.1) (hi:=r.2) (by omega)
 have o4:=cosE_ord (lo:=r.1) (hi:=r.2) (by omega)
 have o6:=cosE_ord (lo:=K.1) (hi:=K.2) (by omega)
 have b0:=mulE_bd o1 o4
 have b1:=mulE_bd o2 o3
 have b2:=mulE_bd b1 o6
 have n0:=dB_nn
 have n2:(0:Rat)≤dB+dB:=by decide +kernel
 have m1:=mul_enc sp cr n0 n0 ⟨o1.1,o1.2.2⟩ (C_abs r0)
 have m2:=mul_enc cp sr n0 n0 ⟨o2.1,o2.2.2⟩ (S_abs r0)
 have m3:=mul_enc m2 ck n2 n0 ⟨b1.1,b1.2.2⟩ (C_abs k0)
 have hdM:(0:Rat)≤8*dB∧oR*(8*dB)<1:=by decide +kernel
 have s0:Enc (gdS P r K) (tz P r0 k0) (8*dB):=(add_enc m1 m3).mono (by decide +kernel)
 have ord:(gdS P r K).1≤(gdS P r K).2:=by unfold gdS addE;dsimp only;omega
 exact(meet_enc ord s0 (unit3 (txy P r0 k0)).2.2 hdM.1 hdM.2).1
theorem gdS_turn (P k:Int) (r K:Int×Int):gdS P r (K.1+21600000*k,K.2+21600000*k)=gdS P r K:=by
 unfold gdS
 dsimp only
 rw[cosE_turn]
theorem atY_turn (k:Int) (r K:Int×Int):atY r (K.1+21600000*k,K.2+21600000*k)=atY r K:=by
 unfold atY
 dsimp only
 rw[encl_turn]
theorem atX_turn (P k:Int) (r K:Int×Int):atX P r (K.1+21600000*k,K.2+21600000*k)=atX P r K:=by
 unfold atX
 dsimp only
 rw[cosE_turn]
end Go.Proofs.YtjmdeplmenbmmaaGreatDoor.TT
set_option linter.unusedVariables false
namespace Go.Proofs.YtjmdeplmenbmmaaGreatDoor.RR
def covS (M:CellT→Bool) (m:Nat):Nat→CellT→List CellT→Bool×List CellT
 |d,c,o =>
  if M c=false then (true,o)
  else if c.lv=m then (decide ((push o c).length≤4064),push o c)
  else match d with
   |0=>(true,o)
   |d+1=>lookL (covS M m d) (kids c) o
theorem lookL_inv {σ:Type} {f:CellT→σ→Bool×σ} {I:σ→Prop} : ∀(l:List CellT) (s:σ),(∀x∈l,∀s,I s→(f x s).1=true→I (f x s).2)→I s→(lookL f l s).1=true→I (lookL f l s).2
 |[],s,_,h,_=>h
 |c::r,s,hf,h,ht=>by
  unfold lookL at ht ⊢
  split at ht
  ·rename_i h1
   rw[if_pos h1]
   exact lookL_inv r _ (fun x hx=>hf x (List.mem_cons_of_mem _ hx)) (hf c List.mem_cons_self s h h1) ht
  ·cases ht
def CvI (o:List CellT):Prop:=(∀x∈o,okC x)∧o.length≤4064
theorem covS_inv {M:CellT→Bool} {m:Nat} (hm:m≤16):∀(d:Nat) {c:CellT} {o:List CellT},okC c→c.lv+d=m→CvI o→(covS M m d c o).1=true→CvI (covS M m d c o).2
 |d,c,o,hc,hd,h=>by
  unfold covS
  split
  ·exact fun _=>h
  split
  ·exact fun ht=>⟨push_ok h.1 hc,of_decide_eq_true ht⟩
  ·cases d with
   |zero=>exact fun _=>h
   |succ d =>
    refine lookL_inv (I:=CvI) (kids c) o (fun x hx s hs=>?_) h
    refine covS_inv hm d (okC_kid hc (by omega) hx) ?_ hs
    simp only[kids,List.mem_cons,List.not_mem_nil,or_false] at hx
    rcases hx with rfl|rfl|rfl|rfl<;>(dsimp only;omega)
theorem covS_eq {M:CellT→Bool} {m:Nat} : ∀(d:Nat) (c:CellT) (o:List CellT),o.length+4^d≤4064→covS M m d c o=(true,covF M m d c o)
 |d,c,o,h=>by
  have hp:1≤4^d:=Nat.pow_pos (by decide)
  unfold covS covF
  split
  ·rfl
  split
  ·have:=push_len o c
   rw[decide_eq_true (by omega)]
  ·cases d with
   |zero=>rfl
   |succ d =>
    have go:∀(cs:List CellT) (o:List CellT),o.length+cs.length*4^d≤4064→lookL (covS M m d) cs o=(true,cs.foldl (fun o x=>covF M m d x o) o):=fun cs=>by
     induction cs with
     |nil=>exact fun o _=>rfl
     |cons y r ih =>
      intro o ho
      have e:(y::r).length*4^d=r.length*4^d+4^d:=by rw[List.length_cons,Nat.succ_mul]
      have h1:=covS_eq (M:=M) (m:=m) d y o (by omega)
      have h2:=covF_len (M:=M) (m:=m) d y o
      unfold lookL
      rw[h1,if_pos rfl]
      exact ih _ (by dsimp only;omega)
    refine go (kids c) o ?_
    have e:4^(d+1)=4*4^d:=by rw[Nat.pow_succ,Nat.mul_comm]
    show o.length+4*4^d≤4064
    omega
end Go.Proofs.YtjmdeplmenbmmaaGreatDoor.RR
set_option linter.unusedVariables false
namespace Go.Proofs.YtjmdeplmenbmmaaGreatDoor.TT
def hasI (lo hi n:Int):Bool:=decide (lo+turnI (n-lo)≤hi)
theorem has_meets (lo hi n:Int):TT.hasI lo hi n=meetsI lo hi n:=by
 unfold TT.hasI meetsI
 exact decide_eq_decide.2 (by omega)
theorem has_south (lo hi:Int):TT.hasI lo hi (-5400000)=meetsI lo hi 16200000:=by
 rw[has_meets]
 unfold meetsI
 have:=turn_add (-5400000-lo) 1
 rw[show -5400000-lo+21600000*1=16200000-lo by omega] at this
 rw[this]
def rsinE (lo hi:Int):Int×Int:=(if TT.hasI lo hi (-5400000)=true then -1073741824 else min (endsI lo).1 (endsI hi).1,if TT.hasI lo hi 5400000=true then 1073741824 else max (endsI lo).2 (endsI hi).2)
theorem rsin_eq (lo hi:Int):rsinE lo hi=encl lo hi:=by
 unfold rsinE encl
 rw[has_south,has_meets,ends_bnd,ends_bnd]
theorem dd_two (o i:Nat):2≤dd o i:=by
 unfold dd
 have:=Nat.mul_le_mul (show 1≤2*i+1+o by omega) (show 2≤2*i+2+o by omega)
 omega
def bq (o S:Nat):Nat→Nat
 |0=>W62
 |i+1=>bq o S i*S/W62/dd o i
theorem hi62_le {a b A B:Nat} (ha:a≤A) (hb:b≤B):hi62 a b≤A*B/W62:=by
 have h:=(hi62_bd a b).1
 have h2:=Nat.mul_le_mul ha hb
 exact(Nat.le_div_iff_mul_le (by decide)).2 (by omega)
theorem tq_le {o x s S:Nat} (hx:x≤W62) (hs:s≤S):∀i,tq o x s i≤bq o S i
 |0=>by
  unfold tq bq
  split
  ·exact hx
  ·exact Nat.le_refl _
 |i+1=>by
  show hi62 (tq o x s i) s/dd o i≤bq o S i*S/W62/dd o i
  exact Nat.div_le_div_right (hi62_le (tq_le hx hs i) hs)
theorem radQ_le {r:Nat} (hr:r≤2700000):radQ r≤3622009730000000000:=by
 unfold radQ
 omega
theorem sqQ_le {r:Nat} (hr:r≤2700000):hi62 (radQ r) (radQ r)≤2844800000000000000 :=
 Nat.le_trans (hi62_le (radQ_le hr) (radQ_le hr)) (by decide)
theorem tq_end {o r:Nat} (ho:o≤1) (hr:r≤2700000):tq o (radQ r) (hi62 (radQ r) (radQ r)) 12=0:=by
 have h:=tq_le (o:=o) (x:=radQ r) (Nat.le_trans (radQ_le hr) (by decide)) (sqQ_le hr) 12
 have e:bq o 2844800000000000000 12=0:=by
  rcases(show o=0∨o=1 by omega) with rfl|rfl
  ·decide +kernel
  ·decide +kernel
 omega
theorem tq_dec {o x s:Nat} (hs:s≤W62) (i:Nat):2*tq o x s (i+1)≤tq o x s i:=by
 show 2*(hi62 (tq o x s i) s/dd o i)≤tq o x s i
 have h1:=hi62_le (a:=tq o x s i) (b:=s) (Nat.le_refl _) hs
 rw[Nat.mul_div_cancel _ (by decide)] at h1
 have h2:hi62 (tq o x s i) s/dd o i≤tq o x s i/2:=Nat.le_trans (Nat.div_le_div_right h1) (Nat.div_le_div_left (dd_two o i) (by decide))
 omega
theorem sq_bd {t:Nat→Nat} (h:∀i,t (i+1)≤t i):∀m k,0≤sq t k m∧sq t k m≤t k
 |0,k=>⟨Int.le_refl _,by unfold sq;omega⟩
 |m+1,k=>by
  have a:=sq_bd h m (k+1)
  have b:=h k
  show 0≤(t k:Int)-sq t (k+1) m∧(t k:Int)-sq t (k+1) m≤t k
  omega
theorem sq_snoc {t:Nat→Nat} : ∀m k,sq t k (m+1)=sq t k m+(if m%2=0 then (t (k+m):Int) else -(t (k+m):Int))
 |0,k=>by show (t k:Int)-0=0+_;simp
 |m+1,k=>by
  have a:=sq_snoc (t:=t) m (k+1)
  show (t k:Int)-sq t (k+1) (m+1)=(t k:Int)-sq t (k+1) m+_
  rw[a,show k+1+m=k+(m+1) by omega]
  by_cases h:m%2=0
  ·rw[if_pos h,if_neg (by omega)];omega
  ·rw[if_neg h,if_pos (by omega)];omega
theorem sq_stop {t:Nat→Nat} {k:Nat} (h:∀j,k≤j→t j=0):∀m,sq t 0 (k+m)=sq t 0 k
 |0=>rfl
 |m+1=>by
  show sq t 0 (k+m+1)=_
  rw[sq_snoc,sq_stop h m,h (0+(k+m)) (by omega)]
  split<;>simp
theorem tq_zero {o x s k:Nat} (hs:s≤W62) (h:tq o x s k=0):∀j,k≤j→tq o x s j=0
 |0,hj=>by
  obtain rfl:k=0:=by omega
  exact h
 |j+1,hj=>by
  by_cases e:k=j+1
  ·rw[←e];exact h
  ·have:=tq_dec (o:=o) (x:=x) hs j
   have:=tq_zero (o:=o) (x:=x) hs h j (by omega)
   omega
theorem quick_at {o r k:Nat} (hr:r≤2700000) (hk:k≤12) (h:tq o (radQ r) (hi62 (radQ r) (radQ r)) k=0):quickF o r=sq (tq o (radQ r) (hi62 (radQ r) (radQ r))) 0 k:=by
 have:=sq_stop (t:=tq o (radQ r) (hi62 (radQ r) (radQ r))) (tq_zero (Nat.le_trans (sqQ_le hr) (by decide)) h) (12-k)
 rw[show k+(12-k)=12 by omega] at this
 exact this
end Go.Proofs.YtjmdeplmenbmmaaGreatDoor.TT
