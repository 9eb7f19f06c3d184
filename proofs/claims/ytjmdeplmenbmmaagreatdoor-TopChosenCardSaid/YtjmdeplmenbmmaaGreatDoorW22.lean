/- Joined texts: Exp, Kst, Ksu. -/
import Derived.Test.YtjmdeplmenbmmaaGreatDoorW21
set_option linter.unusedVariables false
set_option maxHeartbeats 8000000
namespace Go.Proofs.YtjmdeplmenbmmaaGreatDoor
open Go.RowKit
theorem any_sval {l:List SeenT} (h:∀x∈l,svalB x=true):(l.any fun x=>!svalB x)=false:=by
 rw[List.any_eq_false]
 intro x hx
 rw[h x hx]
 decide
theorem chchk_c {v:Value} {l:List SeenT} {P L w:Int} {n:Nat} (hv:∀x∈l,svalB x=true) (hl:l.length≤40) (hp:pointB P L=true) (hw:0≤w∧w≤60000) (hn:n≤16):ContR Tryz.prog [Hl.rd v cSn 5 l] 62 [v,ptV P L,.int .i64 w,.int .i64 n] (.int .i64 0):=fun w' hw0=>by
 have q1:=right_c (v:=v) (l:=l) (la:=P) (lo:=L) (by omega)
 rw[any_sval hv,hp] at q1
 refine enter Tryz.func62 rfl rfl rfl hw0 ?_
 repeat' (first|(show YK _ _ _ _ _ _ _;refine YK.mk (zcR (q1) ⟨rfl,rfl,rfl⟩) ?_)|(refine nxV ?_)|(refine nSS ?_)|(refine nS1 fun _=>?_)|(refine nxG ?_)|(refine nxX ?_)|(refine G.cN rfl (fun hc=>?_) (fun hc=>?_)<;>(try first|exact hc.elim|(exfalso;omega))))
 all_goals first
  |(exfalso;simp at hc;done)
  |(exfalso;omega)
  |(exfalso;simp at hc;omega)
  |exact X.ret1
def CirF (P L w:Int) (F:SeenT→CirT):Prop:=∀x,svalB x=true→IsCir x P L w (F x)
theorem cirF_ex {P L w:Int} (hP : -5400000≤P∧P≤5400000):∃F,CirF P L w F:=by
 have h:∀x:SeenT,∃k,svalB x=true→IsCir x P L w k:=fun x=>by
  by_cases hv:svalB x=true
  ·obtain⟨k,hk⟩:=cir_ex (L:=L) (w:=w) hv hP
   exact⟨k,fun _=>hk⟩
  ·exact⟨⟨0,0,0,0,0,0⟩,fun h=>absurd h hv⟩
 exact⟨fun x=>Classical.choose (h x),fun x hx=>Classical.choose_spec (h x) hx⟩
section
variable {P L w:Int} {F:SeenT→CirT} {l:List SeenT}
theorem CirF.ex (h:CirF P L w F) (hv:∀x∈l,svalB x=true):∀k∈l.map F,∃x,svalB x=true∧IsCir x P L w k:=fun k hk=>by
 obtain⟨x,hx,rfl⟩:=List.mem_map.1 hk
 exact⟨x,hv x hx,h x (hv x hx)⟩
theorem CirF.ok (h:CirF P L w F) (hv:∀x∈l,svalB x=true) (hP : -5400000≤P∧P≤5400000) (hw:0≤w∧w≤60000):∀k∈l.map F,CirOk k:=fun k hk=>by
 obtain⟨x,hx,hc'⟩:=h.ex hv k hk
 exact cir_ok hx hP hw hc'
end
abbrev rgF (P L:Int) (n:Nat) (ks:List CirT):Int×List RR.CellT:=RR.ofF (agrA ks) (surA ks) n (RR.arF (meM P L) (min 4 n))
theorem rg_ok0 {P L w:Int} {u v n m:Nat} {ks:List CirT} (hu:(P+5400000).toNat=u) (hv:(L+10800000).toNat=v) (hu2:u≤10800000) (hv2:v≤21600000) (hk:∀k∈ks,∃x,svalB x=true∧IsCir x P L w k) (hP : -5400000≤P∧P≤5400000) (hL : -10800000≤L∧L<10800000) (hw:0≤w∧w≤60000) (hn:n≤16) (hmn:m≤n) (hm:m≤16) (h0:(RR.ofF (agrA ks) (surA ks) n (RR.arF (meM P L) m)).1=0):RR.RgOk u v n (RR.ofF (agrA ks) (surA ks) n (RR.arF (meM P L) m)).2:=by
 subst hu hv
 exact RR.ofF_ok hn hmn (RR.arF_tidy hm) RR.arF_lv (RR.arF_ex hm (fun c ok hq=>me_has hP hL ok hq) hu2 hv2) (fun c ok hq=>agrA_has (l:=[]) hk hP hL hw ok hq) h0
theorem rg_ok {P L w:Int} {n:Nat} {F:SeenT→CirT} {l:List SeenT} (h:CirF P L w F) (hv:∀x∈l,svalB x=true) (hp:pointB P L=true) (hw:0≤w∧w≤60000) (hn:n≤16) (h0:(rgF P L n (l.map F)).1=0):RR.RgOk (P+5400000).toNat (L+10800000).toNat n (rgF P L n (l.map F)).2:=by
 obtain⟨hP,hL⟩:=point_of hp
 exact rg_ok0 (L:=L) (w:=w) rfl rfl (by omega) (by omega) (h.ex hv) hP hL hw hn (Nat.min_le_right _ _) (Nat.le_trans (Nat.min_le_left _ _) (by decide)) h0
theorem size_bd {n:Nat} {l:List RR.CellT} (hn:n≤16):RR.sizeF n l≤l.length*4294967296:=by
 unfold RR.sizeF
 induction l with
 |nil=>simp
 |cons x r ih =>
  rw[List.map_cons,List.sum_cons,List.length_cons,Nat.add_mul,Nat.one_mul]
  have:4^(n-x.lv)≤4294967296:=Nat.le_trans (Nat.pow_le_pow_right (by decide) (show n-x.lv≤16 by omega)) (by decide)
  omega
theorem size_take {n:Nat} {l:List RR.CellT} {i:Nat} (hi:i<l.length):RR.sizeF n (l.take (i+1))=RR.sizeF n (l.take i)+4^(n-(nth l (i:Int)).lv):=by
 unfold RR.sizeF
 rw[List.take_succ_eq_append_getElem hi,nth_mem hi,List.map_append,List.sum_append]
 simp
theorem RS.lit1Kr {P:Program} {ops:Array Oper} {Q:Exit→Act→World→Prop} {n:Nat} {L:FL} {w0:World} {H:List Hl} {dd:Tmp} {ty:TypeId} {pos:String} {af:Array Edge} {t e:TypeId} {bytes:Nat} {x:Operand} {a:CirT} {rest:List Oper} (h:∀v':Sl,RS P ops Q n ((dd,v'.v)::L) w0 (Hl.rw v'.v e cKr 6 [a]::H) rest) (hx:evO L x=some (krV a)) [ht:RowTy P t e 6 bytes] (hd:Nat.blt dd n=true:=by rfl) :
  RS P ops Q n L w0 H (⟨some dd,.buildSlice t 1 #[(0,x)],ty,pos,af,none⟩::rest):=RS.actX rfl (x_litS (parts:=[(0,x)]) (vs:=[krV a]) (cs:=cKr a) (f:=cKr) (l:=[a]) ⟨hx,rfl⟩ rfl rfl rfl rfl (fun zs hz=>by
   match zs,hz with
   |[_,_,_,_,_,_],_=>rfl) rfl rfl rfl (rowTy_B ht.is) hd) fun v' _=>h v'
def exN (P L:Int) (n:Nat) (ks:List CirT):Nat:=if (rgF P L n ks).1=0 then RR.sizeF n (rgF P L n ks).2 else 0
section
variable {v:Value} {P L w:Int} {n:Nat} {F:SeenT→CirT} {l:List SeenT}
theorem exp_c (hF:CirF P L w F) (hv:∀x∈l,svalB x=true) (hl:l.length≤40) (hp:pointB P L=true) (hw:0≤w∧w≤60000) (hn:n≤16):ContR Tryz.prog [Hl.rd v cSn 5 l] 25 [v,ptV P L,.int .i64 w,.int .i64 n] (.tuple [.int .i64 (exN P L n (l.map F)),.int .i64 (rgF P L n (l.map F)).1].toArray):=fun w' hw0=>by
 obtain⟨hP,hL⟩:=point_of hp
 have q1:=chchk_c (v:=v) (n:=n) hv hl hp hw hn
 refine enter Tryz.func25 rfl rfl rfl hw0 ?_
 repeat' (first|(show YK _ _ _ _ _ _ _;refine YK.mk (zcR (q1) ⟨rfl,rfl,rfl,rfl,rfl⟩) ?_)|(refine nxV ?_)|(refine nSS ?_)|(refine nS1 fun _=>?_)|(refine nxX ?_)|(refine G.cN rfl (fun hc=>?_) (fun hc=>?_)<;>(try first|exact hc.elim|(exfalso;omega))))
 rename_i b5
 refine G.loop (ι:=Sl×Nat) (fun y=>[(0,v),(2,.int .i64 w),(3,.int .i64 n),(5,.pointer (some ⟨b5,0,none⟩)),(11,y.1.v),(31,v),(32,.int .i64 l.length),(33,.int .i64 (y.2:Int))]) (fun y=>[Hl.rw y.1.v 58 cKr 6 ((l.take y.2).map F),Hl.blk b5 23 [.int .i64 P,.int .i64 L],Hl.rd v cSn 5 l]) (fun y=>y.2≤l.length) (fun y=>l.length-y.2) (⟨none,0,0⟩,0) (Nat.zero_le _) ⟨rfl,rfl,rfl,rfl,rfl,rfl,rfl,rfl,trivial⟩ (fun w' h=>St.nilRow 58 cKr 6 h) ?_
 clear q1
 rintro⟨z,i⟩ mx g1 hmx
 (try dsimp only at g1 hmx ⊢)
 rcases Nat.lt_or_ge i l.length with hi|hi
 ·have hm:nth l (i:Int)∈l:=by rw[nth_mem hi];exact List.getElem_mem hi
  have q2:=chcir_c (hv _ hm) hp hw (hF _ (hv _ hm))
  have hO:(l.take (i+1)).map F=(l.take i).map F++[F (nth l (i:Int))]:=by
   rw[List.take_succ_eq_append_getElem hi,nth_mem hi,List.map_append];rfl
  have hlen:((l.take i).map F).length=i:=by rw[List.length_map,List.length_take];omega
  generalize (l.take i).map F=O at *
  generalize F (nth l (i:Int))=k at *
  repeat' (first|(show YK _ _ _ _ _ ⟨_,.load 58 _,_,_,_,_⟩ _;refine YK.ofV (zlP (k:=6) (by rfl) (by exact memA) (by decide +kernel) (by rfl)) ?_)|(show RS _ _ _ _ _ _ _ (⟨some 49,.buildSlice 56 1 _,_,_,_,_⟩::_);refine RS.lit1Kr (a:=k) (fun v'=>?_) rfl)|(show RS _ _ _ _ _ _ _ (⟨some 50,_,_,_,_,_⟩::_);refine RS.appendA (f:=cKr) (l:=O) (l':=[k]) ?_;intro z1)|(show YK _ _ _ _ _ _ _;refine YK.mk (zcA (q2) ⟨rfl,rfl,rfl,rfl⟩) ?_)|(refine nxV ?_)|(refine nSS ?_)|(refine nS1 fun _=>?_)|(refine nxX ?_)|(refine G.cN rfl (fun hc=>?_) (fun hc=>?_)<;>(try first|exact hc.elim|(exfalso;omega))))
  all_goals first
   |(exfalso;simp at hc;done)
   |(exfalso;omega)
   |skip
  exact X.again (z1,i+1) (by dsimp only;omega) (by dsimp only;omega) ⟨rfl,rfl,rfl,rfl,rfl,rfl,rfl,rfl,trivial⟩ (by dsimp only;rw[hO];exact fun w h=>h.sub subS)
 ·obtain rfl:i=l.length:=by omega
  rw[List.take_length]
  have kO:=hF.ok hv hP hw
  have hkl:(l.map F).length=l.length:=List.length_map ..
  have hrg:=rg_ok hF hv hp hw hn
  have q3:=pof_c (a:=P) (lo:=L) ⟨by omega,by omega⟩
  have q4:=around22_c (m:=min 4 n) hP hL (Nat.min_le_left _ _)
  have tA:=RR.arF_tidy (M:=meM P L) (m:=min 4 n) (Nat.le_trans (Nat.min_le_left _ _) (by decide))
  have p4:4^(min 4 n)≤256:=Nat.le_trans (Nat.pow_le_pow_right (by decide) (Nat.min_le_left 4 n)) (by decide)
  have lA:=RR.arF_len (M:=meM P L) (m:=min 4 n)
  have q5:=fun vs=>rOf_c (vc:=z) (vs:=vs) (start:=RR.arF (meM P L) (min 4 n)) kO (by omega) hn tA.ok ((RR.idx_iff tA.ok).2 ⟨tA.ch,tA.nb⟩) (by omega)
  rw[show ((min 4 n:Nat):Int)=min 4 (n:Int) by omega] at q4
  clear tA p4 lA kO
  unfold exN
  unfold rgF at hrg ⊢
  generalize RR.arF (meM P L) (min 4 n)=S at *
  generalize RR.ofF (agrA (l.map F)) (surA (l.map F)) n S=r at *
  obtain⟨r1,r2⟩:=r
  dsimp only at q5 hrg ⊢
  generalize l.map F=O at *
  by_cases hr:r1=0
  ·subst hr
   have q6:∀vs,ContX Tryz.prog [Hl.rd z.v cKr 6 O,Hl.rd vs cT 3 S] 23 [z.v,vs,.int .i64 n] (fun _:Sl=>True) (fun z=>.tuple [z.v,.int .i64 0].toArray) (fun z=>[Hl.nw z.v cT 3 r2]):=fun vs w h=>by
    refine(q5 vs w h).mono ?_
    rintro e w' ⟨x,hx,rfl,hb,hh⟩
    exact⟨x,hx,rfl,hb,by simpa only[if_pos] using hh⟩
   obtain⟨_,_,hlv,hln,_⟩:=hrg rfl
   rw[if_pos rfl]
   clear q5
   repeat' (first|(show YK _ _ _ _ _ ⟨_,.load 36 _,_,_,_,_⟩ _;refine YK.ofV (zlP (k:=4) (by rfl) (by exact memA) (by decide +kernel) (by rfl)) ?_)|(show RS _ _ _ _ _ _ _ (⟨some 64,.call _,_,_,_,_⟩::_);refine RS.callX (q4) ⟨rfl,rfl,rfl⟩ ?_;rintro z2 -;dsimp only[List.cons_append,List.nil_append])|(show RS _ _ _ _ _ _ _ (⟨some 74,.call _,_,_,_,_⟩::_);refine RS.callX (q6 _) ⟨rfl,rfl,rfl,rfl⟩ ?_;rintro z3 -;dsimp only[List.cons_append,List.nil_append])|(show YK _ _ _ _ _ _ _;refine YK.mk (zcA (q3) ⟨rfl,rfl⟩) ?_)|(refine nxV ?_)|(refine nSS ?_)|(refine nS1 fun _=>?_)|(refine nxX ?_)|(refine G.cN rfl (fun hc=>?_) (fun hc=>?_)<;>(try first|exact hc.elim|(exfalso;omega))))
   all_goals first
    |(exfalso;simp at hc;done)
    |(exfalso;omega)
    |skip
   clear q3 q4 q6
   refine G.loop (ι:=Nat) (fun j=>[(3,.int .i64 n),(20,.int .i64 (RR.sizeF n (r2.take j):Nat)),(80,z3.v),(81,.int .i64 r2.length),(82,.int .i64 (j:Int))]) (fun _=>[Hl.nw z3.v cT 3 r2]) (fun j=>j≤r2.length) (fun j=>r2.length-j) 0 (Nat.zero_le _) ⟨rfl,rfl,rfl,rfl,rfl,trivial⟩ (by exact fun w h=>h.sub subS) ?_
   rintro j mx2 g2 hmx2
   (try dsimp only at g2 hmx2 ⊢)
   rcases Nat.lt_or_ge j r2.length with hj|hj
   ·have hm2:nth r2 (j:Int)∈r2:=by rw[nth_mem hj];exact List.getElem_mem hj
    have hl2:=hlv _ hm2
    have e1:=size_take (n:=n) hj
    have b1:=size_bd (n:=n) (l:=r2.take j) hn
    have b2:(r2.take j).length≤4000:=by rw[List.length_take];omega
    have hs:1*2^(2*(n-(nth r2 (j:Int)).lv))=4^(n-(nth r2 (j:Int)).lv):=by rw[Nat.one_mul,Nat.pow_mul]
    have hs2:4^(n-(nth r2 (j:Int)).lv)≤4294967296:=Nat.le_trans (Nat.pow_le_pow_right (by decide) (show n-(nth r2 (j:Int)).lv≤16 by omega)) (by decide)
    have b3:RR.sizeF n (r2.take j)≤17179869184000:=by omega
    clear b1 b2
    generalize 4^(n-(nth r2 (j:Int)).lv)=s at *
    generalize RR.sizeF n (r2.take j)=t at *
    repeat' (first|(show YK _ _ _ _ _ ⟨_,.binOp .shl _ _ _ _,_,_,_,_⟩ _;refine YK.ofV (y_shlA (m:=1) (j:=2*(n-(nth r2 (j:Int)).lv)) (by rfl) (by rfl) (by omega) (by omega) hs (by omega)) ?_)|(refine nxV ?_)|(refine nSS ?_)|(refine nS1 fun _=>?_)|(refine nxX ?_)|(refine G.cN rfl (fun hc=>?_) (fun hc=>?_)<;>(try first|exact hc.elim|(exfalso;omega))))
    all_goals first
     |(exfalso;simp at hc;done)
     |(exfalso;omega)
     |skip
    exact X.again (j+1) (by omega) (by omega) ⟨rfl,by rw[e1];rfl,rfl,rfl,rfl,trivial⟩ (by exact fun w h=>h.sub subS)
   ·obtain rfl:j=r2.length:=by omega
    rw[List.take_length]
    repeat' (first|(refine nxV ?_)|(refine nSS ?_)|(refine nxX ?_)|(refine G.cN rfl (fun hc=>?_) (fun hc=>?_)<;>(try first|exact hc.elim|(exfalso;omega))))
    all_goals first
     |(exfalso;simp at hc;done)
     |(exfalso;simp at hc;omega)
     |(exfalso;omega)
     |exact X.ret (vs:=[_,_]) rfl ⟨rfl,rfl,rfl⟩ rfl rE
  ·have q6:∀vs,ContX Tryz.prog [Hl.rd z.v cKr 6 O,Hl.rd vs cT 3 S] 23 [z.v,vs,.int .i64 n] (fun _:Sl=>True) (fun z=>.tuple [.slice none 0 0,.int .i64 r1].toArray) (fun z=>[]):=fun vs w h=>by
    refine(q5 vs w h).mono ?_
    rintro e w' ⟨x,hx,rfl,hb,hh⟩
    exact⟨x,hx,by simp only[if_neg hr],hb,by simpa only[if_neg hr] using hh⟩
   rw[if_neg hr]
   clear q5
   repeat' (first|(show YK _ _ _ _ _ ⟨_,.load 36 _,_,_,_,_⟩ _;refine YK.ofV (zlP (k:=4) (by rfl) (by exact memA) (by decide +kernel) (by rfl)) ?_)|(show RS _ _ _ _ _ _ _ (⟨some 64,.call _,_,_,_,_⟩::_);refine RS.callX (q4) ⟨rfl,rfl,rfl⟩ ?_;rintro z2 -;dsimp only[List.cons_append,List.nil_append])|(show RS _ _ _ _ _ _ _ (⟨some 74,.call _,_,_,_,_⟩::_);refine RS.callX (q6 _) ⟨rfl,rfl,rfl,rfl⟩ ?_;rintro z3 -;dsimp only[List.cons_append,List.nil_append])|(show YK _ _ _ _ _ _ _;refine YK.mk (zcA (q3) ⟨rfl,rfl⟩) ?_)|(refine nxV ?_)|(refine nSS ?_)|(refine nS1 fun _=>?_)|(refine nxX ?_)|(refine G.cN rfl (fun hc=>?_) (fun hc=>?_)<;>(try first|exact hc.elim|(exfalso;omega))))
   all_goals first
    |(exfalso;simp at hc;done)
    |(exfalso;simp at hc;omega)
    |(exfalso;omega)
    |exact X.ret (vs:=[_,_]) rfl ⟨rfl,rfl,rfl⟩ rfl rE
end
def lastS (n k:Nat) (s:List Nat):Nat→Option Nat
 |0=>none
 |i+1=>if s.getD i 0=n-k+i then lastS n k s i else some i
def nextS (n k:Nat) (s:List Nat):Option (List Nat):=(lastS n k s k).map fun i=>s.take i++(List.range (k-i)).map fun t=>s.getD i 0+1+t
def allS (n k:Nat):Nat→List Nat→List (List Nat)
 |0,_=>[]
 |f+1,s=>s::match nextS n k s with
  |none=>[]
  |some s'=>allS n k f s'
def setsS (n k:Nat):List (List Nat):=allS n k 10 (List.range k)
def upS:List Nat→Bool
 |[]=>true
 |[_]=>true
 |a::b::r=>decide (a<b)&&upS (b::r)
theorem setsS_ok:∀n,n<5→∀k,k<n+1→0<k→(setsS n k).all (fun s=>decide (s.length=k)&&upS s&&s.all fun x=>decide (x<n))=true∧(setsS n k).length≤6∧1≤(setsS n k).length:=by decide +kernel
theorem setsS_has:∀n,n<5→∀k,k<n+1→0<k→∀o,o<n→((setsS n k).any fun s=>s.all (fun x=>((List.range k).map fun i=>(o+i)%n).contains x)&&((List.range k).map fun i=>(o+i)%n).all fun x=>s.contains x)=true:=by decide +kernel
theorem any_same {α:Type} {p:α→Bool} {a b:List α} (h:∀x,x∈a↔x∈b):a.any p=b.any p:=by
 rw[Bool.eq_iff_iff,List.any_eq_true,List.any_eq_true]
 exact⟨fun⟨x,h1,h2⟩=>⟨x,(h x).1 h1,h2⟩,fun⟨x,h1,h2⟩=>⟨x,(h x).2 h1,h2⟩⟩
theorem rgF_same {P L:Int} {n:Nat} {a b:List CirT} (h:∀x,x∈a↔x∈b):rgF P L n a=rgF P L n b:=by
 have h1:agrA a=agrA b:=funext fun x=>by unfold agrA;rw[any_same h]
 have h2:surA a=surA b:=funext fun x=>by unfold surA;rw[any_same h]
 unfold rgF
 rw[h1,h2]
theorem exN_same {P L:Int} {n:Nat} {a b:List CirT} (h:∀x,x∈a↔x∈b):exN P L n a=exN P L n b:=by
 unfold exN
 rw[rgF_same h]
theorem ofF_err {A S:RR.CellT→Bool} {n:Nat} {st:List RR.CellT} : (RR.ofF A S n st).1=0∨(RR.ofF A S n st).1=4∨(RR.ofF A S n st).1=6:=by
 unfold RR.ofF
 split
 ·exact .inr (.inr rfl)
 split
 ·exact .inr (.inl rfl)
 ·exact .inl rfl
theorem size_pos {n:Nat} {x:RR.CellT} : ∀{l:List RR.CellT},x∈l→1≤RR.sizeF n l
 |y::r,h=>by
  have hp:1≤4^(n-y.lv):=Nat.pow_pos (by decide)
  show 1≤(4^(n-y.lv)::r.map fun x=>4^(n-x.lv)).sum
  rw[List.sum_cons]
  omega
def stepS (s:List Nat) (i j:Nat):List Nat:=s.take i++(List.range (j-i)).map (fun t=>s.getD i 0+1+t)++s.drop j
theorem stepS_len {s:List Nat} {i j:Nat} (hi:i≤j) (hj:j≤s.length):(stepS s i j).length=s.length:=by
 unfold stepS
 simp only[List.length_append,List.length_take,List.length_map,List.length_range,List.length_drop]
 omega
theorem stepS_one {s:List Nat} {i:Nat} (hi:i<s.length):stepS s i (i+1)=s.set i (s.getD i 0+1):=by
 unfold stepS
 rw[List.set_eq_take_append_cons_drop,if_pos hi,Nat.add_sub_cancel_left]
 simp[List.range_succ]
theorem stepS_at {s:List Nat} {i j:Nat} (hi:i≤j) (hj:j<s.length):(stepS s i (j+1)).getD j 0=s.getD i 0+1+(j-i):=by
 unfold stepS
 rw[List.getD_eq_getElem?_getD,List.append_assoc,List.getElem?_append_right (by rw[List.length_take];omega),List.getElem?_append_left (by simp only[List.length_take,List.length_map,List.length_range];omega),List.length_take,show min i s.length=i by omega,List.getElem?_map,List.getElem?_range (by omega)]
 rfl
theorem stepS_next {s:List Nat} {i j:Nat} (hi:i<j) (hj:j<s.length):(stepS s i j).set j ((stepS s i j).getD (j-1) 0+1)=stepS s i (j+1):=by
 have e1:(stepS s i j).getD (j-1) 0=s.getD i 0+1+(j-1-i):=by
  have:=stepS_at (s:=s) (i:=i) (j:=j-1) (by omega) (by omega)
  rwa [show j-1+1=j by omega] at this
 rw[e1,List.set_eq_take_append_cons_drop,if_pos (by rw[stepS_len (by omega) (by omega)];exact hj)]
 have hlen:(s.take i++(List.range (j-i)).map fun t=>s.getD i 0+1+t).length=j:=by
  simp only[List.length_append,List.length_take,List.length_map,List.length_range];omega
 have e2:(stepS s i j).take j=s.take i++(List.range (j-i)).map fun t=>s.getD i 0+1+t:=by
  unfold stepS
  exact List.take_left' hlen
 have e3:(stepS s i j).drop (j+1)=s.drop (j+1):=by
  unfold stepS
  rw[←List.drop_drop,List.drop_left' hlen,List.drop_drop]
 rw[e2,e3]
 unfold stepS
 rw[show j+1-i=(j-i)+1 by omega,List.range_succ,List.map_append,show s.getD i 0+1+(j-1-i)+1=s.getD i 0+1+(j-i) by omega]
 simp
theorem stepS_bd {s:List Nat} {i j n:Nat} (h:∀x∈s,x<n):∀x∈stepS s i j,x<n+1+j:=by
 intro x hx
 unfold stepS at hx
 rcases List.mem_append.1 hx with hx|hx
 ·rcases List.mem_append.1 hx with hx|hx
  ·have:=h x (List.mem_of_mem_take hx);omega
  ·obtain⟨t,ht,rfl⟩:=List.mem_map.1 hx
   have h1:=List.mem_range.1 ht
   have h2:s.getD i 0<n∨s.getD i 0=0:=by
    rw[List.getD_eq_getElem?_getD]
    cases e:s[i]? with
    |none=>exact .inr rfl
    |some u=>exact .inl (h u (List.mem_of_getElem? e))
   omega
 ·have:=h x (List.mem_of_mem_drop hx);omega
theorem nextS_some {n k i:Nat} {s:List Nat} (hl:s.length=k) (h:lastS n k s k=some i):nextS n k s=some (stepS s i k):=by
 unfold nextS stepS
 rw[h,List.drop_eq_nil_of_le (by omega),List.append_nil]
 rfl
theorem lastS_lt {n k:Nat} {s:List Nat} : ∀{t i:Nat},lastS n k s t=some i→i<t
 |t+1,i,h=>by
  unfold lastS at h
  split at h
  ·have:=lastS_lt h;omega
  ·cases h;omega
theorem set_ok {n k:Nat} {s:List Nat} (hn:n<5) (hk:k<n+1) (h0:0<k) (h:s∈setsS n k):s.length=k∧upS s=true∧∀x∈s,x<n:=by
 have:=List.all_eq_true.1 (setsS_ok n hn k hk h0).1 s h
 simp only[Bool.and_eq_true,decide_eq_true_eq,List.all_eq_true] at this
 exact⟨this.1.1,this.1.2,this.2⟩
end Go.Proofs.YtjmdeplmenbmmaaGreatDoor
