/- Joined texts: Rnb, Tch. -/
import Derived.Test.YtjmdeplmenbmmaaGreatDoorW29
import Derived.Test.YtjmdeplmenbmmaaGreatDoorW28
import Derived.Test.YtjmdeplmenbmmaaGreatDoorW18
import Derived.Test.YtjmdeplmenbmmaaGreatDoorW14
set_option linter.unusedVariables false
set_option maxHeartbeats 8000000
namespace Go.Proofs.YtjmdeplmenbmmaaGreatDoor
open Go.RowKit
section
variable {v:Value} {P L w:Int} {n K:Nat} {F:SeenT→CirT} {l:List SeenT}
theorem ErrK.lt {e e':Int} {a a':List (List Nat)} {s:List Nat} (h1:a=(setsS l.length K).take a.length∧(setsS l.length K)[a.length]?=some s) (h2:a'=(setsS l.length K).take a'.length) (h3:∀y∈a',errS P L n F l y=0) (hs:errS P L n F l s≠0):¬a.length<a'.length:=fun h=>by
 refine hs (h3 s ?_)
 rw[h2]
 have:((setsS l.length K).take a'.length)[a.length]?=some s:=by rw[List.getElem?_take_of_lt h];exact h1.2
 exact List.mem_of_getElem? this
theorem ErrK.uniq {e e':Int} (h:ErrK P L n K F l e) (h':ErrK P L n K F l e'):e=e':=by
 obtain⟨a,s,h1,h2,h3,h4⟩:=h
 obtain⟨a',s',k1,k2,k3,k4⟩:=h'
 have g1:=ErrK.lt (e:=e) (e':=e') h1 k1.1 k4 (by rw[h2];exact h3)
 have g2:=ErrK.lt (e:=e) (e':=e') k1 h1.1 h4 (by rw[k2];exact k3)
 have e1:a.length=a'.length:=by omega
 have:=h1.2
 rw[e1,k1.2] at this
 cases this
 rw[←h2,←k2]
theorem ErrK.ne {e:Int} (h:ErrK P L n K F l e):e≠0:=by obtain⟨a,s,h1,h2,h3,h4⟩:=h;exact h3
theorem ErrK.is {e:Int} (h:ErrK P L n K F l e):e=4∨e=6:=by
 obtain⟨a,s,h1,h2,h3,h4⟩:=h
 have:=ofF_err (A:=agrA ((bodOf l s).map F)) (S:=surA ((bodOf l s).map F)) (n:=n) (st:=RR.arF (meM P L) (min 4 n))
 rcases this with h|h|h
 ·exact absurd (h2.symm.trans h) h3
 ·exact .inl (h2.symm.trans h)
 ·exact .inr (h2.symm.trans h)
theorem ErrK.not {e:Int} (h:ErrK P L n K F l e) (hz:∀s∈setsS l.length K,errS P L n F l s=0):False:=by
 obtain⟨a,s,h1,h2,h3,h4⟩:=h
 exact h3 (h2.symm.trans (hz s (List.mem_of_getElem? h1.2)))
theorem ranked_no {e:Int} (he:ErrK P L n K F l e) (hF:CirF P L w F) (hv:∀x∈l,svalB x=true) (hl:l.length<5) (hK:K<l.length+1) (hK0:0<K) (hp:pointB P L=true) (hw:0≤w∧w≤60000) (hn:n≤16):ContX Tryz.prog [Hl.rd v cSn 5 l] 56 [v,ptV P L,.int .i64 K,.int .i64 w,.int .i64 n] (fun _:Unit=>True) (fun _=>.tuple [.slice none 0 0,.int .i64 e].toArray) (fun _=>[]):=fun w' hw0=>by
 refine Calls.mono (ranked_w hF hv hl hK hK0 hp hw hn w' hw0) ?_
 rintro e' w2 ⟨z,hz,rfl,hb,hN⟩
 cases z with
 |inl z=>exact(he.not hz.1).elim
 |inr e2 =>
  obtain rfl:=ErrK.uniq he hz
  exact⟨(),trivial,rfl,hb,hN⟩
theorem ranked_ok (hno:∀e,¬ErrK P L n K F l e) (hF:CirF P L w F) (hv:∀x∈l,svalB x=true) (hl:l.length<5) (hK:K<l.length+1) (hK0:0<K) (hp:pointB P L=true) (hw:0≤w∧w≤60000) (hn:n≤16):ContX Tryz.prog [Hl.rd v cSn 5 l] 56 [v,ptV P L,.int .i64 K,.int .i64 w,.int .i64 n] (fun z:Sl×List SetE×SetE×List Int=>(∀s∈setsS l.length K,errS P L n F l s=0)∧BstK P L n K F l z.2.2.1 z.2.2.2) (fun z=>.tuple [z.1.v,.int .i64 0].toArray) (fun z=>[Hl.nw z.1.v cSe 2 (z.2.2.1::z.2.1),Hl.nw z.2.2.1.sl.v cI 1 z.2.2.2]):=fun w' hw0=>by
 refine Calls.mono (ranked_w hF hv hl hK hK0 hp hw hn w' hw0) ?_
 rintro e' w2 ⟨z,hz,rfl,hb,hN⟩
 cases z with
 |inl z=>exact⟨z,hz,rfl,hb,hN⟩
 |inr e2=>exact(hno _ hz).elim
theorem bestNo_c {e:Int} (he:ErrK P L n K F l e) (hF:CirF P L w F) (hv:∀x∈l,svalB x=true) (hl:l.length<5) (hK:K<l.length+1) (hK0:0<K) (hp:pointB P L=true) (hw:0≤w∧w≤60000) (hn:n≤16):ContR Tryz.prog [Hl.rd v cSn 5 l] 21 [v,ptV P L,.int .i64 K,.int .i64 w,.int .i64 n] (.tuple [.slice none 0 0,.int .i64 0,.int .i64 e].toArray):=best_no he.ne (ranked_no he hF hv hl hK hK0 hp hw hn)
theorem bestOk_c (hno:∀e,¬ErrK P L n K F l e) (hF:CirF P L w F) (hv:∀x∈l,svalB x=true) (hl:l.length<5) (hK:K<l.length+1) (hK0:0<K) (hp:pointB P L=true) (hw:0≤w∧w≤60000) (hn:n≤16):ContX Tryz.prog [Hl.rd v cSn 5 l] 21 [v,ptV P L,.int .i64 K,.int .i64 w,.int .i64 n] (fun y:SetE×List Int=>(∀s∈setsS l.length K,errS P L n F l s=0)∧BstK P L n K F l y.1 y.2) (fun y=>.tuple [y.1.sl.v,.int .i64 y.1.size,.int .i64 0].toArray) (fun y=>[Hl.nw y.1.sl.v cI 1 y.2]):=best_ok (R:=fun x ix=>(∀s∈setsS l.length K,errS P L n F l s=0)∧BstK P L n K F l x ix) (ranked_ok hno hF hv hl hK hK0 hp hw hn)
end
/-! ### The plain law of a chosen set -/
section
variable {P L w:Int} {n K:Nat} {F:SeenT→CirT} {l:List SeenT}
theorem bod_map {s:List Nat} : (bodOf l s).map F=s.map fun i:Nat=>F (nth l (i:Int)):=by
 unfold bodOf
 rw[List.map_map];rfl
theorem bod_val (hv:∀x∈l,svalB x=true) {s:List Nat} (hs:∀x∈s,x<l.length):∀y∈bodOf l s,svalB y=true:=fun y hy=>by
 obtain⟨j,hj,rfl⟩:=List.mem_map.1 hy
 have e:nth l (j:Int)=l[j]'(hs j hj):=nth_mem (hs j hj)
 rw[e]
 exact hv _ (List.getElem_mem _)
theorem set_rg (hF:CirF P L w F) (hv:∀x∈l,svalB x=true) (hp:pointB P L=true) (hw:0≤w∧w≤60000) (hn:n≤16) {s:List Nat} (hs:∀x∈s,x<l.length) (h0:errS P L n F l s=0):RR.RgOk (P+5400000).toNat (L+10800000).toNat n (rgF P L n ((bodOf l s).map F)).2:=rg_ok hF (bod_val hv hs) hp hw hn h0
theorem best_facts (hF:CirF P L w F) (hv:∀x∈l,svalB x=true) (hl:l.length<5) (hK:K<l.length+1) (hK0:0<K) (hp:pointB P L=true) (hw:0≤w∧w≤60000) (hn:n≤16) (hz:∀s∈setsS l.length K,errS P L n F l s=0) {x:SetE} {ix:List Int} (hb:BstK P L n K F l x ix) :
  ∃s:List Nat,ix=nats s∧s.length=K∧upS s=true∧(∀y∈s,y<l.length)∧x.size=(sizS P L n F l s:Nat)∧1≤sizS P L n F l s∧errS P L n F l s=0∧RR.RgOk (P+5400000).toNat (L+10800000).toNat n (rgF P L n ((bodOf l s).map F)).2:=by
 obtain⟨s,hs,hix,hsz,_⟩:=hb
 obtain⟨h1,h2,h3⟩:=set_ok hl hK hK0 hs
 have he:=hz s hs
 have hrg:=set_rg hF hv hp hw hn h3 he
 refine⟨s,hix,h1,h2,h3,hsz,?_,he,hrg⟩
 show 1≤exN P L n ((bodOf l s).map F)
 unfold exN
 have he':(rgF P L n ((bodOf l s).map F)).1=0:=he
 rw[if_pos he']
 obtain⟨c,hc,_⟩:=hrg.has
 exact size_pos hc
theorem upS_lt:∀{s:List Nat} {i:Nat},upS s=true→i+1<s.length→s.getD i 0<s.getD (i+1) 0
 |a::b::r,0,h,_=>by
  simp only[upS,Bool.and_eq_true,decide_eq_true_eq] at h
  exact h.1
 |a::b::r,i+1,h,hi=>by
  simp only[upS,Bool.and_eq_true,decide_eq_true_eq] at h
  have:=upS_lt (s:=b::r) (i:=i) h.2 (by simpa using hi)
  simpa using this
 |[_],i,_,hi=>by simp at hi
 |[],i,_,hi=>by simp at hi
def otS (o m K:Nat):List Nat:=(List.range K).map fun i=>(o+i)%m
theorem otS_lt {o m K:Nat} (hm:0<m):∀x∈otS o m K,x<m:=fun x hx=>by
 obtain⟨i,_,rfl⟩:=List.mem_map.1 hx
 exact Nat.mod_lt _ hm
theorem otS_mod (o m K:Nat):otS (o%m) m K=otS o m K:=by
 unfold otS
 refine List.map_congr_left fun i _=>?_
 rw[Nat.mod_add_mod]
theorem otS_has {m K:Nat} (o:Nat) (hm:m<5) (hm0:0<m) (hK:K<m+1) (hK0:0<K):∃s∈setsS m K,∀x,x∈s↔x∈otS o m K:=by
 have h:=setsS_has m hm K hK hK0 (o%m) (Nat.mod_lt _ hm0)
 obtain⟨s,hs,h2⟩:=List.any_eq_true.1 h
 rw[Bool.and_eq_true,List.all_eq_true,List.all_eq_true] at h2
 refine⟨s,hs,fun x=>?_⟩
 rw[←otS_mod]
 exact⟨fun hx=>by simpa [otS] using h2.1 x hx,fun hx=>by simpa using h2.2 x hx⟩
theorem bod_same {s t:List Nat} (h:∀x,x∈s↔x∈t):∀k,k∈(bodOf l s).map F↔k∈(bodOf l t).map F:=fun k=>by
 rw[bod_map,bod_map,List.mem_map,List.mem_map]
 exact⟨fun⟨x,h1,h2⟩=>⟨x,(h x).1 h1,h2⟩,fun⟨x,h1,h2⟩=>⟨x,(h x).2 h1,h2⟩⟩
theorem other_law (o:Nat) (hl:l.length<5) (hl0:0<l.length) (hK:K<l.length+1) (hK0:0<K) (hz:∀s∈setsS l.length K,errS P L n F l s=0) {x:SetE} {ix:List Int} (hb:BstK P L n K F l x ix):errS P L n F l (otS o l.length K)=0∧x.size≤(sizS P L n F l (otS o l.length K):Nat):=by
 obtain⟨s,hs,hss⟩:=otS_has o hl hl0 hK hK0
 obtain⟨s0,hs0,_,hsz,hmin⟩:=hb
 have e1:errS P L n F l s=errS P L n F l (otS o l.length K):=by
  show (rgF P L n ((bodOf l s).map F)).1=(rgF P L n ((bodOf l (otS o l.length K)).map F)).1
  rw[rgF_same (bod_same hss)]
 have e2:sizS P L n F l s=sizS P L n F l (otS o l.length K):=exN_same (bod_same hss)
 refine⟨by rw[←e1];exact hz s hs,?_⟩
 rw[hsz,←e2]
 have:=hmin s hs
 omega
end
abbrev ChW (v:Value) (l:List SeenT) (w:World):Prop:=LaidC w∧RO w v 5 l.length (l.flatMap cSn)
section
variable {v:Value} {P L k o wi lv:Int} {l:List SeenT}
theorem ch_short (hs:¬(2≤l.length∧l.length≤4)) (hk:0≤k∧k≤255) (hwi:0≤wi∧wi≤65535) (hlv:0≤lv∧lv≤255) (hl:l.length≤maxLen):ContIn Tryz.prog (ChW v l) 4 [v,ptV P L,.int .u8 k,.int .u8 o,.int .u16 wi,.int .u8 lv] (.bool true):=fun w hw0=>by
 have hI:=hw0.1
 have q1:=rpoint_c P L
 have q0:=obsAwake_c
 refine enter Tryz.func4 rfl rfl rfl (Hp:=[Hl.rd v cSn 5 l]) (fun h hm=>by
  rcases List.mem_singleton.1 hm with rfl
  exact⟨⟨hw0.2,fun h=>by cases h⟩,rfl⟩) ?_
 repeat' (first|(show YG _ _ _ _ _ _ ⟨_,.call { callee:=.value (.func 15),args:=_,argTypes:=_ },_,_,_,_⟩ _;refine YG.mk (v:=.bool false) (fun hb=>by exfalso;simp at hb;omega) ?_)|(show YK _ _ _ _ _ _ _;refine YK.mk (zcI (q0) (fun _ hw=>hI.keep hw.ext) rfl (by decide +kernel)) ?_)|(refine nxV ?_)|(refine nSS ?_)|(refine nS1 fun _=>?_)|(show YG _ _ _ _ _ _ _ _;refine YG.mk (fun hb=>by(try(have hc:=And.left hb;have hb:=And.right hb;rw[hc]));(try rw[hb]);first|exact(zcA (q1) ⟨rfl,rfl⟩)|exact V.y vAuto) ?_)|(refine nxX ?_)|(refine G.cN rfl (fun hc=>?_) (fun hc=>?_)<;>(try first|exact hc.elim|(exfalso;omega))))
 all_goals first
  |(exfalso;simp at hc;done)
  |(exfalso;simp at hc;omega)
  |exact X.ret1
theorem ch_bad (hs:2≤l.length∧l.length≤4) (hb0:(l.any fun x=>decide ((x.body.length:Int)>100))=true∨pointB P L=false) (hk:0≤k∧k≤255) (hwi:0≤wi∧wi≤65535) (hlv:0≤lv∧lv≤255):ContIn Tryz.prog (ChW v l) 4 [v,ptV P L,.int .u8 k,.int .u8 o,.int .u16 wi,.int .u8 lv] (.bool true):=fun w hw0=>by
 have hI:=hw0.1
 have q1:=rpoint_c P L
 have q2:=longs_c (v:=v) (l:=l) (by omega)
 generalize (l.any fun x=>decide ((x.body.length:Int)>100))=bl at *
 generalize pointB P L=bp at *
 have q0:=obsAwake_c
 refine enter Tryz.func4 rfl rfl rfl (Hp:=[Hl.rd v cSn 5 l]) (fun h hm=>by
  rcases List.mem_singleton.1 hm with rfl
  exact⟨⟨hw0.2,fun h=>by cases h⟩,rfl⟩) ?_
 repeat' (first|(show YG _ _ _ _ _ _ ⟨_,.call { callee:=.value (.func 15),args:=_,argTypes:=_ },_,_,_,_⟩ _;refine YG.mk (fun hb=>by(try(have hc:=And.left hb;have hb:=And.right hb;rw[hc]));(try rw[hb]);exact zcI (q2) (fun w hw=>⟨trivial,(hw.all (Hl.rd v cSn 5 l) (by exact memA)).1⟩) ⟨rfl,rfl,rfl⟩ (by decide +kernel)) ?_)|(show YK _ _ _ _ _ _ _;refine YK.mk (zcI (q0) (fun _ hw=>hI.keep hw.ext) rfl (by decide +kernel)) ?_)|(refine nxV ?_)|(refine nSS ?_)|(refine nS1 fun _=>?_)|(show YG _ _ _ _ _ _ _ _;refine YG.mk (fun hb=>by(try(have hc:=And.left hb;have hb:=And.right hb;rw[hc]));(try rw[hb]);first|exact(zcA (q1) ⟨rfl,rfl⟩)|exact V.y vAuto) ?_)|(refine nxX ?_)|(refine G.cN rfl (fun hc=>?_) (fun hc=>?_)<;>(try first|exact hc.elim|(exfalso;omega))))
 all_goals first
  |(exfalso;simp at hc;done)
  |(exfalso;simp at hc;omega)
  |(exfalso;rcases hb0 with rfl|rfl<;>simp at hc;done)
  |exact X.ret1
theorem ch_main (hs:2≤l.length∧l.length≤4) (hlg:(l.any fun x=>decide ((x.body.length:Int)>100))=false) (hp:pointB P L=true) (hk:0≤k∧k≤255) (ho:0≤o∧o≤255) (hwi:0≤wi∧wi≤65535) (hlv:0≤lv∧lv≤255):ContIn Tryz.prog (ChW v l) 4 [v,ptV P L,.int .u8 k,.int .u8 o,.int .u16 wi,.int .u8 lv] (.bool true):=fun w0 hw0=>by
 have hI:=hw0.1
 have q1:=rpoint_c P L
 have q2:=longs_c (v:=v) (l:=l) (by omega)
 rw[hlg] at q2
 rw[hp] at q1
 obtain⟨hP,hL⟩:=point_of hp
 have q0:=obsAwake_c
 have hl0:(0:Int)<(l.length:Int):=by omega
 have hk1:=Int.emod_nonneg k (Int.ne_of_gt hl0)
 have hk2:=Int.emod_lt_of_pos k hl0
 obtain⟨n,hn⟩:∃n:Nat,lv%7=(n:Int):=⟨(lv%7).toNat,by omega⟩
 obtain⟨wd,hwd⟩:∃wd:Int,wi%60001=wd:=⟨_,rfl⟩
 obtain⟨K,hKe⟩:∃K:Nat,1+k%(l.length:Int)=(K:Int):=⟨(1+k%(l.length:Int)).toNat,by omega⟩
 refine enter Tryz.func4 rfl rfl rfl (Hp:=[Hl.rd v cSn 5 l]) (fun h hm=>by
  rcases List.mem_singleton.1 hm with rfl
  exact⟨⟨hw0.2,fun h=>by cases h⟩,rfl⟩) ?_
 repeat' (first|(show YG _ _ _ _ _ _ ⟨_,.call { callee:=.value (.func 15),args:=_,argTypes:=_ },_,_,_,_⟩ _;refine YG.mk (fun hb=>by(try(have hc:=And.left hb;have hb:=And.right hb;rw[hc]));(try rw[hb]);exact zcI (q2) (fun w hw=>⟨trivial,(hw.all (Hl.rd v cSn 5 l) (by exact memA)).1⟩) ⟨rfl,rfl,rfl⟩ (by decide +kernel)) ?_)|(show YK _ _ _ _ _ _ _;refine YK.mk (zcI (q0) (fun _ hw=>hI.keep hw.ext) rfl (by decide +kernel)) ?_)|(refine nxV ?_)|(refine nSS ?_)|(refine nS1 fun _=>?_)|(show YG _ _ _ _ _ _ _ _;refine YG.mk (fun hb=>by(try(have hc:=And.left hb;have hb:=And.right hb;rw[hc]));(try rw[hb]);first|exact(zcA (q1) ⟨rfl,rfl⟩)|exact V.y vAuto) ?_)|(refine nxX ?_)|(refine G.cN rfl (fun hc=>?_) (fun hc=>?_)<;>(try first|exact hc.elim|(exfalso;omega))))
 all_goals first
  |(exfalso;simp at hc;done)
  |(exfalso;simp at hc;omega)
  |skip
 rename_i b7 _
 have hw:0≤wd∧wd≤60000:=by omega
 have hn6:n≤6:=by omega
 have hK:K<l.length+1:=by omega
 have hK0:0<K:=by omega
 refine G.weakL [(0,v),(3,.int .u8 o),(7,.pointer (some ⟨b7,0,none⟩)),(13,.int .i64 (n:Int)),(14,.int .i64 wd),(15,.int .i64 (K:Int)),(16,.slice none 0 0),(76,v),(77,.int .i64 (l.length:Int)),(78,.int .i64 0)] ⟨rfl,rfl,rfl,congrArg (fun z=>some (Value.int .i64 z)) hn,congrArg (fun z=>some (Value.int .i64 z)) hwd,congrArg (fun z=>some (Value.int .i64 z)) hKe,rfl,rfl,rfl,rfl,trivial⟩ ?_
 clear q0 q1 q2 hKe hk1 hk2 hl0 hn hwd hk hwi hlv hlg
 obtain⟨F,hF⟩:=cirF_ex (P:=P) (L:=L) (w:=wd) hP
 refine G.loop (ι:=Sl×Nat) (fun y=>[(0,v),(3,.int .u8 o),(7,.pointer (some ⟨b7,0,none⟩)),(13,.int .i64 (n:Int)),(14,.int .i64 wd),(15,.int .i64 (K:Int)),(16,y.1.v),(76,v),(77,.int .i64 (l.length:Int)),(78,.int .i64 (y.2:Int))]) (fun y=>[Hl.rw y.1.v 58 cKr 6 ((l.take y.2).map F),Hl.blk b7 23 [.int .i64 P,.int .i64 L],Hl.rd v cSn 5 l]) (fun y=>y.2≤l.length∧∀j:Nat,j<y.2→svalB (nth l (j:Int))=true) (fun y=>l.length-y.2) (⟨none,0,0⟩,0) ⟨Nat.zero_le _,fun j hj=>by cases hj⟩ ⟨rfl,rfl,rfl,rfl,rfl,rfl,rfl,rfl,rfl,rfl,trivial⟩ (fun w' h=>St.nilRow 58 cKr 6 h) ?_
 rintro⟨z,i⟩ mx ⟨g1,g2⟩ hmx
 (try dsimp only at g1 g2 hmx ⊢)
 rcases Nat.lt_or_ge i l.length with hi|hi
 ·have hO:(l.take (i+1)).map F=(l.take i).map F++[F (nth l (i:Int))]:=by
   rw[List.take_succ_eq_append_getElem hi,nth_mem hi,List.map_append];rfl
  have hlen:((l.take i).map F).length=i:=by rw[List.length_map,List.length_take];omega
  generalize (l.take i).map F=O at *
  cases hvi:svalB (nth l (i:Int)) with
  |true =>
   have q2:=chcir_c hvi hp hw (hF _ hvi)
   generalize F (nth l (i:Int))=k at *
   repeat' (first|(show YK _ _ _ _ _ ⟨_,.load 58 _,_,_,_,_⟩ _;refine YK.ofV (zlP (k:=6) (by rfl) (by exact memA) (by decide +kernel) (by rfl)) ?_)|(show YK _ _ _ _ _ ⟨_,.load 53 _,_,_,_,_⟩ _;refine YK.ofV (zlP (k:=5) (by rfl) (by exact memA) (by decide +kernel) (by rfl)) ?_)|(show YK _ _ _ _ _ ⟨_,.load 23 _,_,_,_,_⟩ _;refine YK.ofV (zlP (k:=2) (by rfl) (by exact memA) (by decide +kernel) (by rfl)) ?_)|(show RS _ _ _ _ _ _ _ (⟨some 95,.buildSlice 56 1 _,_,_,_,_⟩::_);refine RS.lit1Kr (a:=k) (fun v'=>?_) rfl)|(show RS _ _ _ _ _ _ _ (⟨some 96,_,_,_,_,_⟩::_);refine RS.appendA (f:=cKr) (l:=O) (l':=[k]) ?_;intro z1)|(show YK _ _ _ _ _ _ _;refine YK.mk (zcA (q2) ⟨rfl,rfl,rfl,rfl⟩) ?_)|(refine nxV ?_)|(refine nSS ?_)|(refine nS1 fun _=>?_)|(refine nxX ?_)|(refine G.cN rfl (fun hc=>?_) (fun hc=>?_)<;>(try first|exact hc.elim|(exfalso;omega))))
   all_goals first
    |(exfalso;simp at hc;done)
    |(exfalso;omega)
    |skip
   exact X.again (z1,i+1) ⟨by dsimp only;omega,fun j hj=>by
    dsimp only at hj
    rcases Nat.lt_or_ge j i with h|h
    ·exact g2 j h
    ·rw[show j=i by omega];exact hvi⟩ (by dsimp only;omega) ⟨rfl,rfl,rfl,rfl,rfl,rfl,rfl,rfl,rfl,rfl,trivial⟩ (by dsimp only;rw[hO];exact fun w h=>h.sub subS)
  |false =>
   have q2:=chcir_no (w:=wd) hvi hp
   repeat' (first|(show YK _ _ _ _ _ ⟨_,.load 53 _,_,_,_,_⟩ _;refine YK.ofV (zlP (k:=5) (by rfl) (by exact memA) (by decide +kernel) (by rfl)) ?_)|(show YK _ _ _ _ _ ⟨_,.load 23 _,_,_,_,_⟩ _;refine YK.ofV (zlP (k:=2) (by rfl) (by exact memA) (by decide +kernel) (by rfl)) ?_)|(show YK _ _ _ _ _ _ _;refine YK.mk (zcA (q2) ⟨rfl,rfl,rfl,rfl⟩) ?_)|(refine nxV ?_)|(refine nSS ?_)|(refine nS1 fun _=>?_)|(refine nxX ?_)|(refine G.cN rfl (fun hc=>?_) (fun hc=>?_)<;>(try first|exact hc.elim|(exfalso;omega))))
   all_goals first
    |(exfalso;simp at hc;done)
    |(exfalso;omega)
    |exact X.ret1
 ·obtain rfl:i=l.length:=by omega
  rw[List.take_length]
  have hv:∀x∈l,svalB x=true:=fun x hx=>by
   obtain⟨j,hj,rfl⟩:=List.mem_iff_getElem.1 hx
   have:=g2 j hj
   rwa [nth_mem hj] at this
  clear g2 g1 hmx hi
  have kO:=hF.ok hv hP hw
  have q3:=r35place_c (P:=P) (L:=L)
  have hkl:(l.map F).length=l.length:=List.length_map ..
  generalize hO:l.map F=O at *
  repeat' (first|(show YK _ _ _ _ _ ⟨_,.load 23 _,_,_,_,_⟩ _;refine YK.ofV (zlP (k:=2) (by rfl) (by exact memA) (by decide +kernel) (by rfl)) ?_)|(show YK _ _ _ _ _ _ _;refine YK.mk (zcA (q3) ⟨rfl,rfl⟩) ?_)|(refine nxV ?_)|(refine nSS ?_)|(refine nS1 fun _=>?_)|(refine nxX ?_)|(refine G.cN rfl (fun hc=>?_) (fun hc=>?_)<;>(try first|exact hc.elim|(exfalso;omega))))
  rename_i b21
  refine G.loop (ι:=Nat) (fun i=>[(0,v),(3,.int .u8 o),(7,.pointer (some ⟨b7,0,none⟩)),(13,.int .i64 (n:Int)),(14,.int .i64 wd),(15,.int .i64 (K:Int)),(16,z.v),(21,.pointer (some ⟨b21,0,none⟩)),(100,z.v),(101,.int .i64 (O.length:Int)),(102,.int .i64 (i:Int))]) (fun _=>[Hl.blk b21 36 [.int .i64 P,.int .i64 P,.int .i64 L,.int .i64 L],Hl.rw z.v 58 cKr 6 O,Hl.blk b7 23 [.int .i64 P,.int .i64 L],Hl.rd v cSn 5 l]) (fun i=>i≤O.length) (fun i=>O.length-i) 0 (Nat.zero_le _) ⟨rfl,rfl,rfl,rfl,rfl,rfl,rfl,rfl,rfl,rfl,rfl,trivial⟩ (by exact fun w h=>h.sub subS) ?_
  rintro i mx g1 hmx
  (try dsimp only at g1 hmx ⊢)
  rcases Nat.lt_or_ge i O.length with hi|hi
  ·have hm:nth O (i:Int)∈O:=by rw[nth_mem hi];exact List.getElem_mem hi
   have q4:=fun vc=>r40of_c (vc:=vc) (ks:=[nth O (i:Int)]) (n:=n) (P:=P) (L:=L) (fun k hk=>by rcases List.mem_singleton.1 hk with rfl;exact kO _ hm) (by simp) (by omega) hP hL
   repeat' (first|(show YK _ _ _ _ _ ⟨_,.load 36 _,_,_,_,_⟩ _;refine YK.ofV (zlP (k:=4) (by rfl) (by exact memA) (by decide +kernel) (by rfl)) ?_)|(show YK _ _ _ _ _ ⟨_,.load 58 _,_,_,_,_⟩ _;refine YK.ofV (zlP (k:=6) (by rfl) (by exact memA) (by decide +kernel) (by rfl)) ?_)|(show RS _ _ _ _ _ _ _ (⟨some 108,.buildSlice 56 1 _,_,_,_,_⟩::_);refine RS.lit1Kr (a:=nth O (i:Int)) (fun v'=>?_) rfl)|(show RS _ _ _ _ _ _ _ (⟨some 111,.call _,_,_,_,_⟩::_);refine RS.callX (q4 _) ⟨rfl,rfl,rfl,rfl,rfl⟩ ?_;rintro⟨zz1,zz2,ff⟩ -;dsimp only[List.cons_append,List.nil_append])|(refine nxV ?_)|(refine nSS ?_)|(refine nS1 fun _=>?_)|(refine nxX ?_)|(refine G.cN rfl (fun hc=>?_) (fun hc=>?_)<;>(try first|exact hc.elim|(exfalso;omega))))
   all_goals first
    |(exfalso;simp at hc;done)
    |(exfalso;omega)
    |exact X.ret1
    |exact X.again (i+1) (by omega) (by omega) ⟨rfl,rfl,rfl,rfl,rfl,rfl,rfl,rfl,rfl,rfl,rfl,trivial⟩ (by exact fun w h=>h.sub subS)
  ·obtain rfl:i=O.length:=by omega
   clear g1 hmx hi q3
   by_cases hE:∃e,ErrK P L n K F l e
   ·obtain⟨e,he⟩:=hE
    have q5:=bestNo_c (v:=v) he hF hv (by omega) hK hK0 hp hw (by omega)
    have hes:=he.is
    clear he
    rcases hes with rfl|rfl
    ·repeat' (first|(show YK _ _ _ _ _ ⟨_,.load 23 _,_,_,_,_⟩ _;refine YK.ofV (zlP (k:=2) (by rfl) (by exact memA) (by decide +kernel) (by rfl)) ?_)|(show YK _ _ _ _ _ _ _;refine YK.mk (zcR (q5) ⟨rfl,rfl,rfl,rfl,rfl,rfl⟩) ?_)|(refine nxV ?_)|(refine nSS ?_)|(refine nxG ?_)|(refine nxX ?_)|(refine G.cN rfl (fun hc=>?_) (fun hc=>?_)<;>(try first|exact hc.elim|(exfalso;omega))))
     all_goals first
      |(exfalso;simp at hc;done)
      |exact X.ret1
    ·repeat' (first|(show YK _ _ _ _ _ ⟨_,.load 23 _,_,_,_,_⟩ _;refine YK.ofV (zlP (k:=2) (by rfl) (by exact memA) (by decide +kernel) (by rfl)) ?_)|(show YK _ _ _ _ _ _ _;refine YK.mk (zcR (q5) ⟨rfl,rfl,rfl,rfl,rfl,rfl⟩) ?_)|(refine nxV ?_)|(refine nSS ?_)|(refine nxG ?_)|(refine nxX ?_)|(refine G.cN rfl (fun hc=>?_) (fun hc=>?_)<;>(try first|exact hc.elim|(exfalso;omega))))
     all_goals first
      |(exfalso;simp at hc;done)
      |exact X.ret1
   ·have hno:∀e,¬ErrK P L n K F l e:=fun e he=>hE ⟨e,he⟩
    have q5:=bestOk_c (v:=v) hno hF hv (by omega) hK hK0 hp hw (by omega)
    repeat' (first|(show YK _ _ _ _ _ ⟨_,.load 23 _,_,_,_,_⟩ _;refine YK.ofV (zlP (k:=2) (by rfl) (by exact memA) (by decide +kernel) (by rfl)) ?_)|(show RS _ _ _ _ _ _ _ (⟨some 123,.call _,_,_,_,_⟩::_);refine RS.callX q5 ⟨rfl,rfl,rfl,rfl,rfl,rfl⟩ ?_;rintro⟨⟨sz,sl⟩,ix⟩ ⟨hz,hb⟩;obtain⟨s,hix,hsl,hup,hsb,hsz,hs1,hse,hrg⟩:=best_facts hF hv (by omega) hK hK0 hp hw (by omega) hz hb;have hoth:=other_law (F:=F) (l:=l) o.toNat (by omega) (by omega) hK hK0 hz hb;dsimp only at hix hsz;subst hix hsz;clear hz hb;have hnl:(nats s).length=K:=(by simp[nats];exact hsl);generalize hsze:sizS P L n F l s=sz at *;dsimp only[List.cons_append,List.nil_append])|(refine nxV ?_)|(refine nSS ?_)|(refine nxG ?_)|(refine nxX ?_)|(refine G.cN rfl (fun hc=>?_) (fun hc=>?_)<;>(try first|exact hc.elim|(exfalso;omega))))
    all_goals first
     |(exfalso;simp at hc;done)
     |(exfalso;omega)
     |skip
    clear q5 hno hE
    refine G.loop (ι:=Sl×Nat) (fun y=>[(0,v),(3,.int .u8 o),(7,.pointer (some ⟨b7,0,none⟩)),(13,.int .i64 (n:Int)),(14,.int .i64 wd),(15,.int .i64 (K:Int)),(16,z.v),(21,.pointer (some ⟨b21,0,none⟩)),(26,sl.v),(27,.int .i64 (sz:Nat)),(29,y.1.v),(143,sl.v),(144,.int .i64 ((nats s).length:Int)),(145,.int .i64 (y.2:Int))]) (fun y=>[Hl.rw y.1.v 58 cKr 6 ((s.take y.2).map fun j:Nat=>nth O (j:Int)),Hl.nw sl.v cI 1 (nats s),Hl.blk b21 36 [.int .i64 P,.int .i64 P,.int .i64 L,.int .i64 L],Hl.rw z.v 58 cKr 6 O,Hl.blk b7 23 [.int .i64 P,.int .i64 L],Hl.rd v cSn 5 l]) (fun y=>y.2≤s.length) (fun y=>s.length-y.2) (⟨none,0,0⟩,0) (Nat.zero_le _) ⟨rfl,rfl,rfl,rfl,rfl,rfl,rfl,rfl,rfl,rfl,rfl,rfl,rfl,rfl,trivial⟩ (fun w' h=>St.nilRow 58 cKr 6 (h.sub subS)) ?_
    rintro⟨y,i⟩ mx g1 hmx
    (try dsimp only at g1 hmx ⊢)
    rcases Nat.lt_or_ge i s.length with hi|hi
    ·have en:nth (nats s) (i:Int)=((s.getD i 0:Nat):Int):=nthM hi
     have hlt:s.getD i 0<l.length:=by
      rw[List.getD_eq_getElem?_getD,List.getElem?_eq_getElem hi]
      exact hsb _ (List.getElem_mem _)
     have hO2:((s.take (i+1)).map fun j:Nat=>nth O (j:Int))=((s.take i).map fun j:Nat=>nth O (j:Int))++[nth O (nth (nats s) (i:Int))]:=by
      rw[en,List.take_succ_eq_append_getElem hi,List.map_append,List.getD_eq_getElem?_getD,List.getElem?_eq_getElem hi]
      rfl
     have hlen:((s.take i).map fun j:Nat=>nth O (j:Int)).length=i:=by rw[List.length_map,List.length_take];omega
     have hpr:i=0∨nth (nats s) ((i:Int)-1)<nth (nats s) (i:Int):=by
      rcases Nat.eq_zero_or_pos i with h|h
      ·exact .inl h
      ·refine .inr ?_
       have e1:(i:Int)-1=((i-1:Nat):Int):=by omega
       have e2:nth (nats s) ((i-1:Nat):Int)=((s.getD (i-1) 0:Nat):Int):=nthM (by omega)
       have:=upS_lt (i:=i-1) hup (by omega)
       rw[show i-1+1=i by omega] at this
       rw[e1,e2,en]
       omega
     generalize ((s.take i).map fun j:Nat=>nth O (j:Int))=C at *
     generalize s.getD i 0=sy at *
     repeat' (first|(show RS _ _ _ _ _ _ _ (⟨some 176,.buildSlice 56 1 _,_,_,_,_⟩::_);refine RS.lit1Kr (a:=nth O (nth (nats s) (i:Int))) (fun v'=>?_) rfl)|(show RS _ _ _ _ _ _ _ (⟨some 177,_,_,_,_,_⟩::_);refine RS.appendA (f:=cKr) (l:=C) (l':=[nth O (nth (nats s) (i:Int))]) ?_;intro z1)|(refine nxV ?_)|(refine nSS ?_)|(refine nxG ?_)|(refine nxX ?_)|(refine G.cN rfl (fun hc=>?_) (fun hc=>?_)<;>(try first|exact hc.elim|(exfalso;omega))))
     all_goals first
      |(exfalso;simp at hc;done)
      |(exfalso;omega)
      |(exfalso;simp at hc;omega)
      |skip
     exact X.again (z1,i+1) (by dsimp only;omega) (by dsimp only;omega) ⟨rfl,rfl,rfl,rfl,rfl,rfl,rfl,rfl,rfl,rfl,rfl,rfl,rfl,rfl,trivial⟩ (by dsimp only;rw[hO2];exact fun w h=>h.sub subS)
    ·obtain rfl:i=s.length:=by omega
     rw[List.take_length]
     clear g1 hmx hi
     have hC:(s.map fun j:Nat=>nth O (j:Int))=(bodOf l s).map F:=by
      rw[bod_map]
      refine List.map_congr_left fun j hj=>?_
      have hjl:=hsb j hj
      rw[←hO,nth_mem (by rw[List.length_map];exact hjl),nth_mem hjl,List.getElem_map]
     rw[hC]
     have hse2:(rgF P L n ((bodOf l s).map F)).1=0:=hse
     have hsz2:RR.sizeF n (rgF P L n ((bodOf l s).map F)).2=sz:=by
      rw[←hsze]
      show _=exN P L n ((bodOf l s).map F)
      unfold exN
      rw[if_pos hse2]
     have kC:∀k∈(bodOf l s).map F,CirOk k:=hF.ok (bod_val hv hsb) hP hw
     have hcl:((bodOf l s).map F).length=K:=by simp[bodOf];exact hsl
     have q4:=around22_c (P:=P) (L:=L) (m:=min 4 n) hP hL (Nat.min_le_left _ _)
     have tA:=RR.arF_tidy (M:=meM P L) (m:=min 4 n) (Nat.le_trans (Nat.min_le_left _ _) (by decide))
     have p4:4^(min 4 n)≤256:=Nat.le_trans (Nat.pow_le_pow_right (by decide) (Nat.min_le_left 4 n)) (by decide)
     have lA:=RR.arF_len (M:=meM P L) (m:=min 4 n)
     have q5:=fun vs=>rOf_c (vc:=y) (vs:=vs) (start:=RR.arF (meM P L) (min 4 n)) kC (by omega) (show n≤16 by omega) tA.ok ((RR.idx_iff tA.ok).2 ⟨tA.ch,tA.nb⟩) (by omega)
     rw[show ((min 4 n:Nat):Int)=min 4 (n:Int) by omega] at q4
     clear tA p4 lA kC
     unfold rgF at hse2 hsz2 hrg
     generalize RR.arF (meM P L) (min 4 n)=S at *
     generalize RR.ofF (agrA ((bodOf l s).map F)) (surA ((bodOf l s).map F)) n S=rr at *
     obtain⟨r1,r2⟩:=rr
     dsimp only at q5 hrg hse2 hsz2
     subst hse2
     have q6:∀vs,ContX Tryz.prog [Hl.rd y.v cKr 6 ((bodOf l s).map F),Hl.rd vs cT 3 S] 23 [y.v,vs,.int .i64 n] (fun _:Sl=>True) (fun z=>.tuple [z.v,.int .i64 0].toArray) (fun z=>[Hl.nw z.v cT 3 r2]):=fun vs w h=>by
      refine(q5 vs w h).mono ?_
      rintro e w' ⟨x,hx,rfl,hb,hh⟩
      exact⟨x,hx,rfl,hb,by simpa only[if_pos] using hh⟩
     clear q5
     have hcon:conB r2 P L=true:=con_has hP hL hrg.has
     have q7:=fun vv=>ccon_c vv r2 hrg.ok hrg.idx hrg.len hp
     rw[hcon] at q7
     clear hC hcon
     have hlv2:=hrg.lv
     have hln2:=hrg.len
     generalize (bodOf l s).map F=C at *
     repeat' (first|(show YK _ _ _ _ _ ⟨_,.load 36 _,_,_,_,_⟩ _;refine YK.ofV (zlP (k:=4) (by rfl) (by exact memA) (by decide +kernel) (by rfl)) ?_)|(show YK _ _ _ _ _ ⟨_,.load 23 _,_,_,_,_⟩ _;refine YK.ofV (zlP (k:=2) (by rfl) (by exact memA) (by decide +kernel) (by rfl)) ?_)|(show RS _ _ _ _ _ _ _ (⟨some 183,.call _,_,_,_,_⟩::_);refine RS.callX (q4) ⟨rfl,rfl,rfl⟩ ?_;rintro z2 -;dsimp only[List.cons_append,List.nil_append])|(show RS _ _ _ _ _ _ _ (⟨some 190,.call _,_,_,_,_⟩::_);refine RS.callX (q6 _) ⟨rfl,rfl,rfl,rfl⟩ ?_;rintro z3 -;dsimp only[List.cons_append,List.nil_append])|(show YK _ _ _ _ _ _ _;refine YK.mk (zcR (q7 _) ⟨rfl,rfl,rfl⟩) ?_)|(refine nxV ?_)|(refine nSS ?_)|(refine nxG ?_)|(refine nxX ?_)|(refine G.cN rfl (fun hc=>?_) (fun hc=>?_)<;>(try first|exact hc.elim|(exfalso;omega))))
     all_goals first
      |(exfalso;simp at hc;done)
      |(exfalso;omega)
      |skip
     clear q4 q6 q7 hrg
     refine G.loop (ι:=Nat) (fun j=>[(0,v),(3,.int .u8 o),(7,.pointer (some ⟨b7,0,none⟩)),(13,.int .i64 (n:Int)),(14,.int .i64 wd),(15,.int .i64 (K:Int)),(27,.int .i64 (sz:Nat)),(38,.int .i64 (RR.sizeF n (r2.take j):Nat)),(213,z3.v),(214,.int .i64 (r2.length:Int)),(215,.int .i64 (j:Int))]) (fun _=>[Hl.nw z3.v cT 3 r2,Hl.blk b7 23 [.int .i64 P,.int .i64 L],Hl.rd v cSn 5 l]) (fun j=>j≤r2.length) (fun j=>r2.length-j) 0 (Nat.zero_le _) ⟨rfl,rfl,rfl,rfl,rfl,rfl,rfl,rfl,rfl,rfl,rfl,trivial⟩ (by exact fun w h=>h.sub subS) ?_
     rintro j mx2 g2 hmx2
     (try dsimp only at g2 hmx2 ⊢)
     rcases Nat.lt_or_ge j r2.length with hj|hj
     ·have hm2:nth r2 (j:Int)∈r2:=by rw[nth_mem hj];exact List.getElem_mem hj
      have hl2:=hlv2 _ hm2
      have e1:=size_take (n:=n) hj
      have b1:=size_bd (n:=n) (l:=r2.take j) (show n≤16 by omega)
      have b2:(r2.take j).length≤4000:=by rw[List.length_take];omega
      have hs3:1*2^(2*(n-(nth r2 (j:Int)).lv))=4^(n-(nth r2 (j:Int)).lv):=by rw[Nat.one_mul,Nat.pow_mul]
      have hs2:4^(n-(nth r2 (j:Int)).lv)≤4294967296:=Nat.le_trans (Nat.pow_le_pow_right (by decide) (show n-(nth r2 (j:Int)).lv≤16 by omega)) (by decide)
      have b3:RR.sizeF n (r2.take j)≤17179869184000:=by omega
      clear b1 b2
      generalize 4^(n-(nth r2 (j:Int)).lv)=sp at *
      generalize RR.sizeF n (r2.take j)=tt at *
      repeat' (first|(show YK _ _ _ _ _ ⟨_,.binOp .shl _ _ _ _,_,_,_,_⟩ _;refine YK.ofV (y_shlA (m:=1) (j:=2*(n-(nth r2 (j:Int)).lv)) (by rfl) (by rfl) (by omega) (by omega) hs3 (by omega)) ?_)|(refine nxV ?_)|(refine nSS ?_)|(refine nS1 fun _=>?_)|(refine nxX ?_)|(refine G.cN rfl (fun hc=>?_) (fun hc=>?_)<;>(try first|exact hc.elim|(exfalso;omega))))
      all_goals first
       |(exfalso;simp at hc;done)
       |(exfalso;omega)
       |skip
      exact X.again (j+1) (by omega) (by omega) ⟨rfl,rfl,rfl,rfl,rfl,rfl,rfl,by rw[e1];rfl,rfl,rfl,rfl,trivial⟩ (by exact fun w h=>h.sub subS)
     ·obtain rfl:j=r2.length:=by omega
      rw[List.take_length,hsz2]
      clear g2 hmx2 hj hlv2 hln2 hsz2
      obtain⟨hot0,hots⟩:=hoth
      have hotl:=otS_lt (o:=o.toNat) (m:=l.length) (K:=K) (by omega)
      have hotn:(otS o.toNat l.length K).length=K:=by simp[otS]
      have hotg:∀i:Nat,i<K→(((otS o.toNat l.length K).getD i 0:Nat):Int)=(o+(i:Int))%(l.length:Int):=fun i hi=>by
       have:(otS o.toNat l.length K).getD i 0=(o.toNat+i)%l.length:=by
        unfold otS
        rw[List.getD_eq_getElem?_getD,List.getElem?_map,List.getElem?_range hi]
        rfl
       rw[this,Int.natCast_emod,Int.natCast_add,Int.toNat_of_nonneg ho.1]
      generalize otS o.toNat l.length K=ot at *
      repeat' (first|(refine nxV ?_)|(refine nSS ?_)|(refine nxX ?_)|(refine G.cN rfl (fun hc=>?_) (fun hc=>?_)<;>(try first|exact hc.elim|(exfalso;omega))))
      refine G.loop (ι:=Sl×Nat) (fun y=>[(0,v),(3,.int .u8 o),(7,.pointer (some ⟨b7,0,none⟩)),(13,.int .i64 (n:Int)),(14,.int .i64 wd),(15,.int .i64 (K:Int)),(27,.int .i64 (sz:Nat)),(38,.int .i64 (sz:Nat)),(41,y.1.v),(232,.int .i64 (K:Int)),(233,.int .i64 (y.2:Int))]) (fun y=>[Hl.rw y.1.v 53 cSn 5 (bodOf l (ot.take y.2)),Hl.blk b7 23 [.int .i64 P,.int .i64 L],Hl.rd v cSn 5 l]) (fun y=>y.2≤K) (fun y=>K-y.2) (⟨none,0,0⟩,0) (Nat.zero_le _) ⟨rfl,rfl,rfl,rfl,rfl,rfl,rfl,rfl,rfl,rfl,rfl,trivial⟩ (fun w' h=>St.nilRow 53 cSn 5 (h.sub subS)) ?_
      rintro⟨y2,i⟩ mx3 g1 hmx
      (try dsimp only at g1 hmx ⊢)
      rcases Nat.lt_or_ge i K with hi|hi
      ·have hl0:(0:Int)<(l.length:Int):=by omega
       have hm1:=Int.emod_nonneg (o+(i:Int)) (Int.ne_of_gt hl0)
       have hm2:=Int.emod_lt_of_pos (o+(i:Int)) hl0
       have hO2:bodOf l (ot.take (i+1))=bodOf l (ot.take i)++[nth l ((o+(i:Int))%(l.length:Int))]:=by
        rw[←hotg i hi]
        show (ot.take (i+1)).map _=(ot.take i).map _++[_]
        rw[List.take_succ_eq_append_getElem (by omega),List.map_append,List.getD_eq_getElem?_getD,List.getElem?_eq_getElem (by omega)]
        rfl
       have hlen:(bodOf l (ot.take i)).length=i:=by simp[bodOf];omega
       generalize bodOf l (ot.take i)=E at *
       repeat' (first|(show RS _ _ _ _ _ _ _ (⟨some 247,.buildSlice 49 1 _,_,_,_,_⟩::_);refine RS.lit1Sn (a:=nth l ((o+(i:Int))%(l.length:Int))) (fun v'=>?_) rfl)|(show RS _ _ _ _ _ _ _ (⟨some 248,_,_,_,_,_⟩::_);refine RS.appendA (f:=cSn) (l:=E) (l':=[nth l ((o+(i:Int))%(l.length:Int))]) ?_;intro z1)|(refine nxV ?_)|(refine nSS ?_)|(refine nxX ?_)|(refine G.cN rfl (fun hc=>?_) (fun hc=>?_)<;>(try first|exact hc.elim|(exfalso;omega))))
       all_goals first
        |(exfalso;simp at hc;done)
        |(exfalso;omega)
        |skip
       exact X.again (z1,i+1) (by dsimp only;omega) (by dsimp only;omega) ⟨rfl,rfl,rfl,rfl,rfl,rfl,rfl,rfl,rfl,rfl,rfl,trivial⟩ (by dsimp only;rw[hO2];exact fun w h=>h.sub subS)
      ·obtain rfl:i=K:=by omega
       rw[List.take_of_length_le (by omega)]
       have q8:=fun vv=>exp_c (v:=vv) (n:=n) hF (bod_val hv hotl) (by simp[bodOf];omega) hp hw (by omega)
       have he8:(rgF P L n ((bodOf l ot).map F)).1=0:=hot0
       rw[he8] at q8
       have hs8:sizS P L n F l ot=exN P L n ((bodOf l ot).map F):=rfl
       rw[hs8] at hots
       generalize exN P L n ((bodOf l ot).map F)=rs at *
       repeat' (first|(show YK _ _ _ _ _ ⟨_,.load 23 _,_,_,_,_⟩ _;refine YK.ofV (zlP (k:=2) (by rfl) (by exact memA) (by decide +kernel) (by rfl)) ?_)|(show YK _ _ _ _ _ _ _;refine YK.mk (zcR (q8 _) ⟨rfl,rfl,rfl,rfl,rfl⟩) ?_)|(refine nxV ?_)|(refine nSS ?_)|(refine nxG ?_)|(refine nxX ?_)|(refine G.cN rfl (fun hc=>?_) (fun hc=>?_)<;>(try first|exact hc.elim|(exfalso;omega))))
       all_goals first
        |(exfalso;simp at hc;done)
        |(exfalso;omega)
        |skip
       refine X.ret (vs:=[_]) rfl ⟨rfl,rfl⟩ rfl (fun w hw=>⟨ret_bool ?_,hw.ext⟩)
       simp only[eq_self,decide_true,Bool.and_self,Bool.true_and,decide_eq_true_eq]
       exact hots
theorem chosen_c (hk:0≤k∧k≤255) (ho:0≤o∧o≤255) (hwi:0≤wi∧wi≤65535) (hlv:0≤lv∧lv≤255) (hl:l.length≤maxLen):ContIn Tryz.prog (ChW v l) 4 [v,ptV P L,.int .u8 k,.int .u8 o,.int .u16 wi,.int .u8 lv] (.bool true):=by
 by_cases hs:2≤l.length∧l.length≤4
 ·cases hlg:l.any fun x=>decide ((x.body.length:Int)>100) with
  |true=>exact ch_bad hs (.inl hlg) hk hwi hlv
  |false =>
   cases hp:pointB P L with
   |true=>exact ch_main hs hlg hp hk ho hwi hlv
   |false=>exact ch_bad hs (.inr hp) hk hwi hlv
 ·exact ch_short hs hk hwi hlv hl
end
end Go.Proofs.YtjmdeplmenbmmaaGreatDoor
