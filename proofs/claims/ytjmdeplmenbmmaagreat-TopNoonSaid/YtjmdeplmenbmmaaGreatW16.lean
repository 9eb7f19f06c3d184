/- Joined texts: Du3, SstrLay, CmsLay. -/
import Derived.Test.YtjmdeplmenbmmaaGreatW15
import Derived.Shelf.SortG.Plain
import Derived.Test.YtjmdeplmenbmmaaGreatProg
import Derived.Shelf.Slices.CompactS
set_option linter.unusedVariables false
set_option maxHeartbeats 8000000
namespace Go.Proofs.YtjmdeplmenbmmaaGreat
open Go.RowKit
theorem geo_built (a b c d e f g h:Int):Tryz.prog.built 45 [(0,.agg [.int .i64 a,.int .i64 b].toArray),(1,.agg [.int .i64 c,.int .i64 d].toArray),(2,.agg [.int .i64 e,.int .i64 f].toArray),(3,.agg [.int .i64 g,.int .i64 h].toArray)]=some [.int .i64 a,.int .i64 b,.int .i64 c,.int .i64 d,.int .i64 e,.int .i64 f,.int .i64 g,.int .i64 h].toArray:=by kernel_rfl
theorem geo_z:Tryz.prog.built 45 []=some [.int .i64 0,.int .i64 0,.int .i64 0,.int .i64 0,.int .i64 0,.int .i64 0,.int .i64 0,.int .i64 0].toArray:=by kernel_rfl
theorem ndur1_c (B:Nat) (s:TrkT) (nm:List UInt8):ContIn Tryz.prog (fun w=>RO w (boxS B) 1 1 [strV nm]) 154 ([trV s]++(#[.pointer (some ⟨B,0,none⟩)]:Array Value).toList) (.bool (decide (s.nm=nm))):=fun w hw0=>by
 refine enter Tryz.func154 rfl rfl rfl (Hp:=[Hl.rd (boxS B) c1S 1 [strV nm]]) (fun h hm=>by
  rcases List.mem_singleton.1 hm with rfl
  exact⟨⟨hw0,fun h=>by cases h⟩,rfl⟩) ?_
 repeat' (first|(show YK _ _ _ _ _ ⟨_,.call { callee:=.builtin .len,args:=_,argTypes:=#[9] },_,_,_,_⟩ _;refine YK.ofV (y_lenS (by rfl) StrTy.is) ?_)|(show VK _ _ _ _ _ ⟨_,.call { callee:=.builtin .len,args:=_,argTypes:=#[9] },_,_,_,_⟩ _;refine VK.mk (y_lenS (by rfl) StrTy.is) ?_)|(show YG _ _ _ _ _ _ ⟨_,.call { callee:=.builtin .len,args:=_,argTypes:=#[9] },_,_,_,_⟩ _;refine YG.mk (fun hb=>by(try(have hc:=And.left hb;have hb:=And.right hb;rw[hc]));(try rw[hb]);exact V.y (y_lenS (by rfl) StrTy.is)) ?_)|(show VG _ _ _ _ _ _ ⟨_,.call { callee:=.builtin .len,args:=_,argTypes:=#[9] },_,_,_,_⟩ _;refine VG.mk (fun hb=>by(try(have hc:=And.left hb;have hb:=And.right hb;rw[hc]));(try rw[hb]);exact y_lenS (by rfl) StrTy.is) ?_)|(show YK _ _ _ _ _ ⟨_,.load 9 (.tmp 1),_,_,_,_⟩ _;refine YK.ofV (y_loadEl (inst:=⟨strV nm⟩) (u:=strV nm) (v:=boxS B) (s:=1) (m:=0) (i:=0) (f:=c1S) (l:=[strV nm]) (by rfl) (by exact rdA) (fun _=>rfl) (boxS_m _) (by rfl) (by rfl) (by decide +kernel)) ?_)|(refine nxV ?_)|(refine nSS ?_)|(refine nS1 fun _=>?_)|(refine nMM ?_)|(refine nM1 fun _=>?_)|(refine nxG ?_)|(refine nxVS ?_)|(refine nxGS ?_)|(refine nxX ?_)|(refine G.cN rfl (fun hc=>?_) (fun hc=>?_)<;>(try first|exact hc.elim|(exfalso;omega))))
 exact X.ret1
theorem ndidx_c (B:Nat) (nm:List UInt8) (v:Value) (l:List TrkT) (hl:l.length≤1000000) :
  ContIn Tryz.prog (fun w=>RO w v 6 l.length (l.flatMap cTk)∧RO w (boxS B) 1 1 [strV nm]) 153 [v,.func (.func 154) #[] #[.pointer (some ⟨B,0,none⟩)]] (.int .i64 (idxT l nm)):=fun w hw0=>by
 refine enter Tryz.func153 rfl rfl rfl (Hp:=[Hl.rd v cTk 6 l,Hl.rd (boxS B) c1S 1 [strV nm]]) (fun h hm=>by
  rcases List.mem_cons.1 hm with rfl|hm
  ·exact⟨⟨hw0.1,fun h=>by cases h⟩,rfl⟩
  rcases List.mem_singleton.1 hm with rfl
  exact⟨⟨hw0.2,fun h=>by cases h⟩,rfl⟩) ?_
 repeat' (first|(refine nxV ?_)|(refine nSS ?_)|(refine nS1 fun _=>?_)|(refine nMM ?_)|(refine nM1 fun _=>?_)|(refine nxG ?_)|(refine nxX ?_)|(refine G.cN rfl (fun hc=>?_) (fun hc=>?_)<;>(try first|exact hc.elim|(exfalso;omega))))
 refine G.loop (ι:=Nat) (fun i=>[(0,v),(1,.func (.func 154) #[] #[.pointer (some ⟨B,0,none⟩)]),(7,.int .i64 l.length),(8,.int .i64 (i:Int))]) (fun _=>[Hl.rd v cTk 6 l,Hl.rd (boxS B) c1S 1 [strV nm]]) (fun i=>i≤l.length∧∀k:Nat,k<i→decide ((nth l (k:Int)).nm=nm)=false) (fun i=>l.length-i) 0 ⟨by omega,fun k hk=>by omega⟩ ⟨rfl,rfl,rfl,rfl,trivial⟩ (fun w h=>h) ?_
 rintro i mx ⟨g1,g2⟩ hmx
 have hr:idxT l nm=match (List.range l.length).find? (fun i:Nat=>decide ((nth l (i:Int)).nm=nm)) with
  |some k=>(k:Int)
  |none=>-1:=rfl
 rcases Nat.lt_or_ge i l.length with hi|hi
 ·have q1:=ndur1_c B (nth l (i:Int)) nm
  cases hb:decide ((nth l (i:Int)).nm=nm) with
  |true =>
   rw[hb] at q1
   repeat' (first|(show YK _ _ _ _ _ ⟨_,.call { callee:=.builtin .len,args:=_,argTypes:=#[9] },_,_,_,_⟩ _;refine YK.ofV (y_lenS (by rfl) StrTy.is) ?_)|(show VK _ _ _ _ _ ⟨_,.call { callee:=.builtin .len,args:=_,argTypes:=#[9] },_,_,_,_⟩ _;refine VK.mk (y_lenS (by rfl) StrTy.is) ?_)|(show YG _ _ _ _ _ _ ⟨_,.call { callee:=.builtin .len,args:=_,argTypes:=#[9] },_,_,_,_⟩ _;refine YG.mk (fun hb=>by(try(have hc:=And.left hb;have hb:=And.right hb;rw[hc]));(try rw[hb]);exact V.y (y_lenS (by rfl) StrTy.is)) ?_)|(show VG _ _ _ _ _ _ ⟨_,.call { callee:=.builtin .len,args:=_,argTypes:=#[9] },_,_,_,_⟩ _;refine VG.mk (fun hb=>by(try(have hc:=And.left hb;have hb:=And.right hb;rw[hc]));(try rw[hb]);exact y_lenS (by rfl) StrTy.is) ?_)|(show YK _ _ _ _ _ ⟨_,.call { callee:=.value _,args:=_,argTypes:=_ },_,_,_,_⟩ _;refine YK.mk (y_callV (f:=154) (by rfl) q1 (fun w hw=>(hw.all _ (List.Mem.tail _ (List.Mem.head _))).1) ⟨rfl,rfl⟩ (by decide +kernel)) ?_)|(refine nxV ?_)|(refine nSS ?_)|(refine nS1 fun _=>?_)|(refine nMM ?_)|(refine nM1 fun _=>?_)|(refine nxG ?_)|(refine nxVS ?_)|(refine nxGS ?_)|(refine nxX ?_)|(refine G.cN rfl (fun hc=>?_) (fun hc=>?_)<;>(try first|exact hc.elim|(exfalso;omega))))
   rw[findr_some hi g2 hb] at hr
   exact X.ret (vs:=[_]) rfl ⟨rfl,rfl⟩ rfl (fun w hw=>⟨ret_int hr.symm,hw.ext⟩)
  |false =>
   rw[hb] at q1
   repeat' (first|(show YK _ _ _ _ _ ⟨_,.call { callee:=.builtin .len,args:=_,argTypes:=#[9] },_,_,_,_⟩ _;refine YK.ofV (y_lenS (by rfl) StrTy.is) ?_)|(show VK _ _ _ _ _ ⟨_,.call { callee:=.builtin .len,args:=_,argTypes:=#[9] },_,_,_,_⟩ _;refine VK.mk (y_lenS (by rfl) StrTy.is) ?_)|(show YG _ _ _ _ _ _ ⟨_,.call { callee:=.builtin .len,args:=_,argTypes:=#[9] },_,_,_,_⟩ _;refine YG.mk (fun hb=>by(try(have hc:=And.left hb;have hb:=And.right hb;rw[hc]));(try rw[hb]);exact V.y (y_lenS (by rfl) StrTy.is)) ?_)|(show VG _ _ _ _ _ _ ⟨_,.call { callee:=.builtin .len,args:=_,argTypes:=#[9] },_,_,_,_⟩ _;refine VG.mk (fun hb=>by(try(have hc:=And.left hb;have hb:=And.right hb;rw[hc]));(try rw[hb]);exact y_lenS (by rfl) StrTy.is) ?_)|(show YK _ _ _ _ _ ⟨_,.call { callee:=.value _,args:=_,argTypes:=_ },_,_,_,_⟩ _;refine YK.mk (y_callV (f:=154) (by rfl) q1 (fun w hw=>(hw.all _ (List.Mem.tail _ (List.Mem.head _))).1) ⟨rfl,rfl⟩ (by decide +kernel)) ?_)|(refine nxV ?_)|(refine nSS ?_)|(refine nS1 fun _=>?_)|(refine nMM ?_)|(refine nM1 fun _=>?_)|(refine nxG ?_)|(refine nxVS ?_)|(refine nxGS ?_)|(refine nxX ?_)|(refine G.cN rfl (fun hc=>?_) (fun hc=>?_)<;>(try first|exact hc.elim|(exfalso;omega))))
   refine X.again (i+1) ⟨by omega,fun k hk=>?_⟩ (by omega) ⟨rfl,rfl,rfl,rfl,trivial⟩ (by exact fun w h=>h.sub subS)
   rcases Nat.lt_or_ge k i with h|h
   ·exact g2 k h
   ·rw[show k=i by omega];exact hb
 ·repeat' (first|(refine nxV ?_)|(refine nSS ?_)|(refine nS1 fun _=>?_)|(refine nMM ?_)|(refine nM1 fun _=>?_)|(refine nxG ?_)|(refine nxX ?_)|(refine G.cN rfl (fun hc=>?_) (fun hc=>?_)<;>(try first|exact hc.elim|(exfalso;omega))))
  rw[findr_none (fun k hk=>g2 k (by omega))] at hr
  exact X.ret (vs:=[_]) rfl ⟨rfl,rfl⟩ rfl (fun w hw=>⟨ret_int hr.symm,hw.ext⟩)
section
variable {b:Nat} {dv pv:Sl} {pl:List PagT} {nm:List UInt8} {n lo hi:Int}
theorem nduring_c (hb:BkOk pl) (hm:0≤lo∧lo≤hi∧hi≤86400000):ContIn Tryz.prog (BkW b dv pv pl) 93 [ptB b,strV nm,.int .i64 n,.int .i64 lo,.int .i64 hi] (.tuple [geoV (durR pl nm n lo hi).1,.int .i64 (durR pl nm n lo hi).2].toArray):=fun w hw0=>by
 have q1:=npage_c (b:=b) (dv:=dv) (pv:=pv) hb n
 unfold pagR at q1
 unfold durR
 cases hix:pgIx pl n with
 |none =>
  rw[show trkAt pl nm n=none by unfold trkAt;rw[hix]]
  rw[hix] at q1
  dsimp only at q1 ⊢
  refine enter0 Tryz.func93 rfl rfl rfl ?_
  repeat' (first|(refine nxN ?_)|(show YK _ _ _ _ _ ⟨_,.build 45 #[],_,_,_,_⟩ _;refine YK.ofV (y_build (parts:=[]) (vs:=[]) (by rfl) geo_z) ?_)|(show YK _ _ _ _ _ ⟨_,.call { callee:=.value (.func 152),args:=_,argTypes:=_ },_,_,_,_⟩ _;refine YK.mk (zcI (q1) (fun w' hw'=>hw0.keep hw'.ext) ⟨rfl,rfl,rfl⟩ (by decide +kernel)) ?_)|(show YG _ _ _ _ _ _ ⟨_,.call { callee:=.value (.func 152),args:=_,argTypes:=_ },_,_,_,_⟩ _;refine YG.mk (fun hb=>by(try(have hc:=And.left hb;have hb:=And.right hb;rw[hc]));(try rw[hb]);exact zcI (q1) (fun w' hw'=>hw0.keep hw'.ext) ⟨rfl,rfl,rfl⟩ (by decide +kernel)) ?_)|(refine nxV ?_)|(refine nSS ?_)|(refine nS1 fun _=>?_)|(refine nMM ?_)|(refine nM1 fun _=>?_)|(refine nxG ?_)|(refine G.mA 9 [.go 0,.go 1,.go 2,.go 3,.go 6,.go 7,.go 11,.go 4,.go 5,.go 8,.go 9,.go 10,.go 12,.go 13] ?_)|(refine nxX ?_)|(refine G.cN rfl (fun hc=>?_) (fun hc=>?_)<;>(try first|exact hc.elim|(exfalso;omega))))
  all_goals first
   |(exfalso;simp at hc;done)
   |exact X.ret (vs:=[_,_]) rfl ⟨⟨_,_,_,_,rfl,(by exact memA),lenA,by decide +kernel,rfl⟩,rfl,rfl⟩ rfl rE
 |some i =>
  obtain⟨hi1,hi2⟩:=pgIx_some hix
  have hpo:=hb.ok _ (nth_in (l:=pl) (i:=(i:Int)) (by omega) (by omega))
  have hpg:=InP.at hw0.pg.2 hi1
  have htk:trkAt pl nm n=if 0≤idxT (nth pl (i:Int)).tl nm then some (nth (nth pl (i:Int)).tl (idxT (nth pl (i:Int)).tl nm)) else none:=by unfold trkAt;rw[hix]
  rw[htk]
  rw[hix] at q1
  dsimp only at q1
  have htl:=hpo.1
  have hbd:=idxT_lt (l:=(nth pl (i:Int)).tl) (nm:=nm)
  have q2:=fun B=>ndidx_c B nm (nth pl (i:Int)).tv.v (nth pl (i:Int)).tl (by omega)
  have hfact:∀t∈(nth pl (i:Int)).tl,okT t=true∧In1 w t:=fun t ht=>⟨hpo.trk ht,hpg.2 t ht⟩
  have hro:=hpg.1
  clear htk hpo hpg hi2 hix
  generalize nth pl (i:Int)=p at *
  obtain⟨py,pm,pd,tv,tl⟩:=p
  dsimp only at *
  by_cases hk:0≤idxT tl nm
  ·rw[if_pos hk]
   have hme:=nth_in hk hbd.2
   obtain⟨ho,hin⟩:=hfact _ hme
   have hf:=trk_facts ho
   have q3:=nDur_c ho hm
   have q4:=naro_c (n:=(nth tl (idxT tl nm)).se) (by have:=hf.se;omega)
   have q5:=naro_c (n:=(nth tl (idxT tl nm)).pa) (by have:=hf.pa;omega)
   have q6:=npos_c (a:=(tenA (nth tl (idxT tl nm)).se).1) (b:=(tenA (nth tl (idxT tl nm)).se).2)
   have q7:=npos_c (a:=(tenA (nth tl (idxT tl nm)).pa).1) (b:=(tenA (nth tl (idxT tl nm)).pa).2)
   try dsimp only
   unfold durG
   try dsimp only
   change Cont _ _ _ (arcV (posA (tenA (nth tl (idxT tl nm)).se)).1 (posA (tenA (nth tl (idxT tl nm)).se)).2) at q6
   change Cont _ _ _ (arcV (posA (tenA (nth tl (idxT tl nm)).pa)).1 (posA (tenA (nth tl (idxT tl nm)).pa)).2) at q7
   generalize posA (tenA (nth tl (idxT tl nm)).se)=S1 at *
   generalize posA (tenA (nth tl (idxT tl nm)).pa)=S2 at *
   generalize tenA (nth tl (idxT tl nm)).se=S3 at *
   generalize tenA (nth tl (idxT tl nm)).pa=S4 at *
   generalize NO.turnA (NO.overA (gAt (nth tl (idxT tl nm))) lo hi (nth tl (idxT tl nm)).be)=R1 at *
   generalize latA (NO.overA (dAt (nth tl (idxT tl nm))) lo hi (nth tl (idxT tl nm)).be)=R2 at *
   clear hf ho hfact hme
   generalize idxT tl nm=k at *
   refine enter Tryz.func93 rfl rfl rfl (Hp:=[Hl.rd tv.v cTk 6 tl]) (fun h hm=>by
    rcases List.mem_singleton.1 hm with rfl
    exact⟨⟨hro,fun h=>by cases h⟩,rfl⟩) ?_
   repeat' (first|(refine nxN ?_)|(show YK _ _ _ _ _ ⟨_,.build 45 #[],_,_,_,_⟩ _;refine YK.ofV (y_build (parts:=[]) (vs:=[]) (by rfl) geo_z) ?_)|(show VK _ _ _ _ _ ⟨_,.build 45 #[(0,_),(1,_),(2,_),(3,_)],_,_,_,_⟩ _;refine VK.mk (y_build (parts:=[(0,_),(1,_),(2,_),(3,_)]) (vs:=[_,_,_,_]) ⟨rfl,rfl,rfl,rfl,rfl⟩ (geo_built _ _ _ _ _ _ _ _)) ?_)|(show YK _ _ _ _ _ ⟨_,.build 45 #[(0,_),(1,_),(2,_),(3,_)],_,_,_,_⟩ _;refine YK.ofV (y_build (parts:=[(0,_),(1,_),(2,_),(3,_)]) (vs:=[_,_,_,_]) ⟨rfl,rfl,rfl,rfl,rfl⟩ (geo_built _ _ _ _ _ _ _ _)) ?_)|(show VG _ _ _ _ _ _ ⟨_,.build 45 #[(0,_),(1,_),(2,_),(3,_)],_,_,_,_⟩ _;refine VG.mk (fun hb=>by(try(have hc:=And.left hb;have hb:=And.right hb;rw[hc]));(try rw[hb]);exact y_build (parts:=[(0,_),(1,_),(2,_),(3,_)]) (vs:=[_,_,_,_]) ⟨rfl,rfl,rfl,rfl,rfl⟩ (geo_built _ _ _ _ _ _ _ _)) ?_)|(show YG _ _ _ _ _ _ ⟨_,.build 45 #[(0,_),(1,_),(2,_),(3,_)],_,_,_,_⟩ _;refine YG.mk (fun hb=>by(try(have hc:=And.left hb;have hb:=And.right hb;rw[hc]));(try rw[hb]);exact V.y (y_build (parts:=[(0,_),(1,_),(2,_),(3,_)]) (vs:=[_,_,_,_]) ⟨rfl,rfl,rfl,rfl,rfl⟩ (geo_built _ _ _ _ _ _ _ _))) ?_)|(show YK _ _ _ _ _ ⟨_,.call { callee:=.value (.func 152),args:=_,argTypes:=_ },_,_,_,_⟩ _;refine YK.mk (zcI (q1) (fun w' hw'=>hw0.keep hw'.ext) ⟨rfl,rfl,rfl⟩ (by decide +kernel)) ?_)|(show YG _ _ _ _ _ _ ⟨_,.call { callee:=.value (.func 152),args:=_,argTypes:=_ },_,_,_,_⟩ _;refine YG.mk (fun hb=>by(try(have hc:=And.left hb;have hb:=And.right hb;rw[hc]));(try rw[hb]);exact zcI (q1) (fun w' hw'=>hw0.keep hw'.ext) ⟨rfl,rfl,rfl⟩ (by decide +kernel)) ?_)|(show YK _ _ _ _ _ ⟨_,.call { callee:=.value (.func 153),args:=_,argTypes:=_ },_,_,_,_⟩ _;refine YK.mk (zcI (q2 _) (fun w' hw'=>⟨(hw'.all (Hl.rd tv.v cTk 6 tl) (by exact memA)).1,boxS_of hw' (by exact memA)⟩) ⟨rfl,rfl,rfl⟩ (by decide +kernel)) ?_)|(show YG _ _ _ _ _ _ ⟨_,.call { callee:=.value (.func 153),args:=_,argTypes:=_ },_,_,_,_⟩ _;refine YG.mk (fun hb=>by(try(have hc:=And.left hb;have hb:=And.right hb;rw[hc]));(try rw[hb]);exact zcI (q2 _) (fun w' hw'=>⟨(hw'.all (Hl.rd tv.v cTk 6 tl) (by exact memA)).1,boxS_of hw' (by exact memA)⟩) ⟨rfl,rfl,rfl⟩ (by decide +kernel)) ?_)|(show YK _ _ _ _ _ ⟨_,.call { callee:=.value (.func 155),args:=_,argTypes:=_ },_,_,_,_⟩ _;refine YK.mk (zcI (q3) (fun w' hw'=>hin.keep hw'.ext) ⟨rfl,rfl,rfl,rfl⟩ (by decide +kernel)) ?_)|(show YG _ _ _ _ _ _ ⟨_,.call { callee:=.value (.func 155),args:=_,argTypes:=_ },_,_,_,_⟩ _;refine YG.mk (fun hb=>by(try(have hc:=And.left hb;have hb:=And.right hb;rw[hc]));(try rw[hb]);exact zcI (q3) (fun w' hw'=>hin.keep hw'.ext) ⟨rfl,rfl,rfl,rfl⟩ (by decide +kernel)) ?_)|(refine G.mixedM 9 [.go 0,.go 1,.go 2,.go 3,.go 6,.go 7,.go 11,.go 4,.go 5,.go 8,.go 9,.go 10,.go 12,.go 13] [true,true,true,true,false,true,true] ?_;dsimp only[maskH])|(show YK _ _ _ _ _ _ _;first|refine YK.mk (zcA (q4) ⟨rfl,rfl⟩) ?_|refine YK.mk (zcA (q5) ⟨rfl,rfl⟩) ?_|refine YK.mk (zcA (q6) ⟨rfl,rfl⟩) ?_|refine YK.mk (zcA (q7) ⟨rfl,rfl⟩) ?_)|(refine nxV ?_)|(refine nSS ?_)|(refine nS1 fun _=>?_)|(refine nMM ?_)|(refine nM1 fun _=>?_)|(show YG _ _ _ _ _ _ _ _;refine YG.mk (fun hb=>by(try(have hc:=And.left hb;have hb:=And.right hb;rw[hc]));(try rw[hb]);first|exact(zcA (q4) ⟨rfl,rfl⟩)|exact(zcA (q5) ⟨rfl,rfl⟩)|exact(zcA (q6) ⟨rfl,rfl⟩)|exact(zcA (q7) ⟨rfl,rfl⟩)|exact V.y vAuto) ?_)|(refine nxG ?_)|(refine nxX ?_)|(refine G.cN rfl (fun hc=>?_) (fun hc=>?_)<;>(try first|exact hc.elim|(exfalso;omega))))
   all_goals first
    |(exfalso;simp at hc;done)
    |(exfalso;omega)
    |exact X.ret (vs:=[_,_]) rfl ⟨⟨_,_,_,_,rfl,(by exact memA),lenA,by decide +kernel,rfl⟩,rfl,rfl⟩ rfl rE
  ·rw[if_neg hk]
   try dsimp only
   clear hfact
   generalize idxT tl nm=k at *
   refine enter Tryz.func93 rfl rfl rfl (Hp:=[Hl.rd tv.v cTk 6 tl]) (fun h hm=>by
    rcases List.mem_singleton.1 hm with rfl
    exact⟨⟨hro,fun h=>by cases h⟩,rfl⟩) ?_
   repeat' (first|(refine nxN ?_)|(show YK _ _ _ _ _ ⟨_,.build 45 #[],_,_,_,_⟩ _;refine YK.ofV (y_build (parts:=[]) (vs:=[]) (by rfl) geo_z) ?_)|(show YK _ _ _ _ _ ⟨_,.call { callee:=.value (.func 152),args:=_,argTypes:=_ },_,_,_,_⟩ _;refine YK.mk (zcI (q1) (fun w' hw'=>hw0.keep hw'.ext) ⟨rfl,rfl,rfl⟩ (by decide +kernel)) ?_)|(show YG _ _ _ _ _ _ ⟨_,.call { callee:=.value (.func 152),args:=_,argTypes:=_ },_,_,_,_⟩ _;refine YG.mk (fun hb=>by(try(have hc:=And.left hb;have hb:=And.right hb;rw[hc]));(try rw[hb]);exact zcI (q1) (fun w' hw'=>hw0.keep hw'.ext) ⟨rfl,rfl,rfl⟩ (by decide +kernel)) ?_)|(show YK _ _ _ _ _ ⟨_,.call { callee:=.value (.func 153),args:=_,argTypes:=_ },_,_,_,_⟩ _;refine YK.mk (zcI (q2 _) (fun w' hw'=>⟨(hw'.all (Hl.rd tv.v cTk 6 tl) (by exact memA)).1,boxS_of hw' (by exact memA)⟩) ⟨rfl,rfl,rfl⟩ (by decide +kernel)) ?_)|(show YG _ _ _ _ _ _ ⟨_,.call { callee:=.value (.func 153),args:=_,argTypes:=_ },_,_,_,_⟩ _;refine YG.mk (fun hb=>by(try(have hc:=And.left hb;have hb:=And.right hb;rw[hc]));(try rw[hb]);exact zcI (q2 _) (fun w' hw'=>⟨(hw'.all (Hl.rd tv.v cTk 6 tl) (by exact memA)).1,boxS_of hw' (by exact memA)⟩) ⟨rfl,rfl,rfl⟩ (by decide +kernel)) ?_)|(refine nxV ?_)|(refine nSS ?_)|(refine nS1 fun _=>?_)|(refine nMM ?_)|(refine nM1 fun _=>?_)|(refine nxG ?_)|(refine G.mA 9 [.go 0,.go 1,.go 2,.go 3,.go 6,.go 7,.go 11,.go 4,.go 5,.go 8,.go 9,.go 10,.go 12,.go 13] ?_)|(refine nxX ?_)|(refine G.cN rfl (fun hc=>?_) (fun hc=>?_)<;>(try first|exact hc.elim|(exfalso;omega))))
   all_goals first
    |(exfalso;simp at hc;done)
    |(exfalso;omega)
    |exact X.ret (vs:=[_,_]) rfl ⟨⟨_,_,_,_,rfl,(by exact memA),lenA,by decide +kernel,rfl⟩,rfl,rfl⟩ rfl rE
theorem dur_gha (hb:BkOk pl) {a c:Int} (hm:0≤a∧a≤c∧c≤86400000):0≤(durR pl nm n a c).1.1.1∧(durR pl nm n a c).1.1.1≤(durR pl nm n a c).1.1.2∧(durR pl nm n a c).1.1.2≤43200000:=by
 unfold durR
 cases h:trkAt pl nm n with
 |none=>dsimp only;omega
 |some t=>exact turn_bd (over_ord (gat_ord t) (trk_of hb h).1.be.1 _ _)
theorem nbody_c (hb:BkOk pl) (hm:timeOk lo hi) (hw:hi-lo<86400000):ContIn Tryz.prog (BkW b dv pv pl) 44 [ptB b,strV nm,arcV lo hi] (.tuple [geoV (bodR pl nm lo hi).1,.int .i64 (bodR pl nm lo hi).2].toArray):=fun w hw0=>by
 obtain⟨gm1,gm2,gm3⟩:=hm
 have q1:=nday_c (t:=lo) ⟨gm1,by omega⟩
 have q2:=nday_c (t:=hi) ⟨by omega,gm3⟩
 unfold bodR
 have d1:0≤lo-lo/86400000*86400000∧lo-lo/86400000*86400000<86400000:=by omega
 have d2:0≤hi-hi/86400000*86400000∧hi-hi/86400000*86400000<86400000:=by omega
 have d3 : -1000000≤lo/86400000∧lo/86400000≤1000000∧-1000000≤hi/86400000∧hi/86400000≤1000000:=by omega
 by_cases hd:lo/86400000=hi/86400000
 ·rw[if_pos hd]
  have q3:=nduring_c (b:=b) (dv:=dv) (pv:=pv) (nm:=nm) (n:=lo/86400000) hb (lo:=lo-lo/86400000*86400000) (hi:=hi-lo/86400000*86400000) (by omega)
  rw[←hd] at q2
  generalize durR pl nm (lo/86400000) (lo-lo/86400000*86400000) (hi-lo/86400000*86400000)=R at *
  clear hd
  generalize lo/86400000=x at *
  refine enter0 Tryz.func44 rfl rfl rfl ?_
  repeat' (first|(refine nxN ?_)|(show YK _ _ _ _ _ ⟨_,.build 45 #[],_,_,_,_⟩ _;refine YK.ofV (y_build (parts:=[]) (vs:=[]) (by rfl) geo_z) ?_)|(show YK _ _ _ _ _ ⟨_,.call { callee:=.value (.func 93),args:=_,argTypes:=_ },_,_,_,_⟩ _;refine YK.mk (zcI (q3) (fun w' hw'=>hw0.keep hw'.ext) ⟨rfl,rfl,rfl,rfl,rfl,rfl⟩ (by decide +kernel)) ?_)|(show YG _ _ _ _ _ _ ⟨_,.call { callee:=.value (.func 93),args:=_,argTypes:=_ },_,_,_,_⟩ _;refine YG.mk (fun hb=>by(try(have hc:=And.left hb;have hb:=And.right hb;rw[hc]));(try rw[hb]);exact zcI (q3) (fun w' hw'=>hw0.keep hw'.ext) ⟨rfl,rfl,rfl,rfl,rfl,rfl⟩ (by decide +kernel)) ?_)|(show YK _ _ _ _ _ _ _;first|refine YK.mk (zcA (q1) ⟨rfl,rfl⟩) ?_|refine YK.mk (zcA (q2) ⟨rfl,rfl⟩) ?_)|(refine nxV ?_)|(refine nSS ?_)|(refine nS1 fun _=>?_)|(refine nMM ?_)|(refine nM1 fun _=>?_)|(show YG _ _ _ _ _ _ _ _;refine YG.mk (fun hb=>by(try(have hc:=And.left hb;have hb:=And.right hb;rw[hc]));(try rw[hb]);first|exact(zcA (q1) ⟨rfl,rfl⟩)|exact(zcA (q2) ⟨rfl,rfl⟩)|exact V.y vAuto) ?_)|(refine nxG ?_)|(refine G.mA 1 [.go 0,.go 1,.go 3,.go 4,.go 2,.go 5,.go 6,.go 7] ?_)|(refine G.mA 11 [.go 0,.go 1,.go 2,.go 3,.go 4,.go 6,.go 7,.go 8,.go 9,.go 11,.go 12,.go 13,.go 14,.go 17,.go 5,.go 10,.go 15,.go 16,.go 18,.go 19] ?_)|(refine nxX ?_)|(refine G.cN rfl (fun hc=>?_) (fun hc=>?_)<;>(try first|exact hc.elim|(exfalso;omega))))
  all_goals first
   |(exfalso;omega)
   |exact X.ret (vs:=[_,_]) rfl ⟨⟨_,_,_,_,rfl,(by exact memA),lenA,by decide +kernel,rfl⟩,rfl,rfl⟩ rfl rE
 ·rw[if_neg hd]
  have q3:=nduring_c (b:=b) (dv:=dv) (pv:=pv) (nm:=nm) (n:=lo/86400000) hb (lo:=lo-lo/86400000*86400000) (hi:=86400000) (by omega)
  have q4:=nduring_c (b:=b) (dv:=dv) (pv:=pv) (nm:=nm) (n:=hi/86400000) hb (lo:=0) (hi:=hi-hi/86400000*86400000) (by omega)
  have g1:=dur_gha (nm:=nm) (n:=lo/86400000) hb (a:=lo-lo/86400000*86400000) (c:=86400000) (by omega)
  have g2:=dur_gha (nm:=nm) (n:=hi/86400000) hb (a:=0) (c:=hi-hi/86400000*86400000) (by omega)
  have e1:=dur_err (pl:=pl) (nm:=nm) (n:=lo/86400000) (a:=lo-lo/86400000*86400000) (b:=86400000)
  have e2:=dur_err (pl:=pl) (nm:=nm) (n:=hi/86400000) (a:=0) (b:=hi-hi/86400000*86400000)
  generalize durR pl nm (lo/86400000) (lo-lo/86400000*86400000) 86400000=R at *
  generalize durR pl nm (hi/86400000) 0 (hi-hi/86400000*86400000)=R2 at *
  generalize lo/86400000=x at *
  generalize hi/86400000=y at *
  by_cases hr:R.2=0
  ·rw[if_neg (by simpa using hr)]
   rw[hr] at q3
   by_cases hr2:R2.2=0
   ·rw[if_neg (by simpa using hr2)]
    rw[hr2] at q4
    clear e1 e2 hr hr2
    obtain⟨⟨a1,a2,a3,a4⟩,ae⟩:=R
    obtain⟨⟨c1,c2,c3,c4⟩,ce⟩:=R2
    unfold joinG
    dsimp only at *
    have q5:=njoin_c (a:=a1) (b:=c1) g1 g2
    have q6:=nhul_c (a:=a2) (b:=c2)
    have q7:=nhul_c (a:=a3) (b:=c3)
    have q8:=nhul_c (a:=a4) (b:=c4)
    generalize NO.joinA a1 c1=J1 at *
    generalize NO.hullA a2 c2=J2 at *
    generalize NO.hullA a3 c3=J3 at *
    generalize NO.hullA a4 c4=J4 at *
    refine enter0 Tryz.func44 rfl rfl rfl ?_
    repeat' (first|(refine nxN ?_)|(show YK _ _ _ _ _ ⟨_,.build 45 #[],_,_,_,_⟩ _;refine YK.ofV (y_build (parts:=[]) (vs:=[]) (by rfl) geo_z) ?_)|(show VK _ _ _ _ _ ⟨_,.load 42 _,_,_,_,_⟩ _;refine VK.mk (zlP (k:=2) (by rfl) (by exact memA) (by decide +kernel) (by rfl)) ?_)|(show YK _ _ _ _ _ ⟨_,.load 42 _,_,_,_,_⟩ _;refine YK.ofV (zlP (k:=2) (by rfl) (by exact memA) (by decide +kernel) (by rfl)) ?_)|(show VG _ _ _ _ _ _ ⟨_,.load 42 _,_,_,_,_⟩ _;refine VG.mk (fun hb=>by(try(have hc:=And.left hb;have hb:=And.right hb;rw[hc]));(try rw[hb]);exact zlP (k:=2) (by rfl) (by exact memA) (by decide +kernel) (by rfl)) ?_)|(show YG _ _ _ _ _ _ ⟨_,.load 42 _,_,_,_,_⟩ _;refine YG.mk (fun hb=>by(try(have hc:=And.left hb;have hb:=And.right hb;rw[hc]));(try rw[hb]);exact V.y (zlP (k:=2) (by rfl) (by exact memA) (by decide +kernel) (by rfl))) ?_)|(show VK _ _ _ _ _ ⟨_,.build 45 #[(0,_),(1,_),(2,_),(3,_)],_,_,_,_⟩ _;refine VK.mk (y_build (parts:=[(0,_),(1,_),(2,_),(3,_)]) (vs:=[_,_,_,_]) ⟨rfl,rfl,rfl,rfl,rfl⟩ (geo_built _ _ _ _ _ _ _ _)) ?_)|(show YK _ _ _ _ _ ⟨_,.build 45 #[(0,_),(1,_),(2,_),(3,_)],_,_,_,_⟩ _;refine YK.ofV (y_build (parts:=[(0,_),(1,_),(2,_),(3,_)]) (vs:=[_,_,_,_]) ⟨rfl,rfl,rfl,rfl,rfl⟩ (geo_built _ _ _ _ _ _ _ _)) ?_)|(show VG _ _ _ _ _ _ ⟨_,.build 45 #[(0,_),(1,_),(2,_),(3,_)],_,_,_,_⟩ _;refine VG.mk (fun hb=>by(try(have hc:=And.left hb;have hb:=And.right hb;rw[hc]));(try rw[hb]);exact y_build (parts:=[(0,_),(1,_),(2,_),(3,_)]) (vs:=[_,_,_,_]) ⟨rfl,rfl,rfl,rfl,rfl⟩ (geo_built _ _ _ _ _ _ _ _)) ?_)|(show YG _ _ _ _ _ _ ⟨_,.build 45 #[(0,_),(1,_),(2,_),(3,_)],_,_,_,_⟩ _;refine YG.mk (fun hb=>by(try(have hc:=And.left hb;have hb:=And.right hb;rw[hc]));(try rw[hb]);exact V.y (y_build (parts:=[(0,_),(1,_),(2,_),(3,_)]) (vs:=[_,_,_,_]) ⟨rfl,rfl,rfl,rfl,rfl⟩ (geo_built _ _ _ _ _ _ _ _))) ?_)|(show YK _ _ _ _ _ ⟨some 48,.call { callee:=.value (.func 93),args:=_,argTypes:=_ },_,_,_,_⟩ _;refine YK.mk (zcI (q3) (fun w' hw'=>hw0.keep hw'.ext) ⟨rfl,rfl,rfl,rfl,rfl,rfl⟩ (by decide +kernel)) ?_)|(show YG _ _ _ _ _ _ ⟨some 48,.call { callee:=.value (.func 93),args:=_,argTypes:=_ },_,_,_,_⟩ _;refine YG.mk (fun hb=>by(try(have hc:=And.left hb;have hb:=And.right hb;rw[hc]));(try rw[hb]);exact zcI (q3) (fun w' hw'=>hw0.keep hw'.ext) ⟨rfl,rfl,rfl,rfl,rfl,rfl⟩ (by decide +kernel)) ?_)|(show YK _ _ _ _ _ ⟨some 64,.call { callee:=.value (.func 93),args:=_,argTypes:=_ },_,_,_,_⟩ _;refine YK.mk (zcI (q4) (fun w' hw'=>hw0.keep hw'.ext) ⟨rfl,rfl,rfl,rfl,rfl,rfl⟩ (by decide +kernel)) ?_)|(show YG _ _ _ _ _ _ ⟨some 64,.call { callee:=.value (.func 93),args:=_,argTypes:=_ },_,_,_,_⟩ _;refine YG.mk (fun hb=>by(try(have hc:=And.left hb;have hb:=And.right hb;rw[hc]));(try rw[hb]);exact zcI (q4) (fun w' hw'=>hw0.keep hw'.ext) ⟨rfl,rfl,rfl,rfl,rfl,rfl⟩ (by decide +kernel)) ?_)|(refine G.mixedM 11 [.go 0,.go 1,.go 2,.go 3,.go 4,.go 6,.go 7,.go 8,.go 9,.go 11,.go 12,.go 13,.go 14,.go 17,.go 5,.go 10,.go 15,.go 16,.go 18,.go 19] [true,true,true,false,true] ?_;dsimp only[maskH])|(show YK _ _ _ _ _ _ _;first|refine YK.mk (zcA (q1) ⟨rfl,rfl⟩) ?_|refine YK.mk (zcA (q2) ⟨rfl,rfl⟩) ?_|refine YK.mk (zcA (q5) ⟨rfl,rfl,rfl⟩) ?_|refine YK.mk (zcA (q6) ⟨rfl,rfl,rfl⟩) ?_|refine YK.mk (zcA (q7) ⟨rfl,rfl,rfl⟩) ?_|refine YK.mk (zcA (q8) ⟨rfl,rfl,rfl⟩) ?_)|(refine nxV ?_)|(refine nSS ?_)|(refine nS1 fun _=>?_)|(refine nMM ?_)|(refine nM1 fun _=>?_)|(show YG _ _ _ _ _ _ _ _;refine YG.mk (fun hb=>by(try(have hc:=And.left hb;have hb:=And.right hb;rw[hc]));(try rw[hb]);first|exact(zcA (q1) ⟨rfl,rfl⟩)|exact(zcA (q2) ⟨rfl,rfl⟩)|exact(zcA (q5) ⟨rfl,rfl,rfl⟩)|exact(zcA (q6) ⟨rfl,rfl,rfl⟩)|exact(zcA (q7) ⟨rfl,rfl,rfl⟩)|exact(zcA (q8) ⟨rfl,rfl,rfl⟩)|exact V.y vAuto) ?_)|(refine nxG ?_)|(refine G.mA 1 [.go 0,.go 1,.go 3,.go 4,.go 2,.go 5,.go 6,.go 7] ?_)|(refine nxX ?_)|(refine G.cN rfl (fun hc=>?_) (fun hc=>?_)<;>(try first|exact hc.elim|(exfalso;omega))))
    all_goals first
     |(exfalso;simp at hc;done)
     |(exfalso;omega)
     |exact X.ret (vs:=[_,_]) rfl ⟨⟨_,_,_,_,rfl,(by exact memA),lenA,by decide +kernel,rfl⟩,rfl,rfl⟩ rfl rE
   ·rw[if_pos hr2]
    obtain rfl:=e2.resolve_left hr2
    refine enter0 Tryz.func44 rfl rfl rfl ?_
    repeat' (first|(refine nxN ?_)|(show YK _ _ _ _ _ ⟨_,.build 45 #[],_,_,_,_⟩ _;refine YK.ofV (y_build (parts:=[]) (vs:=[]) (by rfl) geo_z) ?_)|(show YK _ _ _ _ _ ⟨some 48,.call { callee:=.value (.func 93),args:=_,argTypes:=_ },_,_,_,_⟩ _;refine YK.mk (zcI (q3) (fun w' hw'=>hw0.keep hw'.ext) ⟨rfl,rfl,rfl,rfl,rfl,rfl⟩ (by decide +kernel)) ?_)|(show YG _ _ _ _ _ _ ⟨some 48,.call { callee:=.value (.func 93),args:=_,argTypes:=_ },_,_,_,_⟩ _;refine YG.mk (fun hb=>by(try(have hc:=And.left hb;have hb:=And.right hb;rw[hc]));(try rw[hb]);exact zcI (q3) (fun w' hw'=>hw0.keep hw'.ext) ⟨rfl,rfl,rfl,rfl,rfl,rfl⟩ (by decide +kernel)) ?_)|(show YK _ _ _ _ _ ⟨some 64,.call { callee:=.value (.func 93),args:=_,argTypes:=_ },_,_,_,_⟩ _;refine YK.mk (zcI (q4) (fun w' hw'=>hw0.keep hw'.ext) ⟨rfl,rfl,rfl,rfl,rfl,rfl⟩ (by decide +kernel)) ?_)|(show YG _ _ _ _ _ _ ⟨some 64,.call { callee:=.value (.func 93),args:=_,argTypes:=_ },_,_,_,_⟩ _;refine YG.mk (fun hb=>by(try(have hc:=And.left hb;have hb:=And.right hb;rw[hc]));(try rw[hb]);exact zcI (q4) (fun w' hw'=>hw0.keep hw'.ext) ⟨rfl,rfl,rfl,rfl,rfl,rfl⟩ (by decide +kernel)) ?_)|(show YK _ _ _ _ _ _ _;first|refine YK.mk (zcA (q1) ⟨rfl,rfl⟩) ?_|refine YK.mk (zcA (q2) ⟨rfl,rfl⟩) ?_)|(refine nxV ?_)|(refine nSS ?_)|(refine nS1 fun _=>?_)|(refine nMM ?_)|(refine nM1 fun _=>?_)|(show YG _ _ _ _ _ _ _ _;refine YG.mk (fun hb=>by(try(have hc:=And.left hb;have hb:=And.right hb;rw[hc]));(try rw[hb]);first|exact(zcA (q1) ⟨rfl,rfl⟩)|exact(zcA (q2) ⟨rfl,rfl⟩)|exact V.y vAuto) ?_)|(refine nxG ?_)|(refine G.mA 1 [.go 0,.go 1,.go 3,.go 4,.go 2,.go 5,.go 6,.go 7] ?_)|(refine G.mA 11 [.go 0,.go 1,.go 2,.go 3,.go 4,.go 6,.go 7,.go 8,.go 9,.go 11,.go 12,.go 13,.go 14,.go 17,.go 5,.go 10,.go 15,.go 16,.go 18,.go 19] ?_)|(refine nxX ?_)|(refine G.cN rfl (fun hc=>?_) (fun hc=>?_)<;>(try first|exact hc.elim|(exfalso;omega))))
    all_goals first
     |(exfalso;simp at hc;done)
     |(exfalso;omega)
     |exact X.ret (vs:=[_,_]) rfl ⟨⟨_,_,_,_,rfl,(by exact memA),lenA,by decide +kernel,rfl⟩,rfl,rfl⟩ rfl rE
  ·rw[if_pos hr]
   obtain rfl:=e1.resolve_left hr
   refine enter0 Tryz.func44 rfl rfl rfl ?_
   repeat' (first|(refine nxN ?_)|(show YK _ _ _ _ _ ⟨_,.build 45 #[],_,_,_,_⟩ _;refine YK.ofV (y_build (parts:=[]) (vs:=[]) (by rfl) geo_z) ?_)|(show YK _ _ _ _ _ ⟨some 48,.call { callee:=.value (.func 93),args:=_,argTypes:=_ },_,_,_,_⟩ _;refine YK.mk (zcI (q3) (fun w' hw'=>hw0.keep hw'.ext) ⟨rfl,rfl,rfl,rfl,rfl,rfl⟩ (by decide +kernel)) ?_)|(show YG _ _ _ _ _ _ ⟨some 48,.call { callee:=.value (.func 93),args:=_,argTypes:=_ },_,_,_,_⟩ _;refine YG.mk (fun hb=>by(try(have hc:=And.left hb;have hb:=And.right hb;rw[hc]));(try rw[hb]);exact zcI (q3) (fun w' hw'=>hw0.keep hw'.ext) ⟨rfl,rfl,rfl,rfl,rfl,rfl⟩ (by decide +kernel)) ?_)|(show YK _ _ _ _ _ _ _;first|refine YK.mk (zcA (q1) ⟨rfl,rfl⟩) ?_|refine YK.mk (zcA (q2) ⟨rfl,rfl⟩) ?_)|(refine nxV ?_)|(refine nSS ?_)|(refine nS1 fun _=>?_)|(refine nMM ?_)|(refine nM1 fun _=>?_)|(show YG _ _ _ _ _ _ _ _;refine YG.mk (fun hb=>by(try(have hc:=And.left hb;have hb:=And.right hb;rw[hc]));(try rw[hb]);first|exact(zcA (q1) ⟨rfl,rfl⟩)|exact(zcA (q2) ⟨rfl,rfl⟩)|exact V.y vAuto) ?_)|(refine nxG ?_)|(refine G.mA 1 [.go 0,.go 1,.go 3,.go 4,.go 2,.go 5,.go 6,.go 7] ?_)|(refine G.mA 11 [.go 0,.go 1,.go 2,.go 3,.go 4,.go 6,.go 7,.go 8,.go 9,.go 11,.go 12,.go 13,.go 14,.go 17,.go 5,.go 10,.go 15,.go 16,.go 18,.go 19] ?_)|(refine nxX ?_)|(refine G.cN rfl (fun hc=>?_) (fun hc=>?_)<;>(try first|exact hc.elim|(exfalso;omega))))
   all_goals first
    |(exfalso;simp at hc;done)
    |(exfalso;omega)
    |exact X.ret (vs:=[_,_]) rfl ⟨⟨_,_,_,_,rfl,(by exact memA),lenA,by decide +kernel,rfl⟩,rfl,rfl⟩ rfl rE
end
end Go.Proofs.YtjmdeplmenbmmaaGreat
namespace Go.Proofs
open Go.Shelf
def Tryz.sortStr_ren:Go.Shelf.Ren:=⟨fun|54=>84|64=>149|65=>148|78=>198|79=>199|80=>189|81=>190|82=>191|83=>192|84=>193|85=>194|61=>195|86=>196|87=>197|93=>221|89=>222|90=>223|94=>224|95=>225|69=>226|97=>245|n=>n,fun|25=>89|26=>9|3=>3|51=>180|0=>0|67=>25|69=>219|4=>4|61=>211|60=>210|44=>191|5=>5|9=>9|75=>238|79=>242|83=>260|84=>181|n=>n,fun|n=>n⟩
theorem Tryz.sortStr:Go.Proofs.SlLaysN.n54 Tryz.prog Tryz.sortStr_ren:={
 mixed:=by kernel_rfl
 f54:=⟨Tryz.f84.name,by decide,Tryz.func84.trans (congrArg some (by kernel_rfl))⟩
 f61:=⟨Tryz.f195.name,by decide,Tryz.func195.trans (congrArg some (by kernel_rfl))⟩
 f64:=Tryz.func149.trans (congrArg some (by kernel_rfl))
 f65:=⟨Tryz.f148.name,by decide,Tryz.func148.trans (congrArg some (by kernel_rfl))⟩
 f69:=⟨Tryz.f226.name,by decide,Tryz.func226.trans (congrArg some (by kernel_rfl))⟩
 f78:=Tryz.func198.trans (congrArg some (by kernel_rfl))
 f79:=Tryz.func199.trans (congrArg some (by kernel_rfl))
 f80:=⟨Tryz.f189.name,by decide,Tryz.func189.trans (congrArg some (by kernel_rfl))⟩
 f81:=⟨Tryz.f190.name,by decide,Tryz.func190.trans (congrArg some (by kernel_rfl))⟩
 f82:=⟨Tryz.f191.name,by decide,Tryz.func191.trans (congrArg some (by kernel_rfl))⟩
 f83:=⟨Tryz.f192.name,by decide,Tryz.func192.trans (congrArg some (by kernel_rfl))⟩
 f84:=⟨Tryz.f193.name,by decide,Tryz.func193.trans (congrArg some (by kernel_rfl))⟩
 f85:=⟨Tryz.f194.name,by decide,Tryz.func194.trans (congrArg some (by kernel_rfl))⟩
 f86:=⟨Tryz.f196.name,by decide,Tryz.func196.trans (congrArg some (by kernel_rfl))⟩
 f87:=⟨Tryz.f197.name,by decide,Tryz.func197.trans (congrArg some (by kernel_rfl))⟩
 f89:=Tryz.func222.trans (congrArg some (by kernel_rfl))
 f90:=Tryz.func223.trans (congrArg some (by kernel_rfl))
 f93:=⟨Tryz.f221.name,by decide,Tryz.func221.trans (congrArg some (by kernel_rfl))⟩
 f94:=⟨Tryz.f224.name,by decide,Tryz.func224.trans (congrArg some (by kernel_rfl))⟩
 f95:=⟨Tryz.f225.name,by decide,Tryz.func225.trans (congrArg some (by kernel_rfl))⟩
 f97:=⟨Tryz.f245.name,by decide,Tryz.func245.trans (congrArg some (by kernel_rfl))⟩
 t0:=Tryz.underlying0
 a0:=Tryz.isAgg0
 z0:=Tryz.sizeOf0
 v0:=Tryz.zeroValue0
 t3:=Tryz.underlying3
 a3:=Tryz.isAgg3
 z3:=Tryz.sizeOf3
 v3:=Tryz.zeroValue3
 t4:=Tryz.underlying4
 a4:=Tryz.isAgg4
 z4:=Tryz.sizeOf4
 v4:=Tryz.zeroValue4
 t5:=Tryz.underlying5
 a5:=Tryz.isAgg5
 z5:=Tryz.sizeOf5
 v5:=Tryz.zeroValue5
 t9:=Tryz.underlying9
 a9:=Tryz.isAgg9
 z9:=Tryz.sizeOf9
 v9:=Tryz.zeroValue9
 t25:=Tryz.underlying89
 a25:=Tryz.isAgg89
 z25:=Tryz.sizeOf89
 v25:=Tryz.zeroValue89
 t26:=Tryz.underlying9
 a26:=Tryz.isAgg9
 z26:=Tryz.sizeOf9
 v26:=Tryz.zeroValue9
 t44:=Tryz.underlying191
 a44:=Tryz.isAgg191
 z44:=Tryz.sizeOf191
 v44:=Tryz.zeroValue191
 t51:=Tryz.underlying180
 a51:=Tryz.isAgg180
 z51:=Tryz.sizeOf180
 v51:=Tryz.zeroValue180
 t60:=Tryz.underlying210
 a60:=Tryz.isAgg210
 z60:=Tryz.sizeOf210
 v60:=Tryz.zeroValue210
 t61:=Tryz.underlying211
 a61:=Tryz.isAgg211
 z61:=Tryz.sizeOf211
 v61:=Tryz.zeroValue211
 t67:=Tryz.underlying25
 a67:=Tryz.isAgg25
 z67:=Tryz.sizeOf25
 v67:=Tryz.zeroValue25
 t69:=Tryz.underlying219
 a69:=Tryz.isAgg219
 z69:=Tryz.sizeOf219
 v69:=Tryz.zeroValue219
 t75:=Tryz.underlying238
 a75:=Tryz.isAgg238
 z75:=Tryz.sizeOf238
 v75:=Tryz.zeroValue238
 t79:=Tryz.underlying242
 a79:=Tryz.isAgg242
 z79:=Tryz.sizeOf242
 v79:=Tryz.zeroValue242
 t83:=Tryz.underlying260
 a83:=Tryz.isAgg260
 z83:=Tryz.sizeOf260
 v83:=Tryz.zeroValue260
 t84:=Tryz.underlying181
 a84:=Tryz.isAgg181
 z84:=Tryz.sizeOf181
 v84:=Tryz.zeroValue181 }
end Go.Proofs
namespace Go.Proofs
open Go.Shelf
def Tryz.lays194_ren:Go.Shelf.Ren:=⟨fun|194=>85|n=>n,fun|31=>89|9=>9|3=>3|4=>4|0=>0|n=>n,fun|n=>n⟩
theorem Tryz.lays194:Go.Proofs.Lays.n194 Tryz.prog Tryz.lays194_ren:={
 mixed:=by kernel_rfl
 f194:=Tryz.func85.trans (congrArg some (by kernel_rfl))
 t0:=Tryz.underlying0
 a0:=Tryz.isAgg0
 z0:=Tryz.sizeOf0
 v0:=Tryz.zeroValue0
 t3:=Tryz.underlying3
 a3:=Tryz.isAgg3
 z3:=Tryz.sizeOf3
 v3:=Tryz.zeroValue3
 t4:=Tryz.underlying4
 a4:=Tryz.isAgg4
 z4:=Tryz.sizeOf4
 v4:=Tryz.zeroValue4
 t9:=Tryz.underlying9
 a9:=Tryz.isAgg9
 z9:=Tryz.sizeOf9
 v9:=Tryz.zeroValue9
 t31:=Tryz.underlying89
 a31:=Tryz.isAgg89
 z31:=Tryz.sizeOf89
 v31:=Tryz.zeroValue89 }
open Go.RowKit Go.Lib Go.Sort in
theorem Tryz.slices_Compact_string (blk off cap:Nat) (zs:List (List UInt8)) (w:World) (hH:Holds encStr w blk off zs.toArray) (hsz:zs.length≤9223372036854775807) (hcap:zs.length≤cap) :
  Calls Tryz.prog 85 #[.slice (some ⟨blk,off,none⟩) zs.length cap] w fun e w'=>e=.returned (.slice (some ⟨blk,off,none⟩) (Lib.compact zs).length cap)∧∃q,w'=putRow encStr (Sort.ahead w q) blk off (Lib.compact zs++List.replicate (zs.length-(Lib.compact zs).length) []).toArray:=Any.slices_Compact_string Tryz.lays194 blk off cap zs w hH hsz hcap
open Go.RowKit Go.Lib Go.Sort in
theorem Tryz.slices_Compact_string_empty (a:Option Addr) (cap:Nat) (w:World) :
  Calls Tryz.prog 85 #[.slice a 0 cap] w fun e w'=>e=.returned (.slice a 0 cap)∧w'=w:=Any.slices_Compact_string_empty Tryz.lays194 a cap w
end Go.Proofs
