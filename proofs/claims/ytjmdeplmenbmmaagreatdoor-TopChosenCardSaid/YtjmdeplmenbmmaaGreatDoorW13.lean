/- Joined texts: ABr2, Wkw, Gwk, Gdr, Dir, Pck, Ixn. -/
import Derived.Test.YtjmdeplmenbmmaaGreatDoorW12
import Derived.Test.YtjmdeplmenbmmaaGreatDoorW10
import Derived.Test.YtjmdeplmenbmmaaGreatDoorW09
import Derived.Test.YtjmdeplmenbmmaaGreatDoorW11
import Derived.Test.YtjmdeplmenbmmaaGreatDoorW08
import Derived.Test.YtjmdeplmenbmmaaGreatDoorV07
import Derived.Test.YtjmdeplmenbmmaaGreatDoorV06
set_option linter.unusedVariables false
set_option maxHeartbeats 8000000
namespace Go.Proofs.YtjmdeplmenbmmaaGreatDoor
open Go.RowKit
section
variable {P:Program} {n:Nat} {L:FL} {w0:World} {H:List Hl} {v:Value} {d:Option Tmp} {ty:TypeId} {pos:String} {af:Array Edge} {gd:Option (Nat×Bool)} {x y:Operand} {k:IntKind} {m:Int} {t:TypeId}
def arrayR (P:Program) (t:TypeId) (len c:Nat):Bool:=match P.underlying t with
 |some (.array l e)=>l==len&&rowB P e c
 |_=>false
theorem y_indexRow {cs us:List Value} {i len c:Nat} (hx:evO L x=some (.agg cs.toArray)) (hy:evO L y=some (.int k m)) (hi:m=(i:Int)) (hv:(cs.drop (i*c)).take c=us) (ha:arrayR P t len c=true) (hl:Nat.blt i len=true) :
  V P n L w0 H ⟨d,.index t x y,ty,pos,af,gd⟩ (.agg us.toArray):=by
 unfold V
 intro a w hfr _
 unfold arrayR at ha
 cases hu:P.underlying t with
 |none=>simp[hu] at ha
 |some dsc =>
  cases dsc<;>simp[hu] at ha
  rename_i l e
  obtain⟨rfl,hs⟩:=ha
  subst hi
  have hlt:i<l:=by simpa [Nat.blt_eq] using hl
  subst hv
  have e1:cs.toArray.extract (i*c) (i*c+c)=((cs.drop (i*c)).take c).toArray:=by
   simp[List.extract_toArray]
  simp[execOp,hfr.eval hx,hfr.eval hy,Instr.index,asIntOf,run_underlying hu,hlt,part,run_isAgg_true hs,run_sizeOf_of (info_of_rowB hs)]
theorem y_indexArrR {b i len c o:Nat} (hx:evO L x=some (.pointer (some ⟨b,0,none⟩))) (hy:evO L y=some (.int k m)) (hm:m=(i:Int)) (ht:arrayR P t len c=true) (hi:Nat.blt i len=true) (ho:i*c=o) :
  V P n L w0 H ⟨d,.indexAddr t x y,ty,pos,af,gd⟩ (.pointer (some ⟨b,o,none⟩)):=by
 subst ho
 unfold V
 intro a w ha hw
 unfold arrayR at ht
 cases hu:P.underlying t with
 |none=>simp[hu] at ht
 |some dsc =>
  cases dsc<;>simp[hu] at ht
  rename_i l e
  obtain⟨rfl,hs⟩:=ht
  subst hm
  have hlt:i<l:=by simpa [Nat.blt_eq] using hi
  have hadd:(⟨b,0,none⟩:Addr).add (i*c)=⟨b,i*c,none⟩:=by unfold Addr.add;split<;>simp_all
  simp[execOp,ha.eval hx,ha.eval hy,Instr.indexAt,asIntOf,Instr.sureAddr,run_underlying hu,hlt,run_sizeOf_of (info_of_rowB hs),hadd]
end
theorem corners_built (a b c d e f g h:Int):Tryz.prog.built 213 [(0,ptV a b),(1,ptV c d),(2,ptV e f),(3,ptV g h)]=some [Value.int .i64 a,Value.int .i64 b,Value.int .i64 c,Value.int .i64 d,Value.int .i64 e,Value.int .i64 f,Value.int .i64 g,Value.int .i64 h].toArray:=by kernel_rfl
abbrev in31 (a:Int):Prop:=-2147483648≤a∧a≤2147483648
theorem Bearing_c {y x:Int×Int} (hy : -2147483648≤y.1∧y.1≤y.2∧y.2≤2147483648) (hx : -2147483648≤x.1∧x.1≤x.2∧x.2≤2147483648):Cont Tryz.prog 110 [arcV y.1 y.2,arcV x.1 x.2] (.tuple [arcV (TT.brgI y x).1 (TT.brgI y x).2,.int .i64 0].toArray):=fun w=>by
 have q1:=fvalid_t (lo:=x.1) (hi:=x.2) hx
 have q2:=fvalid_t (lo:=y.1) (hi:=y.2) hy
 by_cases hz:x.1≤0∧0≤x.2∧y.1≤0∧0≤y.2
 ·have e:TT.brgI y x=(0,21600000):=if_pos hz
  rw[e]
  refine enter0 Tryz.func110 rfl rfl rfl ?_
  repeat' (first|(show YK _ _ _ _ _ _ _;first|refine YK.mk (zcA (q1) ⟨rfl,rfl⟩) ?_|refine YK.mk (zcA (q2) ⟨rfl,rfl⟩) ?_)|(refine nxV ?_)|(refine nSS ?_)|(refine nS1 fun _=>?_)|(refine nxG ?_)|(refine nxX ?_)|(refine G.cN rfl (fun hc=>?_) (fun hc=>?_)<;>(try first|exact hc.elim|(exfalso;omega))))
  all_goals first
   |(exfalso;omega)
   |exact X.ret (vs:=[_,_]) rfl ⟨⟨_,_,_,_,rfl,(by exact memA),lenA,by decide +kernel,rfl⟩,rfl,rfl⟩ rfl rE
 ·have e:TT.brgI y x=TT.arcI (TT.fstI (x.1,y.1) (TT.corners y x)) (TT.lstI (x.1,y.1) (TT.corners y x)):=if_neg hz
  rw[e]
  obtain⟨x1,x2⟩:=x
  obtain⟨y1,y2⟩:=y
  dsimp only at *
  refine enter0 Tryz.func110 rfl rfl rfl ?_
  repeat' (first|(show YK _ _ _ _ _ ⟨_,.build 213 _,_,_,_,_⟩ _;refine YK.ofV (y_build (parts:=[(0,_),(1,_),(2,_),(3,_)]) (vs:=[_,_,_,_]) ⟨rfl,rfl,rfl,rfl,rfl⟩ (corners_built _ _ _ _ _ _ _ _)) ?_)|(show VK _ _ _ _ _ ⟨_,.indexAddr 213 _ _,_,_,_,_⟩ _;refine VK.mk (y_indexArrR (i:=0) (len:=4) (c:=2) (o:=0) rfl rfl rfl (by decide +kernel) rfl rfl) ?_)|(show VK _ _ _ _ _ ⟨_,.load 212 _,_,_,_,_⟩ _;refine VK.mk (zlP (k:=2) (by rfl) (by exact memA) (by decide +kernel) (by rfl)) ?_)|(show YK _ _ _ _ _ _ _;first|refine YK.mk (zcA (q1) ⟨rfl,rfl⟩) ?_|refine YK.mk (zcA (q2) ⟨rfl,rfl⟩) ?_)|(refine nxV ?_)|(refine nSS ?_)|(refine nS1 fun _=>?_)|(refine nMM ?_)|(refine nM1 fun _=>?_)|(refine nxG ?_)|(refine G.mA 6 [.go 0,.go 1,.go 2,.go 3,.pend 4,.pend 5,.done,.done,.go 6,.go 7] ?_)|(refine nxX ?_)|(refine G.cN rfl (fun hc=>?_) (fun hc=>?_)<;>(try first|exact hc.elim|(exfalso;omega))))
  rename_i b2 b3 b4 hcT b6 b8 b7
  have hc0:¬(x1=0∧y1=0):=by omega
  refine G.loop (ι:=Nat×(Int×Int)×(Int×Int)) (fun s=>[(4,.pointer (some ⟨b4,0,none⟩)),(5,.int .i64 0),(7,.pointer (some ⟨b7,0,none⟩)),(8,.pointer (some ⟨b8,0,none⟩)),(68,.agg [.int .i64 x1,.int .i64 y1,.int .i64 x1,.int .i64 y2,.int .i64 x2,.int .i64 y1,.int .i64 x2,.int .i64 y2].toArray),(69,.int .i64 (s.1:Int))])
   (fun s=>[Hl.blk b7 212 [.int .i64 s.2.1.1,.int .i64 s.2.1.2],Hl.blk b8 212 [.int .i64 s.2.2.1,.int .i64 s.2.2.2],Hl.blk b4 34 [.int .i64 0,.int .i64 0]])
   (fun s=>s.1≤4∧s.2.1=TT.fstI (x1,y1) ((TT.corners (y1,y2) (x1,x2)).take s.1)∧s.2.2=TT.lstI (x1,y1) ((TT.corners (y1,y2) (x1,x2)).take s.1)∧(s.2.1∈TT.corners (y1,y2) (x1,x2))∧(s.2.2∈TT.corners (y1,y2) (x1,x2))) (fun s=>4-s.1) (0,(x1,y1),(x1,y1)) ⟨Nat.zero_le _,rfl,rfl,List.Mem.head _,List.Mem.head _⟩ ⟨rfl,rfl,rfl,rfl,rfl,rfl,trivial⟩ (by exact fun w h=>h.sub subS) ?_
  rintro⟨i,f,l⟩ mx ⟨g1,g2,g3,g4,g5⟩ hmx
  dsimp only at g1 g2 g3 g4 g5 hmx ⊢
  have bd:∀p∈TT.corners (y1,y2) (x1,x2),(in31 p.1∧in31 p.2)∧(p.1≠0∨p.2≠0):=by
   refine TT.corners_P ?_ ?_ ?_ ?_<;>(dsimp only;omega)
  obtain⟨bf,nf⟩:=bd f g4
  obtain⟨bl,nl⟩:=bd l g5
  have hcase:i=4∨i=0∨i=1∨i=2∨i=3:=by omega
  rcases hcase with rfl|hi
  ·have ef:f=TT.fstI (x1,y1) (TT.corners (y1,y2) (x1,x2)):=g2
   have el:l=TT.lstI (x1,y1) (TT.corners (y1,y2) (x1,x2)):=g3
   rw[←ef,←el]
   clear g2 g3 ef el bd g4 g5
   have a1:=TT.angI_bd f
   have a2:=TT.angI_bd l
   unfold TT.arcI
   obtain⟨fx,fy⟩:=f
   obtain⟨lx,ly⟩:=l
   have q3:=angle_c (x:=fx) (y:=fy) bf.1 bf.2 nf
   have q4:=angle_c (x:=lx) (y:=ly) bl.1 bl.2 nl
   generalize TT.angI (fx,fy)=aF at *
   generalize TT.angI (lx,ly)=aL at *
   generalize TT.exI (fx,fy)=eF at *
   dsimp only at *
   cases hE:TT.exI (lx,ly) with
   |true =>
    rw[hE] at q4
    repeat' (first|(show YK _ _ _ _ _ _ _;first|refine YK.mk (zcA (q3) ⟨rfl,rfl⟩) ?_|refine YK.mk (zcA (q4) ⟨rfl,rfl⟩) ?_)|(refine nxV ?_)|(refine nSS ?_)|(refine nxX ?_)|(refine G.cN rfl (fun hc=>?_) (fun hc=>?_)<;>(try first|exact hc.elim|(exfalso;omega))))
    all_goals (refine X.ret (vs:=[_,_]) rfl ⟨⟨_,_,_,_,rfl,(by exact memA),lenA,by decide +kernel,rfl⟩,rfl,rfl⟩ rfl (fun w hw=>⟨?_,hw.ext⟩);refine congrArg (fun z=>Ending.returned (Value.tuple [arcV aF z,.int .i64 0].toArray)) ?_;rw[if_pos rfl];split<;>omega)
   |false =>
    rw[hE] at q4
    repeat' (first|(show YK _ _ _ _ _ _ _;first|refine YK.mk (zcA (q3) ⟨rfl,rfl⟩) ?_|refine YK.mk (zcA (q4) ⟨rfl,rfl⟩) ?_)|(refine nxV ?_)|(refine nSS ?_)|(refine nxX ?_)|(refine G.cN rfl (fun hc=>?_) (fun hc=>?_)<;>(try first|exact hc.elim|(exfalso;omega))))
    all_goals (refine X.ret (vs:=[_,_]) rfl ⟨⟨_,_,_,_,rfl,(by exact memA),lenA,by decide +kernel,rfl⟩,rfl,rfl⟩ rfl (fun w hw=>⟨?_,hw.ext⟩);refine congrArg (fun z=>Ending.returned (Value.tuple [arcV aF z,.int .i64 0].toArray)) ?_;rw[if_neg (show ¬(false=true) by decide)];split<;>omega)
  ·have key:∀cx cy:Int,(cx,cy)∈TT.corners (y1,y2) (x1,x2)→Cont Tryz.prog 173 [ptV cx cy,ptV f.1 f.2] (.bool (TT.befI (cx,cy) f))∧Cont Tryz.prog 173 [ptV l.1 l.2,ptV cx cy] (.bool (TT.befI l (cx,cy))):=fun cx cy hm=>by
    obtain⟨bc,_⟩:=bd _ hm
    exact⟨before_c (p:=(cx,cy)) (q:=f) ⟨bc.1.1,bc.1.2,bc.2.1,bc.2.2⟩ ⟨bf.1.1,bf.1.2,bf.2.1,bf.2.2⟩,before_c (p:=l) (q:=(cx,cy)) ⟨bl.1.1,bl.1.2,bl.2.1,bl.2.2⟩ ⟨bc.1.1,bc.1.2,bc.2.1,bc.2.2⟩⟩
   obtain⟨cx,cy,hm,hdrop,hfs,hls⟩:∃cx cy:Int,(cx,cy)∈TT.corners (y1,y2) (x1,x2)∧(([Value.int .i64 x1,.int .i64 y1,.int .i64 x1,.int .i64 y2,.int .i64 x2,.int .i64 y1,.int .i64 x2,.int .i64 y2].drop (i*2)).take 2=[.int .i64 cx,.int .i64 cy])∧TT.fstI (x1,y1) ((TT.corners (y1,y2) (x1,x2)).take (i+1))=(if TT.befI (cx,cy) f=true then (cx,cy) else f)∧TT.lstI (x1,y1) ((TT.corners (y1,y2) (x1,x2)).take (i+1))=(if TT.befI l (cx,cy)=true then (cx,cy) else l):=by
    rcases hi with rfl|rfl|rfl|rfl
    ·exact⟨x1,y1,.head _,rfl,by rw[g2];rfl,by rw[g3];rfl⟩
    ·exact⟨x1,y2,.tail _ (.head _),rfl,by rw[g2];rfl,by rw[g3];rfl⟩
    ·exact⟨x2,y1,.tail _ (.tail _ (.head _)),rfl,by rw[g2];rfl,by rw[g3];rfl⟩
    ·exact⟨x2,y2,.tail _ (.tail _ (.tail _ (.head _))),rfl,by rw[g2];rfl,by rw[g3];rfl⟩
   obtain⟨q3,q4⟩:=key cx cy hm
   have hi4:Nat.blt i 4=true:=by rcases hi with rfl|rfl|rfl|rfl<;>rfl
   have hlt:(i:Int)<4:=by omega
   clear key g2 g3
   cases h1:TT.befI (cx,cy) f<;>cases h2:TT.befI l (cx,cy)<;>rw[h1] at q3 hfs<;>rw[h2] at q4 hls
   all_goals (
    repeat' (first|(show YK _ _ _ _ _ ⟨_,.index 213 _ _,_,_,_,_⟩ _;refine YK.ofV (y_indexRow (i:=i) (len:=4) (c:=2) rfl rfl rfl hdrop (by decide +kernel) hi4) ?_)|(show YK _ _ _ _ _ _ _;first|refine YK.mk (zcA (q3) ⟨rfl,rfl,rfl⟩) ?_|refine YK.mk (zcA (q4) ⟨rfl,rfl,rfl⟩) ?_)|(refine nxV ?_)|(refine nSS ?_)|(refine nS1 fun _=>?_)|(refine nxX ?_)|(refine G.cN rfl (fun hc=>?_) (fun hc=>?_)<;>(try first|exact hc.elim|(exfalso;omega)))))
   all_goals (first|rw[if_pos rfl] at hfs|rw[if_neg (by decide)] at hfs)
   all_goals (first|rw[if_pos rfl] at hls|rw[if_neg (by decide)] at hls)
   all_goals first
    |exact X.again (i+1,f,l) ⟨by dsimp only;omega,hfs.symm,hls.symm,g4,g5⟩ (by dsimp only;omega) ⟨rfl,rfl,rfl,rfl,rfl,congrArg some (congrArg (Value.int .i64) (by dsimp only;omega)),trivial⟩ (by exact fun w h=>h.sub subS)
    |exact X.again (i+1,f,(cx,cy)) ⟨by dsimp only;omega,hfs.symm,hls.symm,g4,hm⟩ (by dsimp only;omega) ⟨rfl,rfl,rfl,rfl,rfl,congrArg some (congrArg (Value.int .i64) (by dsimp only;omega)),trivial⟩ (by exact fun w h=>h.sub subS)
    |exact X.again (i+1,(cx,cy),l) ⟨by dsimp only;omega,hfs.symm,hls.symm,hm,g5⟩ (by dsimp only;omega) ⟨rfl,rfl,rfl,rfl,rfl,congrArg some (congrArg (Value.int .i64) (by dsimp only;omega)),trivial⟩ (by exact fun w h=>h.sub subS)
    |exact X.again (i+1,(cx,cy),(cx,cy)) ⟨by dsimp only;omega,hfs.symm,hls.symm,hm,hm⟩ (by dsimp only;omega) ⟨rfl,rfl,rfl,rfl,rfl,congrArg some (congrArg (Value.int .i64) (by dsimp only;omega)),trivial⟩ (by exact fun w h=>h.sub subS)
theorem setCell_same {w:World} {b:Nat} {v:Value} {t:TypeId} (h:w.heap[b]?=some (.cells #[v] t (0,0))):w.setCell ⟨b,0,none⟩ v=w:=by
 obtain⟨hb,e⟩:=Array.getElem?_eq_some_iff.1 h
 unfold World.setCell
 have hm:w.heap.modify b (fun
   |.cells c elem frozen=>.cells (if (none:Option Nat).isSome then c else c.setIfInBounds 0 v) elem frozen
   |o=>o)=w.heap:=by
  refine Array.ext (by simp) fun i h1 h2=>?_
  rw[Array.getElem_modify]
  split
  ·rename_i hi
   subst hi
   rw[e]
   simp
  ·rfl
 exact congrArg (fun hp=>{ w with heap:=hp }) hm
section
variable {P:Program} {n:Nat} {L:FL} {w0:World} {H:List Hl} {Q:Exit→Act→World→Prop} {ops:Array Oper} {rest:List Oper} {ty:TypeId} {pos:String} {af:Array Edge} {x y:Operand} {t t0:TypeId} {u:Value} {b:Nat}
theorem RS.storeSame (h:RS P ops Q n L w0 H rest) (hx:evO L x=some (.pointer (some ⟨b,0,none⟩))) (hy:evO L y=some u) (hw:∀w,St w0 H w→w.heap[b]?=some (.cells #[u] t0 (0,0))) (hu:u.oneCell'=true) (hs:scalarB P t=true) :
  RS P ops Q n L w0 H (⟨none,.store t x y,ty,pos,af,none⟩::rest) :=
 RS.actX (post:=fun _:Unit=>True) (L':=fun _=>L) (H':=fun _=>H) rfl (EX.of_skip fun a w ha hw'=>by
  have hb:=hw w hw'
  have hc:w.cell? ⟨b,0,none⟩=some u:=by
   have:=cell_of_row w b 0 #[u] t0 (0,0) hb
   simpa using this
  have hf:w.frozen? ⟨b,0,none⟩=false:=by simp[World.frozen?,hb]
  have hadd:(⟨b,0,none⟩:Addr).add 0=⟨b,0,none⟩:=rfl
  have hsame:=setCell_same hb
  exact⟨w,(),by simp[execOp,ha.eval hx,ha.eval hy,Instr.storeAt,Instr.sureAddr,storeVar,oneCell_cells hu,run_sizeOf_of (info_of_scalarB hs),storeCells,hadd,run_store P w _ u _ hu,hc,hf,hsame],trivial,rfl,hw'⟩) fun _ _=>h
end
abbrev ptK (b:Nat):Value:=.pointer (some ⟨b,0,none⟩)
abbrev one31 (p:Int×Int):Prop:=-1073741824≤p.1∧p.1≤p.2∧p.2≤1073741824
theorem valI {lo hi:Int} (h : -1099511627776≤lo∧lo≤hi∧hi≤1099511627776):validI lo hi=true:=by
 unfold validI
 simp[h.1,h.2.1,h.2.2]
theorem two_of {p:Int×Int} (h:one31 p):two31 p:=by omega
abbrev lat8I (a:Int):Prop:=-5400000≤a∧a≤5400000
abbrev lon8I (a:Int):Prop:=-10800000≤a∧a<10800000
theorem place_built (a b c d:Int):Tryz.prog.built 36 [(0,.agg [.int .i64 a,.int .i64 b].toArray),(1,.agg [.int .i64 c,.int .i64 d].toArray)]=some [.int .i64 a,.int .i64 b,.int .i64 c,.int .i64 d].toArray:=by kernel_rfl
abbrev v4 (a b c d:Int):Value:=.agg [.int .i64 a,.int .i64 b,.int .i64 c,.int .i64 d].toArray
theorem pointT {la lo:Int} (h:lat8I la∧lon8I lo):Cont Tryz.prog 37 [ptV la lo] (.bool true):=by
 have:=vpoint_c la lo
 rw[show pointB la lo=true by unfold pointB;simp;omega] at this
 exact this
def lonsI (k:Int×Int):Int×Int:=if 21600000≤k.2-k.1 then (-10800000,10800000) else (signI k.1,signI k.1+k.2-k.1)
theorem gfits_c {n:Int} (h : -1099511627776≤n∧n≤1099511627776):Cont Tryz.prog 91 [.int .i64 n] (.bool true):=fun w=>by
 refine enter0 Tryz.func91 rfl rfl rfl ?_
 repeat' (first|(refine nxV ?_)|(refine nSS ?_)|(refine nxG ?_)|(refine nxX ?_)|done)
 refine X.ret (vs:=[_]) rfl ⟨rfl,rfl⟩ rfl (fun w hw=>⟨ret_bool ?_,hw.ext⟩)
 simp[h.1,h.2]
theorem gval_c {a b:Int} (h : -1099511627776≤a∧a≤b∧b≤1099511627776):Cont Tryz.prog 39 [arcV a b] (.bool true):=fun w=>by
 have q1:=gfits_c (n:=a) (by omega)
 have q2:=gfits_c (n:=b) (by omega)
 refine enter0 Tryz.func39 rfl rfl rfl ?_
 repeat' (first|(refine nxV ?_)|(refine nSS ?_)|(refine nS1 fun _=>?_)|(show YG _ _ _ _ _ _ _ _;refine YG.mk (fun hb=>by(try(have hc:=And.left hb;have hb:=And.right hb;rw[hc]));(try rw[hb]);first|exact(zcA (q1) ⟨rfl,rfl⟩)|exact(zcA (q2) ⟨rfl,rfl⟩)|exact V.y vAuto) ?_)|(refine nxX ?_)|done)
 refine X.ret (vs:=[_]) rfl ⟨rfl,rfl⟩ rfl (fun w hw=>⟨ret_bool ?_,hw.ext⟩)
 simp[h.2.1]
def lonOk (c d:Int):Prop:=(c = -10800000∧d=10800000)∨(-10800000≤c∧c<10800000∧c≤d∧d-c<21600000)
theorem pallT_c {c d:Int} (h:c = -10800000∧d=10800000):Cont Tryz.prog 113 [arcV c d] (.bool true):=fun w=>by
 have q1:=pev_c
 refine enter0 Tryz.func113 rfl rfl rfl ?_
 repeat' (first|(show YK _ _ _ _ _ _ _;refine YK.mk (zcA (q1) rfl) ?_)|(refine nxV ?_)|(refine nSS ?_)|(refine nS1 fun _=>?_)|(refine nMM ?_)|(refine G.mA 1 [.go 0,.go 1,.go 2,.go 3] ?_)|(refine nxX ?_)|done)
 refine X.ret (vs:=[_]) rfl ⟨rfl,rfl⟩ rfl (fun w hw=>⟨ret_bool ?_,hw.ext⟩)
 simp[eqCells,vEq]
 omega
theorem plonT_c {c d:Int} (h:c = -10800000∧d=10800000):Cont Tryz.prog 101 [arcV c d] (.bool true):=fun w=>by
 have q1:=pallT_c h
 obtain⟨bb,hbb⟩:∃bb:Bool,bb=true:=⟨_,rfl⟩
 rw[←hbb] at q1 ⊢
 refine enter0 Tryz.func101 rfl rfl rfl ?_
 repeat' (first|(show YK _ _ _ _ _ _ _;refine YK.mk (zcA (q1) ⟨rfl,rfl⟩) ?_)|(refine nxV ?_)|(refine nSS ?_)|(refine nS1 fun _=>?_)|(refine nxG ?_)|(refine nxX ?_)|done)
 all_goals exact X.ret (vs:=[_]) rfl ⟨rfl,rfl⟩ rfl (fun w hw=>⟨ret_bool (by simp[hbb]),hw.ext⟩)
theorem plon2_c {c d:Int} (h:lonOk c d):Cont Tryz.prog 101 [arcV c d] (.bool true):=by
 rcases h with h|h
 ·exact plonT_c h
 ·exact plon_c h
theorem pval2_c {a b c d:Int} (h : -5400000≤a∧a≤b∧b≤5400000) (hl:lonOk c d):Cont Tryz.prog 46 [v4 a b c d] (.bool true):=fun w=>by
 have q1:=plat_c h
 have q2:=plon2_c hl
 refine enter0 Tryz.func46 rfl rfl rfl ?_
 repeat' (first|(show YK _ _ _ _ _ ⟨_,.load 34 _,_,_,_,_⟩ _;refine YK.ofV (zlP (k:=2) (by rfl) (by exact memA) (by decide +kernel) (by rfl)) ?_)|(show YK _ _ _ _ _ _ _;first|refine YK.mk (zcA (q1) ⟨rfl,rfl⟩) ?_|refine YK.mk (zcA (q2) ⟨rfl,rfl⟩) ?_)|(refine nxV ?_)|(refine nSS ?_)|(refine nS1 fun _=>?_)|(refine nxX ?_)|done)
 exact X.ret1
theorem pof_c {a lo:Int} (h:lat8I a∧lon8I lo):Cont Tryz.prog 9 [ptV a lo] (.tuple [v4 a a lo lo,.int .i64 0].toArray):=fun w=>by
 have q1:=pointT h
 refine enter0 Tryz.func9 rfl rfl rfl ?_
 repeat' (first|(show YK _ _ _ _ _ ⟨_,.build 36 #[(0,_),(1,_)],_,_,_,_⟩ _;refine YK.ofV (y_build (parts:=[(0,_),(1,_)]) (vs:=[_,_]) ⟨rfl,rfl,rfl⟩ (place_built _ _ _ _)) ?_)|(show YK _ _ _ _ _ _ _;refine YK.mk (zcA (q1) ⟨rfl,rfl⟩) ?_)|(refine nxV ?_)|(refine nSS ?_)|(refine nS1 fun _=>?_)|(refine nxX ?_)|(refine G.cN rfl (fun hc=>?_) (fun hc=>?_)<;>(try first|exact hc.elim|(exfalso;omega))))
 all_goals exact X.ret (vs:=[_,_]) rfl ⟨⟨_,_,_,_,rfl,(by exact memA),lenA,by decide +kernel,rfl⟩,rfl,rfl⟩ rfl rE
theorem csize_c {n:Int} (h : -4611686018427387904≤n∧n≤4611686018427387904):Cont Tryz.prog 32 [.int .i64 n] (.int .i64 (max n (-n))):=fun w=>by
 refine enter0 Tryz.func32 rfl rfl rfl ?_
 repeat' (first|(refine nxV ?_)|(refine nSS ?_)|(refine nxX ?_)|done)
 exact X.ret1
theorem cone_c {n:Int} : Cont Tryz.prog 89 [.int .i64 n] (arcV n n):=fun w=>by
 refine enter0 Tryz.func89 rfl rfl rfl ?_
 repeat' (first|(refine nxV ?_)|(refine nSS ?_)|(refine nS1 fun _=>?_)|(refine nxX ?_)|done)
 all_goals exact X.ret (vs:=[_]) rfl ⟨⟨_,_,_,_,rfl,(by exact memA),lenA,by decide +kernel,rfl⟩,rfl⟩ rfl rE
theorem cturn_c {a b:Int} (h : -100000000≤a∧a≤100000000∧-100000000≤b∧b≤100000000):Cont Tryz.prog 34 [arcV a b] (arcV (10800000-b) (10800000-a)):=fun w=>by
 refine enter0 Tryz.func34 rfl rfl rfl ?_
 repeat' (first|(refine nxV ?_)|(refine nSS ?_)|(refine nS1 fun _=>?_)|(refine nxX ?_)|done)
 all_goals exact X.ret (vs:=[_]) rfl ⟨⟨_,_,_,_,rfl,(by exact memA),lenA,by decide +kernel,rfl⟩,rfl⟩ rfl rE
theorem RO.stay {w w':World} {v:Value} {s n:Nat} {xs:List Value} (h:RO w v s n xs) (hb:Below w.heap.size w w'):RO w' v s n xs :=
 (Hl.keep (h:=.ro false v s n xs) (base:=0) ⟨h,fun g=>by cases g⟩ fun b ho=>hb.block b (Hl.lt (h:=.ro false v s n xs) (base:=0) ⟨h,fun g=>by cases g⟩ ho)).1
structure PkW (v:Value) (l:List PtT) (b:Nat) (lim:Int) (w:World):Prop where
 ro:RO w v 2 l.length (l.flatMap cPt)
 bx:∀k u,[Value.int .i64 lim][k]?=some u→w.cell? ⟨b,k,none⟩=some u
theorem PkW.keep {v:Value} {l:List PtT} {b:Nat} {lim:Int} {w w':World} (h:PkW v l b lim w) (hw:Below w.heap.size w w'):PkW v l b lim w' :=
 ⟨h.ro.stay hw,fun k u hk=>(World.cell?_of_block (w:=w) (hw.block b (World.block_lt_of_cell? w _ (h.bx k u hk)))).trans (h.bx k u hk)⟩
abbrev bxP (b:Nat):Value:=.pointer (some ⟨b,0,none⟩)
def okPt (lim:Int) (p:PtT):Prop:=(lat8I p.1∧lon8I p.2)∧-lim≤p.1∧p.1≤lim
theorem pk1_c {p:PtT} {C:World→Prop} (h:lat8I p.1∧lon8I p.2):ContIn Tryz.prog C 82 ([ptV p.1 p.2]++(#[]:Array Value).toList) (.bool false):=fun w hs=>by
 have q1:=pointT h
 refine enter0 Tryz.func82 rfl rfl rfl ?_
 repeat' (first|(show YK _ _ _ _ _ _ _;refine YK.mk (zcA (q1) ⟨rfl,rfl⟩) ?_)|(refine nxV ?_)|(refine nSS ?_)|(refine nS1 fun _=>?_)|(refine nxX ?_)|done)
 exact X.ret (vs:=[_]) rfl ⟨rfl,rfl⟩ rfl (fun w hw=>⟨ret_bool (by simp),hw.ext⟩)
theorem pk2_c {p:PtT} {v:Value} {l:List PtT} {b:Nat} {lim:Int} (h:okPt lim p):ContIn Tryz.prog (PkW v l b lim) 83 ([ptV p.1 p.2]++(#[bxP b]:Array Value).toList) (.bool false):=fun w hs=>by
 have hb:=hs.bx
 obtain⟨h1,h2⟩:=h
 have q1:=csize_c (n:=p.1) (by omega)
 refine enter0 Tryz.func83 rfl rfl rfl ?_
 repeat' (first|(show VK _ _ _ _ _ ⟨_,.load 3 _,_,_,_,_⟩ _;refine VK.mk (y_loadX (by rfl) (hb _ _ (by rfl)) (by decide +kernel)) ?_)|(show YK _ _ _ _ _ _ _;refine YK.mk (zcA (q1) ⟨rfl,rfl⟩) ?_)|(refine nxV ?_)|(refine nSS ?_)|(refine nS1 fun _=>?_)|(refine nMM ?_)|(refine G.mA 1 [.go 0,.go 1,.go 3,.go 2,.go 4,.go 5] ?_)|(refine nxX ?_)|done)
 exact X.ret (vs:=[_]) rfl ⟨rfl,rfl⟩ rfl (fun w hw=>⟨ret_bool (by simp;omega),hw.ext⟩)
theorem pix_c {fid:Nat} {cap:Array Value} {v:Value} {l:List PtT} {b:Nat} {lim:Int} (hq:∀p∈l,ContIn Tryz.prog (PkW v l b lim) fid ([ptV p.1 p.2]++cap.toList) (.bool false)) (hgo:isGo Tryz.prog fid=true) (hl:l.length≤1000) :
  ContIn Tryz.prog (PkW v l b lim) 159 [v,.func (.func fid) #[] cap] (.int .i64 (-1)):=fun w hs=>by
 refine enter Tryz.func159 rfl rfl rfl (Hp:=[Hl.rd v cPt 2 l]) (fun h hm=>by
  rcases List.mem_singleton.1 hm with rfl
  exact⟨⟨hs.ro,fun h=>by cases h⟩,rfl⟩) ?_
 repeat' (first|(refine nxV ?_)|(refine nSS ?_)|(refine nxX ?_)|done)
 refine G.loop (ι:=Nat) (fun i=>[(0,v),(1,.func (.func fid) #[] cap),(7,.int .i64 l.length),(8,.int .i64 (i:Int))]) (fun _=>[Hl.rd v cPt 2 l]) (fun i=>i≤l.length) (fun i=>l.length-i) 0 (Nat.zero_le _) ⟨rfl,rfl,rfl,rfl,trivial⟩ (by exact fun w h=>h.sub subS) ?_
 rintro i mx g1 hmx
 (try dsimp only at g1 hmx ⊢)
 rcases Nat.lt_or_ge i l.length with hi|hi
 ·have hm:nth l (i:Int)∈l:=by
   unfold nth
   rw[Int.toNat_natCast,List.getD_eq_getElem?_getD,List.getElem?_eq_getElem hi]
   exact List.getElem_mem hi
  have q1:=hq _ hm
  repeat' (first|(show YK _ _ _ _ _ ⟨_,.call { callee:=.value _,args:=_,argTypes:=_ },_,_,_,_⟩ _;refine YK.mk (y_callV (f:=fid) (by rfl) q1 (fun w' hw'=>hs.keep hw'.ext) ⟨rfl,rfl⟩ hgo) ?_)|(refine nxV ?_)|(refine nSS ?_)|(refine nxX ?_)|(refine G.cN rfl (fun hc=>?_) (fun hc=>?_)<;>(try first|exact hc.elim|(exfalso;omega))))
  exact X.again (i+1) (by omega) (by omega) ⟨rfl,rfl,rfl,rfl,trivial⟩ (by exact fun w h=>h.sub subS)
 ·repeat' (first|(refine nxV ?_)|(refine nSS ?_)|(refine nxX ?_)|(refine G.cN rfl (fun hc=>?_) (fun hc=>?_)<;>(try first|exact hc.elim|(exfalso;omega))))
  exact X.ret1
theorem pco_c {fid:Nat} {cap:Array Value} {v:Value} {l:List PtT} {b:Nat} {lim:Int} (hq:∀p∈l,ContIn Tryz.prog (PkW v l b lim) fid ([ptV p.1 p.2]++cap.toList) (.bool false)) (hgo:isGo Tryz.prog fid=true) (hl:l.length≤1000) :
  ContIn Tryz.prog (PkW v l b lim) 81 [v,.func (.func fid) #[] cap] (.bool false):=fun w hs=>by
 have q1:=pix_c hq hgo hl
 refine enter0 Tryz.func81 rfl rfl rfl ?_
 repeat' (first|(show YK _ _ _ _ _ ⟨_,.call { callee:=.value (.func 159),args:=_,argTypes:=_ },_,_,_,_⟩ _;refine YK.mk (zcI (q1) (fun w' hw'=>hs.keep hw'.ext) ⟨rfl,rfl,rfl⟩ (by decide +kernel)) ?_)|(refine nxV ?_)|(refine nSS ?_)|(refine nxX ?_)|done)
 exact X.ret1
theorem check_c {v:Value} {l:List PtT} {lim:Int} (h:∀p∈l,okPt lim p) (hlim:1≤lim∧lim<5400000) (hl:l.length≤1000):ContR Tryz.prog [Hl.rd v cPt 2 l] 29 [.int .i64 lim,v] (.int .i64 0):=fun w hw0=>by
 have q1:=fun b=>pco_c (v:=v) (b:=b) (lim:=lim) (fid:=82) (cap:=#[]) (fun p hp=>pk1_c (h p hp).1) (by decide +kernel) hl
 have q2:=fun b=>pco_c (v:=v) (b:=b) (lim:=lim) (fid:=83) (cap:=#[bxP b]) (fun p hp=>pk2_c (h p hp)) (by decide +kernel) hl
 have hC:∀(w0:World) (H:List Hl) (b:Nat) w',St w0 H w'→RdT H v cPt 2 l→Hl.blk b 3 [.int .i64 lim]∈H→PkW v l b lim w':=fun w0 H b w' hw' hr hm=>⟨hr _ _ hw',fun k u hk=>(hw'.cell hm k).trans hk⟩
 refine enter Tryz.func29 rfl rfl rfl hw0 ?_
 repeat' (first|(show YK _ _ _ _ _ ⟨_,.call { callee:=.value (.func 81),args:=_,argTypes:=_ },_,_,_,_⟩ _;refine YK.mk (zcI (q1 _) (fun w' hw'=>hC _ _ _ _ hw' (by exact rdA) (by exact memA)) ⟨rfl,rfl,rfl⟩ (by decide +kernel)) ?_)|(show YG _ _ _ _ _ _ ⟨_,.call { callee:=.value (.func 81),args:=_,argTypes:=_ },_,_,_,_⟩ _;refine YG.mk (fun hb=>by(try(have hc:=And.left hb;have hb:=And.right hb;rw[hc]));(try rw[hb]);exact zcI (q2 _) (fun w' hw'=>hC _ _ _ _ hw' (by exact rdA) (by exact memA)) ⟨rfl,rfl,rfl⟩ (by decide +kernel)) ?_)|(refine nxV ?_)|(refine nSS ?_)|(refine nS1 fun _=>?_)|(refine nxG ?_)|(refine nxX ?_)|(refine G.cN rfl (fun hc=>?_) (fun hc=>?_)<;>(try first|exact hc.elim|(exfalso;omega))))
 all_goals first
  |(exfalso;simp at hc;omega)
  |(exfalso;omega)
  |exact X.ret1
structure SeenT where
 body:List UInt8
 h1:Int
 h2:Int
 z1:Int
 z2:Int
instance:Inhabited SeenT:=⟨⟨[],0,0,0,0⟩⟩
abbrev cSn (x:SeenT):List Value:=[strV x.body,.int .i64 x.h1,.int .i64 x.h2,.int .i64 x.z1,.int .i64 x.z2]
abbrev snV (x:SeenT):Value:=.agg [strV x.body,.int .i64 x.h1,.int .i64 x.h2,.int .i64 x.z1,.int .i64 x.z2].toArray
structure CirT where
 a:Int
 b:Int
 c:Int
 d:Int
 r1:Int
 r2:Int
instance:Inhabited CirT:=⟨⟨0,0,0,0,0,0⟩⟩
abbrev cKr (x:CirT):List Value:=[.int .i64 x.a,.int .i64 x.b,.int .i64 x.c,.int .i64 x.d,.int .i64 x.r1,.int .i64 x.r2]
abbrev krV (x:CirT):Value:=.agg [.int .i64 x.a,.int .i64 x.b,.int .i64 x.c,.int .i64 x.d,.int .i64 x.r1,.int .i64 x.r2].toArray
abbrev ctV (x:RR.CellT):Value:=celV x.lv x.r x.c
def fpos {α:Type} (p:α→Bool):List α→Int→Int
 |[],_=>-1
 |x::r,k=>if p x=true then k else fpos p r (k+1)
theorem fpos_any {α:Type} {p:α→Bool} : ∀{l:List α} {k:Int},0≤k→decide (fpos p l k≥0)=l.any p
 |[],k,_=>rfl
 |x::r,k,hk=>by
  rw[List.any_cons]
  show decide ((if p x=true then k else fpos p r (k+1))≥0)=_
  cases h:p x with
  |true=>rw[if_pos rfl,Bool.true_or];exact decide_eq_true (by omega)
  |false=>rw[if_neg (by decide),Bool.false_or];exact fpos_any (by omega)
theorem fpos_bd {α:Type} {p:α→Bool} : ∀{l:List α} {k:Int},0≤k→-1≤fpos p l k∧fpos p l k≤k+l.length
 |[],k,hk=>by show -1≤-1∧-1≤k+_;simp;omega
 |x::r,k,hk=>by
  show -1≤(if p x=true then k else fpos p r (k+1))∧(if p x=true then k else fpos p r (k+1))≤_
  have:=fpos_bd (p:=p) (l:=r) (k:=k+1) (by omega)
  rw[List.length_cons]
  split<;>omega
def Holds2 (C:World→Prop):Prop:=∀w w':World,C w→Below w.heap.size w w'→C w'
theorem ro_keep {w w':World} {v:Value} {s n:Nat} {xs:List Value} (h:RO w v s n xs) (hw:Below w.heap.size w w'):RO w' v s n xs:=RO.stay h hw
theorem ro_rd {w0 w:World} {H:List Hl} {α:Type} {f:α→List Value} {s:Nat} {l:List α} {v:Value} (hw:St w0 H w) (hr:RdT H v f s l):RO w v s l.length (l.flatMap f):=hr _ _ hw
theorem ixSn_c {C:World→Prop} (hK:Holds2 C) {fid:FuncId} {cap:Array Value} {p:SeenT→Bool} (hgo:isGo Tryz.prog fid=true) (v:Value) (l:List SeenT) (hl:l.length≤1000000) (hc:∀x∈l,ContIn Tryz.prog C fid ([snV x]++cap.toList) (.bool (p x))):ContIn Tryz.prog (fun w=>C w∧RO w v 5 l.length (l.flatMap cSn)) 49 [v,.func (.func fid) #[] cap] (.int .i64 (fpos p l 0)):=fun w hs=>by
 refine enter Tryz.func49 rfl rfl rfl (Hp:=[Hl.rd v cSn 5 l]) (fun h hm=>by
  rcases List.mem_singleton.1 hm with rfl
  exact⟨⟨hs.2,fun h=>by cases h⟩,rfl⟩) ?_
 repeat' (first|(refine nxV ?_)|(refine nSS ?_)|(refine nxX ?_)|done)
 refine G.loop (ι:=Nat) (fun i=>[(0,v),(1,.func (.func fid) #[] cap),(7,.int .i64 l.length),(8,.int .i64 (i:Int))]) (fun _=>[Hl.rd v cSn 5 l]) (fun i=>i≤l.length∧fpos p l 0=fpos p (l.drop i) i) (fun i=>l.length-i) 0 ⟨Nat.zero_le _,rfl⟩ ⟨rfl,rfl,rfl,rfl,trivial⟩ (by exact fun w h=>h.sub subS) ?_
 rintro i mx ⟨g1,g2⟩ hmx
 (try dsimp only at g1 g2 hmx ⊢)
 rcases Nat.lt_or_ge i l.length with hi|hi
 ·have hd:l.drop i=nth l (i:Int)::l.drop (i+1):=by rw[nth_mem hi,List.getElem_cons_drop]
  rw[hd] at g2
  have hm:nth l (i:Int)∈l:=by rw[nth_mem hi];exact List.getElem_mem hi
  have q2:=hc _ hm
  cases hv:p (nth l (i:Int)) with
  |false =>
   rw[hv] at q2
   repeat' (first|(show YK _ _ _ _ _ ⟨_,.call _,_,_,_,_⟩ _;refine YK.mk (y_callV (f:=fid) (by rfl) q2 (fun w' hw'=>hK _ _ hs.1 hw'.ext) ⟨rfl,rfl⟩ hgo) ?_)|(refine nxV ?_)|(refine nSS ?_)|(refine nxX ?_)|(refine G.cN rfl (fun hc=>?_) (fun hc=>?_)<;>(try first|exact hc.elim|(exfalso;omega))))
   refine X.again (i+1) ⟨by omega,?_⟩ (by omega) ⟨rfl,rfl,rfl,rfl,trivial⟩ (by exact fun w h=>h.sub subS)
   rw[g2]
   show (if p (nth l (i:Int))=true then (i:Int) else fpos p (l.drop (i+1)) ((i:Int)+1))=_
   rw[if_neg (by rw[hv];decide)];rfl
  |true =>
   rw[hv] at q2
   repeat' (first|(show YK _ _ _ _ _ ⟨_,.call _,_,_,_,_⟩ _;refine YK.mk (y_callV (f:=fid) (by rfl) q2 (fun w' hw'=>hK _ _ hs.1 hw'.ext) ⟨rfl,rfl⟩ hgo) ?_)|(refine nxV ?_)|(refine nSS ?_)|(refine nxX ?_)|(refine G.cN rfl (fun hc=>?_) (fun hc=>?_)<;>(try first|exact hc.elim|(exfalso;omega))))
   refine X.ret (vs:=[_]) rfl ⟨rfl,rfl⟩ rfl (fun w hw=>⟨?_,hw.ext⟩)
   rw[g2]
   show Ending.returned (.int .i64 (i:Int))=.returned (.int .i64 (if p (nth l (i:Int))=true then (i:Int) else fpos p (l.drop (i+1)) ((i:Int)+1)))
   rw[if_pos hv]
 ·obtain rfl:i=l.length:=by omega
  rw[List.drop_length] at g2
  repeat' (first|(refine nxV ?_)|(refine nSS ?_)|(refine nxX ?_)|(refine G.cN rfl (fun hc=>?_) (fun hc=>?_)<;>(try first|exact hc.elim|(exfalso;omega))))
  exact X.ret (vs:=[_]) rfl ⟨rfl,rfl⟩ rfl (fun w hw=>⟨by rw[g2];rfl,hw.ext⟩)
theorem coSn_c {C:World→Prop} (hK:Holds2 C) {fid:FuncId} {cap:Array Value} {p:SeenT→Bool} (hgo:isGo Tryz.prog fid=true) (v:Value) (l:List SeenT) (hl:l.length≤1000000) (hc:∀x∈l,ContIn Tryz.prog C fid ([snV x]++cap.toList) (.bool (p x))):ContIn Tryz.prog (fun w=>C w∧RO w v 5 l.length (l.flatMap cSn)) 15 [v,.func (.func fid) #[] cap] (.bool (l.any p)):=fun w hs=>by
 have q1:=ixSn_c hK hgo v l hl hc
 have e:=fpos_any (p:=p) (l:=l) (k:=0) (by omega)
 have e2:=fpos_bd (p:=p) (l:=l) (k:=0) (by omega)
 rw[←e]
 clear e
 generalize fpos p l 0=z at *
 refine enter0 Tryz.func15 rfl rfl rfl ?_
 repeat' (first|(show YK _ _ _ _ _ ⟨_,.call { callee:=.value (.func 49),args:=_,argTypes:=_ },_,_,_,_⟩ _;refine YK.mk (zcI (q1) (fun w' hw'=>⟨hK _ _ hs.1 hw'.ext,ro_keep hs.2 hw'.ext⟩) ⟨rfl,rfl,rfl⟩ (by decide +kernel)) ?_)|(refine nxV ?_)|(refine nSS ?_)|(refine nxX ?_)|done)
 exact X.ret1
theorem ixKr_c {C:World→Prop} (hK:Holds2 C) {fid:FuncId} {cap:Array Value} {p:CirT→Bool} (hgo:isGo Tryz.prog fid=true) (v:Value) (l:List CirT) (hl:l.length≤1000000) (hc:∀x∈l,ContIn Tryz.prog C fid ([krV x]++cap.toList) (.bool (p x))):ContIn Tryz.prog (fun w=>C w∧RO w v 6 l.length (l.flatMap cKr)) 246 [v,.func (.func fid) #[] cap] (.int .i64 (fpos p l 0)):=fun w hs=>by
 refine enter Tryz.func246 rfl rfl rfl (Hp:=[Hl.rd v cKr 6 l]) (fun h hm=>by
  rcases List.mem_singleton.1 hm with rfl
  exact⟨⟨hs.2,fun h=>by cases h⟩,rfl⟩) ?_
 repeat' (first|(refine nxV ?_)|(refine nSS ?_)|(refine nxX ?_)|done)
 refine G.loop (ι:=Nat) (fun i=>[(0,v),(1,.func (.func fid) #[] cap),(7,.int .i64 l.length),(8,.int .i64 (i:Int))]) (fun _=>[Hl.rd v cKr 6 l]) (fun i=>i≤l.length∧fpos p l 0=fpos p (l.drop i) i) (fun i=>l.length-i) 0 ⟨Nat.zero_le _,rfl⟩ ⟨rfl,rfl,rfl,rfl,trivial⟩ (by exact fun w h=>h.sub subS) ?_
 rintro i mx ⟨g1,g2⟩ hmx
 (try dsimp only at g1 g2 hmx ⊢)
 rcases Nat.lt_or_ge i l.length with hi|hi
 ·have hd:l.drop i=nth l (i:Int)::l.drop (i+1):=by rw[nth_mem hi,List.getElem_cons_drop]
  rw[hd] at g2
  have hm:nth l (i:Int)∈l:=by rw[nth_mem hi];exact List.getElem_mem hi
  have q2:=hc _ hm
  cases hv:p (nth l (i:Int)) with
  |false =>
   rw[hv] at q2
   repeat' (first|(show YK _ _ _ _ _ ⟨_,.call _,_,_,_,_⟩ _;refine YK.mk (y_callV (f:=fid) (by rfl) q2 (fun w' hw'=>hK _ _ hs.1 hw'.ext) ⟨rfl,rfl⟩ hgo) ?_)|(refine nxV ?_)|(refine nSS ?_)|(refine nxX ?_)|(refine G.cN rfl (fun hc=>?_) (fun hc=>?_)<;>(try first|exact hc.elim|(exfalso;omega))))
   refine X.again (i+1) ⟨by omega,?_⟩ (by omega) ⟨rfl,rfl,rfl,rfl,trivial⟩ (by exact fun w h=>h.sub subS)
   rw[g2]
   show (if p (nth l (i:Int))=true then (i:Int) else fpos p (l.drop (i+1)) ((i:Int)+1))=_
   rw[if_neg (by rw[hv];decide)];rfl
  |true =>
   rw[hv] at q2
   repeat' (first|(show YK _ _ _ _ _ ⟨_,.call _,_,_,_,_⟩ _;refine YK.mk (y_callV (f:=fid) (by rfl) q2 (fun w' hw'=>hK _ _ hs.1 hw'.ext) ⟨rfl,rfl⟩ hgo) ?_)|(refine nxV ?_)|(refine nSS ?_)|(refine nxX ?_)|(refine G.cN rfl (fun hc=>?_) (fun hc=>?_)<;>(try first|exact hc.elim|(exfalso;omega))))
   refine X.ret (vs:=[_]) rfl ⟨rfl,rfl⟩ rfl (fun w hw=>⟨?_,hw.ext⟩)
   rw[g2]
   show Ending.returned (.int .i64 (i:Int))=.returned (.int .i64 (if p (nth l (i:Int))=true then (i:Int) else fpos p (l.drop (i+1)) ((i:Int)+1)))
   rw[if_pos hv]
 ·obtain rfl:i=l.length:=by omega
  rw[List.drop_length] at g2
  repeat' (first|(refine nxV ?_)|(refine nSS ?_)|(refine nxX ?_)|(refine G.cN rfl (fun hc=>?_) (fun hc=>?_)<;>(try first|exact hc.elim|(exfalso;omega))))
  exact X.ret (vs:=[_]) rfl ⟨rfl,rfl⟩ rfl (fun w hw=>⟨by rw[g2];rfl,hw.ext⟩)
theorem coKr_c {C:World→Prop} (hK:Holds2 C) {fid:FuncId} {cap:Array Value} {p:CirT→Bool} (hgo:isGo Tryz.prog fid=true) (v:Value) (l:List CirT) (hl:l.length≤1000000) (hc:∀x∈l,ContIn Tryz.prog C fid ([krV x]++cap.toList) (.bool (p x))):ContIn Tryz.prog (fun w=>C w∧RO w v 6 l.length (l.flatMap cKr)) 198 [v,.func (.func fid) #[] cap] (.bool (l.any p)):=fun w hs=>by
 have q1:=ixKr_c hK hgo v l hl hc
 have e:=fpos_any (p:=p) (l:=l) (k:=0) (by omega)
 have e2:=fpos_bd (p:=p) (l:=l) (k:=0) (by omega)
 rw[←e]
 clear e
 generalize fpos p l 0=z at *
 refine enter0 Tryz.func198 rfl rfl rfl ?_
 repeat' (first|(show YK _ _ _ _ _ ⟨_,.call { callee:=.value (.func 246),args:=_,argTypes:=_ },_,_,_,_⟩ _;refine YK.mk (zcI (q1) (fun w' hw'=>⟨hK _ _ hs.1 hw'.ext,ro_keep hs.2 hw'.ext⟩) ⟨rfl,rfl,rfl⟩ (by decide +kernel)) ?_)|(refine nxV ?_)|(refine nSS ?_)|(refine nxX ?_)|done)
 exact X.ret1
end Go.Proofs.YtjmdeplmenbmmaaGreatDoor
