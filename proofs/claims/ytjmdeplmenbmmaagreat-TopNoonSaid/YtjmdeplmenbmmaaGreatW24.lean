/- Joined texts: ABr2, Wkw. -/
import Derived.Test.YtjmdeplmenbmmaaGreatW23
import Derived.Test.YtjmdeplmenbmmaaGreatW21
import Derived.Test.YtjmdeplmenbmmaaGreatW10
import Derived.Test.YtjmdeplmenbmmaaGreatW11
import Derived.Test.YtjmdeplmenbmmaaGreatW06
set_option linter.unusedVariables false
set_option maxHeartbeats 8000000
namespace Go.Proofs.YtjmdeplmenbmmaaGreat
open Go.RowKit
section
variable {P:Program} {n:Nat} {L:FL} {w0:World} {H:List Hl} {v:Value} {d:Option Tmp} {ty:TypeId} {pos:String} {af:Array Edge} {gd:Option (Nat×Bool)} {x y:Operand} {k:IntKind} {m:Int} {t:TypeId}
def arrayR (P:Program) (t:TypeId) (len c:Nat):Bool:=match P.underlying t with
 |some (.array l e)=>l==len&&rowB P e c
 |_=>false
theorem y_indexRow {cs us:List Value} {i len c:Nat} (hx:evO L x=some (.agg cs.toArray)) (hy:evO L y=some (.int k m)) (hi:m=(i:Int)) (hv:(cs.drop (i*c)).take c=us) (ha:arrayR P t len c=true) (hl:Nat.blt i len=true) :
  V P n L w0 H ⟨d,.index t x y,ty,pos,af,gd⟩ (.agg us.toArray):=by
 unfold V
 intro a w hfr _
 unfold arrayR at ha
 cases hu:P.underlying t with
 |none=>simp[hu] at ha
 |some dsc =>
  cases dsc<;>simp[hu] at ha
  rename_i l e
  obtain⟨rfl,hs⟩:=ha
  subst hi
  have hlt:i<l:=by simpa [Nat.blt_eq] using hl
  subst hv
  have e1:cs.toArray.extract (i*c) (i*c+c)=((cs.drop (i*c)).take c).toArray:=by
   simp[List.extract_toArray]
  simp[execOp,hfr.eval hx,hfr.eval hy,Instr.index,asIntOf,run_underlying hu,hlt,part,run_isAgg_true hs,run_sizeOf_of (info_of_rowB hs)]
theorem y_indexArrR {b i len c o:Nat} (hx:evO L x=some (.pointer (some ⟨b,0,none⟩))) (hy:evO L y=some (.int k m)) (hm:m=(i:Int)) (ht:arrayR P t len c=true) (hi:Nat.blt i len=true) (ho:i*c=o) :
  V P n L w0 H ⟨d,.indexAddr t x y,ty,pos,af,gd⟩ (.pointer (some ⟨b,o,none⟩)):=by
 subst ho
 unfold V
 intro a w ha hw
 unfold arrayR at ht
 cases hu:P.underlying t with
 |none=>simp[hu] at ht
 |some dsc =>
  cases dsc<;>simp[hu] at ht
  rename_i l e
  obtain⟨rfl,hs⟩:=ht
  subst hm
  have hlt:i<l:=by simpa [Nat.blt_eq] using hi
  have hadd:(⟨b,0,none⟩:Addr).add (i*c)=⟨b,i*c,none⟩:=by unfold Addr.add;split<;>simp_all
  simp[execOp,ha.eval hx,ha.eval hy,Instr.indexAt,asIntOf,Instr.sureAddr,run_underlying hu,hlt,run_sizeOf_of (info_of_rowB hs),hadd]
end
theorem corners_built (a b c d e f g h:Int):Tryz.prog.built 189 [(0,ptV a b),(1,ptV c d),(2,ptV e f),(3,ptV g h)]=some [Value.int .i64 a,Value.int .i64 b,Value.int .i64 c,Value.int .i64 d,Value.int .i64 e,Value.int .i64 f,Value.int .i64 g,Value.int .i64 h].toArray:=by kernel_rfl
abbrev in31 (a:Int):Prop:=-2147483648≤a∧a≤2147483648
theorem Bearing_c {y x:Int×Int} (hy : -2147483648≤y.1∧y.1≤y.2∧y.2≤2147483648) (hx : -2147483648≤x.1∧x.1≤x.2∧x.2≤2147483648):Cont Tryz.prog 117 [arcV y.1 y.2,arcV x.1 x.2] (.tuple [arcV (TT.brgI y x).1 (TT.brgI y x).2,.int .i64 0].toArray):=fun w=>by
 have q1:=fvalid_t (lo:=x.1) (hi:=x.2) hx
 have q2:=fvalid_t (lo:=y.1) (hi:=y.2) hy
 by_cases hz:x.1≤0∧0≤x.2∧y.1≤0∧0≤y.2
 ·have e:TT.brgI y x=(0,21600000):=if_pos hz
  rw[e]
  refine enter0 Tryz.func117 rfl rfl rfl ?_
  repeat' (first|(show YK _ _ _ _ _ _ _;first|refine YK.mk (zcA (q1) ⟨rfl,rfl⟩) ?_|refine YK.mk (zcA (q2) ⟨rfl,rfl⟩) ?_)|(refine nxV ?_)|(refine nSS ?_)|(refine nS1 fun _=>?_)|(refine nMM ?_)|(refine nM1 fun _=>?_)|(show YG _ _ _ _ _ _ _ _;refine YG.mk (fun hb=>by(try(have hc:=And.left hb;have hb:=And.right hb;rw[hc]));(try rw[hb]);first|exact(zcA (q1) ⟨rfl,rfl⟩)|exact(zcA (q2) ⟨rfl,rfl⟩)|exact V.y vAuto) ?_)|(refine nxG ?_)|(refine G.mA 6 [.go 0,.go 1,.go 2,.go 3,.pend 4,.pend 5,.done,.done,.go 6,.go 7] ?_)|(refine nxX ?_)|(refine G.cN rfl (fun hc=>?_) (fun hc=>?_)<;>(try first|exact hc.elim|(exfalso;omega))))
  all_goals first
   |(exfalso;omega)
   |exact X.ret (vs:=[_,_]) rfl ⟨⟨_,_,_,_,rfl,(by exact memA),lenA,by decide +kernel,rfl⟩,rfl,rfl⟩ rfl rE
 ·have e:TT.brgI y x=TT.arcI (TT.fstI (x.1,y.1) (TT.corners y x)) (TT.lstI (x.1,y.1) (TT.corners y x)):=if_neg hz
  rw[e]
  obtain⟨x1,x2⟩:=x
  obtain⟨y1,y2⟩:=y
  dsimp only at *
  refine enter0 Tryz.func117 rfl rfl rfl ?_
  repeat' (first|(show YK _ _ _ _ _ ⟨_,.build 189 _,_,_,_,_⟩ _;refine YK.ofV (y_build (parts:=[(0,_),(1,_),(2,_),(3,_)]) (vs:=[_,_,_,_]) ⟨rfl,rfl,rfl,rfl,rfl⟩ (corners_built _ _ _ _ _ _ _ _)) ?_)|(show VK _ _ _ _ _ ⟨_,.indexAddr 189 _ _,_,_,_,_⟩ _;refine VK.mk (y_indexArrR (i:=0) (len:=4) (c:=2) (o:=0) rfl rfl rfl (by decide +kernel) rfl rfl) ?_)|(show VK _ _ _ _ _ ⟨_,.load 188 _,_,_,_,_⟩ _;refine VK.mk (zlP (k:=2) (by rfl) (by exact memA) (by decide +kernel) (by rfl)) ?_)|(show YK _ _ _ _ _ _ _;first|refine YK.mk (zcA (q1) ⟨rfl,rfl⟩) ?_|refine YK.mk (zcA (q2) ⟨rfl,rfl⟩) ?_)|(refine nxV ?_)|(refine nSS ?_)|(refine nS1 fun _=>?_)|(refine nMM ?_)|(refine nM1 fun _=>?_)|(show YG _ _ _ _ _ _ _ _;refine YG.mk (fun hb=>by(try(have hc:=And.left hb;have hb:=And.right hb;rw[hc]));(try rw[hb]);first|exact(zcA (q1) ⟨rfl,rfl⟩)|exact(zcA (q2) ⟨rfl,rfl⟩)|exact V.y vAuto) ?_)|(refine nxG ?_)|(refine G.mA 6 [.go 0,.go 1,.go 2,.go 3,.pend 4,.pend 5,.done,.done,.go 6,.go 7] ?_)|(refine nxX ?_)|(refine G.cN rfl (fun hc=>?_) (fun hc=>?_)<;>(try first|exact hc.elim|(exfalso;omega))))
  rename_i b2 b3 b4 hcT b6 b8 b7
  have hc0:¬(x1=0∧y1=0):=by omega
  refine G.loop (ι:=Nat×(Int×Int)×(Int×Int)) (fun s=>[(4,.pointer (some ⟨b4,0,none⟩)),(5,.int .i64 0),(7,.pointer (some ⟨b7,0,none⟩)),(8,.pointer (some ⟨b8,0,none⟩)),(68,.agg [.int .i64 x1,.int .i64 y1,.int .i64 x1,.int .i64 y2,.int .i64 x2,.int .i64 y1,.int .i64 x2,.int .i64 y2].toArray),(69,.int .i64 (s.1:Int))])
   (fun s=>[Hl.blk b7 188 [.int .i64 s.2.1.1,.int .i64 s.2.1.2],Hl.blk b8 188 [.int .i64 s.2.2.1,.int .i64 s.2.2.2],Hl.blk b4 42 [.int .i64 0,.int .i64 0]])
   (fun s=>s.1≤4∧s.2.1=TT.fstI (x1,y1) ((TT.corners (y1,y2) (x1,x2)).take s.1)∧s.2.2=TT.lstI (x1,y1) ((TT.corners (y1,y2) (x1,x2)).take s.1)∧(s.2.1∈TT.corners (y1,y2) (x1,x2))∧(s.2.2∈TT.corners (y1,y2) (x1,x2))) (fun s=>4-s.1) (0,(x1,y1),(x1,y1)) ⟨Nat.zero_le _,rfl,rfl,List.Mem.head _,List.Mem.head _⟩ ⟨rfl,rfl,rfl,rfl,rfl,rfl,trivial⟩ (by exact fun w h=>h.sub subS) ?_
  rintro⟨i,f,l⟩ mx ⟨g1,g2,g3,g4,g5⟩ hmx
  dsimp only at g1 g2 g3 g4 g5 hmx ⊢
  have bd:∀p∈TT.corners (y1,y2) (x1,x2),(in31 p.1∧in31 p.2)∧(p.1≠0∨p.2≠0):=by
   refine TT.corners_P ?_ ?_ ?_ ?_<;>(dsimp only;omega)
  obtain⟨bf,nf⟩:=bd f g4
  obtain⟨bl,nl⟩:=bd l g5
  have hcase:i=4∨i=0∨i=1∨i=2∨i=3:=by omega
  rcases hcase with rfl|hi
  ·have ef:f=TT.fstI (x1,y1) (TT.corners (y1,y2) (x1,x2)):=g2
   have el:l=TT.lstI (x1,y1) (TT.corners (y1,y2) (x1,x2)):=g3
   rw[←ef,←el]
   clear g2 g3 ef el bd g4 g5
   have a1:=TT.angI_bd f
   have a2:=TT.angI_bd l
   unfold TT.arcI
   obtain⟨fx,fy⟩:=f
   obtain⟨lx,ly⟩:=l
   have q3:=angle_c (x:=fx) (y:=fy) bf.1 bf.2 nf
   have q4:=angle_c (x:=lx) (y:=ly) bl.1 bl.2 nl
   generalize TT.angI (fx,fy)=aF at *
   generalize TT.angI (lx,ly)=aL at *
   generalize TT.exI (fx,fy)=eF at *
   dsimp only at *
   cases hE:TT.exI (lx,ly) with
   |true =>
    rw[hE] at q4
    repeat' (first|(show YK _ _ _ _ _ _ _;first|refine YK.mk (zcA (q3) ⟨rfl,rfl⟩) ?_|refine YK.mk (zcA (q4) ⟨rfl,rfl⟩) ?_)|(refine nxV ?_)|(refine nSS ?_)|(refine nS1 fun _=>?_)|(refine nMM ?_)|(refine nM1 fun _=>?_)|(show YG _ _ _ _ _ _ _ _;refine YG.mk (fun hb=>by(try(have hc:=And.left hb;have hb:=And.right hb;rw[hc]));(try rw[hb]);first|exact(zcA (q3) ⟨rfl,rfl⟩)|exact(zcA (q4) ⟨rfl,rfl⟩)|exact V.y vAuto) ?_)|(refine nxG ?_)|(refine G.mA 6 [.go 0,.go 1,.go 2,.go 3,.pend 4,.pend 5,.done,.done,.go 6,.go 7] ?_)|(refine nxX ?_)|(refine G.cN rfl (fun hc=>?_) (fun hc=>?_)<;>(try first|exact hc.elim|(exfalso;omega))))
    all_goals (refine X.ret (vs:=[_,_]) rfl ⟨⟨_,_,_,_,rfl,(by exact memA),lenA,by decide +kernel,rfl⟩,rfl,rfl⟩ rfl (fun w hw=>⟨?_,hw.ext⟩);refine congrArg (fun z=>Ending.returned (Value.tuple [arcV aF z,.int .i64 0].toArray)) ?_;rw[if_pos rfl];split<;>omega)
   |false =>
    rw[hE] at q4
    repeat' (first|(show YK _ _ _ _ _ _ _;first|refine YK.mk (zcA (q3) ⟨rfl,rfl⟩) ?_|refine YK.mk (zcA (q4) ⟨rfl,rfl⟩) ?_)|(refine nxV ?_)|(refine nSS ?_)|(refine nS1 fun _=>?_)|(refine nMM ?_)|(refine nM1 fun _=>?_)|(show YG _ _ _ _ _ _ _ _;refine YG.mk (fun hb=>by(try(have hc:=And.left hb;have hb:=And.right hb;rw[hc]));(try rw[hb]);first|exact(zcA (q3) ⟨rfl,rfl⟩)|exact(zcA (q4) ⟨rfl,rfl⟩)|exact V.y vAuto) ?_)|(refine nxG ?_)|(refine G.mA 6 [.go 0,.go 1,.go 2,.go 3,.pend 4,.pend 5,.done,.done,.go 6,.go 7] ?_)|(refine nxX ?_)|(refine G.cN rfl (fun hc=>?_) (fun hc=>?_)<;>(try first|exact hc.elim|(exfalso;omega))))
    all_goals (refine X.ret (vs:=[_,_]) rfl ⟨⟨_,_,_,_,rfl,(by exact memA),lenA,by decide +kernel,rfl⟩,rfl,rfl⟩ rfl (fun w hw=>⟨?_,hw.ext⟩);refine congrArg (fun z=>Ending.returned (Value.tuple [arcV aF z,.int .i64 0].toArray)) ?_;rw[if_neg (show ¬(false=true) by decide)];split<;>omega)
  ·have key:∀cx cy:Int,(cx,cy)∈TT.corners (y1,y2) (x1,x2)→Cont Tryz.prog 168 [ptV cx cy,ptV f.1 f.2] (.bool (TT.befI (cx,cy) f))∧Cont Tryz.prog 168 [ptV l.1 l.2,ptV cx cy] (.bool (TT.befI l (cx,cy))):=fun cx cy hm=>by
    obtain⟨bc,_⟩:=bd _ hm
    exact⟨befA_c (p:=(cx,cy)) (q:=f) ⟨bc.1.1,bc.1.2,bc.2.1,bc.2.2⟩ ⟨bf.1.1,bf.1.2,bf.2.1,bf.2.2⟩,befA_c (p:=l) (q:=(cx,cy)) ⟨bl.1.1,bl.1.2,bl.2.1,bl.2.2⟩ ⟨bc.1.1,bc.1.2,bc.2.1,bc.2.2⟩⟩
   obtain⟨cx,cy,hm,hdrop,hfs,hls⟩:∃cx cy:Int,(cx,cy)∈TT.corners (y1,y2) (x1,x2)∧(([Value.int .i64 x1,.int .i64 y1,.int .i64 x1,.int .i64 y2,.int .i64 x2,.int .i64 y1,.int .i64 x2,.int .i64 y2].drop (i*2)).take 2=[.int .i64 cx,.int .i64 cy])∧TT.fstI (x1,y1) ((TT.corners (y1,y2) (x1,x2)).take (i+1))=(if TT.befI (cx,cy) f=true then (cx,cy) else f)∧TT.lstI (x1,y1) ((TT.corners (y1,y2) (x1,x2)).take (i+1))=(if TT.befI l (cx,cy)=true then (cx,cy) else l):=by
    rcases hi with rfl|rfl|rfl|rfl
    ·exact⟨x1,y1,.head _,rfl,by rw[g2];rfl,by rw[g3];rfl⟩
    ·exact⟨x1,y2,.tail _ (.head _),rfl,by rw[g2];rfl,by rw[g3];rfl⟩
    ·exact⟨x2,y1,.tail _ (.tail _ (.head _)),rfl,by rw[g2];rfl,by rw[g3];rfl⟩
    ·exact⟨x2,y2,.tail _ (.tail _ (.tail _ (.head _))),rfl,by rw[g2];rfl,by rw[g3];rfl⟩
   obtain⟨q3,q4⟩:=key cx cy hm
   have hi4:Nat.blt i 4=true:=by rcases hi with rfl|rfl|rfl|rfl<;>rfl
   have hlt:(i:Int)<4:=by omega
   clear key g2 g3
   cases h1:TT.befI (cx,cy) f<;>cases h2:TT.befI l (cx,cy)<;>rw[h1] at q3 hfs<;>rw[h2] at q4 hls
   all_goals (
    repeat' (first|(show YK _ _ _ _ _ ⟨_,.index 189 _ _,_,_,_,_⟩ _;refine YK.ofV (y_indexRow (i:=i) (len:=4) (c:=2) rfl rfl rfl hdrop (by decide +kernel) hi4) ?_)|(show YK _ _ _ _ _ _ _;first|refine YK.mk (zcA (q3) ⟨rfl,rfl,rfl⟩) ?_|refine YK.mk (zcA (q4) ⟨rfl,rfl,rfl⟩) ?_)|(refine nxV ?_)|(refine nSS ?_)|(refine nS1 fun _=>?_)|(refine nMM ?_)|(refine nM1 fun _=>?_)|(show YG _ _ _ _ _ _ _ _;refine YG.mk (fun hb=>by(try(have hc:=And.left hb;have hb:=And.right hb;rw[hc]));(try rw[hb]);first|exact(zcA (q3) ⟨rfl,rfl,rfl⟩)|exact(zcA (q4) ⟨rfl,rfl,rfl⟩)|exact V.y vAuto) ?_)|(refine nxG ?_)|(refine G.mA 6 [.go 0,.go 1,.go 2,.go 3,.pend 4,.pend 5,.done,.done,.go 6,.go 7] ?_)|(refine nxX ?_)|(refine G.cN rfl (fun hc=>?_) (fun hc=>?_)<;>(try first|exact hc.elim|(exfalso;omega)))))
   all_goals (first|rw[if_pos rfl] at hfs|rw[if_neg (by decide)] at hfs)
   all_goals (first|rw[if_pos rfl] at hls|rw[if_neg (by decide)] at hls)
   all_goals first
    |exact X.again (i+1,f,l) ⟨by dsimp only;omega,hfs.symm,hls.symm,g4,g5⟩ (by dsimp only;omega) ⟨rfl,rfl,rfl,rfl,rfl,congrArg some (congrArg (Value.int .i64) (by dsimp only;omega)),trivial⟩ (by exact fun w h=>h.sub subS)
    |exact X.again (i+1,f,(cx,cy)) ⟨by dsimp only;omega,hfs.symm,hls.symm,g4,hm⟩ (by dsimp only;omega) ⟨rfl,rfl,rfl,rfl,rfl,congrArg some (congrArg (Value.int .i64) (by dsimp only;omega)),trivial⟩ (by exact fun w h=>h.sub subS)
    |exact X.again (i+1,(cx,cy),l) ⟨by dsimp only;omega,hfs.symm,hls.symm,hm,g5⟩ (by dsimp only;omega) ⟨rfl,rfl,rfl,rfl,rfl,congrArg some (congrArg (Value.int .i64) (by dsimp only;omega)),trivial⟩ (by exact fun w h=>h.sub subS)
    |exact X.again (i+1,(cx,cy),(cx,cy)) ⟨by dsimp only;omega,hfs.symm,hls.symm,hm,hm⟩ (by dsimp only;omega) ⟨rfl,rfl,rfl,rfl,rfl,congrArg some (congrArg (Value.int .i64) (by dsimp only;omega)),trivial⟩ (by exact fun w h=>h.sub subS)
theorem setCell_same {w:World} {b:Nat} {v:Value} {t:TypeId} (h:w.heap[b]?=some (.cells #[v] t (0,0))):w.setCell ⟨b,0,none⟩ v=w:=by
 obtain⟨hb,e⟩:=Array.getElem?_eq_some_iff.1 h
 unfold World.setCell
 have hm:w.heap.modify b (fun
   |.cells c elem frozen=>.cells (if (none:Option Nat).isSome then c else c.setIfInBounds 0 v) elem frozen
   |o=>o)=w.heap:=by
  refine Array.ext (by simp) fun i h1 h2=>?_
  rw[Array.getElem_modify]
  split
  ·rename_i hi
   subst hi
   rw[e]
   simp
  ·rfl
 exact congrArg (fun hp=>{ w with heap:=hp }) hm
section
variable {P:Program} {n:Nat} {L:FL} {w0:World} {H:List Hl} {Q:Exit→Act→World→Prop} {ops:Array Oper} {rest:List Oper} {ty:TypeId} {pos:String} {af:Array Edge} {x y:Operand} {t t0:TypeId} {u:Value} {b:Nat}
theorem RS.storeSame (h:RS P ops Q n L w0 H rest) (hx:evO L x=some (.pointer (some ⟨b,0,none⟩))) (hy:evO L y=some u) (hw:∀w,St w0 H w→w.heap[b]?=some (.cells #[u] t0 (0,0))) (hu:u.oneCell'=true) (hs:scalarB P t=true) :
  RS P ops Q n L w0 H (⟨none,.store t x y,ty,pos,af,none⟩::rest) :=
 RS.actX (post:=fun _:Unit=>True) (L':=fun _=>L) (H':=fun _=>H) rfl (EX.of_skip fun a w ha hw'=>by
  have hb:=hw w hw'
  have hc:w.cell? ⟨b,0,none⟩=some u:=by
   have:=cell_of_row w b 0 #[u] t0 (0,0) hb
   simpa using this
  have hf:w.frozen? ⟨b,0,none⟩=false:=by simp[World.frozen?,hb]
  have hadd:(⟨b,0,none⟩:Addr).add 0=⟨b,0,none⟩:=rfl
  have hsame:=setCell_same hb
  exact⟨w,(),by simp[execOp,ha.eval hx,ha.eval hy,Instr.storeAt,Instr.sureAddr,storeVar,oneCell_cells hu,run_sizeOf_of (info_of_scalarB hs),storeCells,hadd,run_store P w _ u _ hu,hc,hf,hsame],trivial,rfl,hw'⟩) fun _ _=>h
end
structure WkW (b:Nat) (w:World):Prop where
 blk:w.heap[b]?=some (.cells #[.int .i64 0] 116 (0,0))
theorem WkW.keep {b:Nat} {w w':World} (h:WkW b w) (hw:Below w.heap.size w w'):WkW b w' :=
 ⟨(hw.block b (Array.getElem?_eq_some_iff.1 h.blk).1).trans h.blk⟩
theorem WkW.cell {b:Nat} {w:World} (h:WkW b w):∀k v,[Value.int .i64 0][k]?=some v→w.cell? ⟨b,k,none⟩=some v:=fun k v hk=>by
 have:=cell_of_row w b k #[.int .i64 0] _ (0,0) h.blk
 rw[this]
 simpa using hk
theorem WkW.ofSt {w0 w:World} {H:List Hl} {b:Nat} (hw:St w0 H w) (hm:Hl.blk b 116 [.int .i64 0]∈H):WkW b w:=⟨hw.blk hm⟩
abbrev ptK (b:Nat):Value:=.pointer (some ⟨b,0,none⟩)
theorem knum_c {b:Nat} {lo hi:Int} : ContIn Tryz.prog (WkW b) 118 [ptK b,arcV lo hi,.int .i64 0] (arcV lo hi):=fun w hs=>by
 have hcl:=hs.cell
 refine enter0 Tryz.func118 rfl rfl rfl ?_
 repeat' (first|(refine nxN ?_)|(show VK _ _ _ _ _ ⟨_,.load 35 _,_,_,_,_⟩ _;refine VK.mk (y_loadX (by rfl) (hcl _ _ (by rfl)) (by decide +kernel)) ?_)|(show YK _ _ _ _ _ ⟨_,.load 35 _,_,_,_,_⟩ _;refine YK.ofV (y_loadX (by rfl) (hcl _ _ (by rfl)) (by decide +kernel)) ?_)|(show VG _ _ _ _ _ _ ⟨_,.load 35 _,_,_,_,_⟩ _;refine VG.mk (fun hb=>by(try(have hc:=And.left hb;have hb:=And.right hb;rw[hc]));(try rw[hb]);exact y_loadX (by rfl) (hcl _ _ (by rfl)) (by decide +kernel)) ?_)|(show YG _ _ _ _ _ _ ⟨_,.load 35 _,_,_,_,_⟩ _;refine YG.mk (fun hb=>by(try(have hc:=And.left hb;have hb:=And.right hb;rw[hc]));(try rw[hb]);exact V.y (y_loadX (by rfl) (hcl _ _ (by rfl)) (by decide +kernel))) ?_)|(show RS _ _ _ _ _ _ _ (⟨none,.store 35 _ _,_,_,_,_⟩::_);refine RS.storeSame (b:=b) ?_ (by rfl) (by rfl) (fun w' hw'=>(hs.keep hw'.ext).blk) (by rfl) (by decide +kernel))|(refine nxV ?_)|(refine nSS ?_)|(refine nS1 fun _=>?_)|(refine nMM ?_)|(refine nM1 fun _=>?_)|(refine nxG ?_)|(refine nxX ?_)|(refine G.cN rfl (fun hc=>?_) (fun hc=>?_)<;>(try first|exact hc.elim|(exfalso;omega))))
 all_goals exact X.ret (vs:=[_]) rfl ⟨⟨_,_,_,_,rfl,(by exact memA),lenA,by decide +kernel,rfl⟩,rfl⟩ rfl rE
theorem karc_c {b:Nat} {lo hi:Int} : ContIn Tryz.prog (WkW b) 116 [ptK b,arcV lo hi,.int .i64 0] (arcV lo hi):=fun w hs=>by
 have hcl:=hs.cell
 refine enter0 Tryz.func116 rfl rfl rfl ?_
 repeat' (first|(refine nxN ?_)|(show VK _ _ _ _ _ ⟨_,.load 35 _,_,_,_,_⟩ _;refine VK.mk (y_loadX (by rfl) (hcl _ _ (by rfl)) (by decide +kernel)) ?_)|(show YK _ _ _ _ _ ⟨_,.load 35 _,_,_,_,_⟩ _;refine YK.ofV (y_loadX (by rfl) (hcl _ _ (by rfl)) (by decide +kernel)) ?_)|(show VG _ _ _ _ _ _ ⟨_,.load 35 _,_,_,_,_⟩ _;refine VG.mk (fun hb=>by(try(have hc:=And.left hb;have hb:=And.right hb;rw[hc]));(try rw[hb]);exact y_loadX (by rfl) (hcl _ _ (by rfl)) (by decide +kernel)) ?_)|(show YG _ _ _ _ _ _ ⟨_,.load 35 _,_,_,_,_⟩ _;refine YG.mk (fun hb=>by(try(have hc:=And.left hb;have hb:=And.right hb;rw[hc]));(try rw[hb]);exact V.y (y_loadX (by rfl) (hcl _ _ (by rfl)) (by decide +kernel))) ?_)|(show RS _ _ _ _ _ _ _ (⟨none,.store 35 _ _,_,_,_,_⟩::_);refine RS.storeSame (b:=b) ?_ (by rfl) (by rfl) (fun w' hw'=>(hs.keep hw'.ext).blk) (by rfl) (by decide +kernel))|(refine nxV ?_)|(refine nSS ?_)|(refine nS1 fun _=>?_)|(refine nMM ?_)|(refine nM1 fun _=>?_)|(refine nxG ?_)|(refine nxX ?_)|(refine G.cN rfl (fun hc=>?_) (fun hc=>?_)<;>(try first|exact hc.elim|(exfalso;omega))))
 all_goals exact X.ret (vs:=[_]) rfl ⟨⟨_,_,_,_,rfl,(by exact memA),lenA,by decide +kernel,rfl⟩,rfl⟩ rfl rE
theorem ksin_c {b:Nat} {lo hi:Int} (h:validI lo hi=true):ContIn Tryz.prog (WkW b) 113 [ptK b,arcV lo hi] (arcV (TT.encl lo hi).1 (TT.encl lo hi).2):=fun w hs=>by
 have q1:=Sin_c h
 generalize TT.encl lo hi=r at *
 refine enter0 Tryz.func113 rfl rfl rfl ?_
 repeat' (first|(show YK _ _ _ _ _ ⟨_,.call { callee:=.value (.func 118),args:=_,argTypes:=_ },_,_,_,_⟩ _;refine YK.mk (zcI (knum_c) (fun w' hw'=>hs.keep hw'.ext) ⟨rfl,rfl,rfl,rfl⟩ (by decide +kernel)) ?_)|(show YG _ _ _ _ _ _ ⟨_,.call { callee:=.value (.func 118),args:=_,argTypes:=_ },_,_,_,_⟩ _;refine YG.mk (fun hb=>by(try(have hc:=And.left hb;have hb:=And.right hb;rw[hc]));(try rw[hb]);exact zcI (knum_c) (fun w' hw'=>hs.keep hw'.ext) ⟨rfl,rfl,rfl,rfl⟩ (by decide +kernel)) ?_)|(show YK _ _ _ _ _ _ _;first|refine YK.mk (zcA (q1) ⟨rfl,rfl⟩) ?_)|(refine nxV ?_)|(refine nSS ?_)|(refine nS1 fun _=>?_)|(refine nMM ?_)|(refine nM1 fun _=>?_)|(show YG _ _ _ _ _ _ _ _;refine YG.mk (fun hb=>by(try(have hc:=And.left hb;have hb:=And.right hb;rw[hc]));(try rw[hb]);first|exact(zcA (q1) ⟨rfl,rfl⟩)|exact V.y vAuto) ?_)|(refine nxG ?_)|(refine nxX ?_)|(refine G.cN rfl (fun hc=>?_) (fun hc=>?_)<;>(try first|exact hc.elim|(exfalso;omega))))
 all_goals exact X.ret (vs:=[_]) rfl ⟨⟨_,_,_,_,rfl,(by exact memA),lenA,by decide +kernel,rfl⟩,rfl⟩ rfl rE
theorem kcos_c {b:Nat} {lo hi:Int} (h:validI lo hi=true):ContIn Tryz.prog (WkW b) 114 [ptK b,arcV lo hi] (arcV (TT.cosE lo hi).1 (TT.cosE lo hi).2):=fun w hs=>by
 have q1:=Cos_c h
 generalize TT.cosE lo hi=r at *
 refine enter0 Tryz.func114 rfl rfl rfl ?_
 repeat' (first|(show YK _ _ _ _ _ ⟨_,.call { callee:=.value (.func 118),args:=_,argTypes:=_ },_,_,_,_⟩ _;refine YK.mk (zcI (knum_c) (fun w' hw'=>hs.keep hw'.ext) ⟨rfl,rfl,rfl,rfl⟩ (by decide +kernel)) ?_)|(show YG _ _ _ _ _ _ ⟨_,.call { callee:=.value (.func 118),args:=_,argTypes:=_ },_,_,_,_⟩ _;refine YG.mk (fun hb=>by(try(have hc:=And.left hb;have hb:=And.right hb;rw[hc]));(try rw[hb]);exact zcI (knum_c) (fun w' hw'=>hs.keep hw'.ext) ⟨rfl,rfl,rfl,rfl⟩ (by decide +kernel)) ?_)|(show YK _ _ _ _ _ _ _;first|refine YK.mk (zcA (q1) ⟨rfl,rfl⟩) ?_)|(refine nxV ?_)|(refine nSS ?_)|(refine nS1 fun _=>?_)|(refine nMM ?_)|(refine nM1 fun _=>?_)|(show YG _ _ _ _ _ _ _ _;refine YG.mk (fun hb=>by(try(have hc:=And.left hb;have hb:=And.right hb;rw[hc]));(try rw[hb]);first|exact(zcA (q1) ⟨rfl,rfl⟩)|exact V.y vAuto) ?_)|(refine nxG ?_)|(refine nxX ?_)|(refine G.cN rfl (fun hc=>?_) (fun hc=>?_)<;>(try first|exact hc.elim|(exfalso;omega))))
 all_goals exact X.ret (vs:=[_]) rfl ⟨⟨_,_,_,_,rfl,(by exact memA),lenA,by decide +kernel,rfl⟩,rfl⟩ rfl rE
theorem kadd_c {b:Nat} {p q:Int×Int} (hp:two31 p) (hq:two31 q) (h : -2147483648≤(TT.addE p q).1∧(TT.addE p q).2≤2147483648):ContIn Tryz.prog (WkW b) 119 [ptK b,arcV p.1 p.2,arcV q.1 q.2] (arcV (TT.addE p q).1 (TT.addE p q).2):=fun w hs=>by
 have q1:=fadd_c (a:=p.1) (b:=p.2) (c:=q.1) (d:=q.2) hp hq h
 change Cont _ _ _ (.tuple [arcV (TT.addE p q).1 (TT.addE p q).2,.int .i64 0].toArray) at q1
 generalize TT.addE p q=r at *
 refine enter0 Tryz.func119 rfl rfl rfl ?_
 repeat' (first|(show YK _ _ _ _ _ ⟨_,.call { callee:=.value (.func 118),args:=_,argTypes:=_ },_,_,_,_⟩ _;refine YK.mk (zcI (knum_c) (fun w' hw'=>hs.keep hw'.ext) ⟨rfl,rfl,rfl,rfl⟩ (by decide +kernel)) ?_)|(show YG _ _ _ _ _ _ ⟨_,.call { callee:=.value (.func 118),args:=_,argTypes:=_ },_,_,_,_⟩ _;refine YG.mk (fun hb=>by(try(have hc:=And.left hb;have hb:=And.right hb;rw[hc]));(try rw[hb]);exact zcI (knum_c) (fun w' hw'=>hs.keep hw'.ext) ⟨rfl,rfl,rfl,rfl⟩ (by decide +kernel)) ?_)|(show YK _ _ _ _ _ _ _;first|refine YK.mk (zcA (q1) ⟨rfl,rfl,rfl⟩) ?_)|(refine nxV ?_)|(refine nSS ?_)|(refine nS1 fun _=>?_)|(refine nMM ?_)|(refine nM1 fun _=>?_)|(show YG _ _ _ _ _ _ _ _;refine YG.mk (fun hb=>by(try(have hc:=And.left hb;have hb:=And.right hb;rw[hc]));(try rw[hb]);first|exact(zcA (q1) ⟨rfl,rfl,rfl⟩)|exact V.y vAuto) ?_)|(refine nxG ?_)|(refine nxX ?_)|(refine G.cN rfl (fun hc=>?_) (fun hc=>?_)<;>(try first|exact hc.elim|(exfalso;omega))))
 all_goals exact X.ret (vs:=[_]) rfl ⟨⟨_,_,_,_,rfl,(by exact memA),lenA,by decide +kernel,rfl⟩,rfl⟩ rfl rE
theorem ksub_c {b:Nat} {p q:Int×Int} (hp:two31 p) (hq:two31 q) (h : -2147483648≤(TT.subE p q).1∧(TT.subE p q).2≤2147483648):ContIn Tryz.prog (WkW b) 115 [ptK b,arcV p.1 p.2,arcV q.1 q.2] (arcV (TT.subE p q).1 (TT.subE p q).2):=fun w hs=>by
 have q1:=fsub_c (p:=p) (q:=q) hp hq h
 generalize TT.subE p q=r at *
 refine enter0 Tryz.func115 rfl rfl rfl ?_
 repeat' (first|(show YK _ _ _ _ _ ⟨_,.call { callee:=.value (.func 118),args:=_,argTypes:=_ },_,_,_,_⟩ _;refine YK.mk (zcI (knum_c) (fun w' hw'=>hs.keep hw'.ext) ⟨rfl,rfl,rfl,rfl⟩ (by decide +kernel)) ?_)|(show YG _ _ _ _ _ _ ⟨_,.call { callee:=.value (.func 118),args:=_,argTypes:=_ },_,_,_,_⟩ _;refine YG.mk (fun hb=>by(try(have hc:=And.left hb;have hb:=And.right hb;rw[hc]));(try rw[hb]);exact zcI (knum_c) (fun w' hw'=>hs.keep hw'.ext) ⟨rfl,rfl,rfl,rfl⟩ (by decide +kernel)) ?_)|(show YK _ _ _ _ _ _ _;first|refine YK.mk (zcA (q1) ⟨rfl,rfl,rfl⟩) ?_)|(refine nxV ?_)|(refine nSS ?_)|(refine nS1 fun _=>?_)|(refine nMM ?_)|(refine nM1 fun _=>?_)|(show YG _ _ _ _ _ _ _ _;refine YG.mk (fun hb=>by(try(have hc:=And.left hb;have hb:=And.right hb;rw[hc]));(try rw[hb]);first|exact(zcA (q1) ⟨rfl,rfl,rfl⟩)|exact V.y vAuto) ?_)|(refine nxG ?_)|(refine nxX ?_)|(refine G.cN rfl (fun hc=>?_) (fun hc=>?_)<;>(try first|exact hc.elim|(exfalso;omega))))
 all_goals exact X.ret (vs:=[_]) rfl ⟨⟨_,_,_,_,rfl,(by exact memA),lenA,by decide +kernel,rfl⟩,rfl⟩ rfl rE
abbrev one31 (p:Int×Int):Prop:=-1073741824≤p.1∧p.1≤p.2∧p.2≤1073741824
theorem kmul_c {b:Nat} {p q:Int×Int} (hp:one31 p) (hq:one31 q):ContIn Tryz.prog (WkW b) 112 [ptK b,arcV p.1 p.2,arcV q.1 q.2] (arcV (TT.mulE p q).1 (TT.mulE p q).2):=fun w hs=>by
 have q1:=fmul_c (p:=p) (q:=q) hp hq
 generalize TT.mulE p q=r at *
 refine enter0 Tryz.func112 rfl rfl rfl ?_
 repeat' (first|(show YK _ _ _ _ _ ⟨_,.call { callee:=.value (.func 118),args:=_,argTypes:=_ },_,_,_,_⟩ _;refine YK.mk (zcI (knum_c) (fun w' hw'=>hs.keep hw'.ext) ⟨rfl,rfl,rfl,rfl⟩ (by decide +kernel)) ?_)|(show YG _ _ _ _ _ _ ⟨_,.call { callee:=.value (.func 118),args:=_,argTypes:=_ },_,_,_,_⟩ _;refine YG.mk (fun hb=>by(try(have hc:=And.left hb;have hb:=And.right hb;rw[hc]));(try rw[hb]);exact zcI (knum_c) (fun w' hw'=>hs.keep hw'.ext) ⟨rfl,rfl,rfl,rfl⟩ (by decide +kernel)) ?_)|(show YK _ _ _ _ _ _ _;first|refine YK.mk (zcA (q1) ⟨rfl,rfl,rfl⟩) ?_)|(refine nxV ?_)|(refine nSS ?_)|(refine nS1 fun _=>?_)|(refine nMM ?_)|(refine nM1 fun _=>?_)|(show YG _ _ _ _ _ _ _ _;refine YG.mk (fun hb=>by(try(have hc:=And.left hb;have hb:=And.right hb;rw[hc]));(try rw[hb]);first|exact(zcA (q1) ⟨rfl,rfl,rfl⟩)|exact V.y vAuto) ?_)|(refine nxG ?_)|(refine nxX ?_)|(refine G.cN rfl (fun hc=>?_) (fun hc=>?_)<;>(try first|exact hc.elim|(exfalso;omega))))
 all_goals exact X.ret (vs:=[_]) rfl ⟨⟨_,_,_,_,rfl,(by exact memA),lenA,by decide +kernel,rfl⟩,rfl⟩ rfl rE
theorem kone_c {n:Int} : Cont Tryz.prog 111 [.int .i64 n] (arcV n n):=fun w=>by
 refine enter0 Tryz.func111 rfl rfl rfl ?_
 repeat' (first|(refine nxV ?_)|(refine nSS ?_)|(refine nS1 fun _=>?_)|(refine nMM ?_)|(refine nM1 fun _=>?_)|(refine nxG ?_)|(refine nxX ?_)|(refine G.cN rfl (fun hc=>?_) (fun hc=>?_)<;>(try first|exact hc.elim|(exfalso;omega))))
 all_goals exact X.ret (vs:=[_]) rfl ⟨⟨_,_,_,_,rfl,(by exact memA),lenA,by decide +kernel,rfl⟩,rfl⟩ rfl rE
end Go.Proofs.YtjmdeplmenbmmaaGreat
