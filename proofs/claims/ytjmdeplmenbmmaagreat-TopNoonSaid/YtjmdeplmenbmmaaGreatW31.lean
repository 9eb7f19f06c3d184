/- Joined texts: Mer, Mex, Npl, Nof, Wpt. -/
import Derived.Test.YtjmdeplmenbmmaaGreatW11
import Derived.Test.YtjmdeplmenbmmaaGreatW26
import Derived.Test.YtjmdeplmenbmmaaGreatV06
import Derived.Test.YtjmdeplmenbmmaaGreatW30
import Derived.Test.YtjmdeplmenbmmaaGreatW21
import Derived.Test.YtjmdeplmenbmmaaGreatW19
set_option linter.unusedVariables false
set_option maxHeartbeats 8000000
namespace Go.Proofs.YtjmdeplmenbmmaaGreat
open Go.RowKit
structure MerW (b:Nat) (w:World):Prop where
 blk:w.heap[b]?=some (.cells #[.int .i64 0] 107 (0,0))
theorem MerW.keep {b:Nat} {w w':World} (h:MerW b w) (hw:Below w.heap.size w w'):MerW b w' :=
 ⟨(hw.block b (Array.getElem?_eq_some_iff.1 h.blk).1).trans h.blk⟩
theorem MerW.cell {b:Nat} {w:World} (h:MerW b w):∀k v,[Value.int .i64 0][k]?=some v→w.cell? ⟨b,k,none⟩=some v:=fun k v hk=>by
 have:=cell_of_row w b k #[.int .i64 0] _ (0,0) h.blk
 rw[this]
 simpa using hk
theorem MerW.ofSt {w0 w:World} {H:List Hl} {b:Nat} (hw:St w0 H w) (hm:Hl.blk b 107 [.int .i64 0]∈H):MerW b w:=⟨hw.blk hm⟩
theorem nkeep_c {b:Nat} {lo hi:Int} : ContIn Tryz.prog (MerW b) 54 [ptK b,arcV lo hi,.int .i64 0] (arcV lo hi):=fun w hs=>by
 have hcl:=hs.cell
 refine enter0 Tryz.func54 rfl rfl rfl ?_
 repeat' (first|(refine nxN ?_)|(show VK _ _ _ _ _ ⟨_,.load 35 _,_,_,_,_⟩ _;refine VK.mk (y_loadX (by rfl) (hcl _ _ (by rfl)) (by decide +kernel)) ?_)|(show YK _ _ _ _ _ ⟨_,.load 35 _,_,_,_,_⟩ _;refine YK.ofV (y_loadX (by rfl) (hcl _ _ (by rfl)) (by decide +kernel)) ?_)|(show VG _ _ _ _ _ _ ⟨_,.load 35 _,_,_,_,_⟩ _;refine VG.mk (fun hb=>by(try(have hc:=And.left hb;have hb:=And.right hb;rw[hc]));(try rw[hb]);exact y_loadX (by rfl) (hcl _ _ (by rfl)) (by decide +kernel)) ?_)|(show YG _ _ _ _ _ _ ⟨_,.load 35 _,_,_,_,_⟩ _;refine YG.mk (fun hb=>by(try(have hc:=And.left hb;have hb:=And.right hb;rw[hc]));(try rw[hb]);exact V.y (y_loadX (by rfl) (hcl _ _ (by rfl)) (by decide +kernel))) ?_)|(show RS _ _ _ _ _ _ _ (⟨none,.store 35 _ _,_,_,_,_⟩::_);refine RS.storeSame (b:=b) ?_ (by rfl) (by rfl) (fun w' hw'=>(hs.keep hw'.ext).blk) (by rfl) (by decide +kernel))|(refine nxV ?_)|(refine nSS ?_)|(refine nS1 fun _=>?_)|(refine nMM ?_)|(refine nM1 fun _=>?_)|(refine nxG ?_)|(refine nxX ?_)|(refine G.cN rfl (fun hc=>?_) (fun hc=>?_)<;>(try first|exact hc.elim|(exfalso;omega))))
 all_goals exact X.ret (vs:=[_]) rfl ⟨⟨_,_,_,_,rfl,(by exact memA),lenA,by decide +kernel,rfl⟩,rfl⟩ rfl rE
theorem ncos_c {b:Nat} {lo hi:Int} (h:validI lo hi=true):ContIn Tryz.prog (MerW b) 58 [ptK b,arcV lo hi] (arcV (TT.cosE lo hi).1 (TT.cosE lo hi).2):=fun w hs=>by
 have q1:=Cos_c h
 generalize TT.cosE lo hi=r at *
 refine enter0 Tryz.func58 rfl rfl rfl ?_
 repeat' (first|(refine nxN ?_)|(show YK _ _ _ _ _ ⟨_,.call { callee:=.value (.func 54),args:=_,argTypes:=_ },_,_,_,_⟩ _;refine YK.mk (zcI (nkeep_c) (fun w' hw'=>hs.keep hw'.ext) ⟨rfl,rfl,rfl,rfl⟩ (by decide +kernel)) ?_)|(show YG _ _ _ _ _ _ ⟨_,.call { callee:=.value (.func 54),args:=_,argTypes:=_ },_,_,_,_⟩ _;refine YG.mk (fun hb=>by(try(have hc:=And.left hb;have hb:=And.right hb;rw[hc]));(try rw[hb]);exact zcI (nkeep_c) (fun w' hw'=>hs.keep hw'.ext) ⟨rfl,rfl,rfl,rfl⟩ (by decide +kernel)) ?_)|(show YK _ _ _ _ _ _ _;first|refine YK.mk (zcA (q1) ⟨rfl,rfl⟩) ?_)|(refine nxV ?_)|(refine nSS ?_)|(refine nS1 fun _=>?_)|(refine nMM ?_)|(refine nM1 fun _=>?_)|(show YG _ _ _ _ _ _ _ _;refine YG.mk (fun hb=>by(try(have hc:=And.left hb;have hb:=And.right hb;rw[hc]));(try rw[hb]);first|exact(zcA (q1) ⟨rfl,rfl⟩)|exact V.y vAuto) ?_)|(refine nxG ?_)|(refine nxX ?_)|(refine G.cN rfl (fun hc=>?_) (fun hc=>?_)<;>(try first|exact hc.elim|(exfalso;omega))))
 all_goals exact X.ret (vs:=[_]) rfl ⟨⟨_,_,_,_,rfl,(by exact memA),lenA,by decide +kernel,rfl⟩,rfl⟩ rfl rE
theorem nmul_c2 {b:Nat} {p q:Int×Int} (hp:one31 p) (hq:one31 q):ContIn Tryz.prog (MerW b) 57 [ptK b,arcV p.1 p.2,arcV q.1 q.2] (arcV (TT.mulE p q).1 (TT.mulE p q).2):=fun w hs=>by
 have q1:=fmul_c (p:=p) (q:=q) hp hq
 generalize TT.mulE p q=r at *
 refine enter0 Tryz.func57 rfl rfl rfl ?_
 repeat' (first|(refine nxN ?_)|(show YK _ _ _ _ _ ⟨_,.call { callee:=.value (.func 54),args:=_,argTypes:=_ },_,_,_,_⟩ _;refine YK.mk (zcI (nkeep_c) (fun w' hw'=>hs.keep hw'.ext) ⟨rfl,rfl,rfl,rfl⟩ (by decide +kernel)) ?_)|(show YG _ _ _ _ _ _ ⟨_,.call { callee:=.value (.func 54),args:=_,argTypes:=_ },_,_,_,_⟩ _;refine YG.mk (fun hb=>by(try(have hc:=And.left hb;have hb:=And.right hb;rw[hc]));(try rw[hb]);exact zcI (nkeep_c) (fun w' hw'=>hs.keep hw'.ext) ⟨rfl,rfl,rfl,rfl⟩ (by decide +kernel)) ?_)|(show YK _ _ _ _ _ _ _;first|refine YK.mk (zcA (q1) ⟨rfl,rfl,rfl⟩) ?_)|(refine nxV ?_)|(refine nSS ?_)|(refine nS1 fun _=>?_)|(refine nMM ?_)|(refine nM1 fun _=>?_)|(show YG _ _ _ _ _ _ _ _;refine YG.mk (fun hb=>by(try(have hc:=And.left hb;have hb:=And.right hb;rw[hc]));(try rw[hb]);first|exact(zcA (q1) ⟨rfl,rfl,rfl⟩)|exact V.y vAuto) ?_)|(refine nxG ?_)|(refine nxX ?_)|(refine G.cN rfl (fun hc=>?_) (fun hc=>?_)<;>(try first|exact hc.elim|(exfalso;omega))))
 all_goals exact X.ret (vs:=[_]) rfl ⟨⟨_,_,_,_,rfl,(by exact memA),lenA,by decide +kernel,rfl⟩,rfl⟩ rfl rE
theorem nhav_c {b:Nat} {lo hi:Int} (h:validI lo hi=true):ContIn Tryz.prog (MerW b) 56 [ptK b,arcV lo hi] (arcV (TT.havE lo hi).1 (TT.havE lo hi).2):=fun w hs=>by
 have q1:=Hav_c h
 generalize TT.havE lo hi=r at *
 refine enter0 Tryz.func56 rfl rfl rfl ?_
 repeat' (first|(refine nxN ?_)|(show YK _ _ _ _ _ ⟨_,.call { callee:=.value (.func 54),args:=_,argTypes:=_ },_,_,_,_⟩ _;refine YK.mk (zcI (nkeep_c) (fun w' hw'=>hs.keep hw'.ext) ⟨rfl,rfl,rfl,rfl⟩ (by decide +kernel)) ?_)|(show YG _ _ _ _ _ _ ⟨_,.call { callee:=.value (.func 54),args:=_,argTypes:=_ },_,_,_,_⟩ _;refine YG.mk (fun hb=>by(try(have hc:=And.left hb;have hb:=And.right hb;rw[hc]));(try rw[hb]);exact zcI (nkeep_c) (fun w' hw'=>hs.keep hw'.ext) ⟨rfl,rfl,rfl,rfl⟩ (by decide +kernel)) ?_)|(show YK _ _ _ _ _ _ _;first|refine YK.mk (zcA (q1) ⟨rfl,rfl⟩) ?_)|(refine nxV ?_)|(refine nSS ?_)|(refine nS1 fun _=>?_)|(refine nMM ?_)|(refine nM1 fun _=>?_)|(show YG _ _ _ _ _ _ _ _;refine YG.mk (fun hb=>by(try(have hc:=And.left hb;have hb:=And.right hb;rw[hc]));(try rw[hb]);first|exact(zcA (q1) ⟨rfl,rfl⟩)|exact V.y vAuto) ?_)|(refine nxG ?_)|(refine nxX ?_)|(refine G.cN rfl (fun hc=>?_) (fun hc=>?_)<;>(try first|exact hc.elim|(exfalso;omega))))
 all_goals exact X.ret (vs:=[_]) rfl ⟨⟨_,_,_,_,rfl,(by exact memA),lenA,by decide +kernel,rfl⟩,rfl⟩ rfl rE
abbrev latI (a b:Int):Prop:=-5400000≤a∧a≤b∧b≤5400000
theorem nlat_c {a b:Int} (h:latI a b):Cont Tryz.prog 49 [arcV a b] (.bool true):=fun w=>by
 have q1:=nval_c (a:=a) (b:=b) (by omega)
 refine enter0 Tryz.func49 rfl rfl rfl ?_
 repeat' (first|(refine nxN ?_)|(show YK _ _ _ _ _ _ _;first|refine YK.mk (zcA (q1) ⟨rfl,rfl⟩) ?_)|(refine nxV ?_)|(refine nSS ?_)|(refine nS1 fun _=>?_)|(refine nMM ?_)|(refine nM1 fun _=>?_)|(show YG _ _ _ _ _ _ _ _;refine YG.mk (fun hb=>by(try(have hc:=And.left hb;have hb:=And.right hb;rw[hc]));(try rw[hb]);first|exact(zcA (q1) ⟨rfl,rfl⟩)|exact V.y vAuto) ?_)|(refine nxG ?_)|(refine nxX ?_)|(refine G.cN rfl (fun hc=>?_) (fun hc=>?_)<;>(try first|exact hc.elim|(exfalso;omega))))
 all_goals exact X.ret (vs:=[_]) rfl ⟨rfl,rfl⟩ rfl (fun w hw=>⟨ret_bool (by simp;omega),hw.ext⟩)
theorem nlats_c {a b:Int} (h : -100000000≤a∧a≤b∧b≤100000000) (h2:a≤5400000∧-5400000≤b):Cont Tryz.prog 50 [arcV a b] (.tuple [arcV (max a (-5400000)) (min b 5400000),.int .i64 0].toArray):=fun w=>by
 have g:max a (-5400000)≤min b 5400000:=by omega
 generalize hx:max a (-5400000)=x at *
 generalize hy:min b 5400000=y at *
 refine enter0 Tryz.func50 rfl rfl rfl ?_
 repeat' (first|(refine nxN ?_)|(refine nxV ?_)|(refine nSS ?_)|(refine nS1 fun _=>?_)|(refine nMM ?_)|(refine nM1 fun _=>?_)|(refine nxG ?_)|(refine nxX ?_)|(refine G.cN rfl (fun hc=>?_) (fun hc=>?_)<;>(try first|exact hc.elim|(exfalso;omega))))
 all_goals first
  |(exfalso;simp at hc;omega)
  |exact X.ret (vs:=[_,_]) rfl ⟨⟨_,_,_,_,rfl,(by exact memA),lenA,by decide +kernel,rfl⟩,rfl,rfl⟩ rfl (fun w hw=>⟨by rw[←hx,←hy],hw.ext⟩)
theorem nrest_c {a b:Int} (h : -100000000≤a∧b≤100000000∧a≤b):Cont Tryz.prog 52 [arcV a b] (arcV (5400000-b) (5400000-a)):=fun w=>by
 refine enter0 Tryz.func52 rfl rfl rfl ?_
 repeat' (first|(refine nxN ?_)|(refine nxV ?_)|(refine nSS ?_)|(refine nS1 fun _=>?_)|(refine nMM ?_)|(refine nM1 fun _=>?_)|(refine nxG ?_)|(refine nxX ?_)|(refine G.cN rfl (fun hc=>?_) (fun hc=>?_)<;>(try first|exact hc.elim|(exfalso;omega))))
 all_goals exact X.ret (vs:=[_]) rfl ⟨⟨_,_,_,_,rfl,(by exact memA),lenA,by decide +kernel,rfl⟩,rfl⟩ rfl rE
theorem nplus_c {a b c d:Int} (h : -100000000≤a∧a≤b∧b≤100000000) (h2 : -100000000≤c∧c≤d∧d≤100000000):Cont Tryz.prog 51 [arcV a b,arcV c d] (arcV (a+c) (b+d)):=fun w=>by
 refine enter0 Tryz.func51 rfl rfl rfl ?_
 repeat' (first|(refine nxN ?_)|(refine nxV ?_)|(refine nSS ?_)|(refine nS1 fun _=>?_)|(refine nMM ?_)|(refine nM1 fun _=>?_)|(refine nxG ?_)|(refine nxX ?_)|(refine G.cN rfl (fun hc=>?_) (fun hc=>?_)<;>(try first|exact hc.elim|(exfalso;omega))))
 all_goals exact X.ret (vs:=[_]) rfl ⟨⟨_,_,_,_,rfl,(by exact memA),lenA,by decide +kernel,rfl⟩,rfl⟩ rfl rE
theorem nminus_c {a b c d:Int} (h : -100000000≤a∧a≤b∧b≤100000000) (h2 : -100000000≤c∧c≤d∧d≤100000000):Cont Tryz.prog 53 [arcV a b,arcV c d] (arcV (a-d) (b-c)):=fun w=>by
 refine enter0 Tryz.func53 rfl rfl rfl ?_
 repeat' (first|(refine nxN ?_)|(refine nxV ?_)|(refine nSS ?_)|(refine nS1 fun _=>?_)|(refine nMM ?_)|(refine nM1 fun _=>?_)|(refine nxG ?_)|(refine nxX ?_)|(refine G.cN rfl (fun hc=>?_) (fun hc=>?_)<;>(try first|exact hc.elim|(exfalso;omega))))
 all_goals exact X.ret (vs:=[_]) rfl ⟨⟨_,_,_,_,rfl,(by exact memA),lenA,by decide +kernel,rfl⟩,rfl⟩ rfl rE
theorem nLatS_c {a b c d:Int} (h:latI a b) (h2:latI c d) (g:5400000-b+c≤5400000∧-5400000≤5400000-a+d):Cont Tryz.prog 14 [arcV a b,arcV c d,.bool true] (.tuple [arcV (max (5400000-b+c) (-5400000)) (min (5400000-a+d) 5400000),.int .i64 0].toArray):=fun w=>by
 have q1:=nlat_c h
 have q2:=nlat_c h2
 have q3:=nrest_c (a:=a) (b:=b) (by omega)
 have q4:=nplus_c (a:=5400000-b) (b:=5400000-a) (c:=c) (d:=d) (by omega) (by omega)
 have q5:=nlats_c (a:=5400000-b+c) (b:=5400000-a+d) (by omega) g
 generalize max (5400000-b+c) (-5400000)=x at *
 generalize min (5400000-a+d) 5400000=y at *
 refine enter0 Tryz.func14 rfl rfl rfl ?_
 repeat' (first|(refine nxN ?_)|(refine G.mixedM 4 [.go 0,.go 2,.go 1,.go 3,.go 4,.go 5,.go 6,.go 7,.go 8] [false,true,true] ?_;dsimp only[maskH])|(refine G.mixedM 5 [.go 0,.go 1,.go 2,.go 3,.go 4,.go 5,.go 6,.go 7,.go 8] [false,true,true] ?_;dsimp only[maskH])|(show YK _ _ _ _ _ _ _;first|refine YK.mk (zcA (q1) ⟨rfl,rfl⟩) ?_|refine YK.mk (zcA (q2) ⟨rfl,rfl⟩) ?_|refine YK.mk (zcA (q3) ⟨rfl,rfl⟩) ?_|refine YK.mk (zcA (q4) ⟨rfl,rfl,rfl⟩) ?_|refine YK.mk (zcA (q5) ⟨rfl,rfl⟩) ?_)|(refine nxV ?_)|(refine nSS ?_)|(refine nS1 fun _=>?_)|(refine nMM ?_)|(refine nM1 fun _=>?_)|(show YG _ _ _ _ _ _ _ _;refine YG.mk (fun hb=>by(try(have hc:=And.left hb;have hb:=And.right hb;rw[hc]));(try rw[hb]);first|exact(zcA (q1) ⟨rfl,rfl⟩)|exact(zcA (q2) ⟨rfl,rfl⟩)|exact(zcA (q3) ⟨rfl,rfl⟩)|exact(zcA (q4) ⟨rfl,rfl,rfl⟩)|exact(zcA (q5) ⟨rfl,rfl⟩)|exact V.y vAuto) ?_)|(refine nxG ?_)|(refine nxX ?_)|(refine G.cN rfl (fun hc=>?_) (fun hc=>?_)<;>(try first|exact hc.elim|(exfalso;omega))))
 all_goals first
  |(exfalso;simp at hc;done)
  |exact X.ret (vs:=[_,_]) rfl ⟨⟨_,_,_,_,rfl,(by exact memA),lenA,by decide +kernel,rfl⟩,rfl,rfl⟩ rfl rE
theorem nLatN_c {a b c d:Int} (h:latI a b) (h2:latI c d) (g:c-(5400000-a)≤5400000∧-5400000≤d-(5400000-b)):Cont Tryz.prog 14 [arcV a b,arcV c d,.bool false] (.tuple [arcV (max (c-(5400000-a)) (-5400000)) (min (d-(5400000-b)) 5400000),.int .i64 0].toArray):=fun w=>by
 have q1:=nlat_c h
 have q2:=nlat_c h2
 have q3:=nrest_c (a:=a) (b:=b) (by omega)
 have q4:=nminus_c (a:=c) (b:=d) (c:=5400000-b) (d:=5400000-a) (by omega) (by omega)
 have q5:=nlats_c (a:=c-(5400000-a)) (b:=d-(5400000-b)) (by omega) g
 generalize max (c-(5400000-a)) (-5400000)=x at *
 generalize min (d-(5400000-b)) 5400000=y at *
 refine enter0 Tryz.func14 rfl rfl rfl ?_
 repeat' (first|(refine nxN ?_)|(refine G.mixedM 4 [.go 0,.go 2,.go 1,.go 3,.go 4,.go 5,.go 6,.go 7,.go 8] [false,true,true] ?_;dsimp only[maskH])|(refine G.mixedM 5 [.go 0,.go 1,.go 2,.go 3,.go 4,.go 5,.go 6,.go 7,.go 8] [false,true,true] ?_;dsimp only[maskH])|(show YK _ _ _ _ _ _ _;first|refine YK.mk (zcA (q1) ⟨rfl,rfl⟩) ?_|refine YK.mk (zcA (q2) ⟨rfl,rfl⟩) ?_|refine YK.mk (zcA (q3) ⟨rfl,rfl⟩) ?_|refine YK.mk (zcA (q4) ⟨rfl,rfl,rfl⟩) ?_|refine YK.mk (zcA (q5) ⟨rfl,rfl⟩) ?_)|(refine nxV ?_)|(refine nSS ?_)|(refine nS1 fun _=>?_)|(refine nMM ?_)|(refine nM1 fun _=>?_)|(show YG _ _ _ _ _ _ _ _;refine YG.mk (fun hb=>by(try(have hc:=And.left hb;have hb:=And.right hb;rw[hc]));(try rw[hb]);first|exact(zcA (q1) ⟨rfl,rfl⟩)|exact(zcA (q2) ⟨rfl,rfl⟩)|exact(zcA (q3) ⟨rfl,rfl⟩)|exact(zcA (q4) ⟨rfl,rfl,rfl⟩)|exact(zcA (q5) ⟨rfl,rfl⟩)|exact V.y vAuto) ?_)|(refine nxG ?_)|(refine nxX ?_)|(refine G.cN rfl (fun hc=>?_) (fun hc=>?_)<;>(try first|exact hc.elim|(exfalso;omega))))
 all_goals first
  |(exfalso;simp at hc;done)
  |exact X.ret (vs:=[_,_]) rfl ⟨⟨_,_,_,_,rfl,(by exact memA),lenA,by decide +kernel,rfl⟩,rfl,rfl⟩ rfl rE
theorem nEx_c {h1 h2 l1 l2 t1 t2 k1 k2 n0 n1 P:Int} (hh:latI h1 h2) (hl:latI l1 l2) (ht:latI t1 t2) (hk : -100000000≤k1∧k1≤k2∧k2≤100000000)
  (hE:(TT.exS (h1,h2) (l1,l2) (t1,t2) (k1,k2)).1≤(TT.exS (h1,h2) (l1,l2) (t1,t2) (k1,k2)).2)
  (hcl:0≤(TT.clamp (TT.exS (h1,h2) (l1,l2) (t1,t2) (k1,k2))).1∧(TT.clamp (TT.exS (h1,h2) (l1,l2) (t1,t2) (k1,k2))).2≤1073741824∧(TT.clamp (TT.exS (h1,h2) (l1,l2) (t1,t2) (k1,k2))).1≤(TT.clamp (TT.exS (h1,h2) (l1,l2) (t1,t2) (k1,k2))).2)
  (i1:TT.IsAsin (1073741824-2*(TT.clamp (TT.exS (h1,h2) (l1,l2) (t1,t2) (k1,k2))).2) n1) (i0:TT.IsAsin (-(1073741824-2*(TT.clamp (TT.exS (h1,h2) (l1,l2) (t1,t2) (k1,k2))).1)) n0)
  (hz:5400000+n0≤5400000-n1) (hP:l1≤P∧P≤l2) (h3:t2≤l1→t1+(5400000+n0)≤P∧P≤t2+(5400000-n1)) (h4:l2≤t1→t1-(5400000-n1)≤P∧P≤t2-(5400000+n0))
  (h5:min (t1+(5400000+n0)) (t1-(5400000-n1))≤P∧P≤max (t2+(5400000-n1)) (t2-(5400000+n0))) :
  ∃r:Int×Int,r.1≤P∧P≤r.2∧latI r.1 r.2∧Cont Tryz.prog 16 [arcV h1 h2,arcV l1 l2,arcV t1 t2,arcV k1 k2] (.tuple [arcV r.1 r.2,.int .i64 0].toArray):=by
 have a0:=i0.1
 have a1:=i0.2.1
 have a2:=i1.1
 have a3:=i1.2.1
 have o3:=TT.cosE_ord hl.2.1
 have o4:=TT.cosE_ord ht.2.1
 have o5:=TT.havE_ord (lo:=k1) (hi:=k2) hk.2.1
 have o6:=TT.havE_ord (lo:=5400000-h2) (hi:=5400000-h1) (by omega)
 have o7:=TT.mulE_bd o3 o4
 have o9:one31 (TT.havE k1 k2):=by omega
 have o8:=TT.mulE_bd o7 o9
 have w2:=two_of o8
 have w3:two31 (TT.havE (5400000-h2) (5400000-h1)):=by omega
 have hEb : -2147483648≤(TT.exS (h1,h2) (l1,l2) (t1,t2) (k1,k2)).1∧(TT.exS (h1,h2) (l1,l2) (t1,t2) (k1,k2)).2≤2147483648:=by
  unfold TT.exS TT.subE
  dsimp only
  omega
 have q9:=Ahav_c (p:=TT.exS (h1,h2) (l1,l2) (t1,t2) (k1,k2)) (n:=n1) (m:=n0) (by omega) hcl i1 i0
 clear i1 i0 hcl
 have q1:=nlat_c hh
 have q2:=nlat_c hl
 have q3:=nlat_c ht
 have q4:=nval_c (a:=k1) (b:=k2) (by omega)
 have q5:=nrest_c (a:=h1) (b:=h2) (by omega)
 have v2:=valI (lo:=l1) (hi:=l2) (by omega)
 have v3:=valI (lo:=t1) (hi:=t2) (by omega)
 have v4:=valI (lo:=k1) (hi:=k2) (by omega)
 have v5:=valI (lo:=5400000-h2) (hi:=5400000-h1) (by omega)
 have q6:=fsub_c (p:=TT.havE (5400000-h2) (5400000-h1)) (q:=TT.mulE (TT.mulE (TT.cosE l1 l2) (TT.cosE t1 t2)) (TT.havE k1 k2)) w3 w2 hEb
 have q7:=nplus_c (a:=t1) (b:=t2) (c:=5400000+n0) (d:=5400000-n1) (by omega) (by omega)
 have q8:=nminus_c (a:=t1) (b:=t2) (c:=5400000+n0) (d:=5400000-n1) (by omega) (by omega)
 obtain⟨N1,hN1⟩:∃x,t1+(5400000+n0)=x:=⟨_,rfl⟩
 obtain⟨N2,hN2⟩:∃x,t2+(5400000-n1)=x:=⟨_,rfl⟩
 obtain⟨S1,hS1⟩:∃x,t1-(5400000-n1)=x:=⟨_,rfl⟩
 obtain⟨S2,hS2⟩:∃x,t2-(5400000+n0)=x:=⟨_,rfl⟩
 obtain⟨E,hEq⟩:∃E,TT.exS (h1,h2) (l1,l2) (t1,t2) (k1,k2)=E:=⟨_,rfl⟩
 have hEq2:TT.subE (TT.havE (5400000-h2) (5400000-h1)) (TT.mulE (TT.mulE (TT.cosE l1 l2) (TT.cosE t1 t2)) (TT.havE k1 k2))=E:=hEq
 rw[hN1,hN2] at q7 h3 h5
 rw[hS1,hS2] at q8 h4 h5
 rw[hEq] at q9
 rw[hEq2] at q6
 have hNo:N1≤N2∧S1≤S2∧-100000000≤N1∧N2≤100000000∧-100000000≤S1∧S2≤100000000:=by omega
 clear hEq hEq2 hE hEb w3 w2 hN1 hN2 hS1 hS2
 by_cases hx:t2≤l1
 ·have h3:=h3 hx
  have qm:=nmeet_c (a:=l1) (b:=l2) (c:=N1) (d:=N2) (by omega) (by omega) (by omega)
  refine⟨(max l1 N1,min l2 N2),by dsimp only;omega,by dsimp only;omega,by dsimp only;omega,fun w=>?_⟩
  dsimp only
  generalize max l1 N1=r1 at *
  generalize min l2 N2=r2 at *
  refine enter0 Tryz.func16 rfl rfl rfl ?_
  repeat' (first|(refine nxN ?_)|(show YK _ _ _ _ _ ⟨_,.call { callee:=.value (.func 56),args:=_,argTypes:=_ },_,_,_,_⟩ _;refine YK.mk (zcI (nhav_c (by assumption)) (fun w' hw'=>MerW.ofSt hw' (by exact memA)) ⟨rfl,rfl,rfl⟩ (by decide +kernel)) ?_)|(show YG _ _ _ _ _ _ ⟨_,.call { callee:=.value (.func 56),args:=_,argTypes:=_ },_,_,_,_⟩ _;refine YG.mk (fun hb=>by(try(have hc:=And.left hb;have hb:=And.right hb;rw[hc]));(try rw[hb]);exact zcI (nhav_c (by assumption)) (fun w' hw'=>MerW.ofSt hw' (by exact memA)) ⟨rfl,rfl,rfl⟩ (by decide +kernel)) ?_)|(show YK _ _ _ _ _ ⟨_,.call { callee:=.value (.func 58),args:=_,argTypes:=_ },_,_,_,_⟩ _;refine YK.mk (zcI (ncos_c (by assumption)) (fun w' hw'=>MerW.ofSt hw' (by exact memA)) ⟨rfl,rfl,rfl⟩ (by decide +kernel)) ?_)|(show YG _ _ _ _ _ _ ⟨_,.call { callee:=.value (.func 58),args:=_,argTypes:=_ },_,_,_,_⟩ _;refine YG.mk (fun hb=>by(try(have hc:=And.left hb;have hb:=And.right hb;rw[hc]));(try rw[hb]);exact zcI (ncos_c (by assumption)) (fun w' hw'=>MerW.ofSt hw' (by exact memA)) ⟨rfl,rfl,rfl⟩ (by decide +kernel)) ?_)|(show YK _ _ _ _ _ ⟨_,.call { callee:=.value (.func 57),args:=_,argTypes:=_ },_,_,_,_⟩ _;refine YK.mk (zcI (nmul_c2 (by assumption) (by assumption)) (fun w' hw'=>MerW.ofSt hw' (by exact memA)) ⟨rfl,rfl,rfl,rfl⟩ (by decide +kernel)) ?_)|(show YG _ _ _ _ _ _ ⟨_,.call { callee:=.value (.func 57),args:=_,argTypes:=_ },_,_,_,_⟩ _;refine YG.mk (fun hb=>by(try(have hc:=And.left hb;have hb:=And.right hb;rw[hc]));(try rw[hb]);exact zcI (nmul_c2 (by assumption) (by assumption)) (fun w' hw'=>MerW.ofSt hw' (by exact memA)) ⟨rfl,rfl,rfl,rfl⟩ (by decide +kernel)) ?_)|(show YK _ _ _ _ _ ⟨_,.call { callee:=.value (.func 54),args:=_,argTypes:=_ },_,_,_,_⟩ _;refine YK.mk (zcI (nkeep_c) (fun w' hw'=>MerW.ofSt hw' (by exact memA)) ⟨rfl,rfl,rfl,rfl⟩ (by decide +kernel)) ?_)|(show YG _ _ _ _ _ _ ⟨_,.call { callee:=.value (.func 54),args:=_,argTypes:=_ },_,_,_,_⟩ _;refine YG.mk (fun hb=>by(try(have hc:=And.left hb;have hb:=And.right hb;rw[hc]));(try rw[hb]);exact zcI (nkeep_c) (fun w' hw'=>MerW.ofSt hw' (by exact memA)) ⟨rfl,rfl,rfl,rfl⟩ (by decide +kernel)) ?_)|(refine G.mixedM 4 [.go 0,.go 1,.go 2,.go 5,.go 6,.go 7,.go 8,.go 10,.go 11,.go 14,.go 15,.pend 22,.go 3,.go 4,.go 9,.go 12,.go 13,.go 16,.go 17,.go 18,.go 19,.go 20,.go 21,.done,.go 23] [true,true,true,true,true,true] ?_;dsimp only[maskH])|(refine G.mixedM 12 [.go 0,.go 1,.go 3,.go 4,.pend 6,.pend 7,.go 2,.go 5,.done,.done,.go 8,.go 9] [true,true,true,true,true,true,true,true] ?_;dsimp only[maskH])|(show YK _ _ _ _ _ _ _;first|refine YK.mk (zcA (q1) ⟨rfl,rfl⟩) ?_|refine YK.mk (zcA (q2) ⟨rfl,rfl⟩) ?_|refine YK.mk (zcA (q3) ⟨rfl,rfl⟩) ?_|refine YK.mk (zcA (q4) ⟨rfl,rfl⟩) ?_|refine YK.mk (zcA (q5) ⟨rfl,rfl⟩) ?_|refine YK.mk (zcA (q6) ⟨rfl,rfl,rfl⟩) ?_|refine YK.mk (zcA (q7) ⟨rfl,rfl,rfl⟩) ?_|refine YK.mk (zcA (q8) ⟨rfl,rfl,rfl⟩) ?_|refine YK.mk (zcA (q9) ⟨rfl,rfl⟩) ?_|refine YK.mk (zcA (qm) ⟨rfl,rfl,rfl⟩) ?_)|(refine nxV ?_)|(refine nSS ?_)|(refine nS1 fun _=>?_)|(refine nMM ?_)|(refine nM1 fun _=>?_)|(show YG _ _ _ _ _ _ _ _;refine YG.mk (fun hb=>by(try(have hc:=And.left hb;have hb:=And.right hb;rw[hc]));(try rw[hb]);first|exact(zcA (q1) ⟨rfl,rfl⟩)|exact(zcA (q2) ⟨rfl,rfl⟩)|exact(zcA (q3) ⟨rfl,rfl⟩)|exact(zcA (q4) ⟨rfl,rfl⟩)|exact(zcA (q5) ⟨rfl,rfl⟩)|exact(zcA (q6) ⟨rfl,rfl,rfl⟩)|exact(zcA (q7) ⟨rfl,rfl,rfl⟩)|exact(zcA (q8) ⟨rfl,rfl,rfl⟩)|exact(zcA (q9) ⟨rfl,rfl⟩)|exact(zcA (qm) ⟨rfl,rfl,rfl⟩)|exact V.y vAuto) ?_)|(refine nxG ?_)|(refine G.mA 6 [.go 0,.go 1,.go 2,.go 3,.go 4,.go 5,.go 6] ?_)|(refine nxX ?_)|(refine G.cN rfl (fun hc=>?_) (fun hc=>?_)<;>(try first|exact hc.elim|(exfalso;omega))))
  all_goals first
   |(exfalso;simp at hc;done)
   |(exfalso;simp at hc;omega)
   |exact X.ret (vs:=[_,_]) rfl ⟨⟨_,_,_,_,rfl,(by exact memA),lenA,by decide +kernel,rfl⟩,rfl,rfl⟩ rfl rE
 ·by_cases hy:l2≤t1
  ·have h4:=h4 hy
   have qm:=nmeet_c (a:=l1) (b:=l2) (c:=S1) (d:=S2) (by omega) (by omega) (by omega)
   refine⟨(max l1 S1,min l2 S2),by dsimp only;omega,by dsimp only;omega,by dsimp only;omega,fun w=>?_⟩
   dsimp only
   generalize max l1 S1=r1 at *
   generalize min l2 S2=r2 at *
   refine enter0 Tryz.func16 rfl rfl rfl ?_
   repeat' (first|(refine nxN ?_)|(show YK _ _ _ _ _ ⟨_,.call { callee:=.value (.func 56),args:=_,argTypes:=_ },_,_,_,_⟩ _;refine YK.mk (zcI (nhav_c (by assumption)) (fun w' hw'=>MerW.ofSt hw' (by exact memA)) ⟨rfl,rfl,rfl⟩ (by decide +kernel)) ?_)|(show YG _ _ _ _ _ _ ⟨_,.call { callee:=.value (.func 56),args:=_,argTypes:=_ },_,_,_,_⟩ _;refine YG.mk (fun hb=>by(try(have hc:=And.left hb;have hb:=And.right hb;rw[hc]));(try rw[hb]);exact zcI (nhav_c (by assumption)) (fun w' hw'=>MerW.ofSt hw' (by exact memA)) ⟨rfl,rfl,rfl⟩ (by decide +kernel)) ?_)|(show YK _ _ _ _ _ ⟨_,.call { callee:=.value (.func 58),args:=_,argTypes:=_ },_,_,_,_⟩ _;refine YK.mk (zcI (ncos_c (by assumption)) (fun w' hw'=>MerW.ofSt hw' (by exact memA)) ⟨rfl,rfl,rfl⟩ (by decide +kernel)) ?_)|(show YG _ _ _ _ _ _ ⟨_,.call { callee:=.value (.func 58),args:=_,argTypes:=_ },_,_,_,_⟩ _;refine YG.mk (fun hb=>by(try(have hc:=And.left hb;have hb:=And.right hb;rw[hc]));(try rw[hb]);exact zcI (ncos_c (by assumption)) (fun w' hw'=>MerW.ofSt hw' (by exact memA)) ⟨rfl,rfl,rfl⟩ (by decide +kernel)) ?_)|(show YK _ _ _ _ _ ⟨_,.call { callee:=.value (.func 57),args:=_,argTypes:=_ },_,_,_,_⟩ _;refine YK.mk (zcI (nmul_c2 (by assumption) (by assumption)) (fun w' hw'=>MerW.ofSt hw' (by exact memA)) ⟨rfl,rfl,rfl,rfl⟩ (by decide +kernel)) ?_)|(show YG _ _ _ _ _ _ ⟨_,.call { callee:=.value (.func 57),args:=_,argTypes:=_ },_,_,_,_⟩ _;refine YG.mk (fun hb=>by(try(have hc:=And.left hb;have hb:=And.right hb;rw[hc]));(try rw[hb]);exact zcI (nmul_c2 (by assumption) (by assumption)) (fun w' hw'=>MerW.ofSt hw' (by exact memA)) ⟨rfl,rfl,rfl,rfl⟩ (by decide +kernel)) ?_)|(show YK _ _ _ _ _ ⟨_,.call { callee:=.value (.func 54),args:=_,argTypes:=_ },_,_,_,_⟩ _;refine YK.mk (zcI (nkeep_c) (fun w' hw'=>MerW.ofSt hw' (by exact memA)) ⟨rfl,rfl,rfl,rfl⟩ (by decide +kernel)) ?_)|(show YG _ _ _ _ _ _ ⟨_,.call { callee:=.value (.func 54),args:=_,argTypes:=_ },_,_,_,_⟩ _;refine YG.mk (fun hb=>by(try(have hc:=And.left hb;have hb:=And.right hb;rw[hc]));(try rw[hb]);exact zcI (nkeep_c) (fun w' hw'=>MerW.ofSt hw' (by exact memA)) ⟨rfl,rfl,rfl,rfl⟩ (by decide +kernel)) ?_)|(refine G.mixedM 4 [.go 0,.go 1,.go 2,.go 5,.go 6,.go 7,.go 8,.go 10,.go 11,.go 14,.go 15,.pend 22,.go 3,.go 4,.go 9,.go 12,.go 13,.go 16,.go 17,.go 18,.go 19,.go 20,.go 21,.done,.go 23] [true,true,true,true,true,true] ?_;dsimp only[maskH])|(refine G.mixedM 12 [.go 0,.go 1,.go 3,.go 4,.pend 6,.pend 7,.go 2,.go 5,.done,.done,.go 8,.go 9] [true,true,true,true,true,true,true,true] ?_;dsimp only[maskH])|(show YK _ _ _ _ _ _ _;first|refine YK.mk (zcA (q1) ⟨rfl,rfl⟩) ?_|refine YK.mk (zcA (q2) ⟨rfl,rfl⟩) ?_|refine YK.mk (zcA (q3) ⟨rfl,rfl⟩) ?_|refine YK.mk (zcA (q4) ⟨rfl,rfl⟩) ?_|refine YK.mk (zcA (q5) ⟨rfl,rfl⟩) ?_|refine YK.mk (zcA (q6) ⟨rfl,rfl,rfl⟩) ?_|refine YK.mk (zcA (q7) ⟨rfl,rfl,rfl⟩) ?_|refine YK.mk (zcA (q8) ⟨rfl,rfl,rfl⟩) ?_|refine YK.mk (zcA (q9) ⟨rfl,rfl⟩) ?_|refine YK.mk (zcA (qm) ⟨rfl,rfl,rfl⟩) ?_)|(refine nxV ?_)|(refine nSS ?_)|(refine nS1 fun _=>?_)|(refine nMM ?_)|(refine nM1 fun _=>?_)|(show YG _ _ _ _ _ _ _ _;refine YG.mk (fun hb=>by(try(have hc:=And.left hb;have hb:=And.right hb;rw[hc]));(try rw[hb]);first|exact(zcA (q1) ⟨rfl,rfl⟩)|exact(zcA (q2) ⟨rfl,rfl⟩)|exact(zcA (q3) ⟨rfl,rfl⟩)|exact(zcA (q4) ⟨rfl,rfl⟩)|exact(zcA (q5) ⟨rfl,rfl⟩)|exact(zcA (q6) ⟨rfl,rfl,rfl⟩)|exact(zcA (q7) ⟨rfl,rfl,rfl⟩)|exact(zcA (q8) ⟨rfl,rfl,rfl⟩)|exact(zcA (q9) ⟨rfl,rfl⟩)|exact(zcA (qm) ⟨rfl,rfl,rfl⟩)|exact V.y vAuto) ?_)|(refine nxG ?_)|(refine G.mA 6 [.go 0,.go 1,.go 2,.go 3,.go 4,.go 5,.go 6] ?_)|(refine nxX ?_)|(refine G.cN rfl (fun hc=>?_) (fun hc=>?_)<;>(try first|exact hc.elim|(exfalso;omega))))
   all_goals first
    |(exfalso;simp at hc;done)
    |(exfalso;simp at hc;omega)
    |exact X.ret (vs:=[_,_]) rfl ⟨⟨_,_,_,_,rfl,(by exact memA),lenA,by decide +kernel,rfl⟩,rfl,rfl⟩ rfl rE
  ·clear h3 h4
   obtain⟨A1,hA1⟩:∃x,min N1 S1=x:=⟨_,rfl⟩
   obtain⟨A2,hA2⟩:∃x,max N2 S2=x:=⟨_,rfl⟩
   rw[hA1,hA2] at h5
   have qm:=nmeet_c (a:=l1) (b:=l2) (c:=A1) (d:=A2) (by omega) (by omega) (by omega)
   refine⟨(max l1 A1,min l2 A2),by dsimp only;omega,by dsimp only;omega,by dsimp only;omega,fun w=>?_⟩
   dsimp only
   generalize max l1 A1=r1 at *
   generalize min l2 A2=r2 at *
   rw[←hA1,←hA2] at qm
   refine enter0 Tryz.func16 rfl rfl rfl ?_
   repeat' (first|(refine nxN ?_)|(show YK _ _ _ _ _ ⟨_,.call { callee:=.value (.func 56),args:=_,argTypes:=_ },_,_,_,_⟩ _;refine YK.mk (zcI (nhav_c (by assumption)) (fun w' hw'=>MerW.ofSt hw' (by exact memA)) ⟨rfl,rfl,rfl⟩ (by decide +kernel)) ?_)|(show YG _ _ _ _ _ _ ⟨_,.call { callee:=.value (.func 56),args:=_,argTypes:=_ },_,_,_,_⟩ _;refine YG.mk (fun hb=>by(try(have hc:=And.left hb;have hb:=And.right hb;rw[hc]));(try rw[hb]);exact zcI (nhav_c (by assumption)) (fun w' hw'=>MerW.ofSt hw' (by exact memA)) ⟨rfl,rfl,rfl⟩ (by decide +kernel)) ?_)|(show YK _ _ _ _ _ ⟨_,.call { callee:=.value (.func 58),args:=_,argTypes:=_ },_,_,_,_⟩ _;refine YK.mk (zcI (ncos_c (by assumption)) (fun w' hw'=>MerW.ofSt hw' (by exact memA)) ⟨rfl,rfl,rfl⟩ (by decide +kernel)) ?_)|(show YG _ _ _ _ _ _ ⟨_,.call { callee:=.value (.func 58),args:=_,argTypes:=_ },_,_,_,_⟩ _;refine YG.mk (fun hb=>by(try(have hc:=And.left hb;have hb:=And.right hb;rw[hc]));(try rw[hb]);exact zcI (ncos_c (by assumption)) (fun w' hw'=>MerW.ofSt hw' (by exact memA)) ⟨rfl,rfl,rfl⟩ (by decide +kernel)) ?_)|(show YK _ _ _ _ _ ⟨_,.call { callee:=.value (.func 57),args:=_,argTypes:=_ },_,_,_,_⟩ _;refine YK.mk (zcI (nmul_c2 (by assumption) (by assumption)) (fun w' hw'=>MerW.ofSt hw' (by exact memA)) ⟨rfl,rfl,rfl,rfl⟩ (by decide +kernel)) ?_)|(show YG _ _ _ _ _ _ ⟨_,.call { callee:=.value (.func 57),args:=_,argTypes:=_ },_,_,_,_⟩ _;refine YG.mk (fun hb=>by(try(have hc:=And.left hb;have hb:=And.right hb;rw[hc]));(try rw[hb]);exact zcI (nmul_c2 (by assumption) (by assumption)) (fun w' hw'=>MerW.ofSt hw' (by exact memA)) ⟨rfl,rfl,rfl,rfl⟩ (by decide +kernel)) ?_)|(show YK _ _ _ _ _ ⟨_,.call { callee:=.value (.func 54),args:=_,argTypes:=_ },_,_,_,_⟩ _;refine YK.mk (zcI (nkeep_c) (fun w' hw'=>MerW.ofSt hw' (by exact memA)) ⟨rfl,rfl,rfl,rfl⟩ (by decide +kernel)) ?_)|(show YG _ _ _ _ _ _ ⟨_,.call { callee:=.value (.func 54),args:=_,argTypes:=_ },_,_,_,_⟩ _;refine YG.mk (fun hb=>by(try(have hc:=And.left hb;have hb:=And.right hb;rw[hc]));(try rw[hb]);exact zcI (nkeep_c) (fun w' hw'=>MerW.ofSt hw' (by exact memA)) ⟨rfl,rfl,rfl,rfl⟩ (by decide +kernel)) ?_)|(refine G.mixedM 4 [.go 0,.go 1,.go 2,.go 5,.go 6,.go 7,.go 8,.go 10,.go 11,.go 14,.go 15,.pend 22,.go 3,.go 4,.go 9,.go 12,.go 13,.go 16,.go 17,.go 18,.go 19,.go 20,.go 21,.done,.go 23] [true,true,true,true,true,true] ?_;dsimp only[maskH])|(refine G.mixedM 12 [.go 0,.go 1,.go 3,.go 4,.pend 6,.pend 7,.go 2,.go 5,.done,.done,.go 8,.go 9] [true,true,true,true,true,true,true,true] ?_;dsimp only[maskH])|(show YK _ _ _ _ _ _ _;first|refine YK.mk (zcA (q1) ⟨rfl,rfl⟩) ?_|refine YK.mk (zcA (q2) ⟨rfl,rfl⟩) ?_|refine YK.mk (zcA (q3) ⟨rfl,rfl⟩) ?_|refine YK.mk (zcA (q4) ⟨rfl,rfl⟩) ?_|refine YK.mk (zcA (q5) ⟨rfl,rfl⟩) ?_|refine YK.mk (zcA (q6) ⟨rfl,rfl,rfl⟩) ?_|refine YK.mk (zcA (q7) ⟨rfl,rfl,rfl⟩) ?_|refine YK.mk (zcA (q8) ⟨rfl,rfl,rfl⟩) ?_|refine YK.mk (zcA (q9) ⟨rfl,rfl⟩) ?_|refine YK.mk (zcA (qm) ⟨rfl,rfl,rfl⟩) ?_)|(refine nxV ?_)|(refine nSS ?_)|(refine nS1 fun _=>?_)|(refine nMM ?_)|(refine nM1 fun _=>?_)|(show YG _ _ _ _ _ _ _ _;refine YG.mk (fun hb=>by(try(have hc:=And.left hb;have hb:=And.right hb;rw[hc]));(try rw[hb]);first|exact(zcA (q1) ⟨rfl,rfl⟩)|exact(zcA (q2) ⟨rfl,rfl⟩)|exact(zcA (q3) ⟨rfl,rfl⟩)|exact(zcA (q4) ⟨rfl,rfl⟩)|exact(zcA (q5) ⟨rfl,rfl⟩)|exact(zcA (q6) ⟨rfl,rfl,rfl⟩)|exact(zcA (q7) ⟨rfl,rfl,rfl⟩)|exact(zcA (q8) ⟨rfl,rfl,rfl⟩)|exact(zcA (q9) ⟨rfl,rfl⟩)|exact(zcA (qm) ⟨rfl,rfl,rfl⟩)|exact V.y vAuto) ?_)|(refine nxG ?_)|(refine G.mA 6 [.go 0,.go 1,.go 2,.go 3,.go 4,.go 5,.go 6] ?_)|(refine nxX ?_)|(refine G.cN rfl (fun hc=>?_) (fun hc=>?_)<;>(try first|exact hc.elim|(exfalso;omega))))
   all_goals first
    |(exfalso;simp at hc;done)
    |(exfalso;simp at hc;omega)
    |exact X.ret (vs:=[_,_]) rfl ⟨⟨_,_,_,_,rfl,(by exact memA),lenA,by decide +kernel,rfl⟩,rfl,rfl⟩ rfl rE
section
variable {P t1 t2 k1 k2 n m:Int}
theorem altq (hP : -5400000≤P∧P≤5400000) (ht : -5400000≤t1∧t1≤t2∧t2≤5400000) (hk:0≤k1∧k1≤k2∧k2≤43200000) :
  ∃n m:Int,(TT.IsAsin (TT.meetO (TT.nooS (P,P) (t1,t2) (k1,k2))).1 n∧TT.IsAsin (-(TT.meetO (TT.nooS (P,P) (t1,t2) (k1,k2))).2) m∧latI n (-m))∧Cont Tryz.prog 13 [v6 P P t1 t2 k1 k2] (.tuple [arcV n (-m),.int .i64 0].toArray):=by
 have hm:=(TT.noo_meet (P:=P) (D:=t1) (k0:=k1) (l:=(P,P)) (t:=(t1,t2)) (k:=(k1,k2)) ⟨Int.le_refl _,Int.le_refl _⟩ (by unfold TT.ok8;omega) ⟨Int.le_refl _,ht.2.1⟩ (by unfold TT.ok8;omega) ⟨Int.le_refl _,hk.2.1⟩ (by unfold TT.ok8;omega)).1
 obtain⟨n,i1⟩:=TT.asin_ex (v:=(TT.meetO (TT.nooS (P,P) (t1,t2) (k1,k2))).1) (by omega)
 obtain⟨m,i2⟩:=TT.asin_ex (v:=-(TT.meetO (TT.nooS (P,P) (t1,t2) (k1,k2))).2) (by omega)
 have ho:=TT.asin_ord i1 i2 hm.1
 have a1:=i1.1
 have a2:=i2.1
 exact⟨n,m,⟨i1,i2,by unfold latI;omega⟩,oAlt_c (by omega) ht (by omega) hm.1 i1 i2⟩
theorem latq (hP : -5400000≤P∧P≤5400000) (ht : -5400000≤t1∧t1≤t2∧t2≤5400000) {j:Int} (hj:k1≤21600000*j∧21600000*j≤k2) (h0:0≤j) (h1:j≤2) (hl:latI n (-m))
  (i1:TT.IsAsin (TT.meetO (TT.nooS (P,P) (t1,t2) (k1,k2))).1 n) (i2:TT.IsAsin (-(TT.meetO (TT.nooS (P,P) (t1,t2) (k1,k2))).2) m) (hs:t2≤P∨P≤t1) :
  ∃r:Int×Int,(r.1≤P∧P≤r.2)∧Cont Tryz.prog 14 [arcV n (-m),arcV t1 t2,.bool (decide (t2≤P))] (.tuple [arcV r.1 r.2,.int .i64 0].toArray):=by
 have hlt:latI t1 t2:=by unfold latI;omega
 by_cases h:t2≤P
 ·rw[decide_eq_true h]
  have g:=TT.noon_south (P:=P) (j:=j) (t:=(t1,t2)) (k:=(k1,k2)) hP ht hj h0 h1 h i1 i2
  dsimp only at g
  exact⟨(_,_),by dsimp only;omega,nLatS_c hl hlt (by omega)⟩
 ·rw[decide_eq_false h]
  have g:=TT.noon_north (P:=P) (j:=j) (t:=(t1,t2)) (k:=(k1,k2)) hP ht hj h0 h1 (hs.resolve_left h) i1 i2
  dsimp only at g
  exact⟨(_,_),by dsimp only;omega,nLatN_c hl hlt (by omega)⟩
theorem exq (hP : -4800000≤P∧P≤4800000) (ht : -5400000≤t1∧t1≤t2∧t2≤5400000) (hk:0≤k1∧k1≤k2∧k2≤43200000) (hl:latI n (-m))
  (i1:TT.IsAsin (TT.meetO (TT.nooS (P,P) (t1,t2) (k1,k2))).1 n) (i2:TT.IsAsin (-(TT.meetO (TT.nooS (P,P) (t1,t2) (k1,k2))).2) m) :
  ∃r:Int×Int,r.1≤P∧P≤r.2∧latI r.1 r.2∧Cont Tryz.prog 16 [arcV n (-m),arcV (max (-5400000) (P-30000)) (min 5400000 (P+30000)),arcV t1 t2,arcV k1 k2] (.tuple [arcV r.1 r.2,.int .i64 0].toArray):=by
 have hlP:(max (-5400000) (P-30000),min 5400000 (P+30000)).1≤P∧P≤(max (-5400000) (P-30000),min 5400000 (P+30000)).2:=by dsimp only;omega
 have hc:=TT.ex_clamp (P:=P) (D:=t1) (k0:=k1) (l:=(max (-5400000) (P-30000),min 5400000 (P+30000))) (t:=(t1,t2)) (k:=(k1,k2)) hlP (by omega) ⟨Int.le_refl _,ht.2.1⟩ (by omega) ⟨Int.le_refl _,hk.2.1⟩ (by unfold TT.ok8;omega) i1 i2
 obtain⟨n1,h1⟩:=TT.asin_ex (v:=1073741824-2*(TT.clamp (TT.exS (n,-m) (max (-5400000) (P-30000),min 5400000 (P+30000)) (t1,t2) (k1,k2))).2) (by omega)
 obtain⟨n0,h0⟩:=TT.asin_ex (v:=-(1073741824-2*(TT.clamp (TT.exS (n,-m) (max (-5400000) (P-30000),min 5400000 (P+30000)) (t1,t2) (k1,k2))).1)) (by omega)
 have hx:=TT.ex_holds (P:=P) (D:=t1) (k0:=k1) (l:=(max (-5400000) (P-30000),min 5400000 (P+30000))) (t:=(t1,t2)) (k:=(k1,k2)) hlP (by omega) ⟨Int.le_refl _,ht.2.1⟩ (by omega) ⟨Int.le_refl _,hk.2.1⟩ (by unfold TT.ok8;omega) i1 i2 h1 h0
 have ho:=TT.asin_ord h1 h0 (by omega)
 exact nEx_c hl (by unfold latI;omega) (by unfold latI;omega) (by omega) hc.1 hc.2 h1 h0 (by omega) hlP hx.1 hx.2.1 hx.2.2
end
structure NoonF (pl:List PagT) (nm:List UInt8) (lon t1 t2:Int):Prop where
 le:t1≤t2
 z:(whR pl nm t1 t2).2=0
 b:0≤(lhR pl nm t1 t2 lon).1.1∧(lhR pl nm t1 t2 lon).1.1≤(lhR pl nm t1 t2 lon).1.2∧(lhR pl nm t1 t2 lon).1.2≤43200000
 j:∃j:Int,((lhR pl nm t1 t2 lon).1.1≤21600000*j∧21600000*j≤(lhR pl nm t1 t2 lon).1.2)∧0≤j∧j≤2
 d : -5400000≤(whR pl nm t1 t2).1.2.1.1∧(whR pl nm t1 t2).1.2.1.1≤(whR pl nm t1 t2).1.2.1.2∧(whR pl nm t1 t2).1.2.1.2≤5400000
 t : -70368744177664≤t1∧t2≤70368742977664
 th:∀n,t2≤n→n<t2+1200000→(whR pl nm n n).2=0∨(whR pl nm n n).2=20
theorem noon_facts {pl:List PagT} {nm:List UInt8} {lon fr:Int} {r:(Int×Int)×Int} (hB:BkOk pl) (hr:TrR pl nm lon fr r) (h0:r.2=0):NoonF pl nm lon r.1.1 r.1.2:=by
 rcases hr with ⟨h,_⟩|⟨_,k,y0,y1,hno,⟨k25,a1,a2,a3,a4,a5⟩,hfr,g0,g1⟩
 ·exact absurd h0 h
 obtain⟨⟨t1,t2⟩,e⟩:=r
 dsimp only at *
 have hle:t1≤t2:=by omega
 obtain⟨hz,hd⟩:=transit_dir hB a2 a3 a5 (by omega) g0 g1
 have hb:=lh_bd (lon:=lon) hB hle hz
 have yz:=wh_zero.1 hz
 have hfar:t2≤70368742977664:=by
  by_cases ha:nm=ariesN
  ·subst ha
   obtain⟨k',hk',hag⟩:=aries_day (lon:=lon) hB fr ⟨hfr.1,by omega⟩
   have:k≤k':=Nat.le_of_not_lt fun g=>hno k' g hag
   omega
  ·have:=(wh_far hB hz ha).2
   omega
 refine⟨hle,hz,hb,NO.has_form hd hb.1 hb.2.2,wh_dec hB hz,⟨yz.1.1,hfar⟩,fun n n1 n2=>?_⟩
 have:=yz.1.1
 exact wh_time ⟨by omega,Int.le_refl _,by omega⟩ yz.2.1 (by omega)
theorem rpoint_c (la lo:Int):Cont Tryz.prog 20 [ptV la lo] (.bool (pointB la lo)):=fun w=>by
 refine enter0 Tryz.func20 rfl rfl rfl ?_
 repeat' (first|(refine nxV ?_)|(refine nSS ?_)|(refine nS1 fun _=>?_)|(refine nMM ?_)|(refine nM1 fun _=>?_)|(refine nxG ?_)|(refine nxX ?_)|(refine G.cN rfl (fun hc=>?_) (fun hc=>?_)<;>(try first|exact hc.elim|(exfalso;omega))))
 exact X.ret (vs:=[_]) rfl ⟨rfl,rfl⟩ rfl (fun w hw=>⟨ret_bool rfl,hw.ext⟩)
def wayB (la lo:Int):Bool:=pointB la lo&&decide (-4800000≤la)&&decide (la≤4800000)
theorem nwpt_c (la lo:Int):Cont Tryz.prog 5 [ptV la lo] (.bool (wayB la lo)):=fun w=>by
 have q1:=rpoint_c la lo
 unfold wayB
 generalize pointB la lo=pb at *
 refine enter0 Tryz.func5 rfl rfl rfl ?_
 repeat' (first|(refine nxN ?_)|(show YK _ _ _ _ _ _ _;first|refine YK.mk (zcA (q1) ⟨rfl,rfl⟩) ?_)|(refine nxV ?_)|(refine nSS ?_)|(refine nS1 fun _=>?_)|(refine nMM ?_)|(refine nM1 fun _=>?_)|(show YG _ _ _ _ _ _ _ _;refine YG.mk (fun hb=>by(try(have hc:=And.left hb;have hb:=And.right hb;rw[hc]));(try rw[hb]);first|exact(zcA (q1) ⟨rfl,rfl⟩)|exact V.y vAuto) ?_)|(refine nxG ?_)|(refine nxX ?_)|(refine G.cN rfl (fun hc=>?_) (fun hc=>?_)<;>(try first|exact hc.elim|(exfalso;omega))))
 all_goals first
  |exact X.ret1
  |exact X.ret (vs:=[_]) rfl ⟨rfl,rfl⟩ rfl (fun w hw=>⟨ret_bool (by simp_all),hw.ext⟩)
theorem rlat_c {a b:Int} (h : -5400000≤a∧a≤b∧b≤5400000):Cont Tryz.prog 12 [arcV a b] (.bool true):=fun w=>by
 refine enter0 Tryz.func12 rfl rfl rfl ?_
 repeat' (first|(refine nxN ?_)|(refine nxV ?_)|(refine nSS ?_)|(refine nS1 fun _=>?_)|(refine nMM ?_)|(refine nM1 fun _=>?_)|(refine nxG ?_)|(refine nxX ?_)|(refine G.cN rfl (fun hc=>?_) (fun hc=>?_)<;>(try first|exact hc.elim|(exfalso;omega))))
 all_goals first
  |(exfalso;omega)
  |exact X.ret1
  |exact X.ret (vs:=[_]) rfl ⟨rfl,rfl⟩ rfl (fun w hw=>⟨ret_bool (by simp;omega),hw.ext⟩)
theorem rins_c {P a b:Int} (h:a≤P∧P≤b):Cont Tryz.prog 15 [arcV P P,arcV a b] (.bool true):=fun w=>by
 refine enter0 Tryz.func15 rfl rfl rfl ?_
 repeat' (first|(refine nxN ?_)|(refine nxV ?_)|(refine nSS ?_)|(refine nS1 fun _=>?_)|(refine nMM ?_)|(refine nM1 fun _=>?_)|(refine nxG ?_)|(refine nxX ?_)|(refine G.cN rfl (fun hc=>?_) (fun hc=>?_)<;>(try first|exact hc.elim|(exfalso;omega))))
 all_goals first
  |(exfalso;omega)
  |exact X.ret1
  |exact X.ret (vs:=[_]) rfl ⟨rfl,rfl⟩ rfl (fun w hw=>⟨ret_bool (by simp;omega),hw.ext⟩)
end Go.Proofs.YtjmdeplmenbmmaaGreat
