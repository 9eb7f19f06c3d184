/- Joined texts: Run, Awk, Awq. -/
import Derived.Test.YtjmdeplmenbmmaaGreatW20
import Derived.Test.YtjmdeplmenbmmaaGreatW26
import Derived.Test.YtjmdeplmenbmmaaGreatW25
import Derived.Test.YtjmdeplmenbmmaaGreatW29
import Derived.Test.YtjmdeplmenbmmaaGreatW21
set_option linter.unusedVariables false
set_option maxHeartbeats 8000000
namespace Go.Proofs.YtjmdeplmenbmmaaGreat
open Go.RowKit
theorem isA {v n:Int} (h : -5400000≤n∧n<5400000) (h1:(TT.bnd n).2≤v) (h2:v<(TT.bnd (n+1)).2):TT.IsAsin v n:=⟨h.1,by omega,h1,fun m hm hm2=>by
 have:=(TT.bnd_mono (n:=n+1) (m:=m) (by omega) (by omega) hm2).1
 omega⟩
theorem gc60:TT.IsGc 0 0 (signI (3600000-0)) (3600000,3600000):=by
 rw[show signI (3600000-0)=3600000 by decide]
 exact⟨-1800000,1800000,isA (by omega) (by decide +kernel) (by decide +kernel),isA (by omega) (by decide +kernel) (by decide +kernel),rfl⟩
theorem inv60_c:∃a b:Int,Cont Tryz.prog 17 [ptV 0 0,ptV 0 3600000] (.tuple [v4 a b 3600000 3600000,.int .i64 0].toArray) :=
 ⟨_,_,inverse_c (by unfold lat8I lon8I;omega) (by unfold lat8I lon8I;omega) gc60⟩
theorem alt60_c:Cont Tryz.prog 13 [v6 0 0 0 0 3600000 3600000] (.tuple [arcV 1800000 1800000,.int .i64 0].toArray) :=
 oAlt_c (n:=1800000) (m:=-1800000) (by omega) (by omega) (by omega) (by decide +kernel) (isA (by omega) (by decide +kernel) (by decide +kernel)) (isA (by omega) (by decide +kernel) (by decide +kernel))
section
variable {C:World→Prop} {fa:FuncId} {bs:Array Value} {x1 x2 l1 h1 l2 h2:Int}
theorem bothG_c (hk:∀w w',C w→Below w.heap.size w w'→C w') (hgo:isGo Tryz.prog fa=true) (q1:ContIn Tryz.prog C fa ([.int .i64 x1]++bs.toList) (.tuple [.int .i64 l1,.int .i64 h1,.int .i64 0].toArray)) (q2:ContIn Tryz.prog C fa ([.int .i64 x2]++bs.toList) (.tuple [.int .i64 l2,.int .i64 h2,.int .i64 0].toArray))
  (hv : -1099511627776≤min (min l1 l1) l2∧min (min l1 l1) l2≤max (max h1 h1) h2∧max (max h1 h1) h2≤1099511627776) :
  ContIn Tryz.prog C 126 [arcV x1 x2,.func (.func fa) #[] bs] (.tuple [arcV (min (min l1 l1) l2) (max (max h1 h1) h2),.int .i64 0].toArray):=fun w hs=>by
 have q3:=gval_c hv
 refine enter0 Tryz.func126 rfl rfl rfl ?_
 repeat' (first|(refine nxN ?_)|(show VK _ _ _ _ _ ⟨_,.build 197 _,_,_,_,_⟩ _;refine VK.mk (y_build (parts:=[(0,_),(1,_)]) (vs:=[_,_]) ⟨rfl,rfl,rfl⟩ (pair_built _ _)) ?_)|(show YK _ _ _ _ _ ⟨_,.build 197 _,_,_,_,_⟩ _;refine YK.ofV (y_build (parts:=[(0,_),(1,_)]) (vs:=[_,_]) ⟨rfl,rfl,rfl⟩ (pair_built _ _)) ?_)|(show YK _ _ _ _ _ ⟨_,.call { callee:=.value _,args:=_,argTypes:=_ },_,_,_,_⟩ _;refine YK.mk (y_callV (f:=fa) (by rfl) q1 (fun w' hw'=>hk _ _ hs hw'.ext) ⟨rfl,rfl⟩ hgo) ?_)|(show YK _ _ _ _ _ ⟨_,.call { callee:=.value _,args:=_,argTypes:=_ },_,_,_,_⟩ _;refine YK.mk (y_callV (f:=fa) (by rfl) q2 (fun w' hw'=>hk _ _ hs hw'.ext) ⟨rfl,rfl⟩ hgo) ?_)|(show VK _ _ _ _ _ ⟨_,.index 197 _ _,_,_,_,_⟩ _;first|refine VK.mk (y_index (i:=0) (l:=2) (cs:=[.int .i64 x1,.int .i64 x2]) (by rfl) (by rfl) (by rfl) (by rfl) lenA (by decide +kernel)) ?_|refine VK.mk (y_index (i:=1) (l:=2) (cs:=[.int .i64 x1,.int .i64 x2]) (by rfl) (by rfl) (by rfl) (by rfl) lenA (by decide +kernel)) ?_)|(show YK _ _ _ _ _ ⟨_,.index 197 _ _,_,_,_,_⟩ _;first|refine YK.ofV (y_index (i:=0) (l:=2) (cs:=[.int .i64 x1,.int .i64 x2]) (by rfl) (by rfl) (by rfl) (by rfl) lenA (by decide +kernel)) ?_|refine YK.ofV (y_index (i:=1) (l:=2) (cs:=[.int .i64 x1,.int .i64 x2]) (by rfl) (by rfl) (by rfl) (by rfl) lenA (by decide +kernel)) ?_)|(show G _ _ _ _ _ _ (.loop _);refine G.loopN 3 (GR.step ?_))|(show X (Exit.then (Code.rounds _ _ _ _) _) _ _ _ _ .normal;refine X.round (GR.step ?_))|(show YK _ _ _ _ _ _ _;first|refine YK.mk (zcA (q3) ⟨rfl,rfl⟩) ?_)|(refine nxV ?_)|(refine nSS ?_)|(refine nS1 fun _=>?_)|(refine nMM ?_)|(refine nM1 fun _=>?_)|(show YG _ _ _ _ _ _ _ _;refine YG.mk (fun hb=>by(try(have hc:=And.left hb;have hb:=And.right hb;rw[hc]));(try rw[hb]);first|exact(zcA (q3) ⟨rfl,rfl⟩)|exact V.y vAuto) ?_)|(refine nxG ?_)|(refine nxX ?_)|(refine G.cN rfl (fun hc=>?_) (fun hc=>?_)<;>(try first|exact hc.elim|(exfalso;omega))))
 all_goals first
  |(exfalso;omega)
  |exact X.ret (vs:=[_,_]) rfl ⟨⟨_,_,_,_,rfl,(by exact memA),lenA,by decide +kernel,rfl⟩,rfl,rfl⟩ rfl rE
end
def PrW (B:Nat) (c1 c2:Int) (w:World):Prop:=∀k u,[Value.int .i64 c1,.int .i64 c2][k]?=some u→w.cell? ⟨B,k,none⟩=some u
theorem PrW.keep {B:Nat} {c1 c2:Int} {w w':World} (h:PrW B c1 c2 w) (hb:Below w.heap.size w w'):PrW B c1 c2 w':=fun k v hk=>by
 have e:=h k v hk
 exact(hb.cell (World.block_lt_of_cell? w _ e)).trans e
theorem pr1_c {B:Nat} {c1 c2 n:Nat} (h:c1≤c2∧c2≤1073741824) (hn:n≤100000000):ContIn Tryz.prog (PrW B c1 c2) 211 ([.int .i64 (n:Int)]++(#[.pointer (some ⟨B,0,none⟩)]:Array Value).toList) (.tuple [.int .i64 (((c1*n:Nat):Int)/1073741824),.int .i64 (-(-((c2*n:Nat):Int)/1073741824)),.int .i64 0].toArray):=fun w hs=>by
 have q1:=scale_c (n:=n) h hn
 generalize ((c1*n:Nat):Int)/1073741824=x at *
 generalize -(-((c2*n:Nat):Int)/1073741824)=y at *
 refine enter0 Tryz.func211 rfl rfl rfl ?_
 repeat' (first|(refine nxN ?_)|(show VK _ _ _ _ _ ⟨_,.load 108 _,_,_,_,_⟩ _;refine VK.mk (y_loadXP (k:=2) (by rfl) hs (by decide +kernel) (by rfl)) ?_)|(show YK _ _ _ _ _ ⟨_,.load 108 _,_,_,_,_⟩ _;refine YK.ofV (y_loadXP (k:=2) (by rfl) hs (by decide +kernel) (by rfl)) ?_)|(show VG _ _ _ _ _ _ ⟨_,.load 108 _,_,_,_,_⟩ _;refine VG.mk (fun hb=>by(try(have hc:=And.left hb;have hb:=And.right hb;rw[hc]));(try rw[hb]);exact y_loadXP (k:=2) (by rfl) hs (by decide +kernel) (by rfl)) ?_)|(show YG _ _ _ _ _ _ ⟨_,.load 108 _,_,_,_,_⟩ _;refine YG.mk (fun hb=>by(try(have hc:=And.left hb;have hb:=And.right hb;rw[hc]));(try rw[hb]);exact V.y (y_loadXP (k:=2) (by rfl) hs (by decide +kernel) (by rfl))) ?_)|(show YK _ _ _ _ _ _ _;first|refine YK.mk (zcA (q1) ⟨rfl,rfl,rfl⟩) ?_)|(refine nxV ?_)|(refine nSS ?_)|(refine nS1 fun _=>?_)|(refine nMM ?_)|(refine nM1 fun _=>?_)|(show YG _ _ _ _ _ _ _ _;refine YG.mk (fun hb=>by(try(have hc:=And.left hb;have hb:=And.right hb;rw[hc]));(try rw[hb]);first|exact(zcA (q1) ⟨rfl,rfl,rfl⟩)|exact V.y vAuto) ?_)|(refine nxG ?_)|(refine nxX ?_)|(refine G.cN rfl (fun hc=>?_) (fun hc=>?_)<;>(try first|exact hc.elim|(exfalso;omega))))
 all_goals exact X.ret (vs:=[_,_,_]) rfl ⟨rfl,rfl,rfl,rfl⟩ rfl rE
theorem npro_c {c1 c2 n:Nat} {x y:Int} (h:c1≤c2∧c2≤1073741824) (hn:n≤100000000) (hx:x=((c1*n:Nat):Int)/1073741824) (hy:y = -(-((c2*n:Nat):Int)/1073741824)) (hxy : -1099511627776≤x∧x≤y∧y≤1099511627776) :
  Cont Tryz.prog 173 [arcV (c1:Int) (c2:Int),arcV (n:Int) (n:Int)] (.tuple [arcV x y,.int .i64 0].toArray):=fun w=>by
 have q0:=fun B=>pr1_c (B:=B) h hn
 rw[←hx,←hy] at q0
 have q1:=fun B=>bothG_c (fun _ _ h hb=>PrW.keep h hb) (by decide +kernel) (q0 B) (q0 B) (by omega)
 rw[show min (min x x) x=x by omega,show max (max y y) y=y by omega] at q1
 refine enter0 Tryz.func173 rfl rfl rfl ?_
 repeat' (first|(refine nxN ?_)|(show YK _ _ _ _ _ ⟨_,.call { callee:=.value (.func 126),args:=_,argTypes:=_ },_,_,_,_⟩ _;refine YK.mk (zcI (q1 _) (fun w' hw'=>fun k v hk=>(hw'.cell (t:=108) (cs:=[.int .i64 (c1:Int),.int .i64 (c2:Int)]) (by exact memA) k).trans hk) ⟨rfl,rfl,rfl⟩ (by decide +kernel)) ?_)|(show YG _ _ _ _ _ _ ⟨_,.call { callee:=.value (.func 126),args:=_,argTypes:=_ },_,_,_,_⟩ _;refine YG.mk (fun hb=>by(try(have hc:=And.left hb;have hb:=And.right hb;rw[hc]));(try rw[hb]);exact zcI (q1 _) (fun w' hw'=>fun k v hk=>(hw'.cell (t:=108) (cs:=[.int .i64 (c1:Int),.int .i64 (c2:Int)]) (by exact memA) k).trans hk) ⟨rfl,rfl,rfl⟩ (by decide +kernel)) ?_)|(refine nxV ?_)|(refine nSS ?_)|(refine nS1 fun _=>?_)|(refine nMM ?_)|(refine nM1 fun _=>?_)|(refine nxG ?_)|(refine nxX ?_)|(refine G.cN rfl (fun hc=>?_) (fun hc=>?_)<;>(try first|exact hc.elim|(exfalso;omega))))
 all_goals first
  |(exfalso;omega)
  |exact X.ret (vs:=[_,_]) rfl ⟨⟨_,_,_,_,rfl,(by exact memA),lenA,by decide +kernel,rfl⟩,rfl,rfl⟩ rfl rE
theorem nlv_c {a b c d:Int} (h : -1099511627776≤a∧a≤b∧b≤1099511627776) (h2:0≤c∧c≤d∧d≤1099511627776):Cont Tryz.prog 172 [v4 a b c d] (.bool true):=fun w=>by
 have q1:=gval_c h
 have q2:=gval_c (a:=c) (b:=d) (by omega)
 refine enter0 Tryz.func172 rfl rfl rfl ?_
 repeat' (first|(refine nxN ?_)|(show VK _ _ _ _ _ ⟨_,.load 42 _,_,_,_,_⟩ _;refine VK.mk (zlP (k:=2) (by rfl) (by exact memA) (by decide +kernel) (by rfl)) ?_)|(show YK _ _ _ _ _ ⟨_,.load 42 _,_,_,_,_⟩ _;refine YK.ofV (zlP (k:=2) (by rfl) (by exact memA) (by decide +kernel) (by rfl)) ?_)|(show VG _ _ _ _ _ _ ⟨_,.load 42 _,_,_,_,_⟩ _;refine VG.mk (fun hb=>by(try(have hc:=And.left hb;have hb:=And.right hb;rw[hc]));(try rw[hb]);exact zlP (k:=2) (by rfl) (by exact memA) (by decide +kernel) (by rfl)) ?_)|(show YG _ _ _ _ _ _ ⟨_,.load 42 _,_,_,_,_⟩ _;refine YG.mk (fun hb=>by(try(have hc:=And.left hb;have hb:=And.right hb;rw[hc]));(try rw[hb]);exact V.y (zlP (k:=2) (by rfl) (by exact memA) (by decide +kernel) (by rfl))) ?_)|(show YK _ _ _ _ _ _ _;first|refine YK.mk (zcA (q1) ⟨rfl,rfl⟩) ?_|refine YK.mk (zcA (q2) ⟨rfl,rfl⟩) ?_)|(refine nxV ?_)|(refine nSS ?_)|(refine nS1 fun _=>?_)|(refine nMM ?_)|(refine nM1 fun _=>?_)|(show YG _ _ _ _ _ _ _ _;refine YG.mk (fun hb=>by(try(have hc:=And.left hb;have hb:=And.right hb;rw[hc]));(try rw[hb]);first|exact(zcA (q1) ⟨rfl,rfl⟩)|exact(zcA (q2) ⟨rfl,rfl⟩)|exact V.y vAuto) ?_)|(refine nxG ?_)|(refine nxX ?_)|(refine G.cN rfl (fun hc=>?_) (fun hc=>?_)<;>(try first|exact hc.elim|(exfalso;omega))))
 all_goals first
  |(exfalso;omega)
  |(exact X.ret (vs:=[_]) rfl ⟨rfl,rfl⟩ rfl (fun w hw=>⟨ret_bool (by simp;omega),hw.ext⟩))
theorem fun2_built:Tryz.prog.built 195 [(0,.func (.func 107) #[] #[]),(1,.func (.func 167) #[] #[])]=some [.func (.func 107) #[] #[],.func (.func 167) #[] #[]].toArray:=by kernel_rfl
theorem npla_c:Cont Tryz.prog 124 [v4 0 0 60000 60000] (.tuple [arcV 60000 60000,arcV 0 0,.int .i64 0].toArray):=fun w=>by
 have q1:=nlv_c (a:=0) (b:=0) (c:=60000) (d:=60000) (by omega) (by omega)
 have q2:ContIn Tryz.prog (fun _=>True) 107 ([arcV 0 0]++(#[]:Array Value).toList) (.tuple [arcV 1073741824 1073741824,.int .i64 0].toArray):=fun w _=>by
  have:=Cos_c (lo:=0) (hi:=0) (valI (by omega)) w
  rwa [show TT.cosE 0 0=(1073741824,1073741824) by decide +kernel] at this
 have q3:ContIn Tryz.prog (fun _=>True) 167 ([arcV 0 0]++(#[]:Array Value).toList) (.tuple [arcV 0 0,.int .i64 0].toArray):=fun w _=>by
  have:=Sin_c (lo:=0) (hi:=0) (valI (by omega)) w
  rwa [show TT.encl 0 0=(0,0) by decide +kernel] at this
 have q4:Cont Tryz.prog 173 [arcV 1073741824 1073741824,arcV 60000 60000] (.tuple [arcV 60000 60000,.int .i64 0].toArray):=npro_c (c1:=1073741824) (c2:=1073741824) (n:=60000) (by omega) (by omega) (by decide) (by decide) (by omega)
 have q5:Cont Tryz.prog 173 [arcV 0 0,arcV 60000 60000] (.tuple [arcV 0 0,.int .i64 0].toArray):=npro_c (c1:=0) (c2:=0) (n:=60000) (by omega) (by omega) (by decide) (by decide) (by omega)
 refine enter0 Tryz.func124 rfl rfl rfl ?_
 repeat' (first|(refine nxN ?_)|(show VK _ _ _ _ _ ⟨_,.build 195 #[(0,_),(1,_)],_,_,_,_⟩ _;refine VK.mk (y_build (parts:=[(0,_),(1,_)]) (vs:=[_,_]) ⟨rfl,rfl,rfl⟩ (fun2_built)) ?_)|(show YK _ _ _ _ _ ⟨_,.build 195 #[(0,_),(1,_)],_,_,_,_⟩ _;refine YK.ofV (y_build (parts:=[(0,_),(1,_)]) (vs:=[_,_]) ⟨rfl,rfl,rfl⟩ (fun2_built)) ?_)|(show VG _ _ _ _ _ _ ⟨_,.build 195 #[(0,_),(1,_)],_,_,_,_⟩ _;refine VG.mk (fun hb=>by(try(have hc:=And.left hb;have hb:=And.right hb;rw[hc]));(try rw[hb]);exact y_build (parts:=[(0,_),(1,_)]) (vs:=[_,_]) ⟨rfl,rfl,rfl⟩ (fun2_built)) ?_)|(show YG _ _ _ _ _ _ ⟨_,.build 195 #[(0,_),(1,_)],_,_,_,_⟩ _;refine YG.mk (fun hb=>by(try(have hc:=And.left hb;have hb:=And.right hb;rw[hc]));(try rw[hb]);exact V.y (y_build (parts:=[(0,_),(1,_)]) (vs:=[_,_]) ⟨rfl,rfl,rfl⟩ (fun2_built))) ?_)|(show VK _ _ _ _ _ ⟨_,.index 195 _ _,_,_,_,_⟩ _;first|refine VK.mk (y_index (i:=0) (l:=2) (cs:=[.func (.func 107) #[] #[],.func (.func 167) #[] #[]]) (by rfl) (by rfl) (by rfl) (by rfl) lenA (by decide +kernel)) ?_|refine VK.mk (y_index (i:=1) (l:=2) (cs:=[.func (.func 107) #[] #[],.func (.func 167) #[] #[]]) (by rfl) (by rfl) (by rfl) (by rfl) lenA (by decide +kernel)) ?_)|(show YK _ _ _ _ _ ⟨_,.index 195 _ _,_,_,_,_⟩ _;first|refine YK.ofV (y_index (i:=0) (l:=2) (cs:=[.func (.func 107) #[] #[],.func (.func 167) #[] #[]]) (by rfl) (by rfl) (by rfl) (by rfl) lenA (by decide +kernel)) ?_|refine YK.ofV (y_index (i:=1) (l:=2) (cs:=[.func (.func 107) #[] #[],.func (.func 167) #[] #[]]) (by rfl) (by rfl) (by rfl) (by rfl) lenA (by decide +kernel)) ?_)|(show YK _ _ _ _ _ ⟨_,.call { callee:=.value _,args:=_,argTypes:=_ },_,_,_,_⟩ _;refine YK.mk (y_callV (f:=107) (by rfl) q2 (fun _ _=>trivial) ⟨rfl,rfl⟩ (by decide +kernel)) ?_)|(show YK _ _ _ _ _ ⟨_,.call { callee:=.value _,args:=_,argTypes:=_ },_,_,_,_⟩ _;refine YK.mk (y_callV (f:=167) (by rfl) q3 (fun _ _=>trivial) ⟨rfl,rfl⟩ (by decide +kernel)) ?_)|(show VK _ _ _ _ _ ⟨_,.load 42 _,_,_,_,_⟩ _;refine VK.mk (zlP (k:=2) (by rfl) (by exact memA) (by decide +kernel) (by rfl)) ?_)|(show YK _ _ _ _ _ ⟨_,.load 42 _,_,_,_,_⟩ _;refine YK.ofV (zlP (k:=2) (by rfl) (by exact memA) (by decide +kernel) (by rfl)) ?_)|(show VG _ _ _ _ _ _ ⟨_,.load 42 _,_,_,_,_⟩ _;refine VG.mk (fun hb=>by(try(have hc:=And.left hb;have hb:=And.right hb;rw[hc]));(try rw[hb]);exact zlP (k:=2) (by rfl) (by exact memA) (by decide +kernel) (by rfl)) ?_)|(show YG _ _ _ _ _ _ ⟨_,.load 42 _,_,_,_,_⟩ _;refine YG.mk (fun hb=>by(try(have hc:=And.left hb;have hb:=And.right hb;rw[hc]));(try rw[hb]);exact V.y (zlP (k:=2) (by rfl) (by exact memA) (by decide +kernel) (by rfl))) ?_)|(show YK _ _ _ _ _ ⟨_,.indexAddr 194 _ _,_,_,_,_⟩ _;first|refine YK.ofV (y_indexArrR (i:=0) (len:=2) (c:=2) (o:=0) (by rfl) (by rfl) (by exact(rfl:_=((0:Nat):Int))) (by decide +kernel) (by rfl) (by rfl)) ?_|refine YK.ofV (y_indexArrR (i:=1) (len:=2) (c:=2) (o:=2) (by rfl) (by rfl) (by exact(rfl:_=((1:Nat):Int))) (by decide +kernel) (by rfl) (by rfl)) ?_)|(show VK _ _ _ _ _ ⟨_,.indexAddr 194 _ _,_,_,_,_⟩ _;first|refine VK.mk (y_indexArrR (i:=0) (len:=2) (c:=2) (o:=0) (by rfl) (by rfl) (by exact(rfl:_=((0:Nat):Int))) (by decide +kernel) (by rfl) (by rfl)) ?_|refine VK.mk (y_indexArrR (i:=1) (len:=2) (c:=2) (o:=2) (by rfl) (by rfl) (by exact(rfl:_=((1:Nat):Int))) (by decide +kernel) (by rfl) (by rfl)) ?_)|(show RS _ _ _ _ _ _ _ (⟨none,.store 42 (.tmp 40) _,_,_,_,_⟩::_);refine RS.storePt (k:=2) ?_ (by rfl) (by rfl) (by rfl) (by exact updA) (by rfl) (by rfl) (by decide +kernel);try simp only[setAt,List.set_cons_zero,List.set_cons_succ])|(show G _ _ _ _ _ _ (.loop _);refine G.loopN 3 (GR.step ?_))|(show X (Exit.then (Code.rounds _ _ _ _) _) _ _ _ _ .normal;refine X.round (GR.step ?_))|(refine G.mixedM 14 [.go 0,.go 1,.go 2,.go 3,.go 4,.go 5,.go 6] [true,true,true,false,false,true] ?_;dsimp only[maskH])|(show YK _ _ _ _ _ _ _;first|refine YK.mk (zcA (q1) ⟨rfl,rfl⟩) ?_|refine YK.mk (zcA (q4) ⟨rfl,rfl,rfl⟩) ?_|refine YK.mk (zcA (q5) ⟨rfl,rfl,rfl⟩) ?_)|(refine nxV ?_)|(refine nSS ?_)|(refine nS1 fun _=>?_)|(refine nMM ?_)|(refine nM1 fun _=>?_)|(show YG _ _ _ _ _ _ _ _;refine YG.mk (fun hb=>by(try(have hc:=And.left hb;have hb:=And.right hb;rw[hc]));(try rw[hb]);first|exact(zcA (q1) ⟨rfl,rfl⟩)|exact(zcA (q4) ⟨rfl,rfl,rfl⟩)|exact(zcA (q5) ⟨rfl,rfl,rfl⟩)|exact V.y vAuto) ?_)|(refine nxG ?_)|(refine G.mA 2 [.go 0,.go 1,.go 2,.go 3,.go 4] ?_)|(refine G.mA 9 [.go 0,.go 1,.go 2,.go 3,.go 4,.go 5] ?_)|(refine G.mA 12 [.go 0,.go 1,.go 2,.go 3,.go 4,.go 5] ?_)|(refine nxX ?_)|(refine G.cN rfl (fun hc=>?_) (fun hc=>?_)<;>(try first|exact hc.elim|(exfalso;omega))))
 all_goals first
  |(exfalso;omega)
  |exact X.ret (vs:=[_,_,_]) rfl ⟨⟨_,_,_,_,rfl,(by exact memA),lenA,by decide +kernel,rfl⟩,⟨_,_,_,_,rfl,(by exact memA),lenA,by decide +kernel,rfl⟩,rfl,rfl⟩ rfl rE
theorem RM.storePt {P:Program} {n:Nat} {L:FL} {w0:World} {H HS H':List Hl} {Q:Exit→Act→World→Prop} {ops:Array Oper} {ord:List Mv} {i:Nat} {ty:TypeId} {pos:String} {af:Array Edge} {x y:Operand} {t t':TypeId} {b o k:Nat} {cs us:List Value} (ho:ops[i]?=some ⟨none,.store t x y,ty,pos,af,none⟩) (hx:evO L x=some (.pointer (some ⟨b,o,none⟩))) (hy:evO L y=some (.agg us.toArray)) (hu:us.all (·.oneCell')=true)
  (hm:Upd (.blk b t' cs) (.blk b t' (setAt cs o us)) H H') (hk:us.length=k) (hl:Nat.ble (o+k) cs.length=true) (hs:rowB P t k=true) (hla:lateB .any ops i=true) (h:RM P ops Q HS n [] L w0 H' ord):RM P ops Q HS n [] L w0 H (.go i::ord) :=
 RM.actX ho rfl rfl (x_storePt hx hy hu hm hk hl hs) (.inr hla) fun _ _=>h
theorem nsail_c {b:Nat} : ContU Tryz.prog (Hl.blk b 121 [.int .i64 0,.int .i64 0,.int .i64 0,.int .i64 0,.int .i64 0,.int .i64 0,.int .i64 0,.int .i64 0]) 66 [.pointer (some ⟨b,0,none⟩),v4 0 0 60000 60000] (fun _:Unit=>True) (fun _=>.int .i64 0) (fun _=>[Hl.blk b 121 [.int .i64 60000,.int .i64 60000,.int .i64 0,.int .i64 60000,.int .i64 0,.int .i64 0,.int .i64 0,.int .i64 0]]):=fun w0 HR w hs=>by
 have q1:=npla_c
 refine enterU Tryz.func66 rfl rfl rfl (H:=Hl.blk b 121 [.int .i64 0,.int .i64 0,.int .i64 0,.int .i64 0,.int .i64 0,.int .i64 0,.int .i64 0,.int .i64 0]::HR) hs ?_
 repeat' (first|(refine nxN ?_)|(show RM _ _ _ _ _ _ _ _ _ (.go 20::_);refine RM.storePt (k:=2) (by rfl) (by rfl) (by rfl) (by rfl) (by exact updA) (by rfl) (by rfl) (by decide +kernel) (by decide +kernel) ?_;try simp only[setAt,List.set_cons_zero,List.set_cons_succ])|(show RM _ _ _ _ _ _ _ _ _ (.go 26::_);refine RM.storePt (k:=2) (by rfl) (by rfl) (by rfl) (by rfl) (by exact updA) (by rfl) (by rfl) (by decide +kernel) (by decide +kernel) ?_;try simp only[setAt,List.set_cons_zero,List.set_cons_succ])|(show RM _ _ _ _ _ _ _ _ _ (.go 22::_);refine RM.storePt (k:=2) (by rfl) (by rfl) (by rfl) (by rfl) (by exact updA) (by rfl) (by rfl) (by decide +kernel) (by decide +kernel) ?_;try simp only[setAt,List.set_cons_zero,List.set_cons_succ])|(show YK _ _ _ _ _ _ _;first|refine YK.mk (zcA (q1) ⟨rfl,rfl⟩) ?_)|(refine nxV ?_)|(refine nSS ?_)|(refine nS1 fun _=>?_)|(refine nMM ?_)|(refine nM1 fun _=>?_)|(show YG _ _ _ _ _ _ _ _;refine YG.mk (fun hb=>by(try(have hc:=And.left hb;have hb:=And.right hb;rw[hc]));(try rw[hb]);first|exact(zcA (q1) ⟨rfl,rfl⟩)|exact V.y vAuto) ?_)|(refine nxG ?_)|(refine G.mA 4 [.go 0,.go 1,.go 2,.go 3,.go 4,.go 5,.go 6,.go 7,.go 8,.go 9,.go 10,.go 11,.go 12,.go 13,.go 14,.go 15,.go 16,.go 17,.go 18,.go 19,.go 20] ?_)|(refine G.mA 5 [.go 0,.go 1,.go 2,.go 3,.go 4,.go 5,.go 6,.go 7,.go 8,.go 9,.go 10,.go 11,.go 12,.go 13,.go 14,.go 15,.go 16,.go 17,.go 18,.go 19,.go 20,.go 21,.go 22,.go 23,.go 24,.go 25,.go 26] ?_)|(refine G.mA 6 [.go 0,.go 1,.go 2,.go 3,.go 4,.go 5,.go 6,.go 7,.go 8,.go 9,.go 10,.go 11,.go 12,.go 13,.go 14,.go 15,.go 16,.go 17,.go 18,.go 19,.go 20,.go 21,.go 22] ?_)|(refine G.mA 7 [.go 0,.go 1,.go 2,.go 3,.go 4,.go 5,.go 6,.go 7,.go 8,.go 9,.go 10,.go 11,.go 12,.go 13,.go 14,.go 15,.go 16,.go 17,.go 18,.go 19,.go 20,.go 21,.go 22] ?_)|(refine nxX ?_)|(refine G.cN rfl (fun hc=>?_) (fun hc=>?_)<;>(try first|exact hc.elim|(exfalso;omega))))
 all_goals first
  |(exfalso;omega)
  |exact X.ret (vs:=[_]) rfl ⟨rfl,rfl⟩ rfl (fun w h=>⟨(),trivial,rfl,h.sub subS⟩)
def cLeg (x:(Int×Int)×(Int×Int)):List Value:=[.int .i64 x.1.1,.int .i64 x.1.2,.int .i64 x.2.1,.int .i64 x.2.2]
abbrev leg1:(Int×Int)×(Int×Int):=((0,0),(60000,60000))
section
variable {P:Program} {n:Nat} {L:FL} {w0:World} {H:List Hl} {Q:Exit→Act→World→Prop} {ops:Array Oper} {rest:List Oper} {dd:Nat} {ty:TypeId} {pos:String} {af:Array Edge} {t e:TypeId} {bytes:Nat}
theorem RS.lit2A {x0 x1:Operand} {a b:Int×Int} (h:∀v':Sl,RS P ops Q n ((dd,v'.v)::L) w0 (Hl.rw v'.v e cPt 2 [a,b]::H) rest) (hx0:evO L x0=some (arcV a.1 a.2)) (hx1:evO L x1=some (arcV b.1 b.2)) [ht:RowTy P t e 2 bytes] (hd:Nat.blt dd n=true:=by rfl) :
  RS P ops Q n L w0 H (⟨some dd,.buildSlice t 2 #[(0,x0),(1,x1)],ty,pos,af,none⟩::rest) :=
 RS.actX rfl (x_litS (parts:=[(0,x0),(1,x1)]) (vs:=[arcV a.1 a.2,arcV b.1 b.2]) (cs:=cPt a++cPt b) (f:=cPt) (l:=[a,b]) ⟨hx0,hx1,rfl⟩ rfl rfl rfl rfl (fun zs hz=>by
  match zs,hz with
  |[_,_,_,_],_=>rfl) rfl rfl rfl (rowTy_B ht.is) hd) fun v' _=>h v'
theorem RS.lit1G {x0:Operand} {a:(Int×Int)×(Int×Int)} (h:∀v':Sl,RS P ops Q n ((dd,v'.v)::L) w0 (Hl.rw v'.v e cLeg 4 [a]::H) rest) (hx0:evO L x0=some (v4 a.1.1 a.1.2 a.2.1 a.2.2)) [ht:RowTy P t e 4 bytes] (hd:Nat.blt dd n=true:=by rfl) :
  RS P ops Q n L w0 H (⟨some dd,.buildSlice t 1 #[(0,x0)],ty,pos,af,none⟩::rest) :=
 RS.actX rfl (x_litS (parts:=[(0,x0)]) (vs:=[v4 a.1.1 a.1.2 a.2.1 a.2.2]) (cs:=cLeg a) (f:=cLeg) (l:=[a]) ⟨hx0,rfl⟩ rfl rfl rfl rfl (fun zs hz=>by
  match zs,hz with
  |[_,_,_,_],_=>rfl) rfl rfl rfl (rowTy_B ht.is) hd) fun v' _=>h v'
end
theorem nwrg_c:ContIn Tryz.prog (fun _=>True) 123 ([v4 0 0 60000 60000]++(#[]:Array Value).toList) (.bool false):=fun w _=>by
 have q1:=gval_c (a:=0) (b:=0) (by omega)
 refine enter0 Tryz.func123 rfl rfl rfl ?_
 repeat' (first|(refine nxN ?_)|(show VK _ _ _ _ _ ⟨_,.load 42 _,_,_,_,_⟩ _;refine VK.mk (zlP (k:=2) (by rfl) (by exact memA) (by decide +kernel) (by rfl)) ?_)|(show YK _ _ _ _ _ ⟨_,.load 42 _,_,_,_,_⟩ _;refine YK.ofV (zlP (k:=2) (by rfl) (by exact memA) (by decide +kernel) (by rfl)) ?_)|(show VG _ _ _ _ _ _ ⟨_,.load 42 _,_,_,_,_⟩ _;refine VG.mk (fun hb=>by(try(have hc:=And.left hb;have hb:=And.right hb;rw[hc]));(try rw[hb]);exact zlP (k:=2) (by rfl) (by exact memA) (by decide +kernel) (by rfl)) ?_)|(show YG _ _ _ _ _ _ ⟨_,.load 42 _,_,_,_,_⟩ _;refine YG.mk (fun hb=>by(try(have hc:=And.left hb;have hb:=And.right hb;rw[hc]));(try rw[hb]);exact V.y (zlP (k:=2) (by rfl) (by exact memA) (by decide +kernel) (by rfl))) ?_)|(show YK _ _ _ _ _ _ _;first|refine YK.mk (zcA (q1) ⟨rfl,rfl⟩) ?_)|(refine nxV ?_)|(refine nSS ?_)|(refine nS1 fun _=>?_)|(refine nMM ?_)|(refine nM1 fun _=>?_)|(show YG _ _ _ _ _ _ _ _;refine YG.mk (fun hb=>by(try(have hc:=And.left hb;have hb:=And.right hb;rw[hc]));(try rw[hb]);first|exact(zcA (q1) ⟨rfl,rfl⟩)|exact V.y vAuto) ?_)|(refine nxG ?_)|(refine nxX ?_)|(refine G.cN rfl (fun hc=>?_) (fun hc=>?_)<;>(try first|exact hc.elim|(exfalso;omega))))
 all_goals first
  |(exfalso;omega)
  |exact X.ret1
theorem nixl_c {v:Value} : ContR Tryz.prog [Hl.rd v cLeg 4 [leg1]] 171 [v,.func (.func 123) #[] #[]] (.int .i64 (-1)):=fun w hw=>by
 have q1:=nwrg_c
 refine enter Tryz.func171 rfl rfl rfl hw ?_
 repeat' (first|(refine nxN ?_)|(show G _ _ _ _ _ _ (.loop _);refine G.loopN 2 (GR.step ?_))|(show X (Exit.then (Code.rounds _ _ _ _) _) _ _ _ _ .normal;refine X.round (GR.step ?_))|(show YK _ _ _ _ _ ⟨_,.call { callee:=.value _,args:=_,argTypes:=_ },_,_,_,_⟩ _;refine YK.mk (y_callV (f:=123) (by rfl) q1 (fun _ _=>trivial) ⟨rfl,rfl⟩ (by decide +kernel)) ?_)|(refine nxV ?_)|(refine nSS ?_)|(refine nS1 fun _=>?_)|(refine nMM ?_)|(refine nM1 fun _=>?_)|(refine nxG ?_)|(refine nxX ?_)|(refine G.cN rfl (fun hc=>?_) (fun hc=>?_)<;>(try first|exact hc.elim|(exfalso;omega))))
 all_goals first
  |(exfalso;omega)
  |(exfalso;simp at hc;done)
  |exact X.ret1
theorem ncfl_c {v:Value} : ContR Tryz.prog [Hl.rd v cLeg 4 [leg1]] 122 [v,.func (.func 123) #[] #[]] (.bool false):=fun w hw=>by
 have q1:=nixl_c (v:=v)
 refine enter Tryz.func122 rfl rfl rfl hw ?_
 repeat' (first|(refine nxN ?_)|(show YK _ _ _ _ _ _ _;first|refine YK.mk (zcR (q1) ⟨rfl,rfl,rfl⟩) ?_)|(refine nxV ?_)|(refine nSS ?_)|(refine nS1 fun _=>?_)|(refine nMM ?_)|(refine nM1 fun _=>?_)|(show YG _ _ _ _ _ _ _ _;refine YG.mk (fun hb=>by(try(have hc:=And.left hb;have hb:=And.right hb;rw[hc]));(try rw[hb]);first|exact(zcR (q1) ⟨rfl,rfl,rfl⟩)|exact V.y vAuto) ?_)|(refine nxG ?_)|(refine nxX ?_)|(refine G.cN rfl (fun hc=>?_) (fun hc=>?_)<;>(try first|exact hc.elim|(exfalso;omega))))
 all_goals first
  |(exfalso;simp at hc;done)
  |exact X.ret1
theorem ngiv_c {v:Value} : ContR Tryz.prog [Hl.rd v cLeg 4 [leg1]] 65 [v] (.int .i64 0):=fun w hw=>by
 have q1:=ncfl_c (v:=v)
 refine enter Tryz.func65 rfl rfl rfl hw ?_
 repeat' (first|(refine nxN ?_)|(show YK _ _ _ _ _ _ _;first|refine YK.mk (zcR (q1) ⟨rfl,rfl,rfl⟩) ?_)|(refine nxV ?_)|(refine nSS ?_)|(refine nS1 fun _=>?_)|(refine nMM ?_)|(refine nM1 fun _=>?_)|(show YG _ _ _ _ _ _ _ _;refine YG.mk (fun hb=>by(try(have hc:=And.left hb;have hb:=And.right hb;rw[hc]));(try rw[hb]);first|exact(zcR (q1) ⟨rfl,rfl,rfl⟩)|exact V.y vAuto) ?_)|(refine nxG ?_)|(refine nxX ?_)|(refine G.cN rfl (fun hc=>?_) (fun hc=>?_)<;>(try first|exact hc.elim|(exfalso;omega))))
 all_goals first
  |(exfalso;simp at hc;done)
  |(exfalso;omega)
  |exact X.ret1
theorem nmlat_c {a b:Int} (h : -5400000≤a∧a≤b∧b≤5400000):Cont Tryz.prog 125 [arcV a b] (.bool true):=fun w=>by
 have q1:=gval_c (a:=a) (b:=b) (by omega)
 refine enter0 Tryz.func125 rfl rfl rfl ?_
 repeat' (first|(refine nxN ?_)|(show YK _ _ _ _ _ _ _;first|refine YK.mk (zcA (q1) ⟨rfl,rfl⟩) ?_)|(refine nxV ?_)|(refine nSS ?_)|(refine nS1 fun _=>?_)|(refine nMM ?_)|(refine nM1 fun _=>?_)|(show YG _ _ _ _ _ _ _ _;refine YG.mk (fun hb=>by(try(have hc:=And.left hb;have hb:=And.right hb;rw[hc]));(try rw[hb]);first|exact(zcA (q1) ⟨rfl,rfl⟩)|exact V.y vAuto) ?_)|(refine nxG ?_)|(refine nxX ?_)|(refine G.cN rfl (fun hc=>?_) (fun hc=>?_)<;>(try first|exact hc.elim|(exfalso;omega))))
 all_goals first
  |(exfalso;simp at hc;omega)
  |exact X.ret (vs:=[_]) rfl ⟨rfl,rfl⟩ rfl (fun w hw=>⟨ret_bool (by simp;omega),hw.ext⟩)
theorem ndln_c:Cont Tryz.prog 67 [arcV 0 60000,arcV 0 0] (.tuple [arcV 0 0,.int .i64 0].toArray):=fun w=>by
 have q1:=nmlat_c (a:=0) (b:=60000) (by omega)
 have q2:=gval_c (a:=0) (b:=0) (by omega)
 have q3:=Cos_c (lo:=0) (hi:=60000) (valI (by omega))
 rw[show TT.cosE 0 60000=(1073578287,1073741824) by decide +kernel] at q3
 dsimp only at q3
 have q4:=fun b8 b6=>dl1_c (b8:=b8) (b6:=b6) (c1:=1073578287) (c2:=1073741824) (n:=0) (x:=0) (y:=0) (e:=0) (by omega) (by omega) (by unfold quoV;rw[if_pos (by decide)];rfl)
 have q5:=fun b8 b6=>bothG_c (C:=DlW b8 b6 1073578287 1073741824) (fun _ _ h hb=>h.keep hb) (by decide +kernel) (q4 b8 b6) (q4 b8 b6) (by decide)
 change ∀b8 b6:Nat,ContIn _ _ _ [arcV 0 0,_] (.tuple [arcV 0 0,_].toArray) at q5
 refine enter0 Tryz.func67 rfl rfl rfl ?_
 repeat' (first|(refine nxN ?_)|(show YK _ _ _ _ _ ⟨_,.call { callee:=.value (.func 126),args:=_,argTypes:=_ },_,_,_,_⟩ _;refine YK.mk (zcI (q5 _ _) (fun w' hw'=>⟨fun k v hk=>(hw'.cell (t:=108) (cs:=[.int .i64 1073741824,.int .i64 1073741824]) (by exact memA) k).trans hk,fun k v hk=>(hw'.cell (t:=108) (cs:=[.int .i64 1073578287,.int .i64 1073741824]) (by exact memA) k).trans hk⟩) ⟨rfl,rfl,rfl⟩ (by decide +kernel)) ?_)|(show YG _ _ _ _ _ _ ⟨_,.call { callee:=.value (.func 126),args:=_,argTypes:=_ },_,_,_,_⟩ _;refine YG.mk (fun hb=>by(try(have hc:=And.left hb;have hb:=And.right hb;rw[hc]));(try rw[hb]);exact zcI (q5 _ _) (fun w' hw'=>⟨fun k v hk=>(hw'.cell (t:=108) (cs:=[.int .i64 1073741824,.int .i64 1073741824]) (by exact memA) k).trans hk,fun k v hk=>(hw'.cell (t:=108) (cs:=[.int .i64 1073578287,.int .i64 1073741824]) (by exact memA) k).trans hk⟩) ⟨rfl,rfl,rfl⟩ (by decide +kernel)) ?_)|(show YK _ _ _ _ _ _ _;first|refine YK.mk (zcA (q1) ⟨rfl,rfl⟩) ?_|refine YK.mk (zcA (q2) ⟨rfl,rfl⟩) ?_|refine YK.mk (zcA (q3) ⟨rfl,rfl⟩) ?_)|(refine nxV ?_)|(refine nSS ?_)|(refine nS1 fun _=>?_)|(refine nMM ?_)|(refine nM1 fun _=>?_)|(show YG _ _ _ _ _ _ _ _;refine YG.mk (fun hb=>by(try(have hc:=And.left hb;have hb:=And.right hb;rw[hc]));(try rw[hb]);first|exact(zcA (q1) ⟨rfl,rfl⟩)|exact(zcA (q2) ⟨rfl,rfl⟩)|exact(zcA (q3) ⟨rfl,rfl⟩)|exact V.y vAuto) ?_)|(refine nxG ?_)|(refine nxX ?_)|(refine G.cN rfl (fun hc=>?_) (fun hc=>?_)<;>(try first|exact hc.elim|(exfalso;omega))))
 all_goals first
  |(exfalso;omega)
  |(exfalso;simp at hc;done)
  |exact X.ret (vs:=[_,_]) rfl ⟨⟨_,_,_,_,rfl,(by exact memA),lenA,by decide +kernel,rfl⟩,rfl,rfl⟩ rfl rE
theorem sums_built (a b c d:Int):Tryz.prog.built 121 [(0,.agg [.int .i64 a,.int .i64 b].toArray),(1,.agg [.int .i64 c,.int .i64 d].toArray)]=some [.int .i64 a,.int .i64 b,.int .i64 c,.int .i64 d,.int .i64 0,.int .i64 0,.int .i64 0,.int .i64 0].toArray:=by kernel_rfl
theorem nrun_c {v:Value} : ContR Tryz.prog [Hl.rd v cLeg 4 [leg1]] 18 [v4 0 0 0 0,v] (.tuple [v4 60000 60000 0 0,.int .i64 0].toArray):=fun w hw=>by
 have q1:=pval2_c (a:=0) (b:=0) (c:=0) (d:=0) (by omega) (.inr (by omega))
 have q2:=ngiv_c (v:=v)
 have q3:=fun b=>nsail_c (b:=b)
 have q4:=ndln_c
 have q5:Cont Tryz.prog 46 [arcV 0 0,arcV 0 0] (.tuple [arcV 0 0,.int .i64 0].toArray):=nadd_c (a:=0) (b:=0) (c:=0) (d:=0) (by omega) (by omega) (by omega)
 have q6:Cont Tryz.prog 68 [.int .i64 0] (.int .i64 0):=nsign_c (n:=0) (by omega)
 have hl1:(([leg1].length:Nat):Int)=1:=rfl
 have hl2:(([((0:Int),(0:Int)),(0,0)].length:Nat):Int)=2:=rfl
 refine enter Tryz.func18 rfl rfl rfl hw ?_
 repeat' (first|(refine nxN ?_)|(show VK _ _ _ _ _ ⟨_,.load 42 _,_,_,_,_⟩ _;refine VK.mk (zlP (k:=2) (by rfl) (by exact memA) (by decide +kernel) (by rfl)) ?_)|(show YK _ _ _ _ _ ⟨_,.load 42 _,_,_,_,_⟩ _;refine YK.ofV (zlP (k:=2) (by rfl) (by exact memA) (by decide +kernel) (by rfl)) ?_)|(show VG _ _ _ _ _ _ ⟨_,.load 42 _,_,_,_,_⟩ _;refine VG.mk (fun hb=>by(try(have hc:=And.left hb;have hb:=And.right hb;rw[hc]));(try rw[hb]);exact zlP (k:=2) (by rfl) (by exact memA) (by decide +kernel) (by rfl)) ?_)|(show YG _ _ _ _ _ _ ⟨_,.load 42 _,_,_,_,_⟩ _;refine YG.mk (fun hb=>by(try(have hc:=And.left hb;have hb:=And.right hb;rw[hc]));(try rw[hb]);exact V.y (zlP (k:=2) (by rfl) (by exact memA) (by decide +kernel) (by rfl))) ?_)|(show VK _ _ _ _ _ ⟨_,.build 121 #[(0,_),(1,_)],_,_,_,_⟩ _;refine VK.mk (y_build (parts:=[(0,_),(1,_)]) (vs:=[_,_]) ⟨rfl,rfl,rfl⟩ (sums_built _ _ _ _)) ?_)|(show YK _ _ _ _ _ ⟨_,.build 121 #[(0,_),(1,_)],_,_,_,_⟩ _;refine YK.ofV (y_build (parts:=[(0,_),(1,_)]) (vs:=[_,_]) ⟨rfl,rfl,rfl⟩ (sums_built _ _ _ _)) ?_)|(show VG _ _ _ _ _ _ ⟨_,.build 121 #[(0,_),(1,_)],_,_,_,_⟩ _;refine VG.mk (fun hb=>by(try(have hc:=And.left hb;have hb:=And.right hb;rw[hc]));(try rw[hb]);exact y_build (parts:=[(0,_),(1,_)]) (vs:=[_,_]) ⟨rfl,rfl,rfl⟩ (sums_built _ _ _ _)) ?_)|(show YG _ _ _ _ _ _ ⟨_,.build 121 #[(0,_),(1,_)],_,_,_,_⟩ _;refine YG.mk (fun hb=>by(try(have hc:=And.left hb;have hb:=And.right hb;rw[hc]));(try rw[hb]);exact V.y (y_build (parts:=[(0,_),(1,_)]) (vs:=[_,_]) ⟨rfl,rfl,rfl⟩ (sums_built _ _ _ _))) ?_)|(show VK _ _ _ _ _ ⟨_,.build 63 #[(0,_),(1,_)],_,_,_,_⟩ _;refine VK.mk (y_build (parts:=[(0,_),(1,_)]) (vs:=[_,_]) ⟨rfl,rfl,rfl⟩ (place_built _ _ _ _)) ?_)|(show YK _ _ _ _ _ ⟨_,.build 63 #[(0,_),(1,_)],_,_,_,_⟩ _;refine YK.ofV (y_build (parts:=[(0,_),(1,_)]) (vs:=[_,_]) ⟨rfl,rfl,rfl⟩ (place_built _ _ _ _)) ?_)|(show VG _ _ _ _ _ _ ⟨_,.build 63 #[(0,_),(1,_)],_,_,_,_⟩ _;refine VG.mk (fun hb=>by(try(have hc:=And.left hb;have hb:=And.right hb;rw[hc]));(try rw[hb]);exact y_build (parts:=[(0,_),(1,_)]) (vs:=[_,_]) ⟨rfl,rfl,rfl⟩ (place_built _ _ _ _)) ?_)|(show YG _ _ _ _ _ _ ⟨_,.build 63 #[(0,_),(1,_)],_,_,_,_⟩ _;refine YG.mk (fun hb=>by(try(have hc:=And.left hb;have hb:=And.right hb;rw[hc]));(try rw[hb]);exact V.y (y_build (parts:=[(0,_),(1,_)]) (vs:=[_,_]) ⟨rfl,rfl,rfl⟩ (place_built _ _ _ _))) ?_)|(show RS _ _ _ _ _ _ _ (⟨some 39,.call _,_,_,_,_⟩::_);refine RS.callU (q3 _) ⟨rfl,rfl,rfl⟩ ?_;rintro _ _;dsimp only[List.cons_append,List.nil_append])|(show RS _ _ _ _ _ _ _ (⟨some 62,.buildSlice 123 2 _,_,_,_,_⟩::_);refine RS.lit2A (a:=(0,0)) (b:=(0,0)) (fun v'=>?_) rfl rfl)|(show G _ _ _ _ _ _ (.loop _);refine G.loopN 3 (GR.step ?_))|(show X (Exit.then (Code.rounds _ _ _ _) _) _ _ _ _ .normal;refine X.round (GR.step ?_))|(show YK _ _ _ _ _ _ _;first|refine YK.mk (zcA (q1) ⟨rfl,rfl⟩) ?_|refine YK.mk (zcR (q2) ⟨rfl,rfl⟩) ?_|refine YK.mk (zcA (q4) ⟨rfl,rfl,rfl⟩) ?_|refine YK.mk (zcA (q5) ⟨rfl,rfl,rfl⟩) ?_|refine YK.mk (zcA (q6) ⟨rfl,rfl⟩) ?_)|(refine nxV ?_)|(refine nSS ?_)|(refine nS1 fun _=>?_)|(refine nMM ?_)|(refine nM1 fun _=>?_)|(show YG _ _ _ _ _ _ _ _;refine YG.mk (fun hb=>by(try(have hc:=And.left hb;have hb:=And.right hb;rw[hc]));(try rw[hb]);first|exact(zcA (q1) ⟨rfl,rfl⟩)|exact(zcR (q2) ⟨rfl,rfl⟩)|exact(zcA (q4) ⟨rfl,rfl,rfl⟩)|exact(zcA (q5) ⟨rfl,rfl,rfl⟩)|exact(zcA (q6) ⟨rfl,rfl⟩)|exact V.y vAuto) ?_)|(refine nxG ?_)|(refine nxX ?_)|(refine G.cN rfl (fun hc=>?_) (fun hc=>?_)<;>(try first|exact hc.elim|(exfalso;omega))))
 all_goals first
  |(exfalso;omega)
  |(exfalso;simp at hc;done)
  |exact X.ret (vs:=[_,_]) rfl ⟨⟨_,_,_,_,rfl,(by exact memA),lenA,by decide +kernel,rfl⟩,rfl,rfl⟩ rfl rE
theorem nwat_c {n:Int} : Cont Tryz.prog 9 [.int .i64 n] (arcV n n):=fun w=>by
 refine enter0 Tryz.func9 rfl rfl rfl ?_
 repeat' (first|(refine nxN ?_)|(refine nxV ?_)|(refine nSS ?_)|(refine nS1 fun _=>?_)|(refine nMM ?_)|(refine nM1 fun _=>?_)|(refine nxG ?_)|(refine nxX ?_)|(refine G.cN rfl (fun hc=>?_) (fun hc=>?_)<;>(try first|exact hc.elim|(exfalso;omega))))
 all_goals exact X.ret (vs:=[_]) rfl ⟨⟨_,_,_,_,rfl,(by exact memA),lenA,by decide +kernel,rfl⟩,rfl⟩ rfl rE
theorem place_z:Tryz.prog.built 63 []=some [.int .i64 0,.int .i64 0,.int .i64 0,.int .i64 0].toArray:=by kernel_rfl
theorem leg1_built (a b:Int):Tryz.prog.built 59 [(1,.agg [.int .i64 a,.int .i64 b].toArray)]=some [.int .i64 0,.int .i64 0,.int .i64 a,.int .i64 b].toArray:=by kernel_rfl
theorem tri1_built (a b:Int):Tryz.prog.built 53 [(2,.agg [.int .i64 a,.int .i64 b].toArray)]=some [.int .i64 0,.int .i64 0,.int .i64 0,.int .i64 0,.int .i64 a,.int .i64 b].toArray:=by kernel_rfl
theorem nawk_c:Cont Tryz.prog 4 [] (.bool true):=fun w=>by
 obtain⟨ga,gb,q1⟩:=inv60_c
 have q2:=fun n=>nwat_c (n:=n)
 have q3:=fun v=>nrun_c (v:=v)
 have q4:=alt60_c
 have q5:=around22_c (P:=0) (L:=0) (m:=3) (by omega) (by omega) (by omega)
 refine enter0 Tryz.func4 rfl rfl rfl ?_
 repeat' (first|(refine nxN ?_)|(show VK _ _ _ _ _ ⟨_,.load 42 _,_,_,_,_⟩ _;refine VK.mk (zlP (k:=2) (by rfl) (by exact memA) (by decide +kernel) (by rfl)) ?_)|(show YK _ _ _ _ _ ⟨_,.load 42 _,_,_,_,_⟩ _;refine YK.ofV (zlP (k:=2) (by rfl) (by exact memA) (by decide +kernel) (by rfl)) ?_)|(show VG _ _ _ _ _ _ ⟨_,.load 42 _,_,_,_,_⟩ _;refine VG.mk (fun hb=>by(try(have hc:=And.left hb;have hb:=And.right hb;rw[hc]));(try rw[hb]);exact zlP (k:=2) (by rfl) (by exact memA) (by decide +kernel) (by rfl)) ?_)|(show YG _ _ _ _ _ _ ⟨_,.load 42 _,_,_,_,_⟩ _;refine YG.mk (fun hb=>by(try(have hc:=And.left hb;have hb:=And.right hb;rw[hc]));(try rw[hb]);exact V.y (zlP (k:=2) (by rfl) (by exact memA) (by decide +kernel) (by rfl))) ?_)|(show YK _ _ _ _ _ ⟨_,.build 63 #[],_,_,_,_⟩ _;refine YK.ofV (y_build (parts:=[]) (vs:=[]) (by rfl) place_z) ?_)|(show VK _ _ _ _ _ ⟨_,.build 59 #[(1,_)],_,_,_,_⟩ _;refine VK.mk (y_build (parts:=[(1,_)]) (vs:=[_]) ⟨rfl,rfl⟩ (leg1_built _ _)) ?_)|(show YK _ _ _ _ _ ⟨_,.build 59 #[(1,_)],_,_,_,_⟩ _;refine YK.ofV (y_build (parts:=[(1,_)]) (vs:=[_]) ⟨rfl,rfl⟩ (leg1_built _ _)) ?_)|(show VG _ _ _ _ _ _ ⟨_,.build 59 #[(1,_)],_,_,_,_⟩ _;refine VG.mk (fun hb=>by(try(have hc:=And.left hb;have hb:=And.right hb;rw[hc]));(try rw[hb]);exact y_build (parts:=[(1,_)]) (vs:=[_]) ⟨rfl,rfl⟩ (leg1_built _ _)) ?_)|(show YG _ _ _ _ _ _ ⟨_,.build 59 #[(1,_)],_,_,_,_⟩ _;refine YG.mk (fun hb=>by(try(have hc:=And.left hb;have hb:=And.right hb;rw[hc]));(try rw[hb]);exact V.y (y_build (parts:=[(1,_)]) (vs:=[_]) ⟨rfl,rfl⟩ (leg1_built _ _))) ?_)|(show VK _ _ _ _ _ ⟨_,.build 53 #[(2,_)],_,_,_,_⟩ _;refine VK.mk (y_build (parts:=[(2,_)]) (vs:=[_]) ⟨rfl,rfl⟩ (tri1_built _ _)) ?_)|(show YK _ _ _ _ _ ⟨_,.build 53 #[(2,_)],_,_,_,_⟩ _;refine YK.ofV (y_build (parts:=[(2,_)]) (vs:=[_]) ⟨rfl,rfl⟩ (tri1_built _ _)) ?_)|(show VG _ _ _ _ _ _ ⟨_,.build 53 #[(2,_)],_,_,_,_⟩ _;refine VG.mk (fun hb=>by(try(have hc:=And.left hb;have hb:=And.right hb;rw[hc]));(try rw[hb]);exact y_build (parts:=[(2,_)]) (vs:=[_]) ⟨rfl,rfl⟩ (tri1_built _ _)) ?_)|(show YG _ _ _ _ _ _ ⟨_,.build 53 #[(2,_)],_,_,_,_⟩ _;refine YG.mk (fun hb=>by(try(have hc:=And.left hb;have hb:=And.right hb;rw[hc]));(try rw[hb]);exact V.y (y_build (parts:=[(2,_)]) (vs:=[_]) ⟨rfl,rfl⟩ (tri1_built _ _))) ?_)|(show RS _ _ _ _ _ _ _ (⟨some 19,.buildSlice 66 1 _,_,_,_,_⟩::_);refine RS.lit1G (a:=leg1) (fun v'=>?_) rfl)|(show RS _ _ _ _ _ _ _ (⟨some 31,.call _,_,_,_,_⟩::_);refine RS.callX (q5) ⟨rfl,rfl,rfl⟩ ?_;rintro z _;dsimp only[List.cons_append,List.nil_append])|(show RM _ _ _ _ _ _ ((_,.bool (decide _))::_) _ _ _;refine RM.kn _ rfl (b':=true) (by first|exact decide_eq_true (by have:=ar3_ne;omega)|decide) ?_)|(show RM _ _ _ _ _ _ ((_,.bool (eqCells _ _))::_) _ _ _;refine RM.kn _ rfl (b':=true) (by decide) ?_)|(show YK _ _ _ _ _ _ _;first|refine YK.mk (zcA (q1) ⟨rfl,rfl,rfl⟩) ?_|refine YK.mk (zcA (q2 _) ⟨rfl,rfl⟩) ?_|refine YK.mk (zcA (q4) ⟨rfl,rfl⟩) ?_|refine YK.mk (zcR (q3 _) ⟨rfl,rfl,rfl⟩) ?_)|(refine nxV ?_)|(refine nSS ?_)|(refine nS1 fun _=>?_)|(refine nMM ?_)|(refine nM1 fun _=>?_)|(show YG _ _ _ _ _ _ _ _;refine YG.mk (fun hb=>by(try(have hc:=And.left hb;have hb:=And.right hb;rw[hc]));(try rw[hb]);first|exact(zcA (q1) ⟨rfl,rfl,rfl⟩)|exact(zcA (q2 _) ⟨rfl,rfl⟩)|exact(zcA (q4) ⟨rfl,rfl⟩)|exact(zcR (q3 _) ⟨rfl,rfl,rfl⟩)|exact V.y vAuto) ?_)|(refine nxG ?_)|(refine G.mA 5 [.go 0,.go 1,.go 2,.go 3,.go 4,.go 5,.go 6,.go 7,.go 8,.go 9,.go 10,.go 11,.go 12,.go 13,.go 14,.go 15,.go 16,.go 17,.go 18,.go 19,.go 20,.go 21,.go 22,.go 23,.go 24,.go 25,.go 26,.go 27,.go 28,.go 29,.go 30,.go 31,.go 32,.go 33,.go 34,.go 35,.go 36] ?_)|(refine nxX ?_)|(refine G.cN rfl (fun hc=>?_) (fun hc=>?_)<;>(try first|exact hc.elim|(exfalso;omega))))
 all_goals first
  |(exfalso;omega)
  |exact X.ret1
end Go.Proofs.YtjmdeplmenbmmaaGreat
