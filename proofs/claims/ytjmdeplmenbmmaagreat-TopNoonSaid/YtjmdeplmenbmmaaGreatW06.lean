/- Joined texts: MulW, Less, Sin, Sym, Stab, Stab2, Bld. -/
import Derived.Test.YtjmdeplmenbmmaaGreatW05
import Derived.Test.YtjmdeplmenbmmaaGreatV03
import Derived.Test.YtjmdeplmenbmmaaGreatV04
import Derived.Test.YtjmdeplmenbmmaaGreatW01
import Derived.Test.YtjmdeplmenbmmaaGreatW02
import Derived.Test.YtjmdeplmenbmmaaGreatW03
import Derived.Test.YtjmdeplmenbmmaaGreatW04
import Derived.Lib.Builder
import Derived.Lib.AppendStr
set_option linter.unusedVariables false
set_option maxHeartbeats 16000000
namespace Go.Proofs.YtjmdeplmenbmmaaGreat
open Go.RowKit
open TT (W256 cW lb)
structure MSt where
 i:Int
 o0:Int
 o1:Int
 o2:Int
 o3:Int
 o4:Int
 o5:Int
abbrev b64 (x:Int):Prop:=0≤x∧x<18446744073709551616
abbrev mPre (a b:Nat) (s:MSt):Prop:=(s.i=3∨s.i=2∨s.i=1∨s.i=0∨s.i = -1)∧vo s.o0 s.o1 s.o2 s.o3 s.o4 s.o5=psum a b s.i∧(b64 s.o0∧b64 s.o1∧b64 s.o2∧b64 s.o3∧b64 s.o4∧b64 s.o5)∧(0≤s.i→s.o0=0)∧(1≤s.i→s.o1=0)∧(2≤s.i→s.o2=0)∧(3≤s.i→s.o3=0)
theorem mPre_mk {a b:Nat} {i o0 o1 o2 o3 o4 o5:Int} (h0:i=3∨i=2∨i=1∨i=0∨i = -1) (h1:vo o0 o1 o2 o3 o4 o5=psum a b i) (h2:b64 o0) (h3:b64 o1) (h4:b64 o2) (h5:b64 o3) (h6:b64 o4) (h7:b64 o5) (z0:0≤i→o0=0) (z1:1≤i→o1=0) (z2:2≤i→o2=0) (z3:3≤i→o3=0):mPre a b ⟨i,o0,o1,o2,o3,o4,o5⟩ :=
 ⟨h0,h1,⟨h2,h3,h4,h5,h6,h7⟩,z0,z1,z2,z3⟩
theorem mMu {i o0 o1 o2 o3 o4 o5:Int} {mx:Nat} (h:(i-1+1).toNat<mx):((⟨i-1,o0,o1,o2,o3,o4,o5⟩:MSt).i+1).toNat<mx:=h
set_option maxRecDepth 20000 in
theorem nmul_c {a b:Nat} (ha:a<W256) (hb:b<W256):Cont Tryz.prog 251 [numV a,numV b] (numV (TT.mulF a b)):=fun w=>by
 have a0:=lb_u64 a 0;have a1:=lb_u64 a 1;have a2:=lb_u64 a 2;have a3:=lb_u64 a 3
 have b0:=lb_u64 b 0;have b1:=lb_u64 b 1;have b2:=lb_u64 b 2;have b3:=lb_u64 b 3
 refine enter0 Tryz.func251 rfl rfl rfl ?_
 repeat' (first|(refine nxV ?_)|(refine nSS ?_)|(refine nS1 fun _=>?_)|(refine nMM ?_)|(refine nM1 fun _=>?_)|(refine nxG ?_)|(refine G.mA 10 [.go 0,.go 1,.go 2,.go 3,.go 4,.go 5,.go 6,.go 7,.go 8,.go 9,.go 10,.go 11] ?_)|(refine nxX ?_)|(refine G.cN rfl (fun hc=>?_) (fun hc=>?_)<;>(try first|exact hc.elim|(exfalso;omega))))
 rename_i q2 q3 q4 q5
 refine G.loop (ι:=MSt) (fun s=>[(2,.pointer (some ⟨q2,0,none⟩)),(3,.pointer (some ⟨q3,0,none⟩)),(4,.pointer (some ⟨q4,0,none⟩)),(5,.pointer (some ⟨q5,0,none⟩)),(6,.int .i64 s.i)])
  (fun s=>[Hl.blk q5 276 [.int .u64 s.o0,.int .u64 s.o1,.int .u64 s.o2,.int .u64 s.o3,.int .u64 s.o4,.int .u64 s.o5],Hl.blk q4 265 [.int .u64 0,.int .u64 0,.int .u64 0,.int .u64 0],Hl.blk q3 265 [.int .u64 (lb b 0:Int),.int .u64 (lb b 1:Int),.int .u64 (lb b 2:Int),.int .u64 (lb b 3:Int)],Hl.blk q2 265 [.int .u64 (lb a 0:Int),.int .u64 (lb a 1:Int),.int .u64 (lb a 2:Int),.int .u64 (lb a 3:Int)]])
  (mPre a b) (fun s=>(s.i+1).toNat) ⟨3,0,0,0,0,0,0⟩ ⟨.inl rfl,rfl,⟨by decide,by decide,by decide,by decide,by decide,by decide⟩,fun _=>rfl,fun _=>rfl,fun _=>rfl,fun _=>rfl⟩ ⟨rfl,rfl,rfl,rfl,rfl,trivial⟩ (by exact fun w h=>h.sub subS) ?_
 rintro⟨i,o0,o1,o2,o3,o4,o5⟩ mx ⟨g0,g1,⟨g2,g3,g4,g5,g6,g7⟩,z0,z1,z2,z3⟩ hmx
 dsimp only at g0 g1 g2 g3 g4 g5 g6 g7 z0 z1 z2 z3 hmx ⊢
 rcases g0 with rfl|rfl|rfl|rfl|rfl
 ·obtain rfl:=z0 (by omega);obtain rfl:=z1 (by omega);obtain rfl:=z2 (by omega);obtain rfl:=z3 (by omega);clear z0 z1 z2 z3
  rw[ps3] at g1
  unfold vo at g1
  repeat' (first|(show G _ _ _ _ _ _ (.loop _);refine G.loopN 6 (GR.step ?_))|(show X (Exit.then (Code.rounds _ _ _ _) _) _ _ _ _ .normal;refine X.round (GR.step ?_))|(show YK _ _ _ _ _ ⟨_,.call { callee:=.value (.func 200),args:=_,argTypes:=_ },_,_,_,_⟩ _;refine mul64K rfl rfl (by omega) (by omega) (fun s c e h k=>?_))|(show YK _ _ _ _ _ ⟨_,.call { callee:=.value (.func 257),args:=_,argTypes:=_ },_,_,_,_⟩ _;refine add64K rfl rfl rfl (by omega) (by omega) (by omega) (fun s c e h k=>?_))|(show YK _ _ _ _ _ ⟨_,.indexAddr 265 _ _,_,_,_,_⟩ _;refine YK.ofV (y_indexArr (len:=4) rfl rfl (by first|exact(rfl:_=((0:Nat):Int))|exact(rfl:_=((1:Nat):Int))|exact(rfl:_=((2:Nat):Int))|exact(rfl:_=((3:Nat):Int))) (by decide +kernel) rfl) ?_)|(show VK _ _ _ _ _ ⟨_,.indexAddr 265 _ _,_,_,_,_⟩ _;refine VK.mk (y_indexArr (len:=4) rfl rfl (by first|exact(rfl:_=((0:Nat):Int))|exact(rfl:_=((1:Nat):Int))|exact(rfl:_=((2:Nat):Int))|exact(rfl:_=((3:Nat):Int))) (by decide +kernel) rfl) ?_)|(show YK _ _ _ _ _ ⟨_,.indexAddr 276 _ _,_,_,_,_⟩ _;refine YK.ofV (y_indexArr (len:=6) rfl rfl (by first|exact(rfl:_=((0:Nat):Int))|exact(rfl:_=((1:Nat):Int))|exact(rfl:_=((2:Nat):Int))|exact(rfl:_=((3:Nat):Int))|exact(rfl:_=((4:Nat):Int))|exact(rfl:_=((5:Nat):Int))) (by decide +kernel) rfl) ?_)|(show VK _ _ _ _ _ ⟨_,.indexAddr 276 _ _,_,_,_,_⟩ _;refine VK.mk (y_indexArr (len:=6) rfl rfl (by first|exact(rfl:_=((0:Nat):Int))|exact(rfl:_=((1:Nat):Int))|exact(rfl:_=((2:Nat):Int))|exact(rfl:_=((3:Nat):Int))|exact(rfl:_=((4:Nat):Int))|exact(rfl:_=((5:Nat):Int))) (by decide +kernel) rfl) ?_)|(refine nxV ?_)|(refine nSS ?_)|(refine nS1 fun _=>?_)|(refine nMM ?_)|(refine nM1 fun _=>?_)|(refine nxG ?_)|(refine G.mA 10 [.go 0,.go 1,.go 2,.go 3,.go 4,.go 5,.go 6,.go 7,.go 8,.go 9,.go 10,.go 11] ?_)|(refine nxX ?_)|(refine G.cN rfl (fun hc=>?_) (fun hc=>?_)<;>(try first|exact hc.elim|(exfalso;omega))))
  all_goals (
   refine X.again ⟨_,_,_,_,_,_,_⟩ ?_ ?_ ⟨rfl,rfl,rfl,rfl,rfl,trivial⟩ (fun w h=>h)
   ·refine mPre_mk (by decide) ?_ (by omega) (by omega) (by omega) (by omega) (by omega) (by omega) ?_ ?_ ?_ ?_
    ·show vo _ _ _ _ _ _=psum a b 2
     rw[ps2]
     unfold vo
     omega
    all_goals first|exact fun _=>rfl|exact fun h=>absurd h (by decide)
   ·refine mMu ?_;omega)
 ·obtain rfl:=z0 (by omega);obtain rfl:=z1 (by omega);obtain rfl:=z2 (by omega);clear z0 z1 z2 z3
  rw[ps2] at g1
  unfold vo at g1
  repeat' (first|(show G _ _ _ _ _ _ (.loop _);refine G.loopN 6 (GR.step ?_))|(show X (Exit.then (Code.rounds _ _ _ _) _) _ _ _ _ .normal;refine X.round (GR.step ?_))|(show YK _ _ _ _ _ ⟨_,.call { callee:=.value (.func 200),args:=_,argTypes:=_ },_,_,_,_⟩ _;refine mul64K rfl rfl (by omega) (by omega) (fun s c e h k=>?_))|(show YK _ _ _ _ _ ⟨_,.call { callee:=.value (.func 257),args:=_,argTypes:=_ },_,_,_,_⟩ _;refine add64K rfl rfl rfl (by omega) (by omega) (by omega) (fun s c e h k=>?_))|(show YK _ _ _ _ _ ⟨_,.indexAddr 265 _ _,_,_,_,_⟩ _;refine YK.ofV (y_indexArr (len:=4) rfl rfl (by first|exact(rfl:_=((0:Nat):Int))|exact(rfl:_=((1:Nat):Int))|exact(rfl:_=((2:Nat):Int))|exact(rfl:_=((3:Nat):Int))) (by decide +kernel) rfl) ?_)|(show VK _ _ _ _ _ ⟨_,.indexAddr 265 _ _,_,_,_,_⟩ _;refine VK.mk (y_indexArr (len:=4) rfl rfl (by first|exact(rfl:_=((0:Nat):Int))|exact(rfl:_=((1:Nat):Int))|exact(rfl:_=((2:Nat):Int))|exact(rfl:_=((3:Nat):Int))) (by decide +kernel) rfl) ?_)|(show YK _ _ _ _ _ ⟨_,.indexAddr 276 _ _,_,_,_,_⟩ _;refine YK.ofV (y_indexArr (len:=6) rfl rfl (by first|exact(rfl:_=((0:Nat):Int))|exact(rfl:_=((1:Nat):Int))|exact(rfl:_=((2:Nat):Int))|exact(rfl:_=((3:Nat):Int))|exact(rfl:_=((4:Nat):Int))|exact(rfl:_=((5:Nat):Int))) (by decide +kernel) rfl) ?_)|(show VK _ _ _ _ _ ⟨_,.indexAddr 276 _ _,_,_,_,_⟩ _;refine VK.mk (y_indexArr (len:=6) rfl rfl (by first|exact(rfl:_=((0:Nat):Int))|exact(rfl:_=((1:Nat):Int))|exact(rfl:_=((2:Nat):Int))|exact(rfl:_=((3:Nat):Int))|exact(rfl:_=((4:Nat):Int))|exact(rfl:_=((5:Nat):Int))) (by decide +kernel) rfl) ?_)|(refine nxV ?_)|(refine nSS ?_)|(refine nS1 fun _=>?_)|(refine nMM ?_)|(refine nM1 fun _=>?_)|(refine nxG ?_)|(refine G.mA 10 [.go 0,.go 1,.go 2,.go 3,.go 4,.go 5,.go 6,.go 7,.go 8,.go 9,.go 10,.go 11] ?_)|(refine nxX ?_)|(refine G.cN rfl (fun hc=>?_) (fun hc=>?_)<;>(try first|exact hc.elim|(exfalso;omega))))
  all_goals (
   refine X.again ⟨_,_,_,_,_,_,_⟩ ?_ ?_ ⟨rfl,rfl,rfl,rfl,rfl,trivial⟩ (fun w h=>h)
   ·refine mPre_mk (by decide) ?_ (by omega) (by omega) (by omega) (by omega) (by omega) (by omega) ?_ ?_ ?_ ?_
    ·show vo _ _ _ _ _ _=psum a b 1
     rw[ps1]
     unfold vo
     omega
    all_goals first|exact fun _=>rfl|exact fun h=>absurd h (by decide)
   ·refine mMu ?_;omega)
 ·obtain rfl:=z0 (by omega);obtain rfl:=z1 (by omega);clear z0 z1 z2 z3
  rw[ps1] at g1
  unfold vo at g1
  repeat' (first|(show G _ _ _ _ _ _ (.loop _);refine G.loopN 6 (GR.step ?_))|(show X (Exit.then (Code.rounds _ _ _ _) _) _ _ _ _ .normal;refine X.round (GR.step ?_))|(show YK _ _ _ _ _ ⟨_,.call { callee:=.value (.func 200),args:=_,argTypes:=_ },_,_,_,_⟩ _;refine mul64K rfl rfl (by omega) (by omega) (fun s c e h k=>?_))|(show YK _ _ _ _ _ ⟨_,.call { callee:=.value (.func 257),args:=_,argTypes:=_ },_,_,_,_⟩ _;refine add64K rfl rfl rfl (by omega) (by omega) (by omega) (fun s c e h k=>?_))|(show YK _ _ _ _ _ ⟨_,.indexAddr 265 _ _,_,_,_,_⟩ _;refine YK.ofV (y_indexArr (len:=4) rfl rfl (by first|exact(rfl:_=((0:Nat):Int))|exact(rfl:_=((1:Nat):Int))|exact(rfl:_=((2:Nat):Int))|exact(rfl:_=((3:Nat):Int))) (by decide +kernel) rfl) ?_)|(show VK _ _ _ _ _ ⟨_,.indexAddr 265 _ _,_,_,_,_⟩ _;refine VK.mk (y_indexArr (len:=4) rfl rfl (by first|exact(rfl:_=((0:Nat):Int))|exact(rfl:_=((1:Nat):Int))|exact(rfl:_=((2:Nat):Int))|exact(rfl:_=((3:Nat):Int))) (by decide +kernel) rfl) ?_)|(show YK _ _ _ _ _ ⟨_,.indexAddr 276 _ _,_,_,_,_⟩ _;refine YK.ofV (y_indexArr (len:=6) rfl rfl (by first|exact(rfl:_=((0:Nat):Int))|exact(rfl:_=((1:Nat):Int))|exact(rfl:_=((2:Nat):Int))|exact(rfl:_=((3:Nat):Int))|exact(rfl:_=((4:Nat):Int))|exact(rfl:_=((5:Nat):Int))) (by decide +kernel) rfl) ?_)|(show VK _ _ _ _ _ ⟨_,.indexAddr 276 _ _,_,_,_,_⟩ _;refine VK.mk (y_indexArr (len:=6) rfl rfl (by first|exact(rfl:_=((0:Nat):Int))|exact(rfl:_=((1:Nat):Int))|exact(rfl:_=((2:Nat):Int))|exact(rfl:_=((3:Nat):Int))|exact(rfl:_=((4:Nat):Int))|exact(rfl:_=((5:Nat):Int))) (by decide +kernel) rfl) ?_)|(refine nxV ?_)|(refine nSS ?_)|(refine nS1 fun _=>?_)|(refine nMM ?_)|(refine nM1 fun _=>?_)|(refine nxG ?_)|(refine G.mA 10 [.go 0,.go 1,.go 2,.go 3,.go 4,.go 5,.go 6,.go 7,.go 8,.go 9,.go 10,.go 11] ?_)|(refine nxX ?_)|(refine G.cN rfl (fun hc=>?_) (fun hc=>?_)<;>(try first|exact hc.elim|(exfalso;omega))))
  all_goals (
   refine X.again ⟨_,_,_,_,_,_,_⟩ ?_ ?_ ⟨rfl,rfl,rfl,rfl,rfl,trivial⟩ (fun w h=>h)
   ·refine mPre_mk (by decide) ?_ (by omega) (by omega) (by omega) (by omega) (by omega) (by omega) ?_ ?_ ?_ ?_
    ·show vo _ _ _ _ _ _=psum a b 0
     rw[ps0]
     unfold vo
     omega
    all_goals first|exact fun _=>rfl|exact fun h=>absurd h (by decide)
   ·refine mMu ?_;omega)
 ·obtain rfl:=z0 (by omega);clear z0 z1 z2 z3
  rw[ps0] at g1
  unfold vo at g1
  repeat' (first|(show G _ _ _ _ _ _ (.loop _);refine G.loopN 6 (GR.step ?_))|(show X (Exit.then (Code.rounds _ _ _ _) _) _ _ _ _ .normal;refine X.round (GR.step ?_))|(show YK _ _ _ _ _ ⟨_,.call { callee:=.value (.func 200),args:=_,argTypes:=_ },_,_,_,_⟩ _;refine mul64K rfl rfl (by omega) (by omega) (fun s c e h k=>?_))|(show YK _ _ _ _ _ ⟨_,.call { callee:=.value (.func 257),args:=_,argTypes:=_ },_,_,_,_⟩ _;refine add64K rfl rfl rfl (by omega) (by omega) (by omega) (fun s c e h k=>?_))|(show YK _ _ _ _ _ ⟨_,.indexAddr 265 _ _,_,_,_,_⟩ _;refine YK.ofV (y_indexArr (len:=4) rfl rfl (by first|exact(rfl:_=((0:Nat):Int))|exact(rfl:_=((1:Nat):Int))|exact(rfl:_=((2:Nat):Int))|exact(rfl:_=((3:Nat):Int))) (by decide +kernel) rfl) ?_)|(show VK _ _ _ _ _ ⟨_,.indexAddr 265 _ _,_,_,_,_⟩ _;refine VK.mk (y_indexArr (len:=4) rfl rfl (by first|exact(rfl:_=((0:Nat):Int))|exact(rfl:_=((1:Nat):Int))|exact(rfl:_=((2:Nat):Int))|exact(rfl:_=((3:Nat):Int))) (by decide +kernel) rfl) ?_)|(show YK _ _ _ _ _ ⟨_,.indexAddr 276 _ _,_,_,_,_⟩ _;refine YK.ofV (y_indexArr (len:=6) rfl rfl (by first|exact(rfl:_=((0:Nat):Int))|exact(rfl:_=((1:Nat):Int))|exact(rfl:_=((2:Nat):Int))|exact(rfl:_=((3:Nat):Int))|exact(rfl:_=((4:Nat):Int))|exact(rfl:_=((5:Nat):Int))) (by decide +kernel) rfl) ?_)|(show VK _ _ _ _ _ ⟨_,.indexAddr 276 _ _,_,_,_,_⟩ _;refine VK.mk (y_indexArr (len:=6) rfl rfl (by first|exact(rfl:_=((0:Nat):Int))|exact(rfl:_=((1:Nat):Int))|exact(rfl:_=((2:Nat):Int))|exact(rfl:_=((3:Nat):Int))|exact(rfl:_=((4:Nat):Int))|exact(rfl:_=((5:Nat):Int))) (by decide +kernel) rfl) ?_)|(refine nxV ?_)|(refine nSS ?_)|(refine nS1 fun _=>?_)|(refine nMM ?_)|(refine nM1 fun _=>?_)|(refine nxG ?_)|(refine G.mA 10 [.go 0,.go 1,.go 2,.go 3,.go 4,.go 5,.go 6,.go 7,.go 8,.go 9,.go 10,.go 11] ?_)|(refine nxX ?_)|(refine G.cN rfl (fun hc=>?_) (fun hc=>?_)<;>(try first|exact hc.elim|(exfalso;omega))))
  all_goals (
   refine X.again ⟨_,_,_,_,_,_,_⟩ ?_ ?_ ⟨rfl,rfl,rfl,rfl,rfl,trivial⟩ (fun w h=>h)
   ·refine mPre_mk (by decide) ?_ (by omega) (by omega) (by omega) (by omega) (by omega) (by omega) ?_ ?_ ?_ ?_
    ·show vo _ _ _ _ _ _=psum a b (-1)
     rw[psm]
     unfold vo
     omega
    all_goals first|exact fun _=>rfl|exact fun h=>absurd h (by decide)
   ·refine mMu ?_;omega)
 ·clear z0 z1 z2 z3 hmx
  repeat' (first|(show RS _ _ _ _ _ _ _ (⟨_,.slice _ _ none (some _) none,_,_,_,_⟩::_);refine RS.step (V.y (y_sliceArr (len:=6) (m:=4) rfl rfl (by decide +kernel) rfl rfl)) rfl ?_)|(show RS _ _ _ _ _ _ _ (⟨_,.sliceToArrayPointer _ _,_,_,_,_⟩::_);refine RS.step (V.y (y_arrPtr (len:=4) rfl (by decide +kernel) rfl)) rfl ?_)|(show YK _ _ _ _ _ ⟨_,.load 265 _,_,_,_,_⟩ _;refine YK.ofV (v:=.agg [.int .u64 o0,.int .u64 o1,.int .u64 o2,.int .u64 o3].toArray) (zlP (k:=4) (i:=0) rfl (List.Mem.head _) (by decide +kernel) rfl) ?_)|(refine nxV ?_)|(refine nSS ?_)|(refine nS1 fun _=>?_)|(refine nMM ?_)|(refine nM1 fun _=>?_)|(refine nxG ?_)|(refine G.mA 10 [.go 0,.go 1,.go 2,.go 3,.go 4,.go 5,.go 6,.go 7,.go 8,.go 9,.go 10,.go 11] ?_)|(refine nxX ?_)|(refine G.cN rfl (fun hc=>?_) (fun hc=>?_)<;>(try first|exact hc.elim|(exfalso;omega))))
  refine X.ret (vs:=[_]) rfl ⟨⟨_,_,_,_,rfl,(by exact memA),lenA,by decide +kernel,rfl⟩,rfl⟩ rfl (fun w hw=>⟨?_,hw.ext⟩)
  exact congrArg Ending.returned (mul_val g1 g2 g3 g4 g5 g6 g7)
end Go.Proofs.YtjmdeplmenbmmaaGreat
set_option maxHeartbeats 8000000
namespace Go.Proofs.YtjmdeplmenbmmaaGreat
open Go.RowKit
open TT (W256 cW lb)
abbrev numC (x:Nat):List Value:=[.int .u64 (lb x 0:Int),.int .u64 (lb x 1:Int),.int .u64 (lb x 2:Int),.int .u64 (lb x 3:Int)]
theorem less_c {xx o:Nat} (hx:xx<W256) (ho:o≤1):Cont Tryz.prog 252 [numV xx,.int .u64 (o:Int)] (numV (TT.lessF o (TT.mulF xx xx) 0 34)):=fun w=>by
 have q1:=nmul_c hx hx
 have hy:TT.mulF xx xx<W256:=Nat.lt_of_le_of_lt (TT.mulF_le hx hx) hx
 generalize TT.mulF xx xx=yy at *
 refine enter0 Tryz.func252 rfl rfl rfl ?_
 repeat' (first|(show YK _ _ _ _ _ _ _;first|refine YK.mk (zcA (q1) ⟨rfl,rfl,rfl⟩) ?_)|(refine nxV ?_)|(refine nSS ?_)|(refine nS1 fun _=>?_)|(refine nMM ?_)|(refine nM1 fun _=>?_)|(show YG _ _ _ _ _ _ _ _;refine YG.mk (fun hb=>by(try(have hc:=And.left hb;have hb:=And.right hb;rw[hc]));(try rw[hb]);first|exact(zcA (q1) ⟨rfl,rfl,rfl⟩)|exact V.y vAuto) ?_)|(refine nxG ?_)|(refine G.mA 8 [.go 0,.go 1,.go 2,.go 3,.go 4,.go 5] ?_)|(refine nxX ?_)|(refine G.cN rfl (fun hc=>?_) (fun hc=>?_)<;>(try first|exact hc.elim|(exfalso;omega))))
 rename_i b2 b4 b5 b6
 have e0:numC (TT.lessF o yy 34 (34-34))=[.int .u64 0,.int .u64 0,.int .u64 0,.int .u64 0]:=by
  have e:TT.lessF o yy 34 (34-34)=0:=by rw[Nat.sub_self];simp only[TT.lessF]
  rw[e]
  rfl
 refine G.loop (ι:=Nat) (fun k=>[(1,.int .u64 (o:Int)),(2,.pointer (some ⟨b2,0,none⟩)),(4,.pointer (some ⟨b4,0,none⟩)),(5,.pointer (some ⟨b5,0,none⟩)),(6,.pointer (some ⟨b6,0,none⟩)),(7,.int .u64 (k:Int))])
  (fun k=>[Hl.blk b6 265 (numC (TT.lessF o yy k (34-k))),Hl.blk b5 265 (numC yy),Hl.blk b4 265 [.int .u64 0,.int .u64 0,.int .u64 0,.int .u64 0],Hl.blk b2 265 (numC xx)])
  (fun k=>k≤34) (fun k=>k) 34 (Nat.le_refl _) ⟨rfl,rfl,rfl,rfl,rfl,rfl,trivial⟩ (fun w h=>by rw[e0];exact h) ?_
 clear e0
 rintro k mx hk hmx
 (try dsimp only at hk hmx ⊢)
 cases k with
 |zero =>
  repeat' (first|(refine nxV ?_)|(refine nSS ?_)|(refine nS1 fun _=>?_)|(refine nMM ?_)|(refine nM1 fun _=>?_)|(refine nxG ?_)|(refine G.mA 8 [.go 0,.go 1,.go 2,.go 3,.go 4,.go 5] ?_)|(refine nxX ?_)|(refine G.cN rfl (fun hc=>?_) (fun hc=>?_)<;>(try first|exact hc.elim|(exfalso;omega))))
  refine X.ret (vs:=[_]) rfl ⟨⟨_,_,_,_,rfl,(by exact memA),lenA,by decide +kernel,rfl⟩,rfl⟩ rfl rE
 |succ k =>
  have hde:(2*((k+1:Nat):Int)-1+(o:Int))*(2*((k+1:Nat):Int)+(o:Int))=((TT.dd o k:Nat):Int):=by
   unfold TT.dd
   simp only[Int.natCast_mul,Int.natCast_add]
   grind
  have hdb:TT.dd o k≤5000:=by
   unfold TT.dd
   exact Nat.le_trans (Nat.mul_le_mul (show 2*k+1+o≤70 by omega) (show 2*k+2+o≤70 by omega)) (by decide)
  have hd2:=TT.dd_ge o k
  have hl:=TT.lessF_le o yy hy (34-(k+1)) (k+1)
  have hu:TT.lessF o yy (k+1) (34-(k+1))<W256:=Nat.lt_of_le_of_lt hl hy
  have hq:yy/TT.dd o k<W256:=Nat.lt_of_le_of_lt (Nat.div_le_self _ _) hy
  have hm:=TT.mulF_le hq hu
  have q2:=ndiv_c (a:=yy) (t:=0) (d:=TT.dd o k) hy (by omega) (by omega) (by omega)
  rw[←hde,Nat.zero_mul,Nat.zero_add] at q2
  have q3:=nmul_c hq hu
  have q4:=sub_c hq (Nat.lt_of_le_of_lt hm hq)
  have e4:(yy/TT.dd o k+W256-TT.mulF (yy/TT.dd o k) (TT.lessF o yy (k+1) (34-(k+1))))%W256=TT.lessF o yy k (34-k):=by
   rw[show 34-k=(34-(k+1))+1 by omega]
   show _=yy/TT.dd o k-TT.mulF (yy/TT.dd o k) (TT.lessF o yy (k+1) (34-(k+1)))
   rw[Nat.add_comm,Nat.add_sub_assoc hm,Nat.add_mod_left]
   exact Nat.mod_eq_of_lt (Nat.lt_of_le_of_lt (Nat.sub_le _ _) hq)
  rw[e4] at q4
  have hb:0≤(2*((k+1:Nat):Int)-1+(o:Int))*(2*((k+1:Nat):Int)+(o:Int))∧(2*((k+1:Nat):Int)-1+(o:Int))*(2*((k+1:Nat):Int)+(o:Int))≤5000:=by rw[hde];omega
  clear hde hdb hd2 hl e4 hm
  generalize hu':TT.lessF o yy k (34-k)=u' at q4
  generalize TT.lessF o yy (k+1) (34-(k+1))=u at *
  generalize yy/TT.dd o k=q at *
  generalize TT.mulF q u=m at *
  repeat' (first|(show YK _ _ _ _ _ _ _;first|refine YK.mk (zcA (q2) ⟨rfl,rfl,rfl,rfl⟩) ?_|refine YK.mk (zcA (q3) ⟨rfl,rfl,rfl⟩) ?_|refine YK.mk (zcA (q4) ⟨rfl,rfl,rfl⟩) ?_)|(refine nxV ?_)|(refine nSS ?_)|(refine nS1 fun _=>?_)|(refine nMM ?_)|(refine nM1 fun _=>?_)|(show YG _ _ _ _ _ _ _ _;refine YG.mk (fun hb=>by(try(have hc:=And.left hb;have hb:=And.right hb;rw[hc]));(try rw[hb]);first|exact(zcA (q2) ⟨rfl,rfl,rfl,rfl⟩)|exact(zcA (q3) ⟨rfl,rfl,rfl⟩)|exact(zcA (q4) ⟨rfl,rfl,rfl⟩)|exact V.y vAuto) ?_)|(refine nxG ?_)|(refine G.mA 8 [.go 0,.go 1,.go 2,.go 3,.go 4,.go 5] ?_)|(refine nxX ?_)|(refine G.cN rfl (fun hc=>?_) (fun hc=>?_)<;>(try first|exact hc.elim|(exfalso;omega))))
  refine X.again k (by omega) (by omega) ⟨rfl,rfl,rfl,rfl,rfl,congrArg some (congrArg (Value.int .u64) (by omega)),trivial⟩ (fun w h=>?_)
  rw[hu']
  exact h.sub subS
theorem sub_eq {x m:Nat} (hm:m≤x) (hx:x<W256):(x+W256-m)%W256=x-m:=by
 rw[Nat.add_comm,Nat.add_sub_assoc hm,Nat.add_mod_left]
 exact Nat.mod_eq_of_lt (Nat.lt_of_le_of_lt (Nat.sub_le _ _) hx)
theorem top_eq {s:Nat} (hs:s<W256):((lb s 0:Nat):Int)/17179869184=((s/2^226:Nat):Int):=by
 have h1:lb s 0=s/cW^3:=by
  unfold lb
  refine Nat.mod_eq_of_lt ?_
  refine(Nat.div_lt_iff_lt_mul (by decide)).2 ?_
  exact Nat.lt_of_lt_of_le hs (by decide)
 rw[h1,←show ((17179869184:Nat):Int)=17179869184 from rfl,←Int.natCast_ediv,Nat.div_div_eq_div_mul]
 rfl
theorem wrap_top {s:Nat} (hs:s<W256):IntKind.i64.wrap ((lb s 0:Int)/2^min (Int.toNat 34) IntKind.u64.bits)=((s/2^226:Nat):Int):=by
 have hb:=lb_u64 s 0
 have e5:(2:Int)^min (Int.toNat 34) IntKind.u64.bits=17179869184:=by decide
 have e4:=top_eq hs
 rw[e5]
 have hlt:0≤(lb s 0:Int)/17179869184∧(lb s 0:Int)/17179869184≤1073741823:=by omega
 rw[e4] at hlt ⊢
 exact IntWalk.i64_in _ (by omega)
theorem sine_c {r:Int} (h0:0≤r) (h1:r≤5400000):Cont Tryz.prog 237 [.int .i64 r] (.tuple [.int .i64 (TT.sinB r).1,.bool (TT.sinB r).2].toArray):=fun w=>by
 unfold TT.sinB
 by_cases e0:r=0
 ·subst e0
  refine enter0 Tryz.func237 rfl rfl rfl ?_
  repeat' (first|(refine nxV ?_)|(refine nSS ?_)|(refine nS1 fun _=>?_)|(refine nMM ?_)|(refine nM1 fun _=>?_)|(refine nxG ?_)|(refine G.mA 11 [.go 0,.go 1,.go 2,.go 3,.go 4,.go 5,.go 6] ?_)|(refine nxX ?_)|(refine G.cN rfl (fun hc=>?_) (fun hc=>?_)<;>(try first|exact hc.elim|(exfalso;omega))))
  exact X.ret (vs:=[_,_]) rfl ⟨rfl,rfl,rfl⟩ rfl rE
 by_cases e1:r=1800000
 ·subst e1
  refine enter0 Tryz.func237 rfl rfl rfl ?_
  repeat' (first|(refine nxV ?_)|(refine nSS ?_)|(refine nS1 fun _=>?_)|(refine nMM ?_)|(refine nM1 fun _=>?_)|(refine nxG ?_)|(refine G.mA 11 [.go 0,.go 1,.go 2,.go 3,.go 4,.go 5,.go 6] ?_)|(refine nxX ?_)|(refine G.cN rfl (fun hc=>?_) (fun hc=>?_)<;>(try first|exact hc.elim|(exfalso;omega))))
  exact X.ret (vs:=[_,_]) rfl ⟨rfl,rfl,rfl⟩ rfl rE
 by_cases e2:r=5400000
 ·subst e2
  refine enter0 Tryz.func237 rfl rfl rfl ?_
  repeat' (first|(refine nxV ?_)|(refine nSS ?_)|(refine nS1 fun _=>?_)|(refine nMM ?_)|(refine nM1 fun _=>?_)|(refine nxG ?_)|(refine G.mA 11 [.go 0,.go 1,.go 2,.go 3,.go 4,.go 5,.go 6] ?_)|(refine nxX ?_)|(refine G.cN rfl (fun hc=>?_) (fun hc=>?_)<;>(try first|exact hc.elim|(exfalso;omega))))
  exact X.ret (vs:=[_,_]) rfl ⟨rfl,rfl,rfl⟩ rfl rE
 rw[if_neg e0,if_neg e1,if_neg e2]
 by_cases hg:2*r≤5400000
 ·rw[if_pos hg]
  obtain⟨n,rfl⟩:=Int.eq_ofNat_of_zero_le h0
  have hn:n≤2700000:=by omega
  have q1:=rad_c hn
  have hr:=TT.radF_lt hn
  have q2:=less_c (o:=1) hr (by omega)
  have hx1:TT.mulF (TT.radF n) (TT.radF n)<W256:=Nat.lt_of_le_of_lt (TT.mulF_le hr hr) hr
  have hl:TT.lessF 1 (TT.mulF (TT.radF n) (TT.radF n)) 0 34<W256:=Nat.lt_of_le_of_lt (TT.lessF_le 1 _ hx1 34 0) hx1
  have q3:=nmul_c hr hl
  have hm:=TT.mulF_le hr hl
  have q4:=sub_c hr (Nat.lt_of_le_of_lt hm hr)
  rw[sub_eq hm hr,←TT.sinF_1] at q4
  have hs:TT.sinF 1 n<W256:=by rw[TT.sinF_1];exact Nat.lt_of_le_of_lt (Nat.sub_le _ _) hr
  have e4:=top_eq hs
  clear hm hl hx1
  generalize TT.mulF (TT.radF n) (TT.lessF 1 (TT.mulF (TT.radF n) (TT.radF n)) 0 34)=m at *
  generalize TT.lessF 1 (TT.mulF (TT.radF n) (TT.radF n)) 0 34=u at *
  generalize TT.radF n=rr at *
  have hb:=lb_u64 (TT.sinF 1 n) 0
  refine enter0 Tryz.func237 rfl rfl rfl ?_
  repeat' (first|(show YK _ _ _ _ _ ⟨_,.indexAddr 265 _ _,_,_,_,_⟩ _;refine YK.ofV (y_indexArr (len:=4) rfl rfl (by first|exact(rfl:_=((0:Nat):Int))|exact(rfl:_=((1:Nat):Int))|exact(rfl:_=((2:Nat):Int))|exact(rfl:_=((3:Nat):Int))) (by decide +kernel) rfl) ?_)|(show VK _ _ _ _ _ ⟨_,.indexAddr 265 _ _,_,_,_,_⟩ _;refine VK.mk (y_indexArr (len:=4) rfl rfl (by first|exact(rfl:_=((0:Nat):Int))|exact(rfl:_=((1:Nat):Int))|exact(rfl:_=((2:Nat):Int))|exact(rfl:_=((3:Nat):Int))) (by decide +kernel) rfl) ?_)|(show YK _ _ _ _ _ _ _;first|refine YK.mk (zcA (q1) ⟨rfl,rfl⟩) ?_|refine YK.mk (zcA (q2) ⟨rfl,rfl,rfl⟩) ?_|refine YK.mk (zcA (q3) ⟨rfl,rfl,rfl⟩) ?_|refine YK.mk (zcA (q4) ⟨rfl,rfl,rfl⟩) ?_)|(refine nxV ?_)|(refine nSS ?_)|(refine nS1 fun _=>?_)|(refine nMM ?_)|(refine nM1 fun _=>?_)|(show YG _ _ _ _ _ _ _ _;refine YG.mk (fun hb=>by(try(have hc:=And.left hb;have hb:=And.right hb;rw[hc]));(try rw[hb]);first|exact(zcA (q1) ⟨rfl,rfl⟩)|exact(zcA (q2) ⟨rfl,rfl,rfl⟩)|exact(zcA (q3) ⟨rfl,rfl,rfl⟩)|exact(zcA (q4) ⟨rfl,rfl,rfl⟩)|exact V.y vAuto) ?_)|(refine nxG ?_)|(refine G.mA 11 [.go 0,.go 1,.go 2,.go 3,.go 4,.go 5,.go 6] ?_)|(refine nxX ?_)|(refine G.cN rfl (fun hc=>?_) (fun hc=>?_)<;>(try first|exact hc.elim|(exfalso;omega))))
  refine X.ret (vs:=[_,_]) rfl ⟨rfl,rfl,rfl⟩ rfl (fun w hw=>⟨?_,hw.ext⟩)
  rw[wrap_top hs]
  rfl
 ·rw[if_neg hg]
  obtain⟨n,hn'⟩:=Int.eq_ofNat_of_zero_le (show 0≤5400000-r by omega)
  have hn:n≤2700000:=by omega
  have q1:=rad_c hn
  rw[←hn'] at q1
  have hr:=TT.radF_lt hn
  have q2:=less_c (o:=0) hr (by omega)
  have hx1:TT.mulF (TT.radF n) (TT.radF n)<W256:=Nat.lt_of_le_of_lt (TT.mulF_le hr hr) hr
  have hl:TT.lessF 0 (TT.mulF (TT.radF n) (TT.radF n)) 0 34<W256:=Nat.lt_of_le_of_lt (TT.lessF_le 0 _ hx1 34 0) hx1
  have q4:=sub_c (a:=0) (by decide) hl
  have hlp:=TT.lessC_pos (n:=n) (by omega) hn
  rw[show (0+W256-TT.lessF 0 (TT.mulF (TT.radF n) (TT.radF n)) 0 34)%W256=TT.sinF 0 n by rw[TT.sinF_0,Nat.zero_add];exact Nat.mod_eq_of_lt (by omega)] at q4
  have hs:TT.sinF 0 n<W256:=by rw[TT.sinF_0];omega
  clear hx1 hlp
  generalize TT.lessF 0 (TT.mulF (TT.radF n) (TT.radF n)) 0 34=u at *
  generalize TT.radF n=rr at *
  have hb:=lb_u64 (TT.sinF 0 n) 0
  refine enter0 Tryz.func237 rfl rfl rfl ?_
  repeat' (first|(show YK _ _ _ _ _ ⟨_,.indexAddr 265 _ _,_,_,_,_⟩ _;refine YK.ofV (y_indexArr (len:=4) rfl rfl (by first|exact(rfl:_=((0:Nat):Int))|exact(rfl:_=((1:Nat):Int))|exact(rfl:_=((2:Nat):Int))|exact(rfl:_=((3:Nat):Int))) (by decide +kernel) rfl) ?_)|(show VK _ _ _ _ _ ⟨_,.indexAddr 265 _ _,_,_,_,_⟩ _;refine VK.mk (y_indexArr (len:=4) rfl rfl (by first|exact(rfl:_=((0:Nat):Int))|exact(rfl:_=((1:Nat):Int))|exact(rfl:_=((2:Nat):Int))|exact(rfl:_=((3:Nat):Int))) (by decide +kernel) rfl) ?_)|(show YK _ _ _ _ _ ⟨_,.build 265 _,_,_,_,_⟩ _;refine YK.ofV (y_build0 (cs:=[.int .u64 0,.int .u64 0,.int .u64 0,.int .u64 0]) ZeroTy.is (by decide +kernel)) ?_)|(show YK _ _ _ _ _ _ _;first|refine YK.mk (zcA (q1) ⟨rfl,rfl⟩) ?_|refine YK.mk (zcA (q2) ⟨rfl,rfl,rfl⟩) ?_|refine YK.mk (zcA (q4) ⟨rfl,rfl,rfl⟩) ?_)|(refine nxV ?_)|(refine nSS ?_)|(refine nS1 fun _=>?_)|(refine nMM ?_)|(refine nM1 fun _=>?_)|(show YG _ _ _ _ _ _ _ _;refine YG.mk (fun hb=>by(try(have hc:=And.left hb;have hb:=And.right hb;rw[hc]));(try rw[hb]);first|exact(zcA (q1) ⟨rfl,rfl⟩)|exact(zcA (q2) ⟨rfl,rfl,rfl⟩)|exact(zcA (q4) ⟨rfl,rfl,rfl⟩)|exact V.y vAuto) ?_)|(refine nxG ?_)|(refine G.mA 11 [.go 0,.go 1,.go 2,.go 3,.go 4,.go 5,.go 6] ?_)|(refine nxX ?_)|(refine G.cN rfl (fun hc=>?_) (fun hc=>?_)<;>(try first|exact hc.elim|(exfalso;omega))))
  refine X.ret (vs:=[_,_]) rfl ⟨rfl,rfl,rfl⟩ rfl (fun w hw=>⟨?_,hw.ext⟩)
  rw[wrap_top hs,hn']
  rfl
end Go.Proofs.YtjmdeplmenbmmaaGreat
set_option maxHeartbeats 8000000
namespace Go.Proofs.YtjmdeplmenbmmaaGreat
open Go.RowKit
theorem tmod_turn (n:Int):(0≤n∧n.tmod 21600000=n%21600000)∨(n<0∧n.tmod 21600000 = -((-n)%21600000)):=by
 by_cases h:n<0
 ·refine .inr ⟨h,?_⟩
  have:n = -(-n):=by omega
  rw[this,Int.neg_tmod,Int.tmod_eq_emod_of_nonneg (by omega),Int.neg_neg]
 ·exact .inl ⟨by omega,Int.tmod_eq_emod_of_nonneg (by omega)⟩
theorem turned_c {n:Int} (h : -4611686018427387904≤n∧n≤4611686018427387904):Cont Tryz.prog 236 [.int .i64 n] (.int .i64 (TT.turnI n)):=fun w=>by
 have ht:=tmod_turn n
 have hb : -21600000<n.tmod 21600000∧n.tmod 21600000<21600000:=by omega
 refine enter0 Tryz.func236 rfl rfl rfl ?_
 repeat' (first|(refine nxV ?_)|(refine nSS ?_)|(refine nS1 fun _=>?_)|(refine nMM ?_)|(refine nM1 fun _=>?_)|(refine nxG ?_)|(refine nxX ?_)|(refine G.cN rfl (fun hc=>?_) (fun hc=>?_)<;>(try first|exact hc.elim|(exfalso;omega))))
 all_goals refine X.ret (vs:=[_]) rfl ⟨rfl,rfl⟩ rfl (fun w hw=>⟨congrArg Ending.returned (congrArg (Value.int .i64) ?_),hw.ext⟩)
 all_goals (unfold TT.turnI;omega)
theorem bounds_c {n:Int} (h : -4611686018427387904≤n∧n≤4611686018427387904):Cont Tryz.prog 207 [.int .i64 n] (.tuple [.int .i64 (TT.bnd n).1,.int .i64 (TT.bnd n).2].toArray):=fun w=>by
 have q1:=turned_c h
 obtain⟨m0,m1⟩:=TT.turnI_bd n
 obtain⟨f0,f1⟩:=TT.foldI_bd m0 m1
 have q2:=sine_c f0 f1
 obtain⟨b0,b1,b2⟩:=TT.sinB_bd f0 f1
 unfold TT.bnd
 unfold TT.hiB at *
 have hf:TT.foldI (TT.turnI n)=if (if 10800000<TT.turnI n then TT.turnI n-10800000 else TT.turnI n)>5400000 then 10800000-(if 10800000<TT.turnI n then TT.turnI n-10800000 else TT.turnI n) else (if 10800000<TT.turnI n then TT.turnI n-10800000 else TT.turnI n):=rfl
 generalize TT.foldI (TT.turnI n)=f at *
 generalize TT.turnI n=m at *
 generalize TT.sinB f=sb at *
 obtain⟨lo,ex⟩:=sb
 dsimp only at *
 by_cases c1:10800000<m
 ·rw[if_pos c1] at hf ⊢
  by_cases c2:m-10800000>5400000
  ·rw[if_pos c2] at hf;subst hf
   cases ex<;>(
    refine enter0 Tryz.func207 rfl rfl rfl ?_
    repeat' (first|(show YK _ _ _ _ _ _ _;first|refine YK.mk (zcA (q1) ⟨rfl,rfl⟩) ?_|refine YK.mk (zcA (q2) ⟨rfl,rfl⟩) ?_)|(refine nxV ?_)|(refine nSS ?_)|(refine nS1 fun _=>?_)|(refine nMM ?_)|(refine nM1 fun _=>?_)|(show YG _ _ _ _ _ _ _ _;refine YG.mk (fun hb=>by(try(have hc:=And.left hb;have hb:=And.right hb;rw[hc]));(try rw[hb]);first|exact(zcA (q1) ⟨rfl,rfl⟩)|exact(zcA (q2) ⟨rfl,rfl⟩)|exact V.y vAuto) ?_)|(refine nxG ?_)|(refine nxX ?_)|(refine G.cN rfl (fun hc=>?_) (fun hc=>?_)<;>(try first|exact hc.elim|(exfalso;omega))))
    exact X.ret (vs:=[_,_]) rfl ⟨rfl,rfl,rfl⟩ rfl rE)
  ·rw[if_neg c2] at hf;subst hf
   cases ex<;>(
    refine enter0 Tryz.func207 rfl rfl rfl ?_
    repeat' (first|(show YK _ _ _ _ _ _ _;first|refine YK.mk (zcA (q1) ⟨rfl,rfl⟩) ?_|refine YK.mk (zcA (q2) ⟨rfl,rfl⟩) ?_)|(refine nxV ?_)|(refine nSS ?_)|(refine nS1 fun _=>?_)|(refine nMM ?_)|(refine nM1 fun _=>?_)|(show YG _ _ _ _ _ _ _ _;refine YG.mk (fun hb=>by(try(have hc:=And.left hb;have hb:=And.right hb;rw[hc]));(try rw[hb]);first|exact(zcA (q1) ⟨rfl,rfl⟩)|exact(zcA (q2) ⟨rfl,rfl⟩)|exact V.y vAuto) ?_)|(refine nxG ?_)|(refine nxX ?_)|(refine G.cN rfl (fun hc=>?_) (fun hc=>?_)<;>(try first|exact hc.elim|(exfalso;omega))))
    exact X.ret (vs:=[_,_]) rfl ⟨rfl,rfl,rfl⟩ rfl rE)
 ·rw[if_neg c1] at hf ⊢
  by_cases c2:m>5400000
  ·rw[if_pos c2] at hf;subst hf
   cases ex<;>(
    refine enter0 Tryz.func207 rfl rfl rfl ?_
    repeat' (first|(show YK _ _ _ _ _ _ _;first|refine YK.mk (zcA (q1) ⟨rfl,rfl⟩) ?_|refine YK.mk (zcA (q2) ⟨rfl,rfl⟩) ?_)|(refine nxV ?_)|(refine nSS ?_)|(refine nS1 fun _=>?_)|(refine nMM ?_)|(refine nM1 fun _=>?_)|(show YG _ _ _ _ _ _ _ _;refine YG.mk (fun hb=>by(try(have hc:=And.left hb;have hb:=And.right hb;rw[hc]));(try rw[hb]);first|exact(zcA (q1) ⟨rfl,rfl⟩)|exact(zcA (q2) ⟨rfl,rfl⟩)|exact V.y vAuto) ?_)|(refine nxG ?_)|(refine nxX ?_)|(refine G.cN rfl (fun hc=>?_) (fun hc=>?_)<;>(try first|exact hc.elim|(exfalso;omega))))
    exact X.ret (vs:=[_,_]) rfl ⟨rfl,rfl,rfl⟩ rfl rE)
  ·rw[if_neg c2] at hf;subst hf
   cases ex<;>(
    refine enter0 Tryz.func207 rfl rfl rfl ?_
    repeat' (first|(show YK _ _ _ _ _ _ _;first|refine YK.mk (zcA (q1) ⟨rfl,rfl⟩) ?_|refine YK.mk (zcA (q2) ⟨rfl,rfl⟩) ?_)|(refine nxV ?_)|(refine nSS ?_)|(refine nS1 fun _=>?_)|(refine nMM ?_)|(refine nM1 fun _=>?_)|(show YG _ _ _ _ _ _ _ _;refine YG.mk (fun hb=>by(try(have hc:=And.left hb;have hb:=And.right hb;rw[hc]));(try rw[hb]);first|exact(zcA (q1) ⟨rfl,rfl⟩)|exact(zcA (q2) ⟨rfl,rfl⟩)|exact V.y vAuto) ?_)|(refine nxG ?_)|(refine nxX ?_)|(refine G.cN rfl (fun hc=>?_) (fun hc=>?_)<;>(try first|exact hc.elim|(exfalso;omega))))
    exact X.ret (vs:=[_,_]) rfl ⟨rfl,rfl,rfl⟩ rfl rE)
abbrev arcV (lo hi:Int):Value:=.agg [.int .i64 lo,.int .i64 hi].toArray
theorem meets_c {lo hi n:Int} (h1 : -2305843009213693952≤lo∧lo≤2305843009213693952) (h2 : -2305843009213693952≤hi∧hi≤2305843009213693952) (h3:0≤n∧n≤21600000):Cont Tryz.prog 208 [arcV lo hi,.int .i64 n] (.bool (TT.meetsI lo hi n)):=fun w=>by
 have q1:=turned_c (n:=n-lo) (by omega)
 refine enter0 Tryz.func208 rfl rfl rfl ?_
 repeat' (first|(show YK _ _ _ _ _ _ _;first|refine YK.mk (zcA (q1) ⟨rfl,rfl⟩) ?_)|(refine nxV ?_)|(refine nSS ?_)|(refine nS1 fun _=>?_)|(refine nMM ?_)|(refine nM1 fun _=>?_)|(show YG _ _ _ _ _ _ _ _;refine YG.mk (fun hb=>by(try(have hc:=And.left hb;have hb:=And.right hb;rw[hc]));(try rw[hb]);first|exact(zcA (q1) ⟨rfl,rfl⟩)|exact V.y vAuto) ?_)|(refine nxG ?_)|(refine G.mA 1 [.go 0,.go 1,.go 2,.go 3,.go 5,.go 6,.go 7,.go 8,.go 9,.go 4,.go 10,.go 11] ?_)|(refine nxX ?_)|(refine G.cN rfl (fun hc=>?_) (fun hc=>?_)<;>(try first|exact hc.elim|(exfalso;omega))))
 exact X.ret1
theorem encl_c {lo hi:Int} (h1 : -2305843009213693952≤lo∧lo≤2305843009213693952) (h2 : -2305843009213693952≤hi∧hi≤2305843009213693952):Cont Tryz.prog 163 [arcV lo hi] (arcV (TT.encl lo hi).1 (TT.encl lo hi).2):=fun w=>by
 have q1:=bounds_c (n:=lo) (by omega)
 have q2:=bounds_c (n:=hi) (by omega)
 have q3:=meets_c (n:=5400000) h1 h2 (by omega)
 have q4:=meets_c (n:=16200000) h1 h2 (by omega)
 unfold TT.encl
 generalize TT.bnd lo=x at *
 generalize TT.bnd hi=y at *
 refine enter0 Tryz.func163 rfl rfl rfl ?_
 repeat' (first|(show YK _ _ _ _ _ _ _;first|refine YK.mk (zcA (q1) ⟨rfl,rfl⟩) ?_|refine YK.mk (zcA (q2) ⟨rfl,rfl⟩) ?_|refine YK.mk (zcA (q3) ⟨rfl,rfl,rfl⟩) ?_|refine YK.mk (zcA (q4) ⟨rfl,rfl,rfl⟩) ?_)|(refine nxV ?_)|(refine nSS ?_)|(refine nS1 fun _=>?_)|(refine nMM ?_)|(refine nM1 fun _=>?_)|(show YG _ _ _ _ _ _ _ _;refine YG.mk (fun hb=>by(try(have hc:=And.left hb;have hb:=And.right hb;rw[hc]));(try rw[hb]);first|exact(zcA (q1) ⟨rfl,rfl⟩)|exact(zcA (q2) ⟨rfl,rfl⟩)|exact(zcA (q3) ⟨rfl,rfl,rfl⟩)|exact(zcA (q4) ⟨rfl,rfl,rfl⟩)|exact V.y vAuto) ?_)|(refine nxG ?_)|(refine nxX ?_)|(refine G.cN rfl (fun hc=>?_) (fun hc=>?_)<;>(try first|exact hc.elim|(exfalso;omega))))
 all_goals (
  refine X.ret (vs:=[_]) rfl ⟨⟨_,_,_,_,rfl,(by exact memA),lenA,by decide +kernel,rfl⟩,rfl⟩ rfl (fun w hw=>⟨?_,hw.ext⟩)
  dsimp only
  first
   |rw[if_pos (by assumption),if_pos (by assumption)]
   |rw[if_pos (by assumption),if_neg (ne_true_of_eq_false (by assumption))]
   |rw[if_neg (ne_true_of_eq_false (by assumption)),if_pos (by assumption)]
   |rw[if_neg (ne_true_of_eq_false (by assumption)),if_neg (ne_true_of_eq_false (by assumption))])
theorem further_c {lo hi:Int} (h1 : -2305843009213693952≤lo∧lo≤2305843009213693952) (h2 : -2305843009213693952≤hi∧hi≤2305843009213693952):Cont Tryz.prog 164 [arcV lo hi] (arcV (lo+5400000) (hi+5400000)):=fun w=>by
 refine enter0 Tryz.func164 rfl rfl rfl ?_
 repeat' (first|(refine nxV ?_)|(refine nSS ?_)|(refine nS1 fun _=>?_)|(refine nMM ?_)|(refine nM1 fun _=>?_)|(refine nxG ?_)|(refine nxX ?_)|(refine G.cN rfl (fun hc=>?_) (fun hc=>?_)<;>(try first|exact hc.elim|(exfalso;omega))))
 exact X.ret (vs:=[_]) rfl ⟨⟨_,_,_,_,rfl,(by exact memA),lenA,by decide +kernel,rfl⟩,rfl⟩ rfl rE
def validI (lo hi:Int):Bool:=decide (-1099511627776≤lo)&&decide (lo≤hi)&&decide (hi≤1099511627776)
theorem tvalid_c {lo hi:Int} : Cont Tryz.prog 162 [arcV lo hi] (.bool (validI lo hi)):=fun w=>by
 unfold validI
 refine enter0 Tryz.func162 rfl rfl rfl ?_
 repeat' (first|(refine nxV ?_)|(refine nSS ?_)|(refine nS1 fun _=>?_)|(refine nMM ?_)|(refine nM1 fun _=>?_)|(refine nxG ?_)|(refine nxX ?_)|(refine G.cN rfl (fun hc=>?_) (fun hc=>?_)<;>(try first|exact hc.elim|(exfalso;omega))))
 exact X.ret1
theorem Sin_c {lo hi:Int} (h:validI lo hi=true):Cont Tryz.prog 167 [arcV lo hi] (.tuple [arcV (TT.encl lo hi).1 (TT.encl lo hi).2,.int .i64 0].toArray):=fun w=>by
 have q1:=tvalid_c (lo:=lo) (hi:=hi)
 rw[h] at q1
 simp only[validI,Bool.and_eq_true,decide_eq_true_eq] at h
 have q2:=encl_c (lo:=lo) (hi:=hi) (by omega) (by omega)
 refine enter0 Tryz.func167 rfl rfl rfl ?_
 repeat' (first|(show YK _ _ _ _ _ _ _;first|refine YK.mk (zcA (q1) ⟨rfl,rfl⟩) ?_|refine YK.mk (zcA (q2) ⟨rfl,rfl⟩) ?_)|(refine nxV ?_)|(refine nSS ?_)|(refine nS1 fun _=>?_)|(refine nMM ?_)|(refine nM1 fun _=>?_)|(show YG _ _ _ _ _ _ _ _;refine YG.mk (fun hb=>by(try(have hc:=And.left hb;have hb:=And.right hb;rw[hc]));(try rw[hb]);first|exact(zcA (q1) ⟨rfl,rfl⟩)|exact(zcA (q2) ⟨rfl,rfl⟩)|exact V.y vAuto) ?_)|(refine nxG ?_)|(refine nxX ?_)|(refine G.cN rfl (fun hc=>?_) (fun hc=>?_)<;>(try first|exact hc.elim|(exfalso;omega))))
 exact X.ret (vs:=[_,_]) rfl ⟨⟨_,_,_,_,rfl,(by exact memA),lenA,by decide +kernel,rfl⟩,rfl,rfl⟩ rfl rE
theorem Cos_c {lo hi:Int} (h:validI lo hi=true):Cont Tryz.prog 107 [arcV lo hi] (.tuple [arcV (TT.cosE lo hi).1 (TT.cosE lo hi).2,.int .i64 0].toArray):=fun w=>by
 have q1:=tvalid_c (lo:=lo) (hi:=hi)
 rw[h] at q1
 simp only[validI,Bool.and_eq_true,decide_eq_true_eq] at h
 have q2:=further_c (lo:=lo) (hi:=hi) (by omega) (by omega)
 have q3:=encl_c (lo:=lo+5400000) (hi:=hi+5400000) (by omega) (by omega)
 unfold TT.cosE
 refine enter0 Tryz.func107 rfl rfl rfl ?_
 repeat' (first|(show YK _ _ _ _ _ _ _;first|refine YK.mk (zcA (q1) ⟨rfl,rfl⟩) ?_|refine YK.mk (zcA (q2) ⟨rfl,rfl⟩) ?_|refine YK.mk (zcA (q3) ⟨rfl,rfl⟩) ?_)|(refine nxV ?_)|(refine nSS ?_)|(refine nS1 fun _=>?_)|(refine nMM ?_)|(refine nM1 fun _=>?_)|(show YG _ _ _ _ _ _ _ _;refine YG.mk (fun hb=>by(try(have hc:=And.left hb;have hb:=And.right hb;rw[hc]));(try rw[hb]);first|exact(zcA (q1) ⟨rfl,rfl⟩)|exact(zcA (q2) ⟨rfl,rfl⟩)|exact(zcA (q3) ⟨rfl,rfl⟩)|exact V.y vAuto) ?_)|(refine nxG ?_)|(refine nxX ?_)|(refine G.cN rfl (fun hc=>?_) (fun hc=>?_)<;>(try first|exact hc.elim|(exfalso;omega))))
 exact X.ret (vs:=[_,_]) rfl ⟨⟨_,_,_,_,rfl,(by exact memA),lenA,by decide +kernel,rfl⟩,rfl,rfl⟩ rfl rE
end Go.Proofs.YtjmdeplmenbmmaaGreat
namespace Go.Proofs.YtjmdeplmenbmmaaGreat
end Go.Proofs.YtjmdeplmenbmmaaGreat
