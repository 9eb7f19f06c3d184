/- Joined texts: Fxf, Pl0, Pl1, Obs, Sid, Sur. -/
import Derived.Test.YtjmdeplmenbmmaaGreatDoorW17
import Derived.Test.YtjmdeplmenbmmaaGreatDoorW14
import Derived.Test.YtjmdeplmenbmmaaGreatDoorW15
set_option linter.unusedVariables false
set_option maxHeartbeats 8000000
namespace Go.Proofs.YtjmdeplmenbmmaaGreatDoor
open Go.RowKit
theorem RS.nilR {P:Program} {n:Nat} {L:FL} {w0:World} {H:List Hl} {Q:Exit→Act→World→Prop} {ops:Array Oper} {rest:List Oper} {α:Type} (e:TypeId) (f:α→List Value) (s:Nat) (h:RS P ops Q n L w0 (Hl.rw (.slice none 0 0) e f s []::H) rest):RS P ops Q n L w0 H rest:=by
 unfold RS at *
 exact fun a w ha hw=>h a w ha (St.nilRow e f s hw)
theorem number_c {lab:List UInt8} {x y:Int} (h:0≤x∧x≤y∧y≤1000000000) (hlab:lab.length≤100):∃l:List UInt8,l.length≤1000∧∀(b:Nat) (s:Sl) (ls:List (List UInt8)),ls.length≤100→ContL Tryz.prog LaidC [wrB b s,wrR s ls] 77 [ptK b,strV lab,arcV x y] (fun _:Sl=>True) (fun _=>.tuple #[]) (fun z=>[wrB b z,wrR z (ls++[l])]):=by
 obtain⟨l,hl,q1⟩:=print_c h
 refine⟨lab++[32]++l,by simp only[List.length_append,List.length_cons,List.length_nil];omega,fun b s ls hn w0 HR w hI hw=>?_⟩
 have q2:=wkeep_c (b:=b) (s:=s.v)
 have q3:=fun v:Sl=>words_c (b:=b) (s:=s) (v:=v) (ls:=ls) (s1:=lab) (s2:=l) (by omega) hn
 change St w0 (wrB b s::wrR s ls::HR) w at hw
 refine enterU Tryz.func77 rfl rfl rfl hw ?_
 repeat' (first|(show YK _ _ _ _ _ ⟨_,.call { callee:=.value (.func 157),args:=_,argTypes:=_ },_,_,_,_⟩ _;refine YK.mk (zcI (q1) (fun w' hw'=>hI.keep hw'.ext) ⟨rfl,rfl⟩ (by decide +kernel)) ?_)|(show YK _ _ _ _ _ ⟨_,.call { callee:=.value (.func 79),args:=_,argTypes:=_ },_,_,_,_⟩ _;refine YK.mk (zcI (q2) (fun w' hw'=>WrW.ofSt hw' (by exact memA)) ⟨rfl,rfl,rfl⟩ (by decide +kernel)) ?_)|(show RS _ _ _ _ _ _ _ (⟨some _,.buildSlice 81 2 _,_,_,_,_⟩::_);refine RS.lit2S (a:=lab) (b:=l) (fun v'=>?_) rfl rfl rfl)|(show RS _ _ _ _ _ _ _ (⟨some 20,.call _,_,_,_,_⟩::_);refine RS.callL (q3 _) trivial ?_;rintro z -;dsimp only[List.cons_append,List.nil_append])|(refine nxV ?_)|(refine nSS ?_)|(refine nS1 fun _=>?_)|(refine nxX ?_)|done)
 all_goals first
  |exact X.endN rfl (fun w hw=>⟨_,trivial,rfl,hw.sub subS⟩)
  |exact X.retZ rfl (fun w hw=>⟨_,trivial,rfl,hw.sub subS⟩)
theorem wresult_c {b:Nat} {s:Value} : ContIn Tryz.prog (WrW b s) 80 [ptK b] (.tuple [s,.int .i64 0].toArray):=fun w hs=>by
 have hcl:=hs.cell
 refine enter0 Tryz.func80 rfl rfl rfl ?_
 repeat' (first|(refine nxN ?_)|(show YK _ _ _ _ _ ⟨_,.load 27 _,_,_,_,_⟩ _;refine YK.ofV (y_loadX (by rfl) (hcl _ _ (by rfl)) (by decide +kernel)) ?_)|(show YK _ _ _ _ _ ⟨_,.load 81 _,_,_,_,_⟩ _;refine YK.ofV (y_loadX (by rfl) (hcl _ _ (by rfl)) (by decide +kernel)) ?_)|(refine nxV ?_)|(refine nSS ?_)|(refine nxX ?_)|(refine G.cN rfl (fun hc=>?_) (fun hc=>?_)<;>(try first|exact hc.elim|(exfalso;omega))))
 all_goals exact X.ret (vs:=[_,_]) rfl ⟨rfl,rfl,rfl⟩ rfl rE
abbrev cell112:RR.CellT:=⟨1,1,2⟩
theorem ok112:RR.okC cell112:=by
 refine⟨?_,?_,?_⟩
 ·show 1≤16
  decide
 ·show 1<2^1
  decide
 ·show 2<2*2^1
  decide
theorem bx112:bxA cell112=0∧bxB cell112=5400000∧bxC cell112=0∧bxD cell112=5400000:=by decide +kernel
theorem rad112:(TT.meetO (sideS (0,5400000) (2700000,2700000) (0-2700000,5400000-2700000))).1≤(TT.meetO (sideS (0,5400000) (2700000,2700000) (0-2700000,5400000-2700000))).2:=by decide +kernel
abbrev cellR (v:Sl):Hl:=Hl.rw v.v 73 cT 3 [cell112]
theorem ffix_c {v:Sl} : ContL Tryz.prog LaidC [cellR v] 28 [v.v] (fun z:Sl×List (List UInt8)=>z.2.length=6) (fun z=>.tuple [z.1.v,.int .i64 0].toArray) (fun z=>[wrR z.1 z.2]):=fun w0 HR w hI hw=>by
 have e2:signI ((0+5400000)/2)=2700000:=by decide
 have e1:((0:Int)+5400000)/2=2700000:=by decide
 have q1:=fxBounds_c (v:=v.v) ok112
 have q2:=fxParts_c (v:=v.v) ok112
 have q3:=fxCenter_c (v:=v.v) ok112
 rw[bx112.1,bx112.2.1,bx112.2.2.1,bx112.2.2.2] at q1 q3
 rw[e1] at q3
 rw[show signI 2700000=2700000 by decide] at q3
 obtain⟨r1,r2,hr,q4⟩:=fxRadius_c (v:=v.v) ok112 (la:=2700000) (lo:=2700000) (by unfold lat8I lon8I;omega) (by rw[bx112.1,bx112.2.1,bx112.2.2.1,bx112.2.2.2];exact rad112)
 obtain⟨l6,h6,q6⟩:=ptext_c (la:=2700000) (lo:=2700000) (by unfold lat8I lon8I;omega) (by omega)
 have q5:Cont Tryz.prog 76 [.int .i64 1] (strV (Lib.decDigits 1)):=itoa1_c 1 (by omega)
 have d1:(Lib.decDigits 1).length≤1000:=by decide +kernel
 generalize Lib.decDigits 1=one at *
 obtain⟨n1,k1,p1⟩:=number_c (lab:=[108,97,116,105,116,117,100,101]) (x:=0) (y:=5400000) (by omega) (by decide)
 obtain⟨n2,k2,p2⟩:=number_c (lab:=[108,111,110,103,105,116,117,100,101]) (x:=0) (y:=5400000) (by omega) (by decide)
 obtain⟨n3,k3,p3⟩:=number_c (lab:=[114,97,100,105,117,115]) (x:=r1) (y:=r2) (by omega) (by decide)
 have wm1:=fun b s v=>words_c (b:=b) (s:=s) (v:=v) (ls:=[]) (s1:=[99,101,108,108,115]) (s2:=one) ⟨by decide,d1⟩ (by decide)
 have wm2:=fun b s v=>words_c (b:=b) (s:=s) (v:=v) (ls:=[]++[[99,101,108,108,115]++[32]++one]) (s1:=[112,97,114,116,115]) (s2:=one) ⟨by decide,d1⟩ (by simp)
 generalize [99,101,108,108,115]++[32]++one=t1 at *
 generalize [112,97,114,116,115]++[32]++one=t2 at *
 have wm3:=fun b s=>p1 b s ([]++[t1]++[t2]) (by simp)
 have wm4:=fun b s=>p2 b s ([]++[t1]++[t2]++[n1]) (by simp)
 have wm5:=fun b s v=>words_c (b:=b) (s:=s) (v:=v) (ls:=[]++[t1]++[t2]++[n1]++[n2]) (s1:=[99,101,110,116,101,114]) (s2:=l6) ⟨by decide,by omega⟩ (by simp)
 generalize [99,101,110,116,101,114]++[32]++l6=t3 at *
 have wm6:=fun b s=>p3 b s ([]++[t1]++[t2]++[n1]++[n2]++[t3]) (by simp)
 have q7:=fun b s=>wkeep_c (b:=b) (s:=s)
 have q8:=fun b s=>wresult_c (b:=b) (s:=s)
 have ll:(([cell112].length:Nat):Int)=1:=rfl
 clear p1 p2 p3 k1 k2 k3
 change St w0 (cellR v::HR) w at hw
 refine enterU Tryz.func28 rfl rfl rfl hw ?_
 repeat' (first|(show RS _ _ _ _ _ _ _ (⟨some 46,_,_,_,_,_⟩::_);refine RS.nilR 9 cS 1 ?_;refine nSS ?_)|(show RS _ _ _ _ _ _ _ (⟨some 21,_,_,_,_,_⟩::_);refine RS.callX q2 ⟨rfl,rfl⟩ ?_;rintro⟨pz1,pz2⟩ -;dsimp only[List.cons_append,List.nil_append])|(show YK _ _ _ _ _ ⟨_,.call { callee:=.value (.func 78),args:=_,argTypes:=_ },_,_,_,_⟩ _;refine YK.mk (zcI (q6) (fun w' hw'=>hI.keep hw'.ext) ⟨rfl,rfl⟩ (by decide +kernel)) ?_)|(show YK _ _ _ _ _ ⟨_,.call { callee:=.value (.func 79),args:=_,argTypes:=_ },_,_,_,_⟩ _;refine YK.mk (zcI (q7 _ _) (fun w' hw'=>WrW.ofSt hw' (by exact memA)) ⟨rfl,rfl,rfl⟩ (by decide +kernel)) ?_)|(show YK _ _ _ _ _ ⟨_,.call { callee:=.value (.func 80),args:=_,argTypes:=_ },_,_,_,_⟩ _;refine YK.mk (zcI (q8 _ _) (fun w' hw'=>WrW.ofSt hw' (by exact memA)) ⟨rfl,rfl⟩ (by decide +kernel)) ?_)|(show RS _ _ _ _ _ _ _ (⟨some 50,_,_,_,_,_⟩::_);refine RS.lit2S (a:=[99,101,108,108,115]) (b:=one) (fun v'=>?_) rfl rfl rfl)|(show RS _ _ _ _ _ _ _ (⟨some 56,_,_,_,_,_⟩::_);refine RS.lit2S (a:=[112,97,114,116,115]) (b:=one) (fun v'=>?_) rfl rfl rfl)|(show RS _ _ _ _ _ _ _ (⟨some 76,_,_,_,_,_⟩::_);refine RS.lit2S (a:=[99,101,110,116,101,114]) (b:=l6) (fun v'=>?_) rfl rfl rfl)|(show RS _ _ _ _ _ _ _ (⟨some 51,.call _,_,_,_,_⟩::_);refine RS.callL (wm1 _ ⟨none,0,0⟩ _) trivial ?_;rintro z1 -;dsimp only[List.cons_append,List.nil_append])|(show RS _ _ _ _ _ _ _ (⟨some 57,.call _,_,_,_,_⟩::_);refine RS.callL (wm2 _ _ _) trivial ?_;rintro z2 -;dsimp only[List.cons_append,List.nil_append])|(show RS _ _ _ _ _ _ _ (⟨some 61,.call _,_,_,_,_⟩::_);refine RS.callL (wm3 _ _) hI ?_;rintro z3 -;dsimp only[List.cons_append,List.nil_append])|(show RS _ _ _ _ _ _ _ (⟨some 65,.call _,_,_,_,_⟩::_);refine RS.callL (wm4 _ _) hI ?_;rintro z4 -;dsimp only[List.cons_append,List.nil_append])|(show RS _ _ _ _ _ _ _ (⟨some 77,.call _,_,_,_,_⟩::_);refine RS.callL (wm5 _ _ _) trivial ?_;rintro z5 -;dsimp only[List.cons_append,List.nil_append])|(show RS _ _ _ _ _ _ _ (⟨some 80,.call _,_,_,_,_⟩::_);refine RS.callL (wm6 _ _) hI ?_;rintro z6 -;dsimp only[List.cons_append,List.nil_append])|(show YK _ _ _ _ _ ⟨_,.load 34 _,_,_,_,_⟩ _;refine YK.ofV (zlP (k:=2) (by rfl) (by exact memA) (by decide +kernel) (by rfl)) ?_)|(show YK _ _ _ _ _ _ _;first|refine YK.mk (zcR (q1) ⟨rfl,rfl⟩) ?_|refine YK.mk (zcR (q3) ⟨rfl,rfl⟩) ?_|refine YK.mk (zcR (q4) ⟨rfl,rfl,rfl⟩) ?_|refine YK.mk (zcA (q5) ⟨rfl,rfl⟩) ?_)|(refine nxV ?_)|(refine nSS ?_)|(refine nS1 fun _=>?_)|(refine nxX ?_)|(refine G.cN rfl (fun hc=>?_) (fun hc=>?_)<;>(try first|exact hc.elim|(exfalso;omega))))
 rename_i z6
 exact X.ret (vs:=[_,_]) rfl ⟨rfl,rfl,rfl⟩ rfl (fun w hw=>⟨(z6,[]++[t1]++[t2]++[n1]++[n2]++[t3]++[n3]),rfl,rfl,hw.sub subS⟩)
theorem enc0:TT.encl 0 0=(0,0):=by decide +kernel
theorem mul_zero {c:Int×Int} (h:0≤c.1) (h2:c.1≤c.2):(TT.mulE (0,0) c).1≤0∧0≤(TT.mulE (0,0) c).2:=by
 unfold TT.mulE
 simp
theorem div_zero {A B:Int×Int} (h:A.1≤0∧0≤A.2) (hB:0<B.1):(divE A B).1≤0∧0≤(divE A B).2:=by
 have h1:divQ A.1 B.1≤0:=by
  unfold divQ
  have:=Int.ediv_le_ediv (c:=B.1) hB (show A.1*1073741824≤0 by omega)
  rwa [Int.zero_ediv] at this
 have h2:0≤divC A.2 B.1:=by
  unfold divC
  have:=Int.ediv_le_ediv (c:=B.1) hB (show -(A.2*1073741824)≤0 by omega)
  rw[Int.zero_ediv] at this
  omega
 unfold divE
 dsimp only
 omega
theorem asin_0 {v n:Int} (h:TT.IsAsin v n) (hv:v≤0):n≤0:=by
 refine Int.not_lt.1 fun hn=>?_
 obtain⟨_,h1,h2,_⟩:=h
 have hb:=(TT.bnd_holds (n:=n) (by omega) (by omega)).2
 have hs:=TT.S_pos (x:=n) (by omega) (by omega)
 have h3:=Rat.mul_le_mul_of_nonneg_left hs (Rat.le_of_lt TT.oR_pos)
 have h4:(1:Rat)<TT.oR*TT.m30-TT.d100:=by decide +kernel
 have h5:=Rat.intCast_le_intCast.2 (show (TT.bnd n).2≤0 by omega)
 have h6:((0:Int):Rat)=0:=rfl
 grind
theorem creach0_c {lim:Int} (hl:1≤lim∧lim<5400000):∃r:Int×Int,(0≤r.1∧r.1≤5400000∧5400000≤r.2∧r.2≤10800000)∧Cont Tryz.prog 30 [.int .i64 0,.int .i64 lim] (.tuple [arcV r.1 r.2,.int .i64 0].toArray):=by
 obtain⟨c1,c2,c3⟩:=TT.quot_in (lat:=0) (lim:=lim) hl (by omega)
 have q1:=prod_c (a:=(0:Int)) (b:=lim) (by omega) (by omega)
 have q2:=prod_c (a:=lim) (b:=(0:Int)) (by omega) (by omega)
 have mA:=TT.mulE_bd (TT.encl_ord (Int.le_refl (0:Int))) (TT.cosE_ord (Int.le_refl lim))
 have mB:=TT.mulE_bd (TT.encl_ord (Int.le_refl lim)) (TT.cosE_ord (Int.le_refl (0:Int)))
 have hA0:=mul_zero (c:=TT.cosE lim lim) (by have:=cos_low (x:=lim) (by omega);omega) (TT.cosE_ord (Int.le_refl lim)).2.1
 rw[←enc0] at hA0
 generalize TT.mulE (TT.encl (0:Int) (0:Int)) (TT.cosE lim lim)=A at *
 generalize TT.mulE (TT.encl lim lim) (TT.cosE (0:Int) (0:Int))=B at *
 have hz:=div_zero (A:=A) (B:=B) hA0 (by omega)
 have hd:=divE_in mA.2.1 mB.2.1 c3 c1 c2
 have q3:=fdiv_c (A:=A) (B:=B) (by omega) (by omega) (by omega) (by omega)
 generalize divE A B=D at *
 obtain⟨n,hn⟩:=TT.asin_ex (v:=D.1) hd.1
 obtain⟨m,hm⟩:=TT.asin_ex (v:=-D.2) (by omega)
 have q4:=Acos_c (a:=D.1) (b:=D.2) hd hn hm
 have hnm:n≤-m:=TT.asin_ord hn hm hd.2.1
 have z1:=asin_0 hn hz.1
 have z2:=asin_0 hm (by omega)
 have b1:=hn.1
 have b2:=hn.2.1
 have b3:=hm.1
 have b4:=hm.2.1
 clear hn hm
 refine⟨(5400000+m,5400000-n),by dsimp only;omega,fun w=>?_⟩
 dsimp only
 generalize 5400000+m=r1 at *
 generalize 5400000-n=r2 at *
 obtain⟨A1,A2⟩:=A
 obtain⟨B1,B2⟩:=B
 obtain⟨D1,D2⟩:=D
 dsimp only at *
 refine enter0 Tryz.func30 rfl rfl rfl ?_
 repeat' (first|(show YK _ _ _ _ _ _ _;first|refine YK.mk (zcA (q1) ⟨rfl,rfl,rfl⟩) ?_|refine YK.mk (zcA (q2) ⟨rfl,rfl,rfl⟩) ?_|refine YK.mk (zcA (q3) ⟨rfl,rfl,rfl⟩) ?_|refine YK.mk (zcA (q4) ⟨rfl,rfl⟩) ?_)|(refine nxV ?_)|(refine nSS ?_)|(refine nS1 fun _=>?_)|(refine nxX ?_)|(refine G.cN rfl (fun hc=>?_) (fun hc=>?_)<;>(try first|exact hc.elim|(exfalso;omega))))
 all_goals exact X.ret (vs:=[_,_]) rfl ⟨⟨_,_,_,_,rfl,(by exact memA),lenA,by decide +kernel,rfl⟩,rfl,rfl⟩ rfl rE
theorem cmp_two {a b:PtT} {zl:List PtT} (hc:Cmp zl ([a]++[b])) (hn:zl.length≤([a]++[b]).length) (hab:a≠b):zl.length=2:=by
 have e1:=hc.hd
 have e2:=hc.lst
 have hne:=hc.ne
 match zl,hn with
 |[],_=>exact absurd rfl hne
 |[x],_ =>
  have f1:x=a:=Option.some.inj e1
  have f2:x=b:=by simpa using e2
  exact absurd (f1.symm.trans f2) hab
 |[_,_],_=>rfl
 |_::_::_::_,h=>simp at h
theorem plan0_c {a b:PtT} {lim:Int} (hl:1≤lim∧lim<5400000) (ha:okPt lim a) (hb:okPt lim b) (ha0:a.1=0) (hb0:b.1=0) (hab:a≠b):ContX Tryz.prog [] 7 [ptV a.1 a.2,ptV b.1 b.2,.int .i64 lim] (fun z:Value×List PtT=>z.2.length=2) (fun z=>.tuple [z.1,.int .i64 0].toArray) (fun z=>[Hl.nw z.1 cPt 2 z.2]):=fun w hw0=>by
 have q1:=fun v=>check_c (v:=v) (l:=[a,b]) (lim:=lim) (fun p hp=>by
  rcases List.mem_cons.1 hp with rfl|hp
  ·exact ha
  ·rw[List.mem_singleton.1 hp];exact hb) hl (by simp)
 obtain⟨r,hr,q2⟩:=creach0_c hl
 obtain⟨s,hs,q3⟩:=creach0_c hl
 rw[←ha0] at q2
 rw[←hb0] at q3
 have h1:=ha.1
 have h2:=hb.1
 have q4:=signed_c (n:=b.2-a.2) (by omega)
 have ho:=signI_bd (b.2-a.2)
 generalize signI (b.2-a.2)=om at *
 refine enter Tryz.func7 rfl rfl rfl hw0 ?_
 repeat' (first|(show RS _ _ _ _ _ _ _ (⟨some _,.buildSlice 26 2 _,_,_,_,_⟩::_);refine RS.lit2Pt (a:=a) (b:=b) (fun v'=>?_) rfl rfl)|(show RS _ _ _ _ _ _ _ (⟨some _,.buildSlice 26 1 _,_,_,_,_⟩::_);refine RS.lit1Pt (a:=a) (fun v'=>?_) rfl)|(show RS _ _ _ _ _ _ _ (⟨some _,.buildSlice 65 2 _,_,_,_,_⟩::_);refine RS.lit2I (fun v'=>?_) rfl rfl)|(show YK _ _ _ _ _ _ _;first|refine YK.mk (zcR (q1 _) ⟨rfl,rfl,rfl⟩) ?_|refine YK.mk (zcA (q2) ⟨rfl,rfl,rfl⟩) ?_|refine YK.mk (zcA (q3) ⟨rfl,rfl,rfl⟩) ?_|refine YK.mk (zcA (q4) ⟨rfl,rfl⟩) ?_)|(refine nxV ?_)|(refine nSS ?_)|(refine nS1 fun _=>?_)|(refine nxX ?_)|(refine G.cN rfl (fun hc=>?_) (fun hc=>?_)<;>(try first|exact hc.elim|(exfalso;omega))))
 rename_i b3 b4 v0 hd1 b9 hd2 b11 v1
 refine G.loop (ι:=Nat×(Int×Int)×(Int×Int)) (fun y=>[(2,.int .i64 lim),(3,bxP b3),(4,bxP b4),(9,bxP b9),(11,bxP b11),(12,.int .i64 om),(13,v1.v),(57,v'.v),(58,.int .i64 ([lim,-lim].length:Nat)),(59,.int .i64 (y.1:Int))])
  (fun y=>[Hl.rw v'.v 3 cI 1 [lim,-lim],Hl.rw v1.v 23 cPt 2 [a],Hl.blk b11 34 [.int .i64 y.2.2.1,.int .i64 y.2.2.2],Hl.blk b9 34 [.int .i64 y.2.1.1,.int .i64 y.2.1.2],Hl.blk b4 23 [.int .i64 b.1,.int .i64 b.2],Hl.blk b3 23 [.int .i64 a.1,.int .i64 a.2]])
  (fun y=>y.1≤2∧(0≤y.2.1.1∧y.2.1.1≤5400000∧5400000≤y.2.1.2∧y.2.1.2≤10800000)∧0≤y.2.2.1∧y.2.2.1≤5400000∧5400000≤y.2.2.2∧y.2.2.2≤10800000)
  (fun y=>2-y.1) (0,r,s) ⟨by dsimp only;omega,hr,hs⟩ ⟨rfl,rfl,rfl,rfl,rfl,rfl,rfl,rfl,rfl,rfl,trivial⟩ (by exact fun w h=>h.sub subS) ?_
 clear hr hs q2 q3
 rintro⟨k,⟨r1,r2⟩,⟨s1,s2⟩⟩ mx ⟨i1,i6,i7⟩ hmx
 (try dsimp only at i1 i6 i7 hmx ⊢)
 rcases Nat.lt_or_ge k 2 with hk|hk
 ·have q5:=csize_c (n:=om) (by omega)
  have q8:=cturn_c (a:=r1) (b:=r2) (by omega)
  have q9:=cturn_c (a:=s1) (b:=s2) (by omega)
  repeat' (first|(show YK _ _ _ _ _ _ _;first|refine YK.mk (zcA (q5) ⟨rfl,rfl⟩) ?_|refine YK.mk (zcA (q8) ⟨rfl,rfl⟩) ?_|refine YK.mk (zcA (q9) ⟨rfl,rfl⟩) ?_)|(refine nxV ?_)|(refine nSS ?_)|(refine nMM ?_)|(refine G.mA 15 [.go 0,.go 1,.go 2,.go 3,.go 4,.go 5,.go 6,.go 7] ?_)|(refine G.mA 20 [.go 0,.go 2,.go 1,.go 3,.go 4,.go 5] ?_)|(refine nxX ?_)|(refine G.cN rfl (fun hc=>?_) (fun hc=>?_)<;>(try first|exact hc.elim|(exfalso;omega))))
  all_goals first
   |(exfalso;omega)
   |(exfalso;simp at hc;omega)
   |exact X.again (k+1,(10800000-r2,10800000-r1),(10800000-s2,10800000-s1)) ⟨by dsimp only;omega,by dsimp only;omega,by dsimp only;omega⟩ (by dsimp only;omega) ⟨rfl,rfl,rfl,rfl,rfl,rfl,rfl,rfl,rfl,rfl,trivial⟩ (by exact fun w h=>h.sub subS)
 ·have hll:(([lim,-lim].length:Nat):Int)=2:=rfl
  repeat' (first|(show RS _ _ _ _ _ _ _ (⟨some _,.buildSlice 26 1 _,_,_,_,_⟩::_);refine RS.lit1Pt (a:=b) (fun v'=>?_) rfl)|(show RS _ _ _ _ _ _ _ (⟨some 107,_,_,_,_,_⟩::_);refine RS.callU (compact_c _ ([a]++[b]) (by simp only[List.length_append,List.length_cons,List.length_nil];omega) (by simp only[List.length_append,List.length_cons,List.length_nil];omega)) ⟨rfl,rfl⟩ ?_;rintro⟨zv,zl⟩ ⟨hz1,hz2⟩;dsimp only[List.cons_append,List.nil_append])|(refine nxV ?_)|(refine nSS ?_)|(refine nS1 fun _=>?_)|(refine nxX ?_)|(refine G.cN rfl (fun hc=>?_) (fun hc=>?_)<;>(try first|exact hc.elim|(exfalso;omega))))
  all_goals first
   |(exfalso;simp at hc;omega)
   |exact X.retN (vs:=[_,_]) (zv,zl) rfl ⟨rfl,rfl,rfl⟩ rfl (cmp_two hz1 hz2 hab) rfl (NewIn.nw (by exact memA) NewIn.nil)
theorem geo0_built:Tryz.prog.built 79 []=some [.int .i64 0,.int .i64 0,.int .i64 0,.int .i64 0,.int .i64 0,.int .i64 0,.int .i64 0,.int .i64 0].toArray:=by kernel_rfl
theorem pl0_built:Tryz.prog.built 36 []=some [.int .i64 0,.int .i64 0,.int .i64 0,.int .i64 0].toArray:=by kernel_rfl
theorem obsAwake_c:ContIn Tryz.prog LaidC 5 [] (.bool true):=fun w hI=>by
 have q0:=obsp_c (n:=3600000)
 have q0':=obsp_c (n:=1800000)
 have q1:=circOf_c (h1:=3600000) (h2:=3600000) (g1:=0) (g2:=0) (d1:=0) (d2:=0) (s1:=0) (s2:=0) (p1:=0) (p2:=0) (by omega) (by omega) (by omega)
 have e1:lonsI (-0,-0)=(0,0):=by decide
 rw[e1] at q1
 have q2:=side_c (a:=0) (b:=0) (c:=0) (d:=0) (r1:=1800000) (r2:=1800000) (x:=0) (y:=0) (e:=0) (f:=0) (by omega) (by unfold lonOk;omega) (by omega) (by omega) (by unfold lonOk;omega) side_in
 have q3:=fun v=>ffix_c (v:=v)
 have q4:=plan0_c (a:=(0,0)) (b:=(0,9)) (lim:=5) (by omega) (by unfold okPt;dsimp only;omega) (by unfold okPt;dsimp only;omega) rfl rfl (by decide)
 refine enter0 Tryz.func5 rfl rfl rfl ?_
 repeat' (first|(show YK _ _ _ _ _ ⟨_,.build 79 #[],_,_,_,_⟩ _;refine YK.ofV (y_build (parts:=[]) (vs:=[]) rfl (geo0_built)) ?_)|(show YK _ _ _ _ _ ⟨_,.build 36 #[],_,_,_,_⟩ _;refine YK.ofV (y_build (parts:=[]) (vs:=[]) rfl (pl0_built)) ?_)|(show RS _ _ _ _ _ _ _ (⟨some 23,_,_,_,_,_⟩::_);refine RS.lit1T (a:=cell112) (fun v'=>?_) rfl)|(show RS _ _ _ _ _ _ _ (⟨some 24,.call _,_,_,_,_⟩::_);refine RS.callL (q3 _) hI ?_;rintro⟨z,ls⟩ hls;dsimp only[List.cons_append,List.nil_append])|(show RS _ _ _ _ _ _ _ (⟨some 30,_,_,_,_,_⟩::_);refine RS.callX q4 ⟨rfl,rfl,rfl,rfl⟩ ?_;rintro⟨pz1,pz2⟩ hpz;dsimp only[List.cons_append,List.nil_append])|(show VG _ _ _ _ _ _ ⟨_,.load 34 _,_,_,_,_⟩ _;refine VG.mk (fun hb=>by(try rw[hb]);exact zlP (k:=2) (by rfl) (by exact memA) (by decide +kernel) (by rfl)) ?_)|(show YK _ _ _ _ _ _ _;first|refine YK.mk (zcA (q0) ⟨rfl,rfl⟩) ?_|refine YK.mk (zcA (q1) ⟨rfl,rfl,rfl⟩) ?_|refine YK.mk (zcA (q2) ⟨rfl,rfl,rfl⟩) ?_)|(refine nxV ?_)|(refine nSS ?_)|(refine nS1 fun _=>?_)|(refine nMM ?_)|(show YG _ _ _ _ _ _ _ _;refine YG.mk (fun hb=>by(try(have hc:=And.left hb;have hb:=And.right hb;rw[hc]));(try rw[hb]);exact(zcA (q0') ⟨rfl,rfl⟩)) ?_)|(refine nxG ?_)|(refine G.mA 5 [.go 0,.go 1,.go 2,.go 3,.go 4,.go 5,.go 6,.go 7,.go 8,.go 9,.go 10,.go 11,.go 12,.go 13,.go 14,.go 15,.go 16,.go 17,.go 18,.go 19,.go 20,.go 21,.go 22,.go 23,.go 24,.go 25,.go 26,.go 27,.go 28,.go 29,.go 30,.go 31,.go 32,.go 33,.go 34] ?_)|(refine nxX ?_)|done)
 have hls2:ls.length=6:=hls
 refine X.ret (vs:=[_]) rfl ⟨rfl,rfl⟩ rfl (fun w hw=>⟨ret_bool ?_,hw.ext⟩)
 simp[eqCells,vEq,hls2,hpz]
structure CirOk (k:CirT):Prop where
 lat : -5400000≤k.a∧k.a≤k.b∧k.b≤5400000
 lon:lonOk k.c k.d
 rad:0≤k.r1∧k.r1≤k.r2∧k.r2≤10800000
def sdV (s r:Int×Int):Int:=if r.2<s.1 then 1 else if s.2<r.1 then -1 else 0
theorem side2_c {k:CirT} (hk:CirOk k) {x y e f:Int} (h4 : -5400000≤x∧x≤y∧y≤5400000) (h5:lonOk e f):Cont Tryz.prog 27 [krV k,v4 x y e f] (.tuple [.int .i64 (sdV (sideS (x,y) (k.a,k.b) (e-k.d,f-k.c)) (TT.cosE k.r1 k.r2)),.int .i64 0].toArray):=fun w=>by
 obtain⟨h1,h2,h3⟩:=hk
 obtain⟨a,b,c,d,r1,r2⟩:=k
 dsimp only at h1 h2 h3 ⊢
 have hl:c≤d∧e≤f∧-10800000≤c∧d≤32400000∧-10800000≤e∧f≤32400000:=by
  unfold lonOk at h2 h5
  omega
 have q1:=cirval_c h1 h2 h3
 have q2:=pval2_c h4 h5
 have q3:=ctri_c (a:=a) (b:=b) (c:=c) (d:=d) (e:=e) (f:=f) (x:=x) (y:=y) (r1:=r1) (r2:=r2) (by omega) (by omega)
 have o1:=TT.encl_ord h4.2.1
 have o2:=TT.encl_ord h1.2.1
 have o3:=TT.cosE_ord h4.2.1
 have o4:=TT.cosE_ord h1.2.1
 have hk:e-d≤f-c:=by omega
 have o5:=TT.cosE_ord hk
 have o6:=TT.mulE_bd o1 o2
 have o7:=TT.mulE_bd o3 o4
 have o8:=TT.mulE_bd o7 o5
 have t1:=two_of o6
 have t2:=two_of o8
 have t3 : -2147483648≤(TT.addE (TT.mulE (TT.encl x y) (TT.encl a b)) (TT.mulE (TT.mulE (TT.cosE x y) (TT.cosE a b)) (TT.cosE (e-d) (f-c)))).1∧(TT.addE (TT.mulE (TT.encl x y) (TT.encl a b)) (TT.mulE (TT.mulE (TT.cosE x y) (TT.cosE a b)) (TT.cosE (e-d) (f-c)))).2≤2147483648:=by
  unfold TT.addE;dsimp only;omega
 have v1:=valI (lo:=x) (hi:=y) (by omega)
 have v2:=valI (lo:=a) (hi:=b) (by omega)
 have v3:=valI (lo:=e-d) (hi:=f-c) (by omega)
 have v5:=valI (lo:=r1) (hi:=r2) (by omega)
 have hE:∀z,sdV (TT.addE (TT.mulE (TT.encl x y) (TT.encl a b)) (TT.mulE (TT.mulE (TT.cosE x y) (TT.cosE a b)) (TT.cosE (e-d) (f-c)))) (TT.cosE r1 r2)=z→sdV (sideS (x,y) (a,b) (e-d,f-c)) (TT.cosE r1 r2)=z:=fun z h=>h
 refine enter0 Tryz.func27 rfl rfl rfl ?_
 repeat' (first|(refine nxN ?_)|(show YK _ _ _ _ _ ⟨_,.call { callee:=.value (.func 69),args:=_,argTypes:=_ },_,_,_,_⟩ _;refine YK.mk (zcI (csin_c (by assumption)) (fun w' hw'=>ChnW.ofSt hw' (by exact memA)) ⟨rfl,rfl,rfl⟩ (by decide +kernel)) ?_)|(show YK _ _ _ _ _ ⟨_,.call { callee:=.value (.func 70),args:=_,argTypes:=_ },_,_,_,_⟩ _;refine YK.mk (zcI (ccos_c (by assumption)) (fun w' hw'=>ChnW.ofSt hw' (by exact memA)) ⟨rfl,rfl,rfl⟩ (by decide +kernel)) ?_)|(show YK _ _ _ _ _ ⟨_,.call { callee:=.value (.func 68),args:=_,argTypes:=_ },_,_,_,_⟩ _;refine YK.mk (zcI (cmul_c (by assumption) (by assumption)) (fun w' hw'=>ChnW.ofSt hw' (by exact memA)) ⟨rfl,rfl,rfl,rfl⟩ (by decide +kernel)) ?_)|(show YK _ _ _ _ _ ⟨_,.call { callee:=.value (.func 67),args:=_,argTypes:=_ },_,_,_,_⟩ _;refine YK.mk (zcI (cplus_c (by assumption) (by assumption) (by assumption)) (fun w' hw'=>ChnW.ofSt hw' (by exact memA)) ⟨rfl,rfl,rfl,rfl⟩ (by decide +kernel)) ?_)|(show VK _ _ _ _ _ ⟨_,.load 34 _,_,_,_,_⟩ _;refine VK.mk (zlP (k:=2) (by rfl) (by exact memA) (by decide +kernel) (by rfl)) ?_)|(show YK _ _ _ _ _ ⟨_,.load 34 _,_,_,_,_⟩ _;refine YK.ofV (zlP (k:=2) (by rfl) (by exact memA) (by decide +kernel) (by rfl)) ?_)|(show YK _ _ _ _ _ _ _;first|refine YK.mk (zcA (q1) ⟨rfl,rfl⟩) ?_|refine YK.mk (zcA (q2) ⟨rfl,rfl⟩) ?_|refine YK.mk (zcA (q3) ⟨rfl,rfl,rfl⟩) ?_)|(refine nxV ?_)|(refine nSS ?_)|(refine nS1 fun _=>?_)|(refine nMM ?_)|(refine nM1 fun _=>?_)|(refine G.mA 5 [.go 0,.go 1,.go 2,.go 3,.go 4,.go 6,.go 7,.go 8,.go 11,.go 12,.go 13,.go 14,.go 15,.go 17,.go 18,.go 19,.go 22,.go 23,.go 24,.pend 28,.go 5,.go 9,.go 10,.go 16,.go 20,.go 21,.go 25,.go 26,.go 27,.done,.go 29] ?_)|(refine nxX ?_)|(refine G.cN rfl (fun hc=>?_) (fun hc=>?_)<;>(try first|exact hc.elim|(exfalso;omega))))
 all_goals first
  |(exfalso;simp at hc;done)
  |skip
 all_goals refine X.ret (vs:=[_,_]) rfl ⟨rfl,rfl,rfl⟩ rfl (fun w hw=>⟨?_,hw.ext⟩)
 all_goals refine congrArg (fun a=>Ending.returned (Value.tuple #[Value.int .i64 a,.int .i64 0])) (hE _ ?_).symm
 all_goals unfold sdV
 all_goals first
  |(rw[if_pos (by omega)];done)
  |(rw[if_neg (by omega),if_pos (by omega)];done)
  |(rw[if_neg (by omega),if_neg (by omega)];done)
def sidE (k:CirT) (x:RR.CellT):Int×Int:=sideS (bxA x,bxB x) (k.a,k.b) (bxC x-k.d,bxD x-k.c)
def agrB (k:CirT) (x:RR.CellT):Bool:=decide (sdV (sidE k x) (TT.cosE k.r1 k.r2)=0)
def surB (k:CirT) (x:RR.CellT):Bool:=decide ((TT.cosE k.r1 k.r2).1≤(sidE k x).1)&&decide ((sidE k x).2≤(TT.cosE k.r1 k.r2).2)
theorem rbox_c {x:RR.CellT} (ok:RR.okC x):Cont Tryz.prog 131 [ctV x] (v4 (bxA x) (bxB x) (bxC x) (bxD x)):=fun w=>by
 have q1:=cBox_c ok
 generalize bxA x=a at *
 generalize bxB x=b at *
 generalize bxC x=c at *
 generalize bxD x=d at *
 refine enter0 Tryz.func131 rfl rfl rfl ?_
 repeat' (first|(show YK _ _ _ _ _ _ _;refine YK.mk (zcA (q1) ⟨rfl,rfl⟩) ?_)|(refine nxV ?_)|(refine nSS ?_)|(refine nS1 fun _=>?_)|(refine nxX ?_)|done)
 all_goals exact X.ret (vs:=[_]) rfl ⟨⟨_,_,_,_,rfl,(by exact memA),lenA,by decide +kernel,rfl⟩,rfl⟩ rfl rE
theorem lonOk_box {x:RR.CellT} (ok:RR.okC x):lonOk (bxC x) (bxD x):=Or.inr (box_ok ok).lon
theorem agrees_c {k:CirT} {x:RR.CellT} (hk:CirOk k) (ok:RR.okC x):Cont Tryz.prog 201 [ctV x,krV k] (.bool (agrB k x)):=fun w=>by
 have q1:=rbox_c ok
 have q2:=side2_c hk (box_ok ok).lat (lonOk_box ok)
 unfold agrB sidE
 generalize sdV (sideS (bxA x,bxB x) (k.a,k.b) (bxC x-k.d,bxD x-k.c)) (TT.cosE k.r1 k.r2)=s at *
 generalize bxA x=a at *
 generalize bxB x=b at *
 generalize bxC x=c at *
 generalize bxD x=d at *
 refine enter0 Tryz.func201 rfl rfl rfl ?_
 repeat' (first|(show YK _ _ _ _ _ _ _;first|refine YK.mk (zcA (q1) ⟨rfl,rfl⟩) ?_|refine YK.mk (zcA (q2) ⟨rfl,rfl,rfl⟩) ?_)|(refine nxV ?_)|(refine nSS ?_)|(refine nS1 fun _=>?_)|(refine nMM ?_)|(refine G.mA 1 [.go 0,.go 1,.go 2,.go 3,.go 4,.go 5,.go 6,.go 7,.go 8] ?_)|(refine nxX ?_)|done)
 all_goals exact X.ret1
structure ErB (b:Nat) (w:World):Prop where
 blk:w.heap[b]?=some (.cells #[.int .i64 0] 27 (0,0))
theorem ErB.keep {b:Nat} {w w':World} (h:ErB b w) (hw:Below w.heap.size w w'):ErB b w' :=
 ⟨(hw.block b (Array.getElem?_eq_some_iff.1 h.blk).1).trans h.blk⟩
theorem ErB.cell {b:Nat} {w:World} (h:ErB b w):∀k v,[Value.int .i64 0][k]?=some v→w.cell? ⟨b,k,none⟩=some v:=fun k v hk=>by
 have:=cell_of_row w b k #[.int .i64 0] _ (0,0) h.blk
 rw[this]
 simpa using hk
theorem ErB.ofSt {w0 w:World} {H:List Hl} {b:Nat} (hw:St w0 H w) (hm:Hl.blk b 27 [.int .i64 0]∈H):ErB b w:=⟨hw.blk hm⟩
theorem skeep_c {b:Nat} {lo hi:Int} : ContIn Tryz.prog (ErB b) 322 ([arcV lo hi,.int .i64 0]++(#[bxP b]:Array Value).toList) (arcV lo hi):=fun w hs=>by
 have hcl:=hs.cell
 refine enter0 Tryz.func322 rfl rfl rfl ?_
 repeat' (first|(show YK _ _ _ _ _ ⟨_,.load 27 _,_,_,_,_⟩ _;refine YK.ofV (y_loadX (by rfl) (hcl _ _ (by rfl)) (by decide +kernel)) ?_)|(show RS _ _ _ _ _ _ _ (⟨none,.store 27 _ _,_,_,_,_⟩::_);refine RS.storeSame (b:=b) ?_ (by rfl) (by rfl) (fun w' hw'=>(hs.keep hw'.ext).blk) (by rfl) (by decide +kernel))|(refine nxV ?_)|(refine nSS ?_)|(refine nS1 fun _=>?_)|(refine nxX ?_)|(refine G.cN rfl (fun hc=>?_) (fun hc=>?_)<;>(try first|exact hc.elim|(exfalso;omega))))
 all_goals exact X.ret (vs:=[_]) rfl ⟨⟨_,_,_,_,rfl,(by exact memA),lenA,by decide +kernel,rfl⟩,rfl⟩ rfl rE
theorem rsine_c {k:CirT} (hk:CirOk k) {x y e f:Int} (h4 : -5400000≤x∧x≤y∧y≤5400000) (h5:lonOk e f):Cont Tryz.prog 283 [krV k,v4 x y e f] (.tuple [arcV (sideS (x,y) (k.a,k.b) (e-k.d,f-k.c)).1 (sideS (x,y) (k.a,k.b) (e-k.d,f-k.c)).2,.int .i64 0].toArray):=fun w=>by
 obtain⟨h1,h2,h3⟩:=hk
 obtain⟨a,b,c,d,r1,r2⟩:=k
 dsimp only at h1 h2 h3 ⊢
 have hl:c≤d∧e≤f∧-10800000≤c∧d≤32400000∧-10800000≤e∧f≤32400000:=by
  unfold lonOk at h2 h5
  omega
 have o1:=TT.encl_ord h4.2.1
 have o2:=TT.encl_ord h1.2.1
 have o3:=TT.cosE_ord h4.2.1
 have o4:=TT.cosE_ord h1.2.1
 have hk:e-d≤f-c:=by omega
 have o5:=TT.cosE_ord hk
 have o6:=TT.mulE_bd o1 o2
 have o7:=TT.mulE_bd o3 o4
 have o8:=TT.mulE_bd o7 o5
 have t1:=two_of o6
 have t2:=two_of o8
 have q1:=Sin_c (valI (lo:=x) (hi:=y) (by omega))
 have q2:=Sin_c (valI (lo:=a) (hi:=b) (by omega))
 have q3:=Cos_c (valI (lo:=x) (hi:=y) (by omega))
 have q4:=Cos_c (valI (lo:=a) (hi:=b) (by omega))
 have q5:=Cos_c (valI (lo:=e-d) (hi:=f-c) (by omega))
 have q6:=fmul_c o1 o2
 have q7:=fmul_c o3 o4
 have q8:=fmul_c o7 o5
 have q9:=fadd_c t1 t2 (by omega)
 change Cont _ _ _ (.tuple [arcV (sideS (x,y) (a,b) (e-d,f-c)).1 (sideS (x,y) (a,b) (e-d,f-c)).2,.int .i64 0].toArray) at q9
 generalize sideS (x,y) (a,b) (e-d,f-c)=s at *
 generalize TT.mulE (TT.mulE (TT.cosE x y) (TT.cosE a b)) (TT.cosE (e-d) (f-c))=s3 at *
 generalize TT.mulE (TT.cosE x y) (TT.cosE a b)=s2 at *
 generalize TT.mulE (TT.encl x y) (TT.encl a b)=s1 at *
 clear o1 o2 o3 o4 o5 o6 o7 o8 t1 t2
 have kp:=fun b lo hi=>skeep_c (b:=b) (lo:=lo) (hi:=hi)
 dsimp only[krV]
 refine enter0 Tryz.func283 rfl rfl rfl ?_
 repeat' (first|(show YK _ _ _ _ _ ⟨_,.call { callee:=.value (.tmp _),args:=_,argTypes:=_ },_,_,_,_⟩ _;refine YK.mk (y_callV (f:=322) (by rfl) (kp _ _ _) (fun w' hw'=>ErB.ofSt hw' (by exact memA)) ⟨rfl,rfl,rfl⟩ (by decide +kernel)) ?_)|(show VK _ _ _ _ _ ⟨_,.load 34 _,_,_,_,_⟩ _;refine VK.mk (zlP (k:=2) (by rfl) (by exact memA) (by decide +kernel) (by rfl)) ?_)|(refine G.mixedM 7 [.go 0,.go 1,.go 2,.go 3] [true,true,true,true,true,false,true,true] ?_;dsimp only[maskH])|(show YK _ _ _ _ _ _ _;first|refine YK.mk (zcA (q1) ⟨rfl,rfl⟩) ?_|refine YK.mk (zcA (q2) ⟨rfl,rfl⟩) ?_|refine YK.mk (zcA (q3) ⟨rfl,rfl⟩) ?_|refine YK.mk (zcA (q4) ⟨rfl,rfl⟩) ?_|refine YK.mk (zcA (q5) ⟨rfl,rfl⟩) ?_|refine YK.mk (zcA (q6) ⟨rfl,rfl,rfl⟩) ?_|refine YK.mk (zcA (q7) ⟨rfl,rfl,rfl⟩) ?_|refine YK.mk (zcA (q8) ⟨rfl,rfl,rfl⟩) ?_|refine YK.mk (zcA (q9) ⟨rfl,rfl,rfl⟩) ?_)|(refine nxV ?_)|(refine nSS ?_)|(refine nS1 fun _=>?_)|(refine nMM ?_)|(refine nM1 fun _=>?_)|(refine G.mA 4 [.go 0,.go 1,.go 2,.go 3,.go 8,.go 9,.go 10,.pend 19,.go 4,.go 5,.go 6,.go 7,.go 11,.go 12,.go 13,.go 14,.go 15,.go 16,.go 17,.go 18,.done,.go 20] ?_)|(refine G.mA 5 [.go 0,.go 1,.go 2,.go 3,.go 4,.go 9,.go 10,.go 11,.go 20,.go 21,.pend 30,.go 5,.go 6,.go 7,.go 8,.go 12,.go 13,.go 14,.go 15,.go 16,.go 17,.go 18,.go 19,.go 22,.go 23,.go 24,.go 25,.go 26,.go 27,.go 28,.go 29,.done,.go 31] ?_)|(refine nxX ?_)|done)
 all_goals exact X.ret (vs:=[_,_]) rfl ⟨⟨_,_,_,_,rfl,(by exact memA),lenA,by decide +kernel,rfl⟩,rfl,rfl⟩ rfl rE
theorem fins_c {a b c d:Int} (h : -2147483648≤a∧a≤b∧b≤2147483648) (h' : -2147483648≤c∧c≤d∧d≤2147483648):Cont Tryz.prog 284 [arcV a b,arcV c d] (.bool (decide (c≤a)&&decide (b≤d))):=fun w=>by
 have q1:=fboth_c h h'
 refine enter0 Tryz.func284 rfl rfl rfl ?_
 repeat' (first|(show YK _ _ _ _ _ _ _;refine YK.mk (zcA (q1) ⟨rfl,rfl,rfl⟩) ?_)|(refine nxV ?_)|(refine nSS ?_)|(refine nS1 fun _=>?_)|(refine nxG ?_)|(refine nxX ?_)|done)
 all_goals exact X.ret1
theorem sid_bd {k:CirT} (hk:CirOk k) {x y e f:Int} (h4 : -5400000≤x∧x≤y∧y≤5400000) (h5:lonOk e f):two31 (sideS (x,y) (k.a,k.b) (e-k.d,f-k.c)):=by
 obtain⟨h1,h2,h3⟩:=hk
 obtain⟨a,b,c,d,r1,r2⟩:=k
 dsimp only at h1 h2 h3 ⊢
 have o1:=TT.encl_ord h4.2.1
 have o2:=TT.encl_ord h1.2.1
 have o3:=TT.cosE_ord h4.2.1
 have o4:=TT.cosE_ord h1.2.1
 have o5:=TT.cosE_ord (show e-d≤f-c by unfold lonOk at *;omega)
 have o6:=TT.mulE_bd o1 o2
 have o7:=TT.mulE_bd (TT.mulE_bd o3 o4) o5
 unfold sideS
 dsimp only
 generalize TT.mulE (TT.mulE (TT.cosE x y) (TT.cosE a b)) (TT.cosE (e-d) (f-c))=s3 at *
 generalize TT.mulE (TT.encl x y) (TT.encl a b)=s1 at *
 unfold TT.addE
 clear o1 o2 o3 o4 o5
 exact⟨by dsimp only;omega,by dsimp only;omega,by dsimp only;omega⟩
theorem sure_g {k:CirT} {x:RR.CellT} {a b c d:Int} (hk:CirOk k) (h4 : -5400000≤a∧a≤b∧b≤5400000) (h5:lonOk c d) (q1:Cont Tryz.prog 131 [ctV x] (v4 a b c d)) {s r:Int×Int} (hs:sideS (a,b) (k.a,k.b) (c-k.d,d-k.c)=s) (hr:TT.cosE k.r1 k.r2=r):Cont Tryz.prog 248 [ctV x,krV k] (.bool (decide (r.1≤s.1)&&decide (s.2≤r.2))):=fun w=>by
 have q2:=rsine_c hk h4 h5
 have q3:=Cos_c (valI (lo:=k.r1) (hi:=k.r2) (by have:=hk.rad;omega))
 have sb:=sid_bd hk h4 h5
 have o8:=TT.cosE_ord hk.rad.2.1
 rw[hs] at q2 sb
 rw[hr] at q3 o8
 have q4:=fins_c sb (two_of o8)
 clear hs hr
 refine enter0 Tryz.func248 rfl rfl rfl ?_
 repeat' (first|(show YK _ _ _ _ _ ⟨_,.load 34 _,_,_,_,_⟩ _;refine YK.ofV (zlP (k:=2) (by rfl) (by exact memA) (by decide +kernel) (by rfl)) ?_)|(show YK _ _ _ _ _ _ _;first|refine YK.mk (zcA (q1) ⟨rfl,rfl⟩) ?_|refine YK.mk (zcA (q2) ⟨rfl,rfl,rfl⟩) ?_|refine YK.mk (zcA (q3) ⟨rfl,rfl⟩) ?_)|(refine nxV ?_)|(refine nSS ?_)|(refine nS1 fun _=>?_)|(refine nMM ?_)|(refine nM1 fun _=>?_)|(show YG _ _ _ _ _ _ _ _;refine YG.mk (fun hb=>by(try(have hc:=And.left hb;have hb:=And.right hb;rw[hc]));(try rw[hb]);first|exact(zcA (q4) ⟨rfl,rfl,rfl⟩)|exact V.y vAuto) ?_)|(refine G.mA 1 [.go 0,.go 1,.pend 7,.go 2,.go 3,.go 4,.go 5,.go 6,.done,.go 8,.go 9] ?_)|(refine nxX ?_)|done)
 all_goals exact X.ret1
theorem sure_c {k:CirT} {x:RR.CellT} (hk:CirOk k) (ok:RR.okC x):Cont Tryz.prog 248 [ctV x,krV k] (.bool (surB k x)) :=
 sure_g hk (box_ok ok).lat (lonOk_box ok) (rbox_c ok) rfl rfl
end Go.Proofs.YtjmdeplmenbmmaaGreatDoor
