/- Joined texts: Prd, Cel, Span, Wid, Fx2, Fx3, Cmp, Cm2, Cm3. -/
import Derived.Test.YtjmdeplmenbmmaaGreatV06
import Derived.Test.YtjmdeplmenbmmaaGreatW11
import Derived.Test.YtjmdeplmenbmmaaGreatW05
import Derived.Test.YtjmdeplmenbmmaaGreatW03
import Derived.Test.YtjmdeplmenbmmaaGreatU01
import Derived.Test.YtjmdeplmenbmmaaGreatV05
import Derived.Test.YtjmdeplmenbmmaaGreatW10
import Derived.Test.YtjmdeplmenbmmaaGreatW04
import Derived.Lib.SliceRun
set_option linter.unusedVariables false
namespace Go.Proofs.YtjmdeplmenbmmaaGreat.TT
theorem asin_ord {a b n m:Int} (h1:IsAsin a n) (h2:IsAsin (-b) m) (hab:a≤b):n≤-m:=by
 obtain⟨n0,n1,n2,_⟩:=h1
 obtain⟨m0,m1,m2,_⟩:=h2
 refine Int.not_lt.1 fun hlt=>?_
 have hs:=bnd_holds (n:=n) (by omega) (by omega)
 have hm:=bnd_holds (n:=m) (by omega) (by omega)
 have c1:=S_co (5400000-n)
 rw[show 5400000-(5400000-n)=n by omega] at c1
 have c2:=S_co (5400000 - -m)
 rw[show 5400000-(5400000 - -m) = -m by omega,S_neg] at c2
 have cl:=C_lt (m:=5400000-n) (n:=5400000 - -m) (by omega) (by omega) (by omega)
 have f:2*d100<oR*(g45-2*d148):=by decide +kernel
 have i1:=Rat.intCast_le_intCast.2 (show (bnd n).2+(bnd m).2≤0 by omega)
 rw[Rat.intCast_add] at i1
 have e0:((0:Int):Rat)=0:=rfl
 obtain⟨c3,c4⟩:=c1
 obtain⟨c5,c6⟩:=c2
 have g:g45-2*d148≤S n+S m:=by grind
 have g2:=Rat.mul_le_mul_of_nonneg_left g (Rat.le_of_lt oR_pos)
 have h3:=hs.2
 have h4:=hm.2
 grind
end Go.Proofs.YtjmdeplmenbmmaaGreat.TT
set_option linter.unusedVariables false
set_option maxHeartbeats 8000000
namespace Go.Proofs.YtjmdeplmenbmmaaGreat
open Go.RowKit
abbrev celV (l r c:Int):Value:=.agg [.int .i64 l,.int .i64 r,.int .i64 c].toArray
structure Cel where
 l:Int
 r:Int
 c:Int
deriving DecidableEq
instance:Inhabited Cel:=⟨⟨0,0,0⟩⟩
theorem pow2_bd {l:Int} (h:0≤l∧l≤16):1≤(2:Int)^l.toNat∧(2:Int)^l.toNat≤65536:=by
 have h1:l.toNat≤16:=by omega
 have e:(2:Int)^l.toNat=((2^l.toNat:Nat):Int):=by simp
 have h2:2^l.toNat≤2^16:=Nat.pow_le_pow_right (by decide) h1
 have h3:0<2^l.toNat:=Nat.pow_pos (by decide)
 rw[e]
 omega
theorem pow2_min {l:Int} (h:0≤l∧l≤64):(2:Int)^(min l.toNat 64)=(2:Int)^l.toNat:=by rw[Nat.min_eq_left (by omega)]
def cvB (l r c:Int):Bool:=decide (0≤l)&&decide (l≤16)&&decide (0≤r)&&decide (r<2^l.toNat)&&decide (0≤c)&&decide (c<2*2^l.toNat)
theorem cval_c (l r c:Int):Cont Tryz.prog 182 [celV l r c] (.bool (cvB l r c)):=fun w=>by
 unfold cvB
 by_cases hl:0≤l∧l≤16
 ·have hq:=pow2_min (l:=l) (by omega)
  have hb:=pow2_bd hl
  generalize (2:Int)^l.toNat=q at *
  refine enter0 Tryz.func182 rfl rfl rfl ?_
  repeat' (first|(show VK _ _ _ _ _ ⟨_,.binOp .shl _ _ _ _,_,_,_,_⟩ _;refine VK.mk (y_shl (by rfl) (by rfl) (by omega) hq (IntWalk.i64_in _ (by omega))) ?_)|(show YK _ _ _ _ _ ⟨_,.binOp .shl _ _ _ _,_,_,_,_⟩ _;refine YK.ofV (y_shl (by rfl) (by rfl) (by omega) hq (IntWalk.i64_in _ (by omega))) ?_)|(show VG _ _ _ _ _ _ ⟨_,.binOp .shl _ _ _ _,_,_,_,_⟩ _;refine VG.mk (fun hb=>by(try(have hc:=And.left hb;have hb:=And.right hb;rw[hc]));(try rw[hb]);exact y_shl (by rfl) (by rfl) (by omega) hq (IntWalk.i64_in _ (by omega))) ?_)|(show YG _ _ _ _ _ _ ⟨_,.binOp .shl _ _ _ _,_,_,_,_⟩ _;refine YG.mk (fun hb=>by(try(have hc:=And.left hb;have hb:=And.right hb;rw[hc]));(try rw[hb]);exact V.y (y_shl (by rfl) (by rfl) (by omega) hq (IntWalk.i64_in _ (by omega)))) ?_)|(show VK _ _ _ _ _ ⟨_,.binOp .shr _ _ _ _,_,_,_,_⟩ _;refine VK.mk (y_shr (by rfl) (by rfl) (by omega) hq) ?_)|(show YK _ _ _ _ _ ⟨_,.binOp .shr _ _ _ _,_,_,_,_⟩ _;refine YK.ofV (y_shr (by rfl) (by rfl) (by omega) hq) ?_)|(show VG _ _ _ _ _ _ ⟨_,.binOp .shr _ _ _ _,_,_,_,_⟩ _;refine VG.mk (fun hb=>by(try(have hc:=And.left hb;have hb:=And.right hb;rw[hc]));(try rw[hb]);exact y_shr (by rfl) (by rfl) (by omega) hq) ?_)|(show YG _ _ _ _ _ _ ⟨_,.binOp .shr _ _ _ _,_,_,_,_⟩ _;refine YG.mk (fun hb=>by(try(have hc:=And.left hb;have hb:=And.right hb;rw[hc]));(try rw[hb]);exact V.y (y_shr (by rfl) (by rfl) (by omega) hq)) ?_)|(refine nxV ?_)|(refine nSS ?_)|(refine nS1 fun _=>?_)|(refine nMM ?_)|(refine nM1 fun _=>?_)|(refine nxG ?_)|(refine G.mA 1 [.go 0,.go 1,.go 2,.go 3,.go 4,.go 5,.go 6,.go 7,.go 8,.go 9,.go 10,.go 11,.go 12,.go 13,.go 14,.go 15,.go 16,.go 17,.go 18,.go 19,.go 20,.go 21,.go 22,.go 23,.go 24,.go 25,.go 26,.go 27,.go 28,.go 29,.go 30,.go 31,.go 32,.go 33,.go 34] ?_)|(refine nxX ?_)|(refine G.cN rfl (fun hc=>?_) (fun hc=>?_)<;>(try first|exact hc.elim|(exfalso;omega))))
  refine X.ret (vs:=[_]) rfl ⟨rfl,rfl⟩ rfl (fun w hw=>⟨ret_bool (by simp[Int.one_mul]),hw.ext⟩)
 ·refine enter0 Tryz.func182 rfl rfl rfl ?_
  repeat' (first|(refine nxV ?_)|(refine nSS ?_)|(refine nS1 fun _=>?_)|(refine nMM ?_)|(refine nM1 fun _=>?_)|(refine nxG ?_)|(refine G.mA 1 [.go 0,.go 1,.go 2,.go 3,.go 4,.go 5,.go 6,.go 7,.go 8,.go 9,.go 10,.go 11,.go 12,.go 13,.go 14,.go 15,.go 16,.go 17,.go 18,.go 19,.go 20,.go 21,.go 22,.go 23,.go 24,.go 25,.go 26,.go 27,.go 28,.go 29,.go 30,.go 31,.go 32,.go 33,.go 34] ?_)|(refine nxX ?_)|(refine G.cN rfl (fun hc=>?_) (fun hc=>?_)<;>(try first|exact hc.elim|(exfalso;omega))))
  refine X.ret (vs:=[_]) rfl ⟨rfl,rfl⟩ rfl (fun w hw=>⟨ret_bool ?_,hw.ext⟩)
  have:(decide (0≤l)&&decide (l≤16))=false:=by
   rw[Bool.and_eq_false_iff,decide_eq_false_iff_not,decide_eq_false_iff_not];omega
  simp[this]
theorem nth_mem {α:Type} [Inhabited α] {l:List α} {i:Nat} (h:i<l.length):nth l (i:Int)=l[i]:=by
 unfold nth
 rw[Int.toNat_natCast,List.getD_eq_getElem?_getD,List.getElem?_eq_getElem h];rfl
section
variable {P:Program} {n:Nat} {L:FL} {w0:World} {H:List Hl} {d:Option Tmp} {ty:TypeId} {pos:String} {af:Array Edge} {g:Option (Nat×Bool)} {x y:Operand} {t t':TypeId} {k':IntKind}
theorem y_shrA {m j a:Nat} {c:Int} (hx:evO L x=some (.int .i64 (m:Int))) (hy:evO L y=some (.int k' c)) (hc:c=(j:Int)) (hj:j≤64) (ha:m/2^j=a):V P n L w0 H ⟨d,.binOp .shr t x y t',ty,pos,af,g⟩ (.int .i64 (a:Int)):=by
 subst hc
 have h:=y_shr (P:=P) (n:=n) (w0:=w0) (H:=H) (d:=d) (ty:=ty) (pos:=pos) (af:=af) (g:=g) (t:=t) (t':=t') (q:=((2^j:Nat):Int)) hx hy (by omega) (by show (2:Int)^(min (j:Int).toNat 64)=_;rw[Int.toNat_natCast,Nat.min_eq_left hj];simp)
 rw[←ha]
 exact h
theorem and_low {a k:Nat} (h:a≤4611686018427387904) (hk:2^k≤4611686018427387904):bits .and .i64 (a:Int) ((2^k-1:Nat):Int)=((a%2^k:Nat):Int):=by
 have e:∀m:Nat,m<18446744073709551616→(BitVec.ofInt 64 (m:Int)).toNat=m:=fun m hm=>by
  rw[BitVec.toNat_ofInt]
  have:=Int.emod_eq_of_lt (a:=(m:Int)) (b:=((2^64:Nat):Int)) (by omega) (by omega)
  omega
 have h0:=Nat.mod_le a (2^k)
 have h1:(BitVec.ofInt 64 (a:Int) &&& BitVec.ofInt 64 ((2^k-1:Nat):Int)).toNat=a%2^k:=by
  rw[BitVec.toNat_and,e _ (by omega),e _ (by omega)]
  exact Nat.and_two_pow_sub_one_eq_mod a k
 show IntKind.i64.wrap ((BitVec.ofInt 64 (a:Int) &&& BitVec.ofInt 64 ((2^k-1:Nat):Int)).toNat:Int)=_
 rw[h1,IntWalk.i64_in _ (by omega)]
end
theorem okC_bd {x:RR.CellT} (ok:RR.okC x):x.lv≤16∧x.r<65536∧x.c<131072:=by
 obtain⟨h1,h2,h3⟩:=ok
 have g:2^x.lv≤2^16:=Nat.pow_le_pow_right (by decide) h1
 omega
section
variable {P:Program} {n:Nat} {L:FL} {w0:World} {H:List Hl} {d:Option Tmp} {ty:TypeId} {pos:String} {af:Array Edge} {g:Option (Nat×Bool)} {x y:Operand} {k k':IntKind} {m q r c:Int} {t t':TypeId}
theorem y_shrQ (hx:evO L x=some (.int k m)) (hy:evO L y=some (.int k' c)) (hc:0≤c) (hq:(2:Int)^(min c.toNat k.bits)=q) (hr:m/q=r):V P n L w0 H ⟨d,.binOp .shr t x y t',ty,pos,af,g⟩ (.int k r):=by
 rw[←hr]
 exact y_shr hx hy hc hq
theorem y_and60 {m:Nat} (hx:evO L x=some (.int .i64 (m:Int))) (hy:evO L y=some (.int .i64 1152921504606846975)) (h:m<1152921504606846976):V P n L w0 H ⟨d,.binOp .and t x y t',ty,pos,af,g⟩ (.int .i64 (m:Int)):=by
 have:=y_band (P:=P) (n:=n) (w0:=w0) (H:=H) (d:=d) (ty:=ty) (pos:=pos) (af:=af) (g:=g) (t:=t) (t':=t') hx hy
 have e:bits .and .i64 (m:Int) 1152921504606846975=((m%2^60:Nat):Int):=and_low (a:=m) (k:=60) (by omega) (by decide)
 rw[e,Nat.mod_eq_of_lt (by omega)] at this
 exact this
theorem y_and60U {m:Nat} (hx:evO L x=some (.int .u64 (m:Int))) (hy:evO L y=some (.int .u64 1152921504606846975)) (h:m<1152921504606846976):V P n L w0 H ⟨d,.binOp .and t x y t',ty,pos,af,g⟩ (.int .u64 (m:Int)):=by
 have:=y_band (P:=P) (n:=n) (w0:=w0) (H:=H) (d:=d) (ty:=ty) (pos:=pos) (af:=af) (g:=g) (t:=t) (t':=t') hx hy
 have e:bits .and .u64 (m:Int) 1152921504606846975=(m:Int):=by
  have h1:=bits_and_u64_nat m 1152921504606846975 (by omega) (by omega)
  have h2:m &&& 1152921504606846975=m%1152921504606846976:=Nat.and_two_pow_sub_one_eq_mod m 60
  rw[h2,Nat.mod_eq_of_lt h] at h1
  exact h1
 rw[e] at this
 exact this
theorem y_or0U {m:Nat} (hx:evO L x=some (.int .u64 0)) (hy:evO L y=some (.int .u64 (m:Int))) (h:m<18446744073709551616):V P n L w0 H ⟨d,.binOp .or t x y t',ty,pos,af,g⟩ (.int .u64 (m:Int)):=by
 have:=y_bor (P:=P) (n:=n) (w0:=w0) (H:=H) (d:=d) (ty:=ty) (pos:=pos) (af:=af) (g:=g) (t:=t) (t':=t') hx hy
 have e:bits .or .u64 0 (m:Int)=(m:Int):=by
  have h1:=bits_or_u64_nat 0 m (by omega) h
  rw[Nat.zero_or] at h1
  exact h1
 rw[e] at this
 exact this
end
abbrev i60 (p:Nat):Prop:=p<1152921504606846976
theorem wabs_c {n:Int} (h:0≤n∧n≤4611686018427387904):Cont Tryz.prog 241 [.int .i64 n] (.int .u64 n):=fun w=>by
 refine enter0 Tryz.func241 rfl rfl rfl ?_
 repeat' (first|(refine nxV ?_)|(refine nSS ?_)|(refine nS1 fun _=>?_)|(refine nMM ?_)|(refine nM1 fun _=>?_)|(refine nxG ?_)|(refine nxX ?_)|(refine G.cN rfl (fun hc=>?_) (fun hc=>?_)<;>(try first|exact hc.elim|(exfalso;omega))))
 exact X.ret1
theorem wval_c {p:Nat} (h:i60 p):Cont Tryz.prog 259 [arcV 0 (p:Int)] (.bool true):=fun w=>by
 have h':(p:Int)<1152921504606846976:=by omega
 refine enter0 Tryz.func259 rfl rfl rfl ?_
 repeat' (first|(refine nxV ?_)|(refine nSS ?_)|(refine nS1 fun _=>?_)|(refine nMM ?_)|(refine nM1 fun _=>?_)|(refine nxG ?_)|(refine nxX ?_)|(refine G.cN rfl (fun hc=>?_) (fun hc=>?_)<;>(try first|exact hc.elim|(exfalso;omega))))
 refine X.ret (vs:=[_]) rfl ⟨rfl,rfl⟩ rfl (fun w hw=>⟨ret_bool ?_,hw.ext⟩)
 simp
 omega
theorem wfit_c {p:Nat} (h:i60 p):Cont Tryz.prog 258 [.int .i64 0,.int .i64 (p:Int)] (.tuple [arcV 0 (p:Int),.int .i64 0].toArray):=fun w=>by
 have h':(p:Int)/1152921504606846976=0:=by omega
 have q1:=wval_c h
 refine enter0 Tryz.func258 rfl rfl rfl ?_
 repeat' (first|(show VK _ _ _ _ _ ⟨_,.binOp .shr _ _ _ _,_,_,_,_⟩ _;refine VK.mk (y_shrQ (r:=0) (by rfl) (by rfl) (by omega) (by decide) h') ?_)|(show YK _ _ _ _ _ ⟨_,.binOp .shr _ _ _ _,_,_,_,_⟩ _;refine YK.ofV (y_shrQ (r:=0) (by rfl) (by rfl) (by omega) (by decide) h') ?_)|(show VG _ _ _ _ _ _ ⟨_,.binOp .shr _ _ _ _,_,_,_,_⟩ _;refine VG.mk (fun hb=>by(try(have hc:=And.left hb;have hb:=And.right hb;rw[hc]));(try rw[hb]);exact y_shrQ (r:=0) (by rfl) (by rfl) (by omega) (by decide) h') ?_)|(show YG _ _ _ _ _ _ ⟨_,.binOp .shr _ _ _ _,_,_,_,_⟩ _;refine YG.mk (fun hb=>by(try(have hc:=And.left hb;have hb:=And.right hb;rw[hc]));(try rw[hb]);exact V.y (y_shrQ (r:=0) (by rfl) (by rfl) (by omega) (by decide) h')) ?_)|(show VK _ _ _ _ _ ⟨_,.binOp .and _ _ _ _,_,_,_,_⟩ _;refine VK.mk (y_and60 (by rfl) (by rfl) h) ?_)|(show YK _ _ _ _ _ ⟨_,.binOp .and _ _ _ _,_,_,_,_⟩ _;refine YK.ofV (y_and60 (by rfl) (by rfl) h) ?_)|(show VG _ _ _ _ _ _ ⟨_,.binOp .and _ _ _ _,_,_,_,_⟩ _;refine VG.mk (fun hb=>by(try(have hc:=And.left hb;have hb:=And.right hb;rw[hc]));(try rw[hb]);exact y_and60 (by rfl) (by rfl) h) ?_)|(show YG _ _ _ _ _ _ ⟨_,.binOp .and _ _ _ _,_,_,_,_⟩ _;refine YG.mk (fun hb=>by(try(have hc:=And.left hb;have hb:=And.right hb;rw[hc]));(try rw[hb]);exact V.y (y_and60 (by rfl) (by rfl) h)) ?_)|(show YK _ _ _ _ _ _ _;first|refine YK.mk (zcA (q1) ⟨rfl,rfl⟩) ?_)|(refine nxV ?_)|(refine nSS ?_)|(refine nS1 fun _=>?_)|(refine nMM ?_)|(refine nM1 fun _=>?_)|(show YG _ _ _ _ _ _ _ _;refine YG.mk (fun hb=>by(try(have hc:=And.left hb;have hb:=And.right hb;rw[hc]));(try rw[hb]);first|exact(zcA (q1) ⟨rfl,rfl⟩)|exact V.y vAuto) ?_)|(refine nxG ?_)|(refine nxX ?_)|(refine G.cN rfl (fun hc=>?_) (fun hc=>?_)<;>(try first|exact hc.elim|(exfalso;omega))))
 exact X.ret (vs:=[_,_]) rfl ⟨⟨_,_,_,_,rfl,(by exact memA),lenA,by decide +kernel,rfl⟩,rfl,rfl⟩ rfl rE
theorem wwide_c {p:Nat} (h:i60 p):Cont Tryz.prog 242 [.agg [.int .u64 0,.int .u64 (p:Int),.bool false].toArray] (.tuple [arcV 0 (p:Int),.int .i64 0].toArray):=fun w=>by
 have h':(p:Int)/1152921504606846976=0:=by omega
 have q1:=wfit_c h
 refine enter0 Tryz.func242 rfl rfl rfl ?_
 repeat' (first|(show VK _ _ _ _ _ ⟨_,.binOp .shr _ _ _ _,_,_,_,_⟩ _;refine VK.mk (y_shrQ (r:=0) (by rfl) (by rfl) (by omega) (by decide) h') ?_)|(show YK _ _ _ _ _ ⟨_,.binOp .shr _ _ _ _,_,_,_,_⟩ _;refine YK.ofV (y_shrQ (r:=0) (by rfl) (by rfl) (by omega) (by decide) h') ?_)|(show VG _ _ _ _ _ _ ⟨_,.binOp .shr _ _ _ _,_,_,_,_⟩ _;refine VG.mk (fun hb=>by(try(have hc:=And.left hb;have hb:=And.right hb;rw[hc]));(try rw[hb]);exact y_shrQ (r:=0) (by rfl) (by rfl) (by omega) (by decide) h') ?_)|(show YG _ _ _ _ _ _ ⟨_,.binOp .shr _ _ _ _,_,_,_,_⟩ _;refine YG.mk (fun hb=>by(try(have hc:=And.left hb;have hb:=And.right hb;rw[hc]));(try rw[hb]);exact V.y (y_shrQ (r:=0) (by rfl) (by rfl) (by omega) (by decide) h')) ?_)|(show VK _ _ _ _ _ ⟨_,.binOp .and _ _ _ _,_,_,_,_⟩ _;refine VK.mk (y_and60U (by rfl) (by rfl) h) ?_)|(show YK _ _ _ _ _ ⟨_,.binOp .and _ _ _ _,_,_,_,_⟩ _;refine YK.ofV (y_and60U (by rfl) (by rfl) h) ?_)|(show VG _ _ _ _ _ _ ⟨_,.binOp .and _ _ _ _,_,_,_,_⟩ _;refine VG.mk (fun hb=>by(try(have hc:=And.left hb;have hb:=And.right hb;rw[hc]));(try rw[hb]);exact y_and60U (by rfl) (by rfl) h) ?_)|(show YG _ _ _ _ _ _ ⟨_,.binOp .and _ _ _ _,_,_,_,_⟩ _;refine YG.mk (fun hb=>by(try(have hc:=And.left hb;have hb:=And.right hb;rw[hc]));(try rw[hb]);exact V.y (y_and60U (by rfl) (by rfl) h)) ?_)|(show VK _ _ _ _ _ ⟨_,.binOp .or _ _ _ _,_,_,_,_⟩ _;refine VK.mk (y_or0U (m:=0) (by rfl) (by rfl) (by omega)) ?_)|(show YK _ _ _ _ _ ⟨_,.binOp .or _ _ _ _,_,_,_,_⟩ _;refine YK.ofV (y_or0U (m:=0) (by rfl) (by rfl) (by omega)) ?_)|(show VG _ _ _ _ _ _ ⟨_,.binOp .or _ _ _ _,_,_,_,_⟩ _;refine VG.mk (fun hb=>by(try(have hc:=And.left hb;have hb:=And.right hb;rw[hc]));(try rw[hb]);exact y_or0U (m:=0) (by rfl) (by rfl) (by omega)) ?_)|(show YG _ _ _ _ _ _ ⟨_,.binOp .or _ _ _ _,_,_,_,_⟩ _;refine YG.mk (fun hb=>by(try(have hc:=And.left hb;have hb:=And.right hb;rw[hc]));(try rw[hb]);exact V.y (y_or0U (m:=0) (by rfl) (by rfl) (by omega))) ?_)|(show YK _ _ _ _ _ _ _;first|refine YK.mk (zcA (q1) ⟨rfl,rfl,rfl⟩) ?_)|(refine nxV ?_)|(refine nSS ?_)|(refine nS1 fun _=>?_)|(refine nMM ?_)|(refine nM1 fun _=>?_)|(show YG _ _ _ _ _ _ _ _;refine YG.mk (fun hb=>by(try(have hc:=And.left hb;have hb:=And.right hb;rw[hc]));(try rw[hb]);first|exact(zcA (q1) ⟨rfl,rfl,rfl⟩)|exact V.y vAuto) ?_)|(refine nxG ?_)|(refine G.mA 3 [.go 0,.go 1,.go 2,.go 3,.go 4,.go 5,.go 6,.go 7,.go 8,.go 9,.go 10,.go 11,.go 12,.go 13] ?_)|(refine nxX ?_)|(refine G.cN rfl (fun hc=>?_) (fun hc=>?_)<;>(try first|exact hc.elim|(exfalso;omega))))
 all_goals first
  |(exfalso;omega)
  |exact X.ret (vs:=[_,_]) rfl ⟨⟨_,_,_,_,rfl,(by exact memA),lenA,by decide +kernel,rfl⟩,rfl,rfl⟩ rfl rE
theorem wprod_c {a b:Nat} (h:i60 (a*b)) (ha:a≤4611686018427387904) (hb:b≤4611686018427387904):Cont Tryz.prog 213 [.int .i64 (a:Int),.int .i64 (b:Int)] (.tuple [arcV 0 ((a*b:Nat):Int),.int .i64 0].toArray):=fun w=>by
 have q1:=wabs_c (n:=(a:Int)) (by omega)
 have q2:=wabs_c (n:=(b:Int)) (by omega)
 have q3:=mul64_c (x:=(a:Int)) (y:=(b:Int)) (by omega)
 have e:(a:Int)*b=((a*b:Nat):Int):=by simp
 rw[e] at q3
 have q4:=wwide_c h
 generalize a*b=p at *
 rw[show (p:Int)/18446744073709551616=0 by omega,show (p:Int)%18446744073709551616=p by omega] at q3
 clear e
 refine enter0 Tryz.func213 rfl rfl rfl ?_
 repeat' (first|(show YK _ _ _ _ _ _ _;first|refine YK.mk (zcA (q1) ⟨rfl,rfl⟩) ?_|refine YK.mk (zcA (q2) ⟨rfl,rfl⟩) ?_|refine YK.mk (zcA (q3) ⟨rfl,rfl,rfl⟩) ?_|refine YK.mk (zcA (q4) ⟨rfl,rfl⟩) ?_)|(refine nxV ?_)|(refine nSS ?_)|(refine nS1 fun _=>?_)|(refine nMM ?_)|(refine nM1 fun _=>?_)|(show YG _ _ _ _ _ _ _ _;refine YG.mk (fun hb=>by(try(have hc:=And.left hb;have hb:=And.right hb;rw[hc]));(try rw[hb]);first|exact(zcA (q1) ⟨rfl,rfl⟩)|exact(zcA (q2) ⟨rfl,rfl⟩)|exact(zcA (q3) ⟨rfl,rfl,rfl⟩)|exact(zcA (q4) ⟨rfl,rfl⟩)|exact V.y vAuto) ?_)|(refine nxG ?_)|(refine nxX ?_)|(refine G.cN rfl (fun hc=>?_) (fun hc=>?_)<;>(try first|exact hc.elim|(exfalso;omega))))
 exact X.ret (vs:=[_,_]) rfl ⟨⟨_,_,_,_,rfl,(by exact memA),lenA,by decide +kernel,rfl⟩,rfl,rfl⟩ rfl rE
theorem wsize_c {p:Nat} (h:i60 p):Cont Tryz.prog 260 [arcV 0 (p:Int)] (.agg [.int .u64 0,.int .u64 (p:Int),.bool false].toArray):=fun w=>by
 refine enter0 Tryz.func260 rfl rfl rfl ?_
 repeat' (first|(show VK _ _ _ _ _ ⟨_,.binOp .or _ _ _ _,_,_,_,_⟩ _;refine VK.mk (y_or0U (m:=p) (by rfl) (by rfl) (by omega)) ?_)|(show YK _ _ _ _ _ ⟨_,.binOp .or _ _ _ _,_,_,_,_⟩ _;refine YK.ofV (y_or0U (m:=p) (by rfl) (by rfl) (by omega)) ?_)|(show VG _ _ _ _ _ _ ⟨_,.binOp .or _ _ _ _,_,_,_,_⟩ _;refine VG.mk (fun hb=>by(try(have hc:=And.left hb;have hb:=And.right hb;rw[hc]));(try rw[hb]);exact y_or0U (m:=p) (by rfl) (by rfl) (by omega)) ?_)|(show YG _ _ _ _ _ _ ⟨_,.binOp .or _ _ _ _,_,_,_,_⟩ _;refine YG.mk (fun hb=>by(try(have hc:=And.left hb;have hb:=And.right hb;rw[hc]));(try rw[hb]);exact V.y (y_or0U (m:=p) (by rfl) (by rfl) (by omega))) ?_)|(refine nxV ?_)|(refine nSS ?_)|(refine nS1 fun _=>?_)|(refine nMM ?_)|(refine nM1 fun _=>?_)|(refine nxG ?_)|(refine G.mA 1 [.go 0,.go 1,.go 2,.go 3,.go 4,.go 5] ?_)|(refine nxX ?_)|(refine G.cN rfl (fun hc=>?_) (fun hc=>?_)<;>(try first|exact hc.elim|(exfalso;omega))))
 exact X.ret (vs:=[_]) rfl ⟨⟨_,_,_,_,rfl,(by exact memA),lenA,by decide +kernel,rfl⟩,rfl⟩ rfl rE
def rndI (p d:Int) (u:Bool):Int:=if u=true then -(-p/d) else p/d
theorem rnd_up {p d:Int} (hd:0<d) : -(-p/d)=p/d+(if p%d=0 then 0 else 1):=by
 have h1:=Int.emod_add_mul_ediv p d
 have h2:=Int.emod_nonneg p (by omega:d≠0)
 have h3:=Int.emod_lt_of_pos p hd
 split
 ·rename_i h
  rw[h,Int.zero_add] at h1
  have : -p/d = -(p/d):=by
   rw[←h1]
   rw[show -(d*(p/d))=d * -(p/d) by rw[Int.mul_neg]]
   rw[Int.mul_ediv_cancel_left _ (by omega),Int.mul_ediv_cancel_left _ (by omega)]
  omega
 ·have : -p/d = -(p/d)-1:=by
   refine(Int.ediv_eq_iff_of_pos hd).2 ?_
   generalize p/d=q at *
   generalize p%d=r at *
   have e:(-q-1)*d = -(d*q)-d:=by rw[Int.sub_mul,Int.neg_mul,Int.mul_comm];omega
   omega
  omega
theorem wquot_c {p:Nat} {d:Int} (h:i60 p) (hd:0<d∧d≤4611686018427387904) (u:Bool):Cont Tryz.prog 243 [arcV 0 (p:Int),.int .i64 d,.bool u] (.tuple [.int .i64 (rndI p d u),.int .i64 0].toArray):=fun w=>by
 have q1:=wval_c h
 have q2:=wsize_c h
 have q3:=wabs_c (n:=d) (by omega)
 have q4:=div64_c (hi:=0) (lo:=(p:Int)) (y:=d) (by omega)
 rw[show (0:Int)*18446744073709551616+p=p by omega] at q4
 have h1:=Int.emod_nonneg (p:Int) (show d≠0 by omega)
 have h2:0≤(p:Int)/d:=Int.ediv_nonneg (by omega) (by omega)
 have h3:(p:Int)/d≤p:=Int.ediv_le_self _ (by omega)
 have hr:=rnd_up (p:=p) hd.1
 unfold rndI
 rw[hr]
 generalize (p:Int)/d=q at *
 generalize (p:Int)%d=r at *
 have hd0:¬d<0:=by omega
 have hd1:decide (d<0)=false:=decide_eq_false hd0
 cases u with
 |false =>
  rw[if_neg (by decide)]
  refine enter0 Tryz.func243 rfl rfl rfl ?_
  repeat' (first|(show YK _ _ _ _ _ _ _;first|refine YK.mk (zcA (q1) ⟨rfl,rfl⟩) ?_|refine YK.mk (zcA (q2) ⟨rfl,rfl⟩) ?_|refine YK.mk (zcA (q3) ⟨rfl,rfl⟩) ?_|refine YK.mk (zcA (q4) ⟨rfl,rfl,rfl,rfl⟩) ?_)|(refine nxV ?_)|(refine nSS ?_)|(refine nS1 fun _=>?_)|(refine nMM ?_)|(refine nM1 fun _=>?_)|(show YG _ _ _ _ _ _ _ _;refine YG.mk (fun hb=>by(try(have hc:=And.left hb;have hb:=And.right hb;rw[hc]));(try rw[hb]);first|exact(zcA (q1) ⟨rfl,rfl⟩)|exact(zcA (q2) ⟨rfl,rfl⟩)|exact(zcA (q3) ⟨rfl,rfl⟩)|exact(zcA (q4) ⟨rfl,rfl,rfl,rfl⟩)|exact V.y vAuto) ?_)|(refine nxG ?_)|(refine nxX ?_)|(refine G.cN rfl (fun hc=>?_) (fun hc=>?_)<;>(try first|exact hc.elim|(exfalso;omega))))
  all_goals first
   |(exfalso;simp[hd1] at *;done)
   |(exfalso;simp[hd1] at *;omega)
   |exact X.ret (vs:=[_,_]) rfl ⟨rfl,rfl,rfl⟩ rfl rE
 |true =>
  rw[if_pos rfl]
  by_cases h0:r=0
  ·rw[if_pos h0,Int.add_zero]
   refine enter0 Tryz.func243 rfl rfl rfl ?_
   repeat' (first|(show YK _ _ _ _ _ _ _;first|refine YK.mk (zcA (q1) ⟨rfl,rfl⟩) ?_|refine YK.mk (zcA (q2) ⟨rfl,rfl⟩) ?_|refine YK.mk (zcA (q3) ⟨rfl,rfl⟩) ?_|refine YK.mk (zcA (q4) ⟨rfl,rfl,rfl,rfl⟩) ?_)|(refine nxV ?_)|(refine nSS ?_)|(refine nS1 fun _=>?_)|(refine nMM ?_)|(refine nM1 fun _=>?_)|(show YG _ _ _ _ _ _ _ _;refine YG.mk (fun hb=>by(try(have hc:=And.left hb;have hb:=And.right hb;rw[hc]));(try rw[hb]);first|exact(zcA (q1) ⟨rfl,rfl⟩)|exact(zcA (q2) ⟨rfl,rfl⟩)|exact(zcA (q3) ⟨rfl,rfl⟩)|exact(zcA (q4) ⟨rfl,rfl,rfl,rfl⟩)|exact V.y vAuto) ?_)|(refine nxG ?_)|(refine nxX ?_)|(refine G.cN rfl (fun hc=>?_) (fun hc=>?_)<;>(try first|exact hc.elim|(exfalso;omega))))
   all_goals first
   |(exfalso;simp[hd1] at *;done)
   |(exfalso;simp[hd1] at *;omega)
   |exact X.ret (vs:=[_,_]) rfl ⟨rfl,rfl,rfl⟩ rfl rE
  ·rw[if_neg h0]
   refine enter0 Tryz.func243 rfl rfl rfl ?_
   repeat' (first|(show YK _ _ _ _ _ _ _;first|refine YK.mk (zcA (q1) ⟨rfl,rfl⟩) ?_|refine YK.mk (zcA (q2) ⟨rfl,rfl⟩) ?_|refine YK.mk (zcA (q3) ⟨rfl,rfl⟩) ?_|refine YK.mk (zcA (q4) ⟨rfl,rfl,rfl,rfl⟩) ?_)|(refine nxV ?_)|(refine nSS ?_)|(refine nS1 fun _=>?_)|(refine nMM ?_)|(refine nM1 fun _=>?_)|(show YG _ _ _ _ _ _ _ _;refine YG.mk (fun hb=>by(try(have hc:=And.left hb;have hb:=And.right hb;rw[hc]));(try rw[hb]);first|exact(zcA (q1) ⟨rfl,rfl⟩)|exact(zcA (q2) ⟨rfl,rfl⟩)|exact(zcA (q3) ⟨rfl,rfl⟩)|exact(zcA (q4) ⟨rfl,rfl,rfl,rfl⟩)|exact V.y vAuto) ?_)|(refine nxG ?_)|(refine nxX ?_)|(refine G.cN rfl (fun hc=>?_) (fun hc=>?_)<;>(try first|exact hc.elim|(exfalso;omega))))
   all_goals first
   |(exfalso;simp[hd1] at *;done)
   |(exfalso;simp[hd1] at *;omega)
   |exact X.ret (vs:=[_,_]) rfl ⟨rfl,rfl,rfl⟩ rfl rE
theorem wfloor_c {p:Nat} {d:Int} (h:i60 p) (hd:0<d∧d≤4611686018427387904):Cont Tryz.prog 214 [arcV 0 (p:Int),.int .i64 d] (.tuple [.int .i64 ((p:Int)/d),.int .i64 0].toArray):=fun w=>by
 have q1:=wquot_c h hd false
 have e:rndI p d false=(p:Int)/d:=if_neg (by decide)
 rw[e] at q1
 refine enter0 Tryz.func214 rfl rfl rfl ?_
 repeat' (first|(show YK _ _ _ _ _ _ _;first|refine YK.mk (zcA (q1) ⟨rfl,rfl,rfl,rfl⟩) ?_)|(refine nxV ?_)|(refine nSS ?_)|(refine nS1 fun _=>?_)|(refine nMM ?_)|(refine nM1 fun _=>?_)|(show YG _ _ _ _ _ _ _ _;refine YG.mk (fun hb=>by(try(have hc:=And.left hb;have hb:=And.right hb;rw[hc]));(try rw[hb]);first|exact(zcA (q1) ⟨rfl,rfl,rfl,rfl⟩)|exact V.y vAuto) ?_)|(refine nxG ?_)|(refine nxX ?_)|(refine G.cN rfl (fun hc=>?_) (fun hc=>?_)<;>(try first|exact hc.elim|(exfalso;omega))))
 exact X.ret (vs:=[_,_]) rfl ⟨rfl,rfl,rfl⟩ rfl rE
theorem wceil_c {p:Nat} {d:Int} (h:i60 p) (hd:0<d∧d≤4611686018427387904):Cont Tryz.prog 215 [arcV 0 (p:Int),.int .i64 d] (.tuple [.int .i64 (-(-(p:Int)/d)),.int .i64 0].toArray):=fun w=>by
 have q1:=wquot_c h hd true
 have e:rndI p d true = -(-(p:Int)/d):=if_pos rfl
 rw[e] at q1
 refine enter0 Tryz.func215 rfl rfl rfl ?_
 repeat' (first|(show YK _ _ _ _ _ _ _;first|refine YK.mk (zcA (q1) ⟨rfl,rfl,rfl,rfl⟩) ?_)|(refine nxV ?_)|(refine nSS ?_)|(refine nS1 fun _=>?_)|(refine nMM ?_)|(refine nM1 fun _=>?_)|(show YG _ _ _ _ _ _ _ _;refine YG.mk (fun hb=>by(try(have hc:=And.left hb;have hb:=And.right hb;rw[hc]));(try rw[hb]);first|exact(zcA (q1) ⟨rfl,rfl,rfl,rfl⟩)|exact V.y vAuto) ?_)|(refine nxG ?_)|(refine nxX ?_)|(refine G.cN rfl (fun hc=>?_) (fun hc=>?_)<;>(try first|exact hc.elim|(exfalso;omega))))
 exact X.ret (vs:=[_,_]) rfl ⟨rfl,rfl,rfl⟩ rfl rE
theorem enclose_c {x n:Nat} {d:Int} (h:i60 (x*n)) (hx:x≤4611686018427387904) (hn:n≤4611686018427387904) (hd:0<d∧d≤4611686018427387904):Cont Tryz.prog 176 [.int .i64 (x:Int),.int .i64 (n:Int),.int .i64 d] (.tuple [.int .i64 (((x*n:Nat):Int)/d),.int .i64 (-(-((x*n:Nat):Int)/d)),.int .i64 0].toArray):=fun w=>by
 have q1:=wprod_c h hx hn
 have q2:=wfloor_c h hd
 have q3:=wceil_c h hd
 generalize x*n=p at *
 generalize (p:Int)/d=a at *
 generalize -(-(p:Int)/d)=b at *
 refine enter0 Tryz.func176 rfl rfl rfl ?_
 repeat' (first|(show YK _ _ _ _ _ _ _;first|refine YK.mk (zcA (q1) ⟨rfl,rfl,rfl⟩) ?_|refine YK.mk (zcA (q2) ⟨rfl,rfl,rfl⟩) ?_|refine YK.mk (zcA (q3) ⟨rfl,rfl,rfl⟩) ?_)|(refine nxV ?_)|(refine nSS ?_)|(refine nS1 fun _=>?_)|(refine nMM ?_)|(refine nM1 fun _=>?_)|(show YG _ _ _ _ _ _ _ _;refine YG.mk (fun hb=>by(try(have hc:=And.left hb;have hb:=And.right hb;rw[hc]));(try rw[hb]);first|exact(zcA (q1) ⟨rfl,rfl,rfl⟩)|exact(zcA (q2) ⟨rfl,rfl,rfl⟩)|exact(zcA (q3) ⟨rfl,rfl,rfl⟩)|exact V.y vAuto) ?_)|(refine nxG ?_)|(refine nxX ?_)|(refine G.cN rfl (fun hc=>?_) (fun hc=>?_)<;>(try first|exact hc.elim|(exfalso;omega))))
 all_goals exact X.ret (vs:=[_,_,_]) rfl ⟨rfl,rfl,rfl,rfl⟩ rfl rE
theorem factor_c {n:Int} : Cont Tryz.prog 174 [.int .i64 n] (.bool (decide (-1099511627776≤n)&&decide (n≤1099511627776))):=fun w=>by
 refine enter0 Tryz.func174 rfl rfl rfl ?_
 repeat' (first|(refine nxV ?_)|(refine nSS ?_)|(refine nS1 fun _=>?_)|(refine nMM ?_)|(refine nM1 fun _=>?_)|(refine nxG ?_)|(refine nxX ?_)|(refine G.cN rfl (fun hc=>?_) (fun hc=>?_)<;>(try first|exact hc.elim|(exfalso;omega))))
 exact X.ret1
theorem factor_t {n:Int} (h : -1099511627776≤n∧n≤1099511627776):Cont Tryz.prog 174 [.int .i64 n] (.bool true):=by
 have:=factor_c (n:=n)
 rw[decide_eq_true h.1,decide_eq_true h.2] at this
 exact this
theorem scale_c {p1 p2 n:Nat} (h:p1≤p2∧p2≤1073741824) (hn:n≤100000000):Cont Tryz.prog 212 [arcV (p1:Int) (p2:Int),.int .i64 (n:Int)] (.tuple [.int .i64 (((p1*n:Nat):Int)/1073741824),.int .i64 (-(-((p2*n:Nat):Int)/1073741824)),.int .i64 0].toArray):=fun w=>by
 have b1:p1*n≤1073741824*100000000:=Nat.mul_le_mul (by omega) hn
 have b2:p2*n≤1073741824*100000000:=Nat.mul_le_mul (by omega) hn
 have b3:p1*n≤p2*n:=Nat.mul_le_mul_right n h.1
 have q1:=fvalid_t (lo:=(p1:Int)) (hi:=(p2:Int)) (by omega)
 have q2:=factor_t (n:=(n:Int)) (by omega)
 have q3:=enclose_c (x:=p1) (n:=n) (d:=1073741824) (by omega) (by omega) (by omega) (by omega)
 have q4:=enclose_c (x:=p2) (n:=n) (d:=1073741824) (by omega) (by omega) (by omega) (by omega)
 generalize p1*n=u at *
 generalize p2*n=v at *
 have e1:min ((u:Int)/1073741824) ((v:Int)/1073741824)=(u:Int)/1073741824:=by omega
 have e2:max (-(-(u:Int)/1073741824)) (-(-(v:Int)/1073741824)) = -(-(v:Int)/1073741824):=by omega
 refine enter0 Tryz.func212 rfl rfl rfl ?_
 repeat' (first|(show YK _ _ _ _ _ _ _;first|refine YK.mk (zcA (q1) ⟨rfl,rfl⟩) ?_|refine YK.mk (zcA (q2) ⟨rfl,rfl⟩) ?_|refine YK.mk (zcA (q3) ⟨rfl,rfl,rfl,rfl⟩) ?_|refine YK.mk (zcA (q4) ⟨rfl,rfl,rfl,rfl⟩) ?_)|(refine nxV ?_)|(refine nSS ?_)|(refine nS1 fun _=>?_)|(refine nMM ?_)|(refine nM1 fun _=>?_)|(show YG _ _ _ _ _ _ _ _;refine YG.mk (fun hb=>by(try(have hc:=And.left hb;have hb:=And.right hb;rw[hc]));(try rw[hb]);first|exact(zcA (q1) ⟨rfl,rfl⟩)|exact(zcA (q2) ⟨rfl,rfl⟩)|exact(zcA (q3) ⟨rfl,rfl,rfl,rfl⟩)|exact(zcA (q4) ⟨rfl,rfl,rfl,rfl⟩)|exact V.y vAuto) ?_)|(refine nxG ?_)|(refine nxX ?_)|(refine G.cN rfl (fun hc=>?_) (fun hc=>?_)<;>(try first|exact hc.elim|(exfalso;omega))))
 refine X.ret (vs:=[_,_,_]) rfl ⟨rfl,rfl,rfl,rfl⟩ rfl (fun w hw=>⟨?_,hw.ext⟩)
 rw[e1,e2]
abbrev two31 (p:Int×Int):Prop:=-2147483648≤p.1∧p.1≤p.2∧p.2≤2147483648
theorem fsub_c {p q:Int×Int} (hp:two31 p) (hq:two31 q) (h : -2147483648≤(TT.subE p q).1∧(TT.subE p q).2≤2147483648):Cont Tryz.prog 55 [arcV p.1 p.2,arcV q.1 q.2] (.tuple [arcV (TT.subE p q).1 (TT.subE p q).2,.int .i64 0].toArray):=fun w=>by
 unfold TT.subE at *
 dsimp only at *
 have q1:=fboth_c hp hq
 have q2:=ffit_c (lo:=p.1-q.2) (hi:=p.2-q.1) (by omega)
 refine enter0 Tryz.func55 rfl rfl rfl ?_
 repeat' (first|(show YK _ _ _ _ _ _ _;first|refine YK.mk (zcA (q1) ⟨rfl,rfl,rfl⟩) ?_|refine YK.mk (zcA (q2) ⟨rfl,rfl,rfl⟩) ?_)|(refine nxV ?_)|(refine nSS ?_)|(refine nS1 fun _=>?_)|(refine nMM ?_)|(refine nM1 fun _=>?_)|(show YG _ _ _ _ _ _ _ _;refine YG.mk (fun hb=>by(try(have hc:=And.left hb;have hb:=And.right hb;rw[hc]));(try rw[hb]);first|exact(zcA (q1) ⟨rfl,rfl,rfl⟩)|exact(zcA (q2) ⟨rfl,rfl,rfl⟩)|exact V.y vAuto) ?_)|(refine nxG ?_)|(refine nxX ?_)|(refine G.cN rfl (fun hc=>?_) (fun hc=>?_)<;>(try first|exact hc.elim|(exfalso;omega))))
 all_goals exact X.ret (vs:=[_,_]) rfl ⟨⟨_,_,_,_,rfl,(by exact memA),lenA,by decide +kernel,rfl⟩,rfl,rfl⟩ rfl rE
theorem fzero_c {a b:Int} : Cont Tryz.prog 175 [arcV a b] (.bool (decide (a≤0)&&decide (0≤b))):=fun w=>by
 refine enter0 Tryz.func175 rfl rfl rfl ?_
 repeat' (first|(refine nxV ?_)|(refine nSS ?_)|(refine nS1 fun _=>?_)|(refine nMM ?_)|(refine nM1 fun _=>?_)|(refine nxG ?_)|(refine nxX ?_)|(refine G.cN rfl (fun hc=>?_) (fun hc=>?_)<;>(try first|exact hc.elim|(exfalso;omega))))
 exact X.ret1
theorem fzero_f {a b:Int} (h:0<a):Cont Tryz.prog 175 [arcV a b] (.bool false):=by
 have:=fzero_c (a:=a) (b:=b)
 rw[decide_eq_false (by omega),Bool.false_and] at this
 exact this
def cPt (p:Int×Int):List Value:=[.int .i64 p.1,.int .i64 p.2]
section
variable {P:Program} {n:Nat} {L:FL} {w0:World} {H:List Hl} {Q:Exit→Act→World→Prop} {ops:Array Oper} {rest:List Oper} {dd:Nat} {ty:TypeId} {pos:String} {af:Array Edge} {t e:TypeId} {bytes:Nat}
theorem RS.lit4Pt {x0 x1 x2 x3:Operand} {a b c d:Int×Int} (h:∀v':Sl,RS P ops Q n ((dd,v'.v)::L) w0 (Hl.rw v'.v e cPt 2 [a,b,c,d]::H) rest) (hx0:evO L x0=some (ptV a.1 a.2)) (hx1:evO L x1=some (ptV b.1 b.2)) (hx2:evO L x2=some (ptV c.1 c.2)) (hx3:evO L x3=some (ptV d.1 d.2)) [ht:RowTy P t e 2 bytes] (hd:Nat.blt dd n=true:=by rfl) :
  RS P ops Q n L w0 H (⟨some dd,.buildSlice t 4 #[(0,x0),(1,x1),(2,x2),(3,x3)],ty,pos,af,none⟩::rest):=RS.actX rfl (x_litS (parts:=[(0,x0),(1,x1),(2,x2),(3,x3)]) (vs:=[ptV a.1 a.2,ptV b.1 b.2,ptV c.1 c.2,ptV d.1 d.2]) (cs:=cPt a++(cPt b++(cPt c++cPt d))) (f:=cPt) (l:=[a,b,c,d]) ⟨hx0,hx1,hx2,hx3,rfl⟩ rfl rfl rfl rfl (fun zs hz=>by
   match zs,hz with
   |[_,_,_,_,_,_,_,_],_=>rfl) rfl rfl rfl (rowTy_B ht.is) hd) fun v' _=>h v'
theorem RS.lit1Pt {x0:Operand} {a:Int×Int} (h:∀v':Sl,RS P ops Q n ((dd,v'.v)::L) w0 (Hl.rw v'.v e cPt 2 [a]::H) rest) (hx0:evO L x0=some (ptV a.1 a.2)) [ht:RowTy P t e 2 bytes] (hd:Nat.blt dd n=true:=by rfl) :
  RS P ops Q n L w0 H (⟨some dd,.buildSlice t 1 #[(0,x0)],ty,pos,af,none⟩::rest):=RS.actX rfl (x_litS (parts:=[(0,x0)]) (vs:=[ptV a.1 a.2]) (cs:=cPt a) (f:=cPt) (l:=[a]) ⟨hx0,rfl⟩ rfl rfl rfl rfl (fun zs hz=>by
   match zs,hz with
   |[_,_],_=>rfl) rfl rfl rfl (rowTy_B ht.is) hd) fun v' _=>h v'
end
theorem ediv_mono {p c d:Int} (hp:0≤p) (hc:0<c) (h:c≤d):p/d≤p/c∧-(-p/d)≤-(-p/c):=by
 have a1:=Int.emod_add_mul_ediv p d
 have a2:=Int.emod_nonneg p (by omega:d≠0)
 have b1:=Int.emod_add_mul_ediv (-p) c
 have b2:=Int.emod_nonneg (-p) (by omega:c≠0)
 have q0:0≤p/d:=Int.ediv_nonneg hp (by omega)
 have m1:=Int.mul_le_mul_of_nonneg_right h q0
 constructor
 ·refine(Int.le_ediv_iff_mul_le hc).2 ?_
  rw[Int.mul_comm]
  omega
 ·have k0 : -p/c≤0:=by
   have:=Int.ediv_nonneg hp (show 0≤c by omega)
   refine Int.not_lt.1 fun hlt=>?_
   have m2:=Int.mul_le_mul_of_nonneg_left (show 1≤-p/c by omega) (show 0≤c by omega)
   have h3:=Int.emod_lt_of_pos (-p) hc
   omega
  have : -p/c≤-p/d:=by
   refine(Int.le_ediv_iff_mul_le (by omega)).2 ?_
   have m2:=Int.mul_le_mul_of_nonneg_right h (show 0≤-(-p/c) by omega)
   rw[Int.mul_neg,Int.mul_neg] at m2
   rw[Int.mul_comm]
   omega
  omega
theorem pair_built (a b:Int):Tryz.prog.built 197 [(0,Value.int .i64 a),(1,Value.int .i64 b)]=some [Value.int .i64 a,Value.int .i64 b].toArray:=by kernel_rfl
theorem fquot_c {c1 c2:Int} {n:Nat} (hcc:1≤c1∧c1≤c2∧c2≤1073741824) (hn:n≤100000000):Cont Tryz.prog 128 [arcV 1073741824 1073741824,arcV c1 c2,.int .i64 (n:Int)]
  (if -(-((1073741824*n:Nat):Int)/c1)≤1099511627776 then .tuple [.int .i64 (((1073741824*n:Nat):Int)/c2),.int .i64 (-(-((1073741824*n:Nat):Int)/c1)),.int .i64 0].toArray else .tuple [.int .i64 0,.int .i64 0,.int .i64 5].toArray):=fun w=>by
 have q1:=fboth_c (a:=1073741824) (b:=1073741824) (c:=c1) (d:=c2) (by omega) (by omega)
 have q2:=factor_t (n:=(n:Int)) (by omega)
 have q3:=fzero_f (a:=c1) (b:=c2) (by omega)
 have q4:=enclose_c (x:=1073741824) (n:=n) (d:=c1) (by omega) (by omega) (by omega) (by omega)
 have q5:=enclose_c (x:=1073741824) (n:=n) (d:=c2) (by omega) (by omega) (by omega) (by omega)
 change Cont _ _ [.int .i64 1073741824,_,_] _ at q4
 change Cont _ _ [.int .i64 1073741824,_,_] _ at q5
 have hp:0≤((1073741824*n:Nat):Int):=by omega
 have hp2:((1073741824*n:Nat):Int)≤107374182400000000:=by omega
 generalize ((1073741824*n:Nat):Int)=p at *
 obtain⟨km1,km2⟩:=ediv_mono hp (show 0<c1 by omega) hcc.2.1
 have km3:0≤p/c2:=Int.ediv_nonneg hp (by omega)
 have km4:p/c1≤-(-p/c1):=by rw[rnd_up (by omega)];split<;>omega
 have km5:p/c2≤-(-p/c2):=by rw[rnd_up (by omega)];split<;>omega
 have q6:=factor_c (n:=p/c2)
 have q7:=factor_c (n:=-(-p/c1))
 generalize p/c1=x1 at *
 generalize p/c2=x2 at *
 generalize -(-p/c1)=y1 at *
 generalize -(-p/c2)=y2 at *
 have e1:min (min (min (min x1 x1) x2) x1) x2=x2:=by omega
 have e2:max (max (max (max y1 y1) y2) y1) y2=y1:=by omega
 rw[←e1] at q6
 rw[←e2] at q7
 obtain⟨o,ho⟩:∃o:Int,o=1073741824:=⟨_,rfl⟩
 rw[←ho] at q1 q4 q5 ⊢
 have n0:nth [(o,c1),(o,c2),(o,c1),(o,c2)] 0=(o,c1):=rfl
 have l1:(([(o,c1),(o,c2),(o,c1),(o,c2)].length:Nat):Int)=4:=rfl
 refine enter0 Tryz.func128 rfl rfl rfl ?_
 repeat' (first|(show G _ _ _ _ _ _ (.loop _);refine G.loopN 6 (GR.step ?_))|(show X (Exit.then (Code.rounds _ _ _ _) _) _ _ _ _ .normal;refine X.round (GR.step ?_))|(show YK _ _ _ _ _ ⟨_,.indexAddr 197 _ _,_,_,_,_⟩ _;refine YK.ofV (y_indexArr (len:=2) rfl rfl (by first|exact(rfl:_=((0:Nat):Int))|exact(rfl:_=((1:Nat):Int))) (by decide +kernel) rfl) ?_)|(show VK _ _ _ _ _ ⟨_,.indexAddr 197 _ _,_,_,_,_⟩ _;refine VK.mk (y_indexArr (len:=2) rfl rfl (by first|exact(rfl:_=((0:Nat):Int))|exact(rfl:_=((1:Nat):Int))) (by decide +kernel) rfl) ?_)|(show YK _ _ _ _ _ ⟨_,.build 197 _,_,_,_,_⟩ _;refine YK.ofV (y_build (parts:=[(0,_),(1,_)]) (vs:=[_,_]) ⟨rfl,rfl,rfl⟩ (pair_built _ _)) ?_)|(show RS _ _ _ _ _ _ _ (⟨some _,.buildSlice _ 4 _,_,_,_,_⟩::_);refine RS.lit4Pt (a:=(o,c1)) (b:=(o,c2)) (c:=(o,c1)) (d:=(o,c2)) (fun v'=>?_) rfl rfl rfl rfl)|(show YK _ _ _ _ _ _ _;first|refine YK.mk (zcA (q1) ⟨rfl,rfl,rfl⟩) ?_|refine YK.mk (zcA (q2) ⟨rfl,rfl⟩) ?_|refine YK.mk (zcA (q3) ⟨rfl,rfl⟩) ?_|refine YK.mk (zcA (q4) ⟨rfl,rfl,rfl,rfl⟩) ?_|refine YK.mk (zcA (q5) ⟨rfl,rfl,rfl,rfl⟩) ?_|refine YK.mk (zcA (q6) ⟨rfl,rfl⟩) ?_|refine YK.mk (zcA (q7) ⟨rfl,rfl⟩) ?_)|(refine nxV ?_)|(refine nSS ?_)|(refine nS1 fun _=>?_)|(refine nMM ?_)|(refine nM1 fun _=>?_)|(show YG _ _ _ _ _ _ _ _;refine YG.mk (fun hb=>by(try(have hc:=And.left hb;have hb:=And.right hb;rw[hc]));(try rw[hb]);first|exact(zcA (q1) ⟨rfl,rfl,rfl⟩)|exact(zcA (q2) ⟨rfl,rfl⟩)|exact(zcA (q3) ⟨rfl,rfl⟩)|exact(zcA (q4) ⟨rfl,rfl,rfl,rfl⟩)|exact(zcA (q5) ⟨rfl,rfl,rfl,rfl⟩)|exact(zcA (q6) ⟨rfl,rfl⟩)|exact(zcA (q7) ⟨rfl,rfl⟩)|exact V.y vAuto) ?_)|(refine nxG ?_)|(refine nxX ?_)|(refine G.cN rfl (fun hc=>?_) (fun hc=>?_)<;>(try first|exact hc.elim|(exfalso;omega))))
 all_goals first
  |(rw[if_neg (by omega)];exact X.ret (vs:=[_,_,_]) rfl ⟨rfl,rfl,rfl,rfl⟩ rfl rE)
  |(rw[if_pos (by omega),←e1,←e2];exact X.ret (vs:=[_,_,_]) rfl ⟨rfl,rfl,rfl,rfl⟩ rfl rE)
  |(have h9:y1≤1099511627776:=by rw[←e2];omega
    rw[if_pos h9]
    refine X.ret (vs:=[_,_,_]) rfl ⟨rfl,rfl,rfl,rfl⟩ rfl (fun w hw=>⟨?_,hw.ext⟩)
    rw[e1,e2])
abbrev PtT:=Int×Int
end Go.Proofs.YtjmdeplmenbmmaaGreat
