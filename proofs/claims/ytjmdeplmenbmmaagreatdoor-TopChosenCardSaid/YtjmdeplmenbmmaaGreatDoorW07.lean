/- Joined texts: Bits, Num, Num2, Rad. -/
import Derived.Test.YtjmdeplmenbmmaaGreatDoorW02
import Derived.Test.YtjmdeplmenbmmaaGreatDoorW05
import Derived.Test.YtjmdeplmenbmmaaGreatDoorV01
import Derived.Lib.ItoaNum
import Derived.Test.YtjmdeplmenbmmaaGreatDoorW06
import Derived.Test.YtjmdeplmenbmmaaGreatDoorW03
import Derived.Test.YtjmdeplmenbmmaaGreatDoorW04
import Derived.Laws.Externs
import Derived.Shelf.Spec.BitsCarry
set_option linter.unusedVariables false
set_option maxHeartbeats 4000000
namespace Go.Proofs.YtjmdeplmenbmmaaGreatDoor
open Go.RowKit
theorem mul64_c {x y:Int} (h:0≤x∧x≤18446744073709551615∧0≤y∧y≤18446744073709551615):Cont Tryz.prog 224 [.int .u64 x,.int .u64 y] (.tuple [.int .u64 (x*y/18446744073709551616),.int .u64 (x*y%18446744073709551616)].toArray):=fun w=>by
 obtain⟨h1,h2,h3,h4⟩:=h
 have hm:∀a b:Int,0≤a→a≤4294967295→0≤b→b≤4294967295→0≤a*b∧a*b≤18446744065119617025:=fun a b g1 g2 g3 g4=>by
  have:=Int.mul_nonneg g1 g3
  have:a*b≤4294967295*4294967295:=Int.mul_le_mul g2 g4 g3 (by omega)
  omega
 have b1:=hm (x%4294967296) (y%4294967296) (by omega) (by omega) (by omega) (by omega)
 have b2:=hm (x/4294967296) (y%4294967296) (by omega) (by omega) (by omega) (by omega)
 have b3:=hm (x%4294967296) (y/4294967296) (by omega) (by omega) (by omega) (by omega)
 have b4:=hm (x/4294967296) (y/4294967296) (by omega) (by omega) (by omega) (by omega)
 have e:x*y=x/4294967296*(y/4294967296)*18446744073709551616+(x/4294967296*(y%4294967296)+x%4294967296*(y/4294967296))*4294967296+x%4294967296*(y%4294967296):=by
  have ex:=Int.emod_add_mul_ediv x 4294967296
  have ey:=Int.emod_add_mul_ediv y 4294967296
  generalize x/4294967296=x1 at *
  generalize x%4294967296=x0 at *
  generalize y/4294967296=y1 at *
  generalize y%4294967296=y0 at *
  subst ex;subst ey
  grind
 have b5:0≤x/4294967296*(y/4294967296)+(x/4294967296*(y%4294967296)+x%4294967296*(y%4294967296)/4294967296)/4294967296:=by omega
 refine enter0 Tryz.func224 rfl rfl rfl ?_
 repeat' (first|(refine nxV ?_)|(refine nSS ?_)|(refine nxX ?_)|done)
 refine X.ret (vs:=[_,_]) rfl ⟨rfl,rfl,rfl⟩ rfl (fun w hw=>⟨?_,hw.ext⟩)
 simp only[IntKind.wrap_u64,e]
 congr 2
 refine congrArg Array.mk (List.cons_eq_cons.2 ⟨congrArg (Value.int .u64) ?_,rfl⟩)
 generalize x/4294967296*(y/4294967296)=a at *
 generalize x/4294967296*(y%4294967296)=b at *
 generalize x%4294967296*(y/4294967296)=c at *
 generalize x%4294967296*(y%4294967296)=d at *
 omega
theorem lz_c {x s:Int} (h:0<x∧x≤18446744073709551615) (hs:s=64-(Lib.bitLen x.toNat:Int)):Cont Tryz.prog 311 [.int .u64 x] (.int .i64 s):=fun w=>by
 have hl:Cont Tryz.prog 294 [.int .u64 x] (.int .i64 (Lib.bitLen x.toNat)):=fun w=>(Tryz.bits_Len64 x w (by omega) h.2).mono fun e w' he=>⟨he.1,by rw[he.2];exact Below.refl _ _⟩
 have hb:=Lib.bitLen_le x.toNat 64 (by omega) (by omega)
 refine enter0 Tryz.func311 rfl rfl rfl ?_
 repeat' (first|(show YK _ _ _ _ _ _ _;refine YK.mk (zcA (hl) ⟨rfl,rfl⟩) ?_)|(refine nxV ?_)|(refine nSS ?_)|(refine nxX ?_)|done)
 exact X.ret (vs:=[_]) rfl ⟨rfl,rfl⟩ rfl (fun w hw=>⟨ret_int hs.symm,hw.ext⟩)
def ShlIs (m c r:Int):Prop:=0≤c∧IntKind.u64.wrap (m*2^(min c.toNat IntKind.u64.bits))=r
def ShrIs (m c r:Int):Prop:=0≤c∧m/2^(min c.toNat IntKind.u64.bits)=r
def OrIs (m m' r:Int):Prop:=bits .or .u64 m m'=r
section
variable {P:Program} {n:Nat} {L:FL} {w0:World} {H:List Hl} {d:Option Tmp} {ty:TypeId} {pos:String} {af:Array Edge} {g:Option (Nat×Bool)} {x y:Operand} {t t':TypeId} {m m' r:Int}
theorem y_shlS (hx:evO L x=some (.int .u64 m)) (hy:evO L y=some (.int .u64 m')) (h:ShlIs m m' r):V P n L w0 H ⟨d,.binOp .shl t x y t',ty,pos,af,g⟩ (.int .u64 r):=h.2 ▸ y_shlV hx hy h.1
theorem y_shrS (hx:evO L x=some (.int .u64 m)) (hy:evO L y=some (.int .u64 m')) (h:ShrIs m m' r):V P n L w0 H ⟨d,.binOp .shr t x y t',ty,pos,af,g⟩ (.int .u64 r):=h.2 ▸ y_shrV hx hy h.1
theorem y_orS (hx:evO L x=some (.int .u64 m)) (hy:evO L y=some (.int .u64 m')) (h:OrIs m m' r):V P n L w0 H ⟨d,.binOp .or t x y t',ty,pos,af,g⟩ (.int .u64 r):=by
 unfold OrIs at h
 exact h ▸ y_bor hx hy
end
theorem div_shifts {hi lo y s:Int} (h:0<hi∧hi<y∧y≤18446744073709551615∧0≤lo∧lo≤18446744073709551615) (hs:s=64-(Lib.bitLen y.toNat:Int)) :
  ∃p r HP LR U U10:Int,0≤s∧s≤63∧0<p∧0<r∧p*r=18446744073709551616∧9223372036854775808≤y*p∧y*p≤18446744073709551615∧ShlIs y s (y*p)∧ShlIs hi s HP∧ShrIs lo (64-s) LR∧OrIs HP LR U∧U=hi*p+lo/r∧0≤U∧U<y*p∧ShlIs lo s U10∧U10=(lo*p)%18446744073709551616∧2^(min s.toNat IntKind.u64.bits)=p:=by
 obtain⟨h1,h2,h3,h4,h5⟩:=h
 have hb:=Lib.bitLenAux_bounds 64 y.toNat (by omega) (by omega)
 obtain⟨c1,c2,c3⟩:=hb
 have hle:=Lib.bitLen_le y.toNat 64 (by omega) (by omega)
 rw[show Lib.bitLenAux 64 y.toNat=Lib.bitLen y.toNat from rfl] at c1 c2 c3
 generalize hk:Lib.bitLen y.toNat=k at *
 have hs0:0≤s∧s≤63:=by omega
 have hst:s.toNat=64-k:=by omega
 have hmin:min s.toNat IntKind.u64.bits=64-k:=by rw[hst];exact Nat.min_eq_left (by show 64-k≤64;omega)
 have hmin2:min (64-s).toNat IntKind.u64.bits=k:=by rw[show (64-s).toNat=k by omega];exact Nat.min_eq_left hle
 have e1:(2:Nat)^(64-k)*2^k=18446744073709551616:=by rw[←Nat.pow_add,show 64-k+k=64 by omega]
 have e2:(2:Nat)^k=2*2^(k-1):=by rw[←Nat.pow_succ',show (k-1).succ=k by omega]
 have hp0:0<(2:Nat)^(64-k):=Nat.two_pow_pos _
 have hr0:0<(2:Nat)^k:=Nat.two_pow_pos _
 have ep:((2:Int)^(64-k))=((2^(64-k):Nat):Int):=by rw[Int.natCast_pow];rfl
 have er:((2:Int)^k)=((2^k:Nat):Int):=by rw[Int.natCast_pow];rfl
 generalize hp:(2:Nat)^(64-k)=p at *
 generalize hr:(2:Nat)^k=r at *
 generalize (2:Nat)^(k-1)=r1 at *
 have hyN:(y.toNat:Int)=y:=by omega
 have k1:y.toNat*p≤18446744073709551615:=by
  have h6:y.toNat+1≤r:=by omega
  have h7:=Nat.mul_le_mul_right p h6
  rw[Nat.mul_comm r p,e1,Nat.add_mul] at h7
  omega
 have k2:9223372036854775808≤y.toNat*p:=by
  have h7:=Nat.mul_le_mul_right p c2
  have h8:2*(r1*p)=18446744073709551616:=by rw[←e1,e2];rw[Nat.mul_comm p,Nat.mul_assoc]
  omega
 have k1':y*p≤18446744073709551615:=by rw[←hyN,←Int.natCast_mul];omega
 have k2':9223372036854775808≤y*p:=by rw[←hyN,←Int.natCast_mul];omega
 have hhi:hi.toNat*p+p≤y.toNat*p:=by
  have:=Nat.mul_le_mul_right p (show hi.toNat+1≤y.toNat by omega)
  rw[Nat.add_mul] at this
  omega
 have hlr:lo.toNat/r<p:=Nat.div_lt_of_lt_mul (by rw[Nat.mul_comm];omega)
 have hwr:∀z:Int,0≤z→z≤18446744073709551615→IntKind.u64.wrap z=z:=fun z a b=>wrapU ⟨a,b⟩
 have ehi:hi*(p:Int)=((hi.toNat*p:Nat):Int):=by rw[Int.natCast_mul,show (hi.toNat:Int)=hi by omega]
 have elo:lo/(r:Int)=((lo.toNat/r:Nat):Int):=by rw[Int.natCast_ediv,show (lo.toNat:Int)=lo by omega]
 have eor:(hi.toNat*p) ||| (lo.toNat/r)=hi.toNat*p+lo.toNat/r:=by
  rw[Nat.mul_comm hi.toNat p,←hp]
  rw[←hp] at hlr
  exact(Nat.two_pow_add_eq_or_of_lt hlr hi.toNat).symm
 refine⟨p,r,hi*p,lo/r,hi*p+lo/r,(lo*p)%18446744073709551616,hs0.1,hs0.2,by omega,by omega,by rw[←Int.natCast_mul,e1];rfl,k2',k1',⟨hs0.1,?_⟩,⟨hs0.1,?_⟩,⟨by omega,?_⟩,?_,rfl,?_,?_,⟨hs0.1,?_⟩,rfl,by rw[hmin,ep]⟩
 ·rw[hmin,ep,hwr _ (by omega) k1']
 ·rw[hmin,ep,hwr _ (by rw[ehi];omega) (by rw[ehi];omega)]
 ·rw[hmin2,er]
 ·unfold OrIs
  rw[ehi,elo,bits_or_u64_nat _ _ (by omega) (by omega),eor,Int.natCast_add]
 ·rw[ehi,elo];omega
 ·rw[ehi,elo,←hyN,←Int.natCast_mul];omega
 ·rw[hmin,ep,IntKind.wrap_u64]
def SubIs (m m' r:Int):Prop:=IntKind.u64.wrap (m-m')=r
theorem y_subS {P:Program} {n:Nat} {L:FL} {w0:World} {H:List Hl} {d:Option Tmp} {ty:TypeId} {pos:String} {af:Array Edge} {g:Option (Nat×Bool)} {x y:Operand} {t t':TypeId} {m m' r:Int} (hx:evO L x=some (.int .u64 m)) (hy:evO L y=some (.int .u64 m')) (h:SubIs m m' r):V P n L w0 H ⟨d,.binOp .sub t x y t',ty,pos,af,g⟩ (.int .u64 r):=by
 unfold SubIs at h
 exact h ▸ y_sub hx hy
theorem subIs {a b c:Int} (h:0≤a*4294967296+b-c∧a*4294967296+b-c≤18446744073709551615):SubIs (IntKind.u64.wrap (IntKind.u64.wrap (a*4294967296)+b)) (IntKind.u64.wrap c) (a*4294967296+b-c):=by
 unfold SubIs
 simp only[IntKind.wrap_u64]
 omega
theorem div64_c {hi lo y:Int} (h:0≤hi∧hi<y∧y≤18446744073709551615∧0≤lo∧lo≤18446744073709551615):Cont Tryz.prog 273 [.int .u64 hi,.int .u64 lo,.int .u64 y] (.tuple [.int .u64 ((hi*18446744073709551616+lo)/y),.int .u64 ((hi*18446744073709551616+lo)%y)].toArray):=fun w=>by
 obtain⟨h1,h2,h3,h4,h5⟩:=h
 rcases Int.lt_or_eq_of_le h1 with h0|h0
 rotate_left
 ·subst h0
  refine enter0 Tryz.func273 rfl rfl rfl ?_
  repeat' (first|(refine nxV ?_)|(refine nSS ?_)|(refine nMM ?_)|(refine G.mA 6 [.go 0,.go 1,.go 2,.go 3,.go 4,.go 5,.go 6,.go 7] ?_)|(refine nxX ?_)|(refine G.cN rfl (fun hc=>?_) (fun hc=>?_)<;>(try first|exact hc.elim|(exfalso;omega))))
  exact X.ret (vs:=[_,_]) rfl ⟨rfl,rfl,rfl⟩ rfl (fun w hw=>⟨by simp,hw.ext⟩)
 obtain⟨s,hs⟩:∃s:Int,s=64-(Lib.bitLen y.toNat:Int):=⟨_,rfl⟩
 obtain⟨p,r,HP,LR,U,U10,s0,s1,hp,hr,hpr,hY1,hY2,sh1,sh2,sh3,or1,eU,hU0,hUy,sh4,eU10,e2p⟩:=div_shifts ⟨h0,h2,h3,h4,h5⟩ hs
 have hwh:=@div_whole hi lo y p r U U10
 generalize hY:y*p=Y at *
 have hYe:Y/4294967296*4294967296+Y%4294967296=Y:=by omega
 have hm1:=Int.ediv_mul_le U (show Y/4294967296≠0 by omega)
 have hm2:=Int.lt_ediv_add_one_mul_self U (show 0<Y/4294967296 by omega)
 rw[Int.add_mul,Int.one_mul] at hm2
 have hm3:=Int.mul_nonneg (Int.ediv_nonneg hU0 (show 0≤Y/4294967296 by omega)) (show 0≤Y/4294967296 by omega)
 have hq0:=Int.ediv_nonneg hU0 (show 0≤Y/4294967296 by omega)
 have hU10:0≤U10∧U10≤18446744073709551615:=by omega
 refine enter0 Tryz.func273 rfl rfl rfl ?_
 repeat' (first|(refine YK.ofV (y_shlS (by rfl) (by rfl) (by assumption)) ?_)|(refine YK.ofV (y_shrS (by rfl) (by rfl) (by assumption)) ?_)|(refine YK.ofV (y_orS (by rfl) (by rfl) (by assumption)) ?_)|(show YK _ _ _ _ _ _ _;refine YK.mk (zcA (lz_c (s:=s) (by omega) hs) ⟨rfl,rfl⟩) ?_)|(refine nxV ?_)|(refine nSS ?_)|(refine nxX ?_)|(refine G.cN rfl (fun hc=>?_) (fun hc=>?_)<;>(try first|exact hc.elim|(exfalso;omega))))
 have hd1:0≤U10/4294967296∧U10/4294967296<4294967296:=by omega
 obtain⟨Q1,hQ1⟩:∃Q1,(U*4294967296+U10/4294967296)/Y=Q1:=⟨_,rfl⟩
 have hge1:=digit_ge (u:=U) (d:=U10/4294967296) (y1:=Y/4294967296) (y0:=Y%4294967296) hU0 hd1.1 hd1.2 (by omega) (by omega)
 rw[hYe,hQ1] at hge1
 have hle1:=digit_le (u:=U) (y:=Y) (y1:=Y/4294967296) (y0:=Y%4294967296) hU0 hUy hYe.symm (by omega) (by omega) (by omega)
 have hlt1:=digit_lt (u:=U) (d:=U10/4294967296) (y:=Y) (by omega) hd1.2 hUy
 rw[hQ1] at hlt1
 have hnn1:0≤Q1:=hQ1 ▸ Int.ediv_nonneg (by omega) (by omega)
 refine G.mid [(2,.int .u64 Y),(8,.int .u64 s),(9,.int .u64 (Y/4294967296)),(10,.int .u64 (Y%4294967296)),(13,.int .u64 (U10/4294967296)),(14,.int .u64 (U10%4294967296)),(11,.int .u64 U),(15,.int .u64 Q1)] [] ?_ ?_
 ·refine G.loop (ι:=Int×Int) (fun x=>[(2,.int .u64 Y),(8,.int .u64 s),(9,.int .u64 (Y/4294967296)),(10,.int .u64 (Y%4294967296)),(13,.int .u64 (U10/4294967296)),(14,.int .u64 (U10%4294967296)),(11,.int .u64 U),(15,.int .u64 x.1),(16,.int .u64 x.2)]) (fun _=>[]) (fun x=>Q1≤x.1∧x.1≤4294967297∧x.2=U-x.1*(Y/4294967296)∧0≤x.2∧x.2<4294967296) (fun x=>(x.1-Q1).toNat)
   (U/(Y/4294967296),U-U/(Y/4294967296)*(Y/4294967296)) ⟨hge1,hle1,rfl,by dsimp only;omega,by dsimp only;omega⟩ ⟨rfl,rfl,rfl,rfl,rfl,rfl,rfl,rfl,rfl,trivial⟩ (fun w h=>h) ?_
  rintro⟨q,r⟩ mx ⟨g1,g2,g3,g4,g5⟩ hmx
  dsimp only at g1 g2 g3 g4 g5 hmx ⊢
  have ft:=digit_test (u:=U) (d:=(U10/4294967296)) (y1:=Y/4294967296) (y0:=Y%4294967296) (q:=q) (r:=r) (by omega) g3
  rw[hYe,hQ1] at ft
  have f1:4294967296≤q∨(0≤q*(Y%4294967296)∧q*(Y%4294967296)≤18446744073709551615):=by
   rcases Int.lt_or_le q 4294967296 with h|h
   ·have a1:=Int.mul_nonneg (show 0≤q by omega) (show 0≤Y%4294967296 by omega)
    have a2:q*(Y%4294967296)≤4294967295*4294967295:=Int.mul_le_mul (by omega) (by omega) (by omega) (by omega)
    exact .inr ⟨a1,by omega⟩
   ·exact .inl h
  have e1:(q-1)*(Y/4294967296)=q*(Y/4294967296)-Y/4294967296:=by rw[Int.sub_mul,Int.one_mul]
  repeat' (first|(refine nxV ?_)|(refine nSS ?_)|(refine nxG ?_)|(refine nxX ?_)|(refine G.cN rfl (fun hc=>?_) (fun hc=>?_)<;>(try first|exact hc.elim|(exfalso;omega))))
  ·have fs:=digit_stop (u:=U) (d:=(U10/4294967296)) (y1:=Y/4294967296) (y0:=Y%4294967296) (q:=q-1) (r:=r+Y/4294967296) (by omega) (by omega) (by omega) (by omega) (by omega) (by omega) (by omega) (by omega)
   rw[hYe,hQ1] at fs
   have e2:q-1=Q1:=by omega
   exact X.mid ⟨rfl,rfl,rfl,rfl,rfl,rfl,rfl,by show some _=some _;rw[e2],trivial⟩ (fun w h=>h)
  ·exact X.again (q-1,r+Y/4294967296) ⟨by dsimp only;omega,by dsimp only;omega,by dsimp only;omega,by dsimp only;omega,by dsimp only;omega⟩ (by dsimp only;omega) ⟨rfl,rfl,rfl,rfl,rfl,rfl,rfl,rfl,rfl,trivial⟩ (fun w h=>h)
  ·have e2:q=Q1:=by omega
   exact X.mid ⟨rfl,rfl,rfl,rfl,rfl,rfl,rfl,by show some _=some _;rw[e2],trivial⟩ (fun w h=>h)
 have r1a:=Int.ediv_mul_le (U*4294967296+U10/4294967296) (show Y≠0 by omega)
 have r1b:=Int.lt_ediv_add_one_mul_self (U*4294967296+U10/4294967296) (show 0<Y by omega)
 rw[hQ1] at r1a r1b
 rw[Int.add_mul,Int.one_mul] at r1b
 have sb1:=subIs (a:=U) (b:=U10/4294967296) (c:=Q1*Y) ⟨by omega,by omega⟩
 obtain⟨R1,hR1⟩:∃R1,U*4294967296+U10/4294967296-Q1*Y=R1:=⟨_,rfl⟩
 rw[hR1] at sb1
 have hR10:0≤R1:=by omega
 have hR1y:R1<Y:=by omega
 have hm1':=Int.ediv_mul_le R1 (show Y/4294967296≠0 by omega)
 have hm2':=Int.lt_ediv_add_one_mul_self R1 (show 0<Y/4294967296 by omega)
 rw[Int.add_mul,Int.one_mul] at hm2'
 have hm3':=Int.mul_nonneg (Int.ediv_nonneg hR10 (show 0≤Y/4294967296 by omega)) (show 0≤Y/4294967296 by omega)
 have hd2:0≤U10%4294967296∧U10%4294967296<4294967296:=by omega
 obtain⟨Q2,hQ2⟩:∃Q2,(R1*4294967296+U10%4294967296)/Y=Q2:=⟨_,rfl⟩
 have hge2:=digit_ge (u:=R1) (d:=U10%4294967296) (y1:=Y/4294967296) (y0:=Y%4294967296) hR10 hd2.1 hd2.2 (by omega) (by omega)
 rw[hYe,hQ2] at hge2
 have hle2:=digit_le (u:=R1) (y:=Y) (y1:=Y/4294967296) (y0:=Y%4294967296) hR10 hR1y hYe.symm (by omega) (by omega) (by omega)
 have hlt2:=digit_lt (u:=R1) (d:=U10%4294967296) (y:=Y) (by omega) hd2.2 hR1y
 rw[hQ2] at hlt2
 have hnn2:0≤Q2:=hQ2 ▸ Int.ediv_nonneg (by omega) (by omega)
 repeat' (first|(refine YK.ofV (y_subS (by rfl) (by rfl) (by assumption)) ?_)|(refine nxV ?_)|(refine nSS ?_)|(refine nxX ?_)|done)
 refine G.mid [(2,.int .u64 Y),(8,.int .u64 s),(9,.int .u64 (Y/4294967296)),(10,.int .u64 (Y%4294967296)),(14,.int .u64 (U10%4294967296)),(15,.int .u64 Q1),(17,.int .u64 R1),(18,.int .u64 Q2)] [] ?_ ?_
 ·refine G.loop (ι:=Int×Int) (fun x=>[(2,.int .u64 Y),(8,.int .u64 s),(9,.int .u64 (Y/4294967296)),(10,.int .u64 (Y%4294967296)),(14,.int .u64 (U10%4294967296)),(15,.int .u64 Q1),(17,.int .u64 R1),(18,.int .u64 x.1),(16,.int .u64 x.2)]) (fun _=>[]) (fun x=>Q2≤x.1∧x.1≤4294967297∧x.2=R1-x.1*(Y/4294967296)∧0≤x.2∧x.2<4294967296) (fun x=>(x.1-Q2).toNat)
   (R1/(Y/4294967296),R1-R1/(Y/4294967296)*(Y/4294967296)) ⟨hge2,hle2,rfl,by dsimp only;omega,by dsimp only;omega⟩ ⟨rfl,rfl,rfl,rfl,rfl,rfl,rfl,rfl,rfl,trivial⟩ (fun w h=>h) ?_
  rintro⟨q,r⟩ mx ⟨g1,g2,g3,g4,g5⟩ hmx
  dsimp only at g1 g2 g3 g4 g5 hmx ⊢
  have ft:=digit_test (u:=R1) (d:=(U10%4294967296)) (y1:=Y/4294967296) (y0:=Y%4294967296) (q:=q) (r:=r) (by omega) g3
  rw[hYe,hQ2] at ft
  have f1:4294967296≤q∨(0≤q*(Y%4294967296)∧q*(Y%4294967296)≤18446744073709551615):=by
   rcases Int.lt_or_le q 4294967296 with h|h
   ·have a1:=Int.mul_nonneg (show 0≤q by omega) (show 0≤Y%4294967296 by omega)
    have a2:q*(Y%4294967296)≤4294967295*4294967295:=Int.mul_le_mul (by omega) (by omega) (by omega) (by omega)
    exact .inr ⟨a1,by omega⟩
   ·exact .inl h
  have e1:(q-1)*(Y/4294967296)=q*(Y/4294967296)-Y/4294967296:=by rw[Int.sub_mul,Int.one_mul]
  repeat' (first|(refine nxV ?_)|(refine nSS ?_)|(refine nxG ?_)|(refine nxX ?_)|(refine G.cN rfl (fun hc=>?_) (fun hc=>?_)<;>(try first|exact hc.elim|(exfalso;omega))))
  ·have fs:=digit_stop (u:=R1) (d:=(U10%4294967296)) (y1:=Y/4294967296) (y0:=Y%4294967296) (q:=q-1) (r:=r+Y/4294967296) (by omega) (by omega) (by omega) (by omega) (by omega) (by omega) (by omega) (by omega)
   rw[hYe,hQ2] at fs
   have e2:q-1=Q2:=by omega
   exact X.mid ⟨rfl,rfl,rfl,rfl,rfl,rfl,rfl,by show some _=some _;rw[e2],trivial⟩ (fun w h=>h)
  ·exact X.again (q-1,r+Y/4294967296) ⟨by dsimp only;omega,by dsimp only;omega,by dsimp only;omega,by dsimp only;omega,by dsimp only;omega⟩ (by dsimp only;omega) ⟨rfl,rfl,rfl,rfl,rfl,rfl,rfl,rfl,rfl,trivial⟩ (fun w h=>h)
  ·have e2:q=Q2:=by omega
   exact X.mid ⟨rfl,rfl,rfl,rfl,rfl,rfl,rfl,by show some _=some _;rw[e2],trivial⟩ (fun w h=>h)
 have r2a:=Int.ediv_mul_le (R1*4294967296+U10%4294967296) (show Y≠0 by omega)
 have r2b:=Int.lt_ediv_add_one_mul_self (R1*4294967296+U10%4294967296) (show 0<Y by omega)
 rw[hQ2] at r2a r2b
 rw[Int.add_mul,Int.one_mul] at r2b
 have sb2:=subIs (a:=R1) (b:=U10%4294967296) (c:=Q2*Y) ⟨by omega,by omega⟩
 repeat' (first|(refine YK.ofV (y_subS (by rfl) (by rfl) (by assumption)) ?_)|(refine nxV ?_)|(refine nSS ?_)|(refine nxX ?_)|done)
 have hfin:=hwh (un1:=U10/4294967296) (un0:=U10%4294967296) (q1:=Q1) (q0:=Q2) (u21:=R1) (R:=R1*4294967296+U10%4294967296-Q2*Y) hp hpr hr (by omega) hY2 h1 h2 h4 eU eU10 (by omega) hR1.symm rfl (by omega) (by omega)
 exact X.ret (vs:=[_,_]) rfl ⟨rfl,rfl,rfl⟩ rfl (fun w hw=>⟨by rw[hfin.1,hfin.2,e2p],hw.ext⟩)
end Go.Proofs.YtjmdeplmenbmmaaGreatDoor
set_option maxHeartbeats 4000000
namespace Go.Proofs.YtjmdeplmenbmmaaGreatDoor
open Go.RowKit
open TT (W256 cW lb)
abbrev numV (x:Nat):Value:=.agg [.int .u64 (lb x 0:Int),.int .u64 (lb x 1:Int),.int .u64 (lb x 2:Int),.int .u64 (lb x 3:Int)].toArray
theorem lb_u64 (x i:Nat):0≤(lb x i:Int)∧(lb x i:Int)<18446744073709551616:=by
 have:=TT.lb_lt x i
 simp only[cW] at this
 omega
theorem num_val {x:Nat} {s0 s1 s2 s3:Int} (b0:0≤s0) (b1:0≤s1) (b2:0≤s2) (b3:0≤s3) (h:lb x 0=s0.toNat∧lb x 1=s1.toNat∧lb x 2=s2.toNat∧lb x 3=s3.toNat):(Value.agg [.int .u64 s0,.int .u64 s1,.int .u64 s2,.int .u64 s3].toArray)=numV x:=by
 obtain⟨h0,h1,h2,h3⟩:=h
 unfold numV
 rw[h0,h1,h2,h3,Int.toNat_of_nonneg b0,Int.toNat_of_nonneg b1,Int.toNat_of_nonneg b2,Int.toNat_of_nonneg b3]
theorem sub_val {a b:Nat} (ha:a<W256) (hb:b<W256) {s3 c3 s2 c2 s1 c1 s0 c0:Int} (e3:(lb a 3:Int)+18446744073709551616*c3=s3+lb b 3+0) (e2:(lb a 2:Int)+18446744073709551616*c2=s2+lb b 2+c3) (e1:(lb a 1:Int)+18446744073709551616*c1=s1+lb b 1+c2) (e0:(lb a 0:Int)+18446744073709551616*c0=s0+lb b 0+c1)
  (h3:0≤s3∧s3<18446744073709551616) (h2:0≤s2∧s2<18446744073709551616) (h1:0≤s1∧s1<18446744073709551616) (h0:0≤s0∧s0<18446744073709551616) (k3:0≤c3∧c3≤1) (k2:0≤c2∧c2≤1) (k1:0≤c1∧c1≤1) (k0:0≤c0∧c0≤1) :
  (Value.agg [.int .u64 s0,.int .u64 s1,.int .u64 s2,.int .u64 s3].toArray)=numV ((a+W256-b)%W256):=by
 refine num_val h0.1 h1.1 h2.1 h3.1 ?_
 refine TT.sub_words ha hb (c3:=c3.toNat) (c2:=c2.toNat) (c1:=c1.toNat) (c0:=c0.toNat) ?_ ?_ ?_ ?_ ?_ ?_ ?_ ?_ ?_
 all_goals (clear ha hb;(try simp only[cW]);omega)
section
variable {n:Nat} {L:FL} {w0:World} {H:List Hl} {d:Option Tmp} {ty:TypeId} {pos:String} {af:Array Edge} {gd:Option (Nat×Bool)} {x y z:Operand} {K:Value→Prop} {tys:Array TypeId} {a b k:Int}
theorem run_sub64I (hk:0≤k∧k≤1) (ha:0≤a∧a<18446744073709551616) (hb:0≤b∧b<18446744073709551616) (w:World):∃s c:Int,(callFunc 310 [.int .u64 a,.int .u64 b,.int .u64 k].toArray).run Tryz.prog w=.ok (.value (.tuple [.int .u64 s,.int .u64 c].toArray)) w∧s=(a+18446744073709551616-b-k)%18446744073709551616∧c=if a<b+k then 1 else 0:=by
 obtain⟨A,rfl⟩:=Int.eq_ofNat_of_zero_le ha.1
 obtain⟨B,rfl⟩:=Int.eq_ofNat_of_zero_le hb.1
 obtain⟨N,rfl⟩:=Int.eq_ofNat_of_zero_le hk.1
 refine⟨((((A+18446744073709551616-B-N)%18446744073709551616:Nat)):Int),((if A<B+N then 1 else 0:Nat):Int),?_,?_,?_⟩
 ·rw[run_callFunc_extern Tryz.func310 (by kernel_rfl) (by kernel_rfl) (by kernel_rfl) (e:=sub64Entry) (by kernel_rfl),run_sub64 A B N (by omega)]
  rfl
 ·omega
 ·split<;>split<;>omega
theorem sub64K (hx:evO L x=some (.int .u64 a)) (hy:evO L y=some (.int .u64 b)) (hz:evO L z=some (.int .u64 k)) (ha:0≤a∧a<18446744073709551616) (hb:0≤b∧b<18446744073709551616) (hk:0≤k∧k≤1)
  (h:∀s c:Int,a+18446744073709551616*c=s+b+k→(0≤s∧s<18446744073709551616)→(0≤c∧c≤1)→K (.tuple [.int .u64 s,.int .u64 c].toArray)) :
  YK Tryz.prog n L w0 H ⟨d,.call { callee:=.value (.func 310),args:=#[x,y,z],argTypes:=tys },ty,pos,af,gd⟩ K:=by
 have key:∀w,(callFunc 310 [.int .u64 a,.int .u64 b,.int .u64 k].toArray).run Tryz.prog w=.ok (.value (.tuple [.int .u64 ((a+18446744073709551616-b-k)%18446744073709551616),.int .u64 (if a<b+k then 1 else 0)].toArray)) w:=fun w=>by
  obtain⟨s,c,h1,h2,h3⟩:=run_sub64I hk ha hb w
  rw[h1,h2,h3]
 refine YK.ofV (y_extern (xs:=[x,y,z]) key ⟨hx,hy,hz,rfl⟩) (h _ _ ?_ ?_ ?_)
 ·split<;>omega
 ·omega
 ·split<;>omega
end
theorem sub_c {a b:Nat} (ha:a<W256) (hb:b<W256):Cont Tryz.prog 267 [numV a,numV b] (numV ((a+W256-b)%W256)):=fun w=>by
 have a0:=lb_u64 a 0;have a1:=lb_u64 a 1;have a2:=lb_u64 a 2;have a3:=lb_u64 a 3
 have b0:=lb_u64 b 0;have b1:=lb_u64 b 1;have b2:=lb_u64 b 2;have b3:=lb_u64 b 3
 refine enter0 Tryz.func267 rfl rfl rfl ?_
 repeat' (first|(show G _ _ _ _ _ _ (.loop _);refine G.loopN 6 (GR.step ?_))|(show X (Exit.then (Code.rounds _ _ _ _) _) _ _ _ _ .normal;refine X.round (GR.step ?_))|(show YK _ _ _ _ _ ⟨_,.call { callee:=.value (.func 310),args:=_,argTypes:=_ },_,_,_,_⟩ _;refine sub64K rfl rfl rfl (by omega) (by omega) (by omega) (fun s c e h k=>?_))|(show VFrK _ _ _ _ _ ⟨_,.indexAddr 296 _ _,_,_,_,_⟩ _;refine VFrK.mk (vf_of fun _=>y_indexArr (len:=4) rfl rfl (by first|exact(rfl:_=((0:Nat):Int))|exact(rfl:_=((1:Nat):Int))|exact(rfl:_=((2:Nat):Int))|exact(rfl:_=((3:Nat):Int))) (by decide +kernel) rfl) ?_)|(refine G.mixedFH 5 [.go 0,.go 1,.go 2,.go 3,.go 4,.go 5,.go 6,.go 7,.go 8,.go 9,.go 10,.go 11,.go 12,.go 13,.go 14] ?_)|(refine nxRF ?_)|(refine nxVF ?_)|(refine nxV ?_)|(refine nSS ?_)|(refine nS1 fun _=>?_)|(refine nxX ?_)|(refine G.cN rfl (fun hc=>?_) (fun hc=>?_)<;>(try first|exact hc.elim|(exfalso;omega))))
 refine X.ret (vs:=[_]) rfl ⟨⟨_,_,_,_,rfl,(by exact memA),lenA,by decide +kernel,rfl⟩,rfl⟩ rfl (fun w hw=>⟨?_,hw.ext⟩)
 exact congrArg Ending.returned (sub_val ha hb (by assumption) (by assumption) (by assumption) (by assumption) (by assumption) (by assumption) (by assumption) (by assumption) (by assumption) (by assumption) (by assumption) (by assumption))
end Go.Proofs.YtjmdeplmenbmmaaGreatDoor
set_option maxHeartbeats 4000000
namespace Go.Proofs.YtjmdeplmenbmmaaGreatDoor
open Go.RowKit
open TT (W256 cW lb)
section
variable {n:Nat} {L:FL} {w0:World} {H:List Hl} {d:Option Tmp} {ty:TypeId} {pos:String} {af:Array Edge} {gd:Option (Nat×Bool)} {x y z:Operand} {K:Value→Prop} {tys:Array TypeId} {a b k:Int}
theorem div64K (hx:evO L x=some (.int .u64 a)) (hy:evO L y=some (.int .u64 b)) (hz:evO L z=some (.int .u64 k)) (ha:0≤a∧a<k) (hb:0≤b∧b<18446744073709551616) (hk:k<18446744073709551616)
  (h:∀q r:Int,a*18446744073709551616+b=q*k+r→(0≤q∧q<18446744073709551616)→(0≤r∧r<k)→K (.tuple [.int .u64 q,.int .u64 r].toArray)) :
  YK Tryz.prog n L w0 H ⟨d,.call { callee:=.value (.func 273),args:=#[x,y,z],argTypes:=tys },ty,pos,af,gd⟩ K:=by
 have hc:=div64_c (hi:=a) (lo:=b) (y:=k) (by omega)
 refine YK.mk (y_call (xs:=[x,y,z]) hc ⟨hx,hy,hz,rfl⟩ (by decide +kernel)) (h _ _ ?_ ?_ ?_)
 ·have:=Int.emod_add_mul_ediv (a*18446744073709551616+b) k
  rw[Int.mul_comm k] at this
  omega
 ·have h1:a*18446744073709551616+b<18446744073709551616*k:=by omega
  refine⟨Int.ediv_nonneg (by omega) (by omega),Int.ediv_lt_of_lt_mul (by omega) h1⟩
 ·exact⟨Int.emod_nonneg _ (by omega),Int.emod_lt_of_pos _ (by omega)⟩
theorem mul64K (hx:evO L x=some (.int .u64 a)) (hy:evO L y=some (.int .u64 b)) (ha:0≤a∧a<18446744073709551616) (hb:0≤b∧b<18446744073709551616)
  (h:∀p q:Int,a*b=p*18446744073709551616+q→(0≤p∧p*18446744073709551616+q≤340282366920938463426481119284349108225)→(0≤q∧q<18446744073709551616)→K (.tuple [.int .u64 p,.int .u64 q].toArray)) :
  YK Tryz.prog n L w0 H ⟨d,.call { callee:=.value (.func 224),args:=#[x,y],argTypes:=tys },ty,pos,af,gd⟩ K:=by
 have hc:=mul64_c (x:=a) (y:=b) (by omega)
 refine YK.mk (y_call (xs:=[x,y]) hc ⟨hx,hy,rfl⟩ (by decide +kernel)) (h _ _ ?_ ?_ ?_)
 ·have:=Int.emod_add_mul_ediv (a*b) 18446744073709551616
  omega
 ·have h1:a*b≤18446744073709551615*18446744073709551615:=Int.mul_le_mul (by omega) (by omega) (by omega) (by omega)
  have h0:0≤a*b:=Int.mul_nonneg ha.1 hb.1
  generalize a*b=m at *
  omega
 ·omega
theorem add64K (hx:evO L x=some (.int .u64 a)) (hy:evO L y=some (.int .u64 b)) (hz:evO L z=some (.int .u64 k)) (ha:0≤a∧a<18446744073709551616) (hb:0≤b∧b<18446744073709551616) (hk:0≤k∧k≤1)
  (h:∀s c:Int,a+b+k=s+18446744073709551616*c→(0≤s∧s<18446744073709551616)→(0≤c∧c≤1)→K (.tuple [.int .u64 s,.int .u64 c].toArray)) :
  YK Tryz.prog n L w0 H ⟨d,.call { callee:=.value (.func 308),args:=#[x,y,z],argTypes:=tys },ty,pos,af,gd⟩ K:=by
 have key:∀w,(callFunc 308 [.int .u64 a,.int .u64 b,.int .u64 k].toArray).run Tryz.prog w=.ok (.value (.tuple [.int .u64 ((a+b+k)%18446744073709551616),.int .u64 ((a+b+k)/18446744073709551616)].toArray)) w:=fun w=>by
  rw[run_callFunc_extern Tryz.func308 (by kernel_rfl) (by kernel_rfl) (by kernel_rfl) (e:=add64Entry) (by kernel_rfl),run_add64 a b k (by omega) (by omega) (by omega) (by omega)]
  rfl
 refine YK.ofV (y_extern (xs:=[x,y,z]) key ⟨hx,hy,hz,rfl⟩) (h _ _ ?_ ?_ ?_)
 ·omega
 ·omega
 ·omega
end
theorem div_val {a t d:Nat} (ha:a<W256) (hd:0<d) (ht:t<d) {q0 t0 q1 t1 q2 t2 q3 t3:Int} (e0:(t:Int)*18446744073709551616+lb a 0=q0*d+t0) (e1:t0*18446744073709551616+lb a 1=q1*d+t1) (e2:t1*18446744073709551616+lb a 2=q2*d+t2) (e3:t2*18446744073709551616+lb a 3=q3*d+t3)
  (h0:0≤q0∧q0<18446744073709551616) (h1:0≤q1∧q1<18446744073709551616) (h2:0≤q2∧q2<18446744073709551616) (h3:0≤q3∧q3<18446744073709551616) (r0:0≤t0∧t0<d) (r1:0≤t1∧t1<d) (r2:0≤t2∧t2<d) (r3:0≤t3∧t3<d) :
  (Value.agg [.int .u64 q0,.int .u64 q1,.int .u64 q2,.int .u64 q3].toArray)=numV ((t*W256+a)/d):=by
 obtain⟨Q0,rfl⟩:=Int.eq_ofNat_of_zero_le h0.1
 obtain⟨Q1,rfl⟩:=Int.eq_ofNat_of_zero_le h1.1
 obtain⟨Q2,rfl⟩:=Int.eq_ofNat_of_zero_le h2.1
 obtain⟨Q3,rfl⟩:=Int.eq_ofNat_of_zero_le h3.1
 obtain⟨T0,rfl⟩:=Int.eq_ofNat_of_zero_le r0.1
 obtain⟨T1,rfl⟩:=Int.eq_ofNat_of_zero_le r1.1
 obtain⟨T2,rfl⟩:=Int.eq_ofNat_of_zero_le r2.1
 obtain⟨T3,rfl⟩:=Int.eq_ofNat_of_zero_le r3.1
 refine num_val h0.1 h1.1 h2.1 h3.1 ?_
 have nat:∀{x y z u v:Nat},(x:Int)*18446744073709551616+y=(z:Int)*u+v→x*cW+y=z*u+v:=fun {x y z u v} h=>by
  have:((x*18446744073709551616+y:Nat):Int)=((z*u+v:Nat):Int):=by simpa using h
  exact Int.ofNat.inj this
 exact(TT.div_words ha hd ht (nat e0) (nat e1) (nat e2) (nat e3) (by omega) (by omega) (by omega) (by omega)).1
theorem ndiv_c {a t d:Nat} (ha:a<W256) (hd:0<d) (ht:t<d) (hd1:d<18446744073709551616):Cont Tryz.prog 309 [numV a,.int .u64 (t:Int),.int .u64 (d:Int)] (numV ((t*W256+a)/d)):=fun w=>by
 have a0:=lb_u64 a 0;have a1:=lb_u64 a 1;have a2:=lb_u64 a 2;have a3:=lb_u64 a 3
 refine enter0 Tryz.func309 rfl rfl rfl ?_
 repeat' (first|(show G _ _ _ _ _ _ (.loop _);refine G.loopN 6 (GR.step ?_))|(show X (Exit.then (Code.rounds _ _ _ _) _) _ _ _ _ .normal;refine X.round (GR.step ?_))|(show YK _ _ _ _ _ ⟨_,.call { callee:=.value (.func 273),args:=_,argTypes:=_ },_,_,_,_⟩ _;refine div64K rfl rfl rfl (by omega) (by omega) (by omega) (fun s c e h k=>?_))|(show YK _ _ _ _ _ ⟨_,.indexAddr 296 _ _,_,_,_,_⟩ _;refine YK.ofV (y_indexArr (len:=4) rfl rfl (by first|exact(rfl:_=((0:Nat):Int))|exact(rfl:_=((1:Nat):Int))|exact(rfl:_=((2:Nat):Int))|exact(rfl:_=((3:Nat):Int))) (by decide +kernel) rfl) ?_)|(refine nxV ?_)|(refine nSS ?_)|(refine nS1 fun _=>?_)|(refine nxX ?_)|(refine G.cN rfl (fun hc=>?_) (fun hc=>?_)<;>(try first|exact hc.elim|(exfalso;omega))))
 refine X.ret (vs:=[_]) rfl ⟨⟨_,_,_,_,rfl,(by exact memA),lenA,by decide +kernel,rfl⟩,rfl⟩ rfl (fun w hw=>⟨?_,hw.ext⟩)
 exact congrArg Ending.returned (div_val ha hd ht (by assumption) (by assumption) (by assumption) (by assumption) (by assumption) (by assumption) (by assumption) (by assumption) (by assumption) (by assumption) (by assumption) (by assumption))
end Go.Proofs.YtjmdeplmenbmmaaGreatDoor
set_option maxHeartbeats 8000000
namespace Go.Proofs.YtjmdeplmenbmmaaGreatDoor
open Go.RowKit
open TT (W256 cW lb)
theorem rad_val {n:Nat} (h:n≤2700000) {q3 s3 q2 s2 q1 s1 q0 s0 c3 c2 c1 c0 p3 p2 p1 p0:Int} (m3:(589684135938649225:Int)*n=p3*18446744073709551616+q3) (e3:q3+0+0=s3+18446744073709551616*c3) (m2:(11820040416388919760:Int)*n=p2*18446744073709551616+q2) (e2:q2+(p3+c3)+0=s2+18446744073709551616*c2)
  (m1:(1376283091369227076:Int)*n=p1*18446744073709551616+q1) (e1:q1+(p2+c2)+0=s1+18446744073709551616*c1) (m0:(2611923443488327891:Int)*n=p0*18446744073709551616+q0) (e0:q0+(p1+c1)+0=s0+18446744073709551616*c0)
  (b3:0≤s3∧s3<18446744073709551616) (b2:0≤s2∧s2<18446744073709551616) (b1:0≤s1∧s1<18446744073709551616) (b0:0≤s0∧s0<18446744073709551616) (k0:0≤c0) (l0:0≤p0) :
  ∃a t:Nat,a<W256∧(Value.agg [.int .u64 s0,.int .u64 s1,.int .u64 s2,.int .u64 s3].toArray)=numV a∧(t:Int)=p0+c0+3*n∧t*W256+a=n*TT.piN∧t<10800000:=by
 obtain⟨S0,rfl⟩:=Int.eq_ofNat_of_zero_le b0.1
 obtain⟨S1,rfl⟩:=Int.eq_ofNat_of_zero_le b1.1
 obtain⟨S2,rfl⟩:=Int.eq_ofNat_of_zero_le b2.1
 obtain⟨S3,rfl⟩:=Int.eq_ofNat_of_zero_le b3.1
 obtain⟨P0,rfl⟩:=Int.eq_ofNat_of_zero_le l0
 obtain⟨C0,rfl⟩:=Int.eq_ofNat_of_zero_le k0
 have lt:∀{z:Nat},(z:Int)<18446744073709551616→z<cW:=fun {z} h=>by simp only[cW];omega
 have key:((P0:Int)+C0+3*n)*115792089237316195423570985008687907853269984665640564039457584007913129639936+(S0*6277101735386680763835789423207666416102355444464034512896+S1*340282366920938463463374607431768211456+S2*18446744073709551616+S3)=n*363771576891766324280234942777729862653393377328392429958772151117938894466185:=by
  clear b0 b1 b2 b3 k0 l0 lt
  grind
 obtain⟨A,hA⟩:∃A,A=S0*cW^3+S1*cW^2+S2*cW+S3:=⟨_,rfl⟩
 have hlt:=TT.digits_lt (lt b0.2) (lt b1.2) (lt b2.2) (lt b3.2)
 have hlb:=TT.lb_eq (lt b0.2) (lt b1.2) (lt b2.2) (lt b3.2) hA
 rw[←hA] at hlt
 refine⟨A,P0+C0+3*n,hlt,num_val b0.1 b1.1 b2.1 b3.1 hlb,by omega,?_,?_⟩
 ·have:(((P0+C0+3*n)*W256+A:Nat):Int)=((n*TT.piN:Nat):Int):=by
   rw[hA]
   simp only[Int.natCast_add,Int.natCast_mul,Int.natCast_pow]
   exact key
  exact Int.ofNat.inj this
 ·clear key
  omega
theorem pi_built:Tryz.prog.built 296 [(0,Value.int .u64 2611923443488327891),(1,Value.int .u64 1376283091369227076),(2,Value.int .u64 11820040416388919760),(3,Value.int .u64 589684135938649225)]=some [Value.int .u64 2611923443488327891,Value.int .u64 1376283091369227076,Value.int .u64 11820040416388919760,Value.int .u64 589684135938649225].toArray:=by kernel_rfl
theorem rad_c {n:Nat} (hn:n≤2700000):Cont Tryz.prog 266 [.int .i64 (n:Int)] (numV (TT.radF n)):=fun w=>by
 refine enter0 Tryz.func266 rfl rfl rfl ?_
 repeat' (first|(show G _ _ _ _ _ _ (.loop _);refine G.loopN 6 (GR.step ?_))|(show X (Exit.then (Code.rounds _ _ _ _) _) _ _ _ _ .normal;refine X.round (GR.step ?_))|(show YK _ _ _ _ _ ⟨_,.call { callee:=.value (.func 224),args:=_,argTypes:=_ },_,_,_,_⟩ _;refine mul64K rfl rfl (by omega) (by omega) (fun s c e h k=>?_))|(show YK _ _ _ _ _ ⟨_,.call { callee:=.value (.func 308),args:=_,argTypes:=_ },_,_,_,_⟩ _;refine add64K rfl rfl rfl (by omega) (by omega) (by omega) (fun s c e h k=>?_))|(show YK _ _ _ _ _ ⟨_,.indexAddr 296 _ _,_,_,_,_⟩ _;refine YK.ofV (y_indexArr (len:=4) rfl rfl (by first|exact(rfl:_=((0:Nat):Int))|exact(rfl:_=((1:Nat):Int))|exact(rfl:_=((2:Nat):Int))|exact(rfl:_=((3:Nat):Int))) (by decide +kernel) rfl) ?_)|(show YK _ _ _ _ _ ⟨_,.build 296 _,_,_,_,_⟩ _;refine YK.ofV (y_build (cells:=[Value.int .u64 2611923443488327891,Value.int .u64 1376283091369227076,Value.int .u64 11820040416388919760,Value.int .u64 589684135938649225]) (parts:=[(0,_),(1,_),(2,_),(3,_)]) (vs:=[Value.int .u64 2611923443488327891,Value.int .u64 1376283091369227076,Value.int .u64 11820040416388919760,Value.int .u64 589684135938649225]) ⟨rfl,rfl,rfl,rfl,rfl⟩ pi_built) ?_)|(refine nxV ?_)|(refine nSS ?_)|(refine nS1 fun _=>?_)|(refine nxX ?_)|(refine G.cN rfl (fun hc=>?_) (fun hc=>?_)<;>(try first|exact hc.elim|(exfalso;omega))))
 obtain⟨A,t,hA,hv,ht,he,hlt⟩:=rad_val (n:=n) hn (by assumption) (by assumption) (by assumption) (by assumption) (by assumption) (by assumption) (by assumption) (by assumption) (by assumption) (by assumption) (by assumption) (by assumption) (by omega) (by omega)
 have hq:=ndiv_c (a:=A) (t:=t) (d:=10800000) hA (by decide) hlt (by decide)
 refine YK.mk (y_call (xs:=[_,_,_]) hq ⟨congrArg some hv,congrArg some (congrArg (Value.int .u64) (by rw[←ht];omega)),rfl,rfl⟩ (by decide +kernel)) ?_
 repeat' (first|(refine nSS ?_)|(refine nxX ?_)|done)
 refine X.ret (vs:=[_]) rfl ⟨⟨_,_,_,_,rfl,(by exact memA),lenA,by decide +kernel,rfl⟩,rfl⟩ rfl (fun w hw=>⟨?_,hw.ext⟩)
 rw[he]
 rfl
end Go.Proofs.YtjmdeplmenbmmaaGreatDoor
