/- Joined texts: CallL, Num, Num2, Rad, MulN. -/
import Derived.Test.YtjmdeplmenbmmaaGreatW04
import Derived.Test.YtjmdeplmenbmmaaGreatV01
import Derived.Test.YtjmdeplmenbmmaaGreatW03
import Derived.Laws.Externs
import Derived.Shelf.Spec.BitsCarry
set_option linter.unusedVariables false
set_option maxHeartbeats 4000000
namespace Go.Proofs.YtjmdeplmenbmmaaGreat
open Go.RowKit
theorem At.perm {x:Hl} {A B H:List Hl} (h:At x A B H):H.Perm (x::(A++B)):=by
 induction h with
 |here=>exact List.Perm.refl _
 |there _ ih=>exact(ih.cons _).trans (List.Perm.swap _ _ _)
inductive Pick:List Hl→List Hl→List Hl→Prop
 |nil {H:List Hl} : Pick [] H H
 |cons {x:Hl} {xs A B H R:List Hl} (a:At x A B H) (b:Pick xs (A++B) R):Pick (x::xs) H R
theorem Pick.perm {xs H R:List Hl} (h:Pick xs H R):H.Perm (xs++R):=by
 induction h with
 |nil=>exact List.Perm.refl _
 |cons ha _ ih=>exact ha.perm.trans (ih.cons _)
theorem St.picked {w0 w:World} {xs H R:List Hl} (h:Pick xs H R) (hw:St w0 H w):St w0 (xs++R) w:=hw.perm h.perm
theorem St.froz {α:Type} {w0 w:World} {H:List Hl} {v:Value} {e:TypeId} {f:α→List Value} {s:Nat} {l:List α} (h:St w0 (Hl.rw v e f s l::H) w):St w0 (Hl.nw v f s l::H) w:=by
 refine⟨h.ext,fun x hx=>?_,fun z hz b hb ho=>?_,h.apart.2⟩
 ·rcases List.mem_cons.1 hx with rfl|hx
  ·exact⟨RO.of_row (h.all _ List.mem_cons_self),fun _ _ b hb=>Hl.ge (h.all _ List.mem_cons_self) rfl hb⟩
  ·exact h.all x (List.mem_cons_of_mem _ hx)
 ·have hb2:(Hl.rw v e f s l).spot=some b:=by
   cases hl:l.flatMap f with
   |nil=>simp only[Hl.spot,hl] at hb;cases hb
   |cons u r=>simp only[Hl.spot,hl] at hb;exact hb
  have:=(h.apart.1 z hz b hb2 ho).1
  cases this
def ContL (P:Program) (C:World→Prop) (Xs:List Hl) (f:FuncId) (args:List Value) {ι:Type} (post:ι→Prop) (v:ι→Value) (Y:ι→List Hl):Prop :=
 ∀w0 HR w,C w0→St w0 (Xs++HR) w→Calls P f args.toArray w fun e w'=>∃z,post z∧e=.returned (v z)∧St w0 (Y z++HR) w'
section
variable {P:Program} {C:World→Prop} {n:Nat} {L:FL} {w0:World} {H HS Xs R:List Hl} {Q:Exit→Act→World→Prop} {ops:Array Oper} {rest:List Oper} {ord:List Mv} {dd i:Nat} {ty:TypeId} {pos:String} {af:Array Edge} {gd:Option (Nat×Bool)} {ι:Type} {f:FuncId} {xs:List Operand} {vs:List Value} {tys:Array TypeId} {post:ι→Prop} {v:ι→Value} {Y:ι→List Hl}
theorem x_callL (hc:ContL P C Xs f vs post v Y) (hC:C w0) (ha:AE L xs vs) (hp:Pick Xs H R) (hg:isGo P f=true) (hd:Nat.blt dd n=true) :
  EX P n L w0 H ⟨some dd,.call { callee:=.value (.func f),args:=xs.toArray,argTypes:=tys },ty,pos,af,gd⟩ post (fun z=>(dd,v z)::L) (fun z=>Y z++R):=fun a w hfr hw K Q hK=>by
 unfold Oper.wp
 rw[run_call hfr ha hg]
 refine(hc w0 R w hC (St.picked hp hw)).mono ?_
 rintro e w' ⟨z,hz,rfl,hs⟩
 exact hK _ _ ⟨z,hz,hfr.put (by simpa [Nat.blt_eq] using hd),hs⟩
theorem RS.callL (hc:ContL P C Xs f vs post v Y) (hC:C w0) (h:∀z,post z→RS P ops Q n ((dd,v z)::L) w0 (Y z++R) rest) (ha:AE L xs vs:=by first|exact rfl|exact⟨rfl,rfl⟩|exact⟨rfl,rfl,rfl⟩|exact⟨rfl,rfl,rfl,rfl⟩|exact⟨rfl,rfl,rfl,rfl,rfl⟩|exact⟨rfl,rfl,rfl,rfl,rfl,rfl⟩|exact⟨rfl,rfl,rfl,rfl,rfl,rfl,rfl⟩|exact⟨rfl,rfl,rfl,rfl,rfl,rfl,rfl,rfl⟩|exact⟨rfl,rfl,rfl,rfl,rfl,rfl,rfl,rfl,rfl⟩) (hp:Pick Xs H R:=by(repeat(first|exact Pick.nil|(apply Pick.cons;(case a=>(first|exact At.here|exact At.there (At.here)|exact At.there (At.there (At.here))|exact At.there (At.there (At.there (At.here)))|exact At.there (At.there (At.there (At.there (At.here))))|exact At.there (At.there (At.there (At.there (At.there (At.here)))))|exact At.there (At.there (At.there (At.there (At.there (At.there (At.here))))))|exact At.there (At.there (At.there (At.there (At.there (At.there (At.there (At.here)))))))|exact At.there (At.there (At.there (At.there (At.there (At.there (At.there (At.there (At.here))))))))|exact At.there (At.there (At.there (At.there (At.there (At.there (At.there (At.there (At.there (At.here))))))))))))))) (hg:isGo P f=true:=by decide +kernel) (hd:Nat.blt dd n=true:=by rfl) :
  RS P ops Q n L w0 H (⟨some dd,.call { callee:=.value (.func f),args:=xs.toArray,argTypes:=tys },ty,pos,af,none⟩::rest):=RS.actX rfl (x_callL hc hC ha hp hg hd) h
variable {α:Type} {f':α→List Value} {l l':List α} {t e:TypeId} {s bytes:Nat} {x y:Operand} {u u':Value} {m:Int}
theorem RM.appendA {H':Sl→List Hl} (h:∀v':Sl,RM P ops Q HS n [] ((dd,v'.v)::L) w0 (H' v') ord) (ho:ops[i]?=some ⟨some dd,.call { callee:=.builtin .append,args:=#[x,y],argTypes:=#[t,t] },ty,pos,af,none⟩) (hx:evO L x=some u) (hy:evO L y=some u') (hu:∀v':Sl,Upd (Hl.rw u e f' s l) (Hl.rw v'.v e f' s (l++l')) H (H' v')) (hr:RdT H u' f' s l')
  (h1:∀a,(f' a).all (·.oneCell')=true) [ht:RowTy P t e s bytes] (hb:(l.length+l'.length)*bytes≤140737488355328∧l.length+l'.length≤140737488355328) (hd:Nat.blt dd n=true)
  (hs:∀(v':Sl) w,St w0 (H' v') w→St w0 HS w):RM P ops Q HS n [] L w0 H (.go i::ord) :=
 RM.actX ho rfl rfl (x_append hx hy hu hr h1 hb (rowTy_B ht.is) hd) (.inl hs) fun v' _=>h v'
theorem y_nilC {d:Option Tmp} {x:Operand} {a0:Addr} (hx:evO L x=some (.pointer (some a0))):V P n L w0 H ⟨d,.nilCheck x,ty,pos,af,gd⟩ (.pointer (some a0)):=by
 unfold V
 intro a w ha hw
 simp[execOp,ha.eval hx]
theorem nxN {p q:Prop} (h:q) (s:q→p:=by intro h;first
 |(show YK _ _ _ _ _ ⟨_,.nilCheck _,_,_,_,_⟩ _;exact YK.ofV (y_nilC (by rfl)) h)
 |(show VK _ _ _ _ _ ⟨_,.nilCheck _,_,_,_,_⟩ _;exact VK.mk (y_nilC (by rfl)) h)
 |(show YG _ _ _ _ _ _ ⟨_,.nilCheck _,_,_,_,_⟩ _;exact YG.mk (fun hb=>by(try(have hc:=And.left hb;have hb:=And.right hb;rw[hc]));(try rw[hb]);exact V.y (y_nilC (by rfl))) h)
 |(show VG _ _ _ _ _ _ ⟨_,.nilCheck _,_,_,_,_⟩ _;exact VG.mk (fun hb=>by(try(have hc:=And.left hb;have hb:=And.right hb;rw[hc]));(try rw[hb]);exact y_nilC (by rfl)) h)):p:=s h
end
end Go.Proofs.YtjmdeplmenbmmaaGreat
set_option maxHeartbeats 4000000
namespace Go.Proofs.YtjmdeplmenbmmaaGreat
open Go.RowKit
open TT (W256 cW lb)
abbrev numV (x:Nat):Value:=.agg [.int .u64 (lb x 0:Int),.int .u64 (lb x 1:Int),.int .u64 (lb x 2:Int),.int .u64 (lb x 3:Int)].toArray
theorem lb_u64 (x i:Nat):0≤(lb x i:Int)∧(lb x i:Int)<18446744073709551616:=by
 have:=TT.lb_lt x i
 simp only[cW] at this
 omega
theorem num_val {x:Nat} {s0 s1 s2 s3:Int} (b0:0≤s0) (b1:0≤s1) (b2:0≤s2) (b3:0≤s3) (h:lb x 0=s0.toNat∧lb x 1=s1.toNat∧lb x 2=s2.toNat∧lb x 3=s3.toNat):(Value.agg [.int .u64 s0,.int .u64 s1,.int .u64 s2,.int .u64 s3].toArray)=numV x:=by
 obtain⟨h0,h1,h2,h3⟩:=h
 unfold numV
 rw[h0,h1,h2,h3,Int.toNat_of_nonneg b0,Int.toNat_of_nonneg b1,Int.toNat_of_nonneg b2,Int.toNat_of_nonneg b3]
theorem sub_val {a b:Nat} (ha:a<W256) (hb:b<W256) {s3 c3 s2 c2 s1 c1 s0 c0:Int} (e3:(lb a 3:Int)+18446744073709551616*c3=s3+lb b 3+0) (e2:(lb a 2:Int)+18446744073709551616*c2=s2+lb b 2+c3) (e1:(lb a 1:Int)+18446744073709551616*c1=s1+lb b 1+c2) (e0:(lb a 0:Int)+18446744073709551616*c0=s0+lb b 0+c1)
  (h3:0≤s3∧s3<18446744073709551616) (h2:0≤s2∧s2<18446744073709551616) (h1:0≤s1∧s1<18446744073709551616) (h0:0≤s0∧s0<18446744073709551616) (k3:0≤c3∧c3≤1) (k2:0≤c2∧c2≤1) (k1:0≤c1∧c1≤1) (k0:0≤c0∧c0≤1) :
  (Value.agg [.int .u64 s0,.int .u64 s1,.int .u64 s2,.int .u64 s3].toArray)=numV ((a+W256-b)%W256):=by
 refine num_val h0.1 h1.1 h2.1 h3.1 ?_
 refine TT.sub_words ha hb (c3:=c3.toNat) (c2:=c2.toNat) (c1:=c1.toNat) (c0:=c0.toNat) ?_ ?_ ?_ ?_ ?_ ?_ ?_ ?_ ?_
 all_goals (clear ha hb;(try simp only[cW]);omega)
section
variable {n:Nat} {L:FL} {w0:World} {H:List Hl} {d:Option Tmp} {ty:TypeId} {pos:String} {af:Array Edge} {gd:Option (Nat×Bool)} {x y z:Operand} {K:Value→Prop} {tys:Array TypeId} {a b k:Int}
theorem run_sub64I (hk:0≤k∧k≤1) (ha:0≤a∧a<18446744073709551616) (hb:0≤b∧b<18446744073709551616) (w:World):∃s c:Int,(callFunc 266 [.int .u64 a,.int .u64 b,.int .u64 k].toArray).run Tryz.prog w=.ok (.value (.tuple [.int .u64 s,.int .u64 c].toArray)) w∧s=(a+18446744073709551616-b-k)%18446744073709551616∧c=if a<b+k then 1 else 0:=by
 obtain⟨A,rfl⟩:=Int.eq_ofNat_of_zero_le ha.1
 obtain⟨B,rfl⟩:=Int.eq_ofNat_of_zero_le hb.1
 obtain⟨N,rfl⟩:=Int.eq_ofNat_of_zero_le hk.1
 refine⟨((((A+18446744073709551616-B-N)%18446744073709551616:Nat)):Int),((if A<B+N then 1 else 0:Nat):Int),?_,?_,?_⟩
 ·rw[run_callFunc_extern Tryz.func266 (by kernel_rfl) (by kernel_rfl) (by kernel_rfl) (e:=sub64Entry) (by kernel_rfl),run_sub64 A B N (by omega)]
  rfl
 ·omega
 ·split<;>split<;>omega
theorem sub64K (hx:evO L x=some (.int .u64 a)) (hy:evO L y=some (.int .u64 b)) (hz:evO L z=some (.int .u64 k)) (ha:0≤a∧a<18446744073709551616) (hb:0≤b∧b<18446744073709551616) (hk:0≤k∧k≤1)
  (h:∀s c:Int,a+18446744073709551616*c=s+b+k→(0≤s∧s<18446744073709551616)→(0≤c∧c≤1)→K (.tuple [.int .u64 s,.int .u64 c].toArray)) :
  YK Tryz.prog n L w0 H ⟨d,.call { callee:=.value (.func 266),args:=#[x,y,z],argTypes:=tys },ty,pos,af,gd⟩ K:=by
 have key:∀w,(callFunc 266 [.int .u64 a,.int .u64 b,.int .u64 k].toArray).run Tryz.prog w=.ok (.value (.tuple [.int .u64 ((a+18446744073709551616-b-k)%18446744073709551616),.int .u64 (if a<b+k then 1 else 0)].toArray)) w:=fun w=>by
  obtain⟨s,c,h1,h2,h3⟩:=run_sub64I hk ha hb w
  rw[h1,h2,h3]
 refine YK.ofV (y_extern (xs:=[x,y,z]) key ⟨hx,hy,hz,rfl⟩) (h _ _ ?_ ?_ ?_)
 ·split<;>omega
 ·omega
 ·split<;>omega
end
theorem sub_c {a b:Nat} (ha:a<W256) (hb:b<W256):Cont Tryz.prog 250 [numV a,numV b] (numV ((a+W256-b)%W256)):=fun w=>by
 have a0:=lb_u64 a 0;have a1:=lb_u64 a 1;have a2:=lb_u64 a 2;have a3:=lb_u64 a 3
 have b0:=lb_u64 b 0;have b1:=lb_u64 b 1;have b2:=lb_u64 b 2;have b3:=lb_u64 b 3
 refine enter0 Tryz.func250 rfl rfl rfl ?_
 repeat' (first|(show G _ _ _ _ _ _ (.loop _);refine G.loopN 6 (GR.step ?_))|(show X (Exit.then (Code.rounds _ _ _ _) _) _ _ _ _ .normal;refine X.round (GR.step ?_))|(show YK _ _ _ _ _ ⟨_,.call { callee:=.value (.func 266),args:=_,argTypes:=_ },_,_,_,_⟩ _;refine sub64K rfl rfl rfl (by omega) (by omega) (by omega) (fun s c e h k=>?_))|(show YK _ _ _ _ _ ⟨_,.indexAddr 265 _ _,_,_,_,_⟩ _;refine YK.ofV (y_indexArr (len:=4) rfl rfl (by first|exact(rfl:_=((0:Nat):Int))|exact(rfl:_=((1:Nat):Int))|exact(rfl:_=((2:Nat):Int))|exact(rfl:_=((3:Nat):Int))) (by decide +kernel) rfl) ?_)|(show VK _ _ _ _ _ ⟨_,.indexAddr 265 _ _,_,_,_,_⟩ _;refine VK.mk (y_indexArr (len:=4) rfl rfl (by first|exact(rfl:_=((0:Nat):Int))|exact(rfl:_=((1:Nat):Int))|exact(rfl:_=((2:Nat):Int))|exact(rfl:_=((3:Nat):Int))) (by decide +kernel) rfl) ?_)|(show VFrK _ _ _ _ _ ⟨_,.indexAddr 265 _ _,_,_,_,_⟩ _;refine VFrK.mk (vf_of fun _=>y_indexArr (len:=4) rfl rfl (by first|exact(rfl:_=((0:Nat):Int))|exact(rfl:_=((1:Nat):Int))|exact(rfl:_=((2:Nat):Int))|exact(rfl:_=((3:Nat):Int))) (by decide +kernel) rfl) ?_)|(refine G.mixedFH 5 [.go 0,.go 1,.go 2,.go 3,.go 4,.go 5,.go 6,.go 7,.go 8,.go 9,.go 10,.go 11,.go 12,.go 13,.go 14] ?_)|(refine nxRF ?_)|(refine nxVF ?_)|(refine nxV ?_)|(refine nSS ?_)|(refine nS1 fun _=>?_)|(refine nMM ?_)|(refine nM1 fun _=>?_)|(refine nxG ?_)|(refine nxX ?_)|(refine G.cN rfl (fun hc=>?_) (fun hc=>?_)<;>(try first|exact hc.elim|(exfalso;omega))))
 refine X.ret (vs:=[_]) rfl ⟨⟨_,_,_,_,rfl,(by exact memA),lenA,by decide +kernel,rfl⟩,rfl⟩ rfl (fun w hw=>⟨?_,hw.ext⟩)
 exact congrArg Ending.returned (sub_val ha hb (by assumption) (by assumption) (by assumption) (by assumption) (by assumption) (by assumption) (by assumption) (by assumption) (by assumption) (by assumption) (by assumption) (by assumption))
end Go.Proofs.YtjmdeplmenbmmaaGreat
set_option maxHeartbeats 4000000
namespace Go.Proofs.YtjmdeplmenbmmaaGreat
open Go.RowKit
open TT (W256 cW lb)
section
variable {n:Nat} {L:FL} {w0:World} {H:List Hl} {d:Option Tmp} {ty:TypeId} {pos:String} {af:Array Edge} {gd:Option (Nat×Bool)} {x y z:Operand} {K:Value→Prop} {tys:Array TypeId} {a b k:Int}
theorem div64K (hx:evO L x=some (.int .u64 a)) (hy:evO L y=some (.int .u64 b)) (hz:evO L z=some (.int .u64 k)) (ha:0≤a∧a<k) (hb:0≤b∧b<18446744073709551616) (hk:k<18446744073709551616)
  (h:∀q r:Int,a*18446744073709551616+b=q*k+r→(0≤q∧q<18446744073709551616)→(0≤r∧r<k)→K (.tuple [.int .u64 q,.int .u64 r].toArray)) :
  YK Tryz.prog n L w0 H ⟨d,.call { callee:=.value (.func 201),args:=#[x,y,z],argTypes:=tys },ty,pos,af,gd⟩ K:=by
 have hc:=div64_c (hi:=a) (lo:=b) (y:=k) (by omega)
 refine YK.mk (y_call (xs:=[x,y,z]) hc ⟨hx,hy,hz,rfl⟩ (by decide +kernel)) (h _ _ ?_ ?_ ?_)
 ·have:=Int.emod_add_mul_ediv (a*18446744073709551616+b) k
  rw[Int.mul_comm k] at this
  omega
 ·have h1:a*18446744073709551616+b<18446744073709551616*k:=by omega
  refine⟨Int.ediv_nonneg (by omega) (by omega),Int.ediv_lt_of_lt_mul (by omega) h1⟩
 ·exact⟨Int.emod_nonneg _ (by omega),Int.emod_lt_of_pos _ (by omega)⟩
theorem mul64K (hx:evO L x=some (.int .u64 a)) (hy:evO L y=some (.int .u64 b)) (ha:0≤a∧a<18446744073709551616) (hb:0≤b∧b<18446744073709551616)
  (h:∀p q:Int,a*b=p*18446744073709551616+q→(0≤p∧p*18446744073709551616+q≤340282366920938463426481119284349108225)→(0≤q∧q<18446744073709551616)→K (.tuple [.int .u64 p,.int .u64 q].toArray)) :
  YK Tryz.prog n L w0 H ⟨d,.call { callee:=.value (.func 200),args:=#[x,y],argTypes:=tys },ty,pos,af,gd⟩ K:=by
 have hc:=mul64_c (x:=a) (y:=b) (by omega)
 refine YK.mk (y_call (xs:=[x,y]) hc ⟨hx,hy,rfl⟩ (by decide +kernel)) (h _ _ ?_ ?_ ?_)
 ·have:=Int.emod_add_mul_ediv (a*b) 18446744073709551616
  omega
 ·have h1:a*b≤18446744073709551615*18446744073709551615:=Int.mul_le_mul (by omega) (by omega) (by omega) (by omega)
  have h0:0≤a*b:=Int.mul_nonneg ha.1 hb.1
  generalize a*b=m at *
  omega
 ·omega
theorem add64K (hx:evO L x=some (.int .u64 a)) (hy:evO L y=some (.int .u64 b)) (hz:evO L z=some (.int .u64 k)) (ha:0≤a∧a<18446744073709551616) (hb:0≤b∧b<18446744073709551616) (hk:0≤k∧k≤1)
  (h:∀s c:Int,a+b+k=s+18446744073709551616*c→(0≤s∧s<18446744073709551616)→(0≤c∧c≤1)→K (.tuple [.int .u64 s,.int .u64 c].toArray)) :
  YK Tryz.prog n L w0 H ⟨d,.call { callee:=.value (.func 257),args:=#[x,y,z],argTypes:=tys },ty,pos,af,gd⟩ K:=by
 have key:∀w,(callFunc 257 [.int .u64 a,.int .u64 b,.int .u64 k].toArray).run Tryz.prog w=.ok (.value (.tuple [.int .u64 ((a+b+k)%18446744073709551616),.int .u64 ((a+b+k)/18446744073709551616)].toArray)) w:=fun w=>by
  rw[run_callFunc_extern Tryz.func257 (by kernel_rfl) (by kernel_rfl) (by kernel_rfl) (e:=add64Entry) (by kernel_rfl),run_add64 a b k (by omega) (by omega) (by omega) (by omega)]
  rfl
 refine YK.ofV (y_extern (xs:=[x,y,z]) key ⟨hx,hy,hz,rfl⟩) (h _ _ ?_ ?_ ?_)
 ·omega
 ·omega
 ·omega
end
theorem div_val {a t d:Nat} (ha:a<W256) (hd:0<d) (ht:t<d) {q0 t0 q1 t1 q2 t2 q3 t3:Int} (e0:(t:Int)*18446744073709551616+lb a 0=q0*d+t0) (e1:t0*18446744073709551616+lb a 1=q1*d+t1) (e2:t1*18446744073709551616+lb a 2=q2*d+t2) (e3:t2*18446744073709551616+lb a 3=q3*d+t3)
  (h0:0≤q0∧q0<18446744073709551616) (h1:0≤q1∧q1<18446744073709551616) (h2:0≤q2∧q2<18446744073709551616) (h3:0≤q3∧q3<18446744073709551616) (r0:0≤t0∧t0<d) (r1:0≤t1∧t1<d) (r2:0≤t2∧t2<d) (r3:0≤t3∧t3<d) :
  (Value.agg [.int .u64 q0,.int .u64 q1,.int .u64 q2,.int .u64 q3].toArray)=numV ((t*W256+a)/d):=by
 obtain⟨Q0,rfl⟩:=Int.eq_ofNat_of_zero_le h0.1
 obtain⟨Q1,rfl⟩:=Int.eq_ofNat_of_zero_le h1.1
 obtain⟨Q2,rfl⟩:=Int.eq_ofNat_of_zero_le h2.1
 obtain⟨Q3,rfl⟩:=Int.eq_ofNat_of_zero_le h3.1
 obtain⟨T0,rfl⟩:=Int.eq_ofNat_of_zero_le r0.1
 obtain⟨T1,rfl⟩:=Int.eq_ofNat_of_zero_le r1.1
 obtain⟨T2,rfl⟩:=Int.eq_ofNat_of_zero_le r2.1
 obtain⟨T3,rfl⟩:=Int.eq_ofNat_of_zero_le r3.1
 refine num_val h0.1 h1.1 h2.1 h3.1 ?_
 have nat:∀{x y z u v:Nat},(x:Int)*18446744073709551616+y=(z:Int)*u+v→x*cW+y=z*u+v:=fun {x y z u v} h=>by
  have:((x*18446744073709551616+y:Nat):Int)=((z*u+v:Nat):Int):=by simpa using h
  exact Int.ofNat.inj this
 exact(TT.div_words ha hd ht (nat e0) (nat e1) (nat e2) (nat e3) (by omega) (by omega) (by omega) (by omega)).1
theorem ndiv_c {a t d:Nat} (ha:a<W256) (hd:0<d) (ht:t<d) (hd1:d<18446744073709551616):Cont Tryz.prog 265 [numV a,.int .u64 (t:Int),.int .u64 (d:Int)] (numV ((t*W256+a)/d)):=fun w=>by
 have a0:=lb_u64 a 0;have a1:=lb_u64 a 1;have a2:=lb_u64 a 2;have a3:=lb_u64 a 3
 refine enter0 Tryz.func265 rfl rfl rfl ?_
 repeat' (first|(show G _ _ _ _ _ _ (.loop _);refine G.loopN 6 (GR.step ?_))|(show X (Exit.then (Code.rounds _ _ _ _) _) _ _ _ _ .normal;refine X.round (GR.step ?_))|(show YK _ _ _ _ _ ⟨_,.call { callee:=.value (.func 201),args:=_,argTypes:=_ },_,_,_,_⟩ _;refine div64K rfl rfl rfl (by omega) (by omega) (by omega) (fun s c e h k=>?_))|(show YK _ _ _ _ _ ⟨_,.indexAddr 265 _ _,_,_,_,_⟩ _;refine YK.ofV (y_indexArr (len:=4) rfl rfl (by first|exact(rfl:_=((0:Nat):Int))|exact(rfl:_=((1:Nat):Int))|exact(rfl:_=((2:Nat):Int))|exact(rfl:_=((3:Nat):Int))) (by decide +kernel) rfl) ?_)|(show VK _ _ _ _ _ ⟨_,.indexAddr 265 _ _,_,_,_,_⟩ _;refine VK.mk (y_indexArr (len:=4) rfl rfl (by first|exact(rfl:_=((0:Nat):Int))|exact(rfl:_=((1:Nat):Int))|exact(rfl:_=((2:Nat):Int))|exact(rfl:_=((3:Nat):Int))) (by decide +kernel) rfl) ?_)|(refine nxV ?_)|(refine nSS ?_)|(refine nS1 fun _=>?_)|(refine nMM ?_)|(refine nM1 fun _=>?_)|(refine nxG ?_)|(refine nxX ?_)|(refine G.cN rfl (fun hc=>?_) (fun hc=>?_)<;>(try first|exact hc.elim|(exfalso;omega))))
 refine X.ret (vs:=[_]) rfl ⟨⟨_,_,_,_,rfl,(by exact memA),lenA,by decide +kernel,rfl⟩,rfl⟩ rfl (fun w hw=>⟨?_,hw.ext⟩)
 exact congrArg Ending.returned (div_val ha hd ht (by assumption) (by assumption) (by assumption) (by assumption) (by assumption) (by assumption) (by assumption) (by assumption) (by assumption) (by assumption) (by assumption) (by assumption))
end Go.Proofs.YtjmdeplmenbmmaaGreat
set_option maxHeartbeats 8000000
namespace Go.Proofs.YtjmdeplmenbmmaaGreat
open Go.RowKit
open TT (W256 cW lb)
theorem rad_val {n:Nat} (h:n≤2700000) {q3 s3 q2 s2 q1 s1 q0 s0 c3 c2 c1 c0 p3 p2 p1 p0:Int} (m3:(589684135938649225:Int)*n=p3*18446744073709551616+q3) (e3:q3+0+0=s3+18446744073709551616*c3) (m2:(11820040416388919760:Int)*n=p2*18446744073709551616+q2) (e2:q2+(p3+c3)+0=s2+18446744073709551616*c2)
  (m1:(1376283091369227076:Int)*n=p1*18446744073709551616+q1) (e1:q1+(p2+c2)+0=s1+18446744073709551616*c1) (m0:(2611923443488327891:Int)*n=p0*18446744073709551616+q0) (e0:q0+(p1+c1)+0=s0+18446744073709551616*c0)
  (b3:0≤s3∧s3<18446744073709551616) (b2:0≤s2∧s2<18446744073709551616) (b1:0≤s1∧s1<18446744073709551616) (b0:0≤s0∧s0<18446744073709551616) (k0:0≤c0) (l0:0≤p0) :
  ∃a t:Nat,a<W256∧(Value.agg [.int .u64 s0,.int .u64 s1,.int .u64 s2,.int .u64 s3].toArray)=numV a∧(t:Int)=p0+c0+3*n∧t*W256+a=n*TT.piN∧t<10800000:=by
 obtain⟨S0,rfl⟩:=Int.eq_ofNat_of_zero_le b0.1
 obtain⟨S1,rfl⟩:=Int.eq_ofNat_of_zero_le b1.1
 obtain⟨S2,rfl⟩:=Int.eq_ofNat_of_zero_le b2.1
 obtain⟨S3,rfl⟩:=Int.eq_ofNat_of_zero_le b3.1
 obtain⟨P0,rfl⟩:=Int.eq_ofNat_of_zero_le l0
 obtain⟨C0,rfl⟩:=Int.eq_ofNat_of_zero_le k0
 have lt:∀{z:Nat},(z:Int)<18446744073709551616→z<cW:=fun {z} h=>by simp only[cW];omega
 have key:((P0:Int)+C0+3*n)*115792089237316195423570985008687907853269984665640564039457584007913129639936+(S0*6277101735386680763835789423207666416102355444464034512896+S1*340282366920938463463374607431768211456+S2*18446744073709551616+S3)=n*363771576891766324280234942777729862653393377328392429958772151117938894466185:=by
  clear b0 b1 b2 b3 k0 l0 lt
  grind
 obtain⟨A,hA⟩:∃A,A=S0*cW^3+S1*cW^2+S2*cW+S3:=⟨_,rfl⟩
 have hlt:=TT.digits_lt (lt b0.2) (lt b1.2) (lt b2.2) (lt b3.2)
 have hlb:=TT.lb_eq (lt b0.2) (lt b1.2) (lt b2.2) (lt b3.2) hA
 rw[←hA] at hlt
 refine⟨A,P0+C0+3*n,hlt,num_val b0.1 b1.1 b2.1 b3.1 hlb,by omega,?_,?_⟩
 ·have:(((P0+C0+3*n)*W256+A:Nat):Int)=((n*TT.piN:Nat):Int):=by
   rw[hA]
   simp only[Int.natCast_add,Int.natCast_mul,Int.natCast_pow]
   exact key
  exact Int.ofNat.inj this
 ·clear key
  omega
theorem pi_built:Tryz.prog.built 265 [(0,Value.int .u64 2611923443488327891),(1,Value.int .u64 1376283091369227076),(2,Value.int .u64 11820040416388919760),(3,Value.int .u64 589684135938649225)]=some [Value.int .u64 2611923443488327891,Value.int .u64 1376283091369227076,Value.int .u64 11820040416388919760,Value.int .u64 589684135938649225].toArray:=by kernel_rfl
theorem rad_c {n:Nat} (hn:n≤2700000):Cont Tryz.prog 249 [.int .i64 (n:Int)] (numV (TT.radF n)):=fun w=>by
 refine enter0 Tryz.func249 rfl rfl rfl ?_
 repeat' (first|(show G _ _ _ _ _ _ (.loop _);refine G.loopN 6 (GR.step ?_))|(show X (Exit.then (Code.rounds _ _ _ _) _) _ _ _ _ .normal;refine X.round (GR.step ?_))|(show YK _ _ _ _ _ ⟨_,.call { callee:=.value (.func 200),args:=_,argTypes:=_ },_,_,_,_⟩ _;refine mul64K rfl rfl (by omega) (by omega) (fun s c e h k=>?_))|(show YK _ _ _ _ _ ⟨_,.call { callee:=.value (.func 257),args:=_,argTypes:=_ },_,_,_,_⟩ _;refine add64K rfl rfl rfl (by omega) (by omega) (by omega) (fun s c e h k=>?_))|(show YK _ _ _ _ _ ⟨_,.indexAddr 265 _ _,_,_,_,_⟩ _;refine YK.ofV (y_indexArr (len:=4) rfl rfl (by first|exact(rfl:_=((0:Nat):Int))|exact(rfl:_=((1:Nat):Int))|exact(rfl:_=((2:Nat):Int))|exact(rfl:_=((3:Nat):Int))) (by decide +kernel) rfl) ?_)|(show VK _ _ _ _ _ ⟨_,.indexAddr 265 _ _,_,_,_,_⟩ _;refine VK.mk (y_indexArr (len:=4) rfl rfl (by first|exact(rfl:_=((0:Nat):Int))|exact(rfl:_=((1:Nat):Int))|exact(rfl:_=((2:Nat):Int))|exact(rfl:_=((3:Nat):Int))) (by decide +kernel) rfl) ?_)|(show YK _ _ _ _ _ ⟨_,.build 265 _,_,_,_,_⟩ _;refine YK.ofV (y_build (cells:=[Value.int .u64 2611923443488327891,Value.int .u64 1376283091369227076,Value.int .u64 11820040416388919760,Value.int .u64 589684135938649225]) (parts:=[(0,_),(1,_),(2,_),(3,_)]) (vs:=[Value.int .u64 2611923443488327891,Value.int .u64 1376283091369227076,Value.int .u64 11820040416388919760,Value.int .u64 589684135938649225]) ⟨rfl,rfl,rfl,rfl,rfl⟩ pi_built) ?_)|(refine nxV ?_)|(refine nSS ?_)|(refine nS1 fun _=>?_)|(refine nMM ?_)|(refine nM1 fun _=>?_)|(refine nxG ?_)|(refine nxX ?_)|(refine G.cN rfl (fun hc=>?_) (fun hc=>?_)<;>(try first|exact hc.elim|(exfalso;omega))))
 obtain⟨A,t,hA,hv,ht,he,hlt⟩:=rad_val (n:=n) hn (by assumption) (by assumption) (by assumption) (by assumption) (by assumption) (by assumption) (by assumption) (by assumption) (by assumption) (by assumption) (by assumption) (by assumption) (by omega) (by omega)
 have hq:=ndiv_c (a:=A) (t:=t) (d:=10800000) hA (by decide) hlt (by decide)
 refine YK.mk (y_call (xs:=[_,_,_]) hq ⟨congrArg some hv,congrArg some (congrArg (Value.int .u64) (by rw[←ht];omega)),rfl,rfl⟩ (by decide +kernel)) ?_
 repeat' (first|(refine nxV ?_)|(refine nSS ?_)|(refine nS1 fun _=>?_)|(refine nMM ?_)|(refine nM1 fun _=>?_)|(refine nxG ?_)|(refine nxX ?_)|(refine G.cN rfl (fun hc=>?_) (fun hc=>?_)<;>(try first|exact hc.elim|(exfalso;omega))))
 refine X.ret (vs:=[_]) rfl ⟨⟨_,_,_,_,rfl,(by exact memA),lenA,by decide +kernel,rfl⟩,rfl⟩ rfl (fun w hw=>⟨?_,hw.ext⟩)
 rw[he]
 rfl
end Go.Proofs.YtjmdeplmenbmmaaGreat
set_option maxHeartbeats 8000000
namespace Go.Proofs.YtjmdeplmenbmmaaGreat
open Go.RowKit
open TT (W256 cW lb)
def vo (o0 o1 o2 o3 o4 o5:Int):Int:=o5+o4*18446744073709551616+o3*340282366920938463463374607431768211456+o2*6277101735386680763835789423207666416102355444464034512896+o1*115792089237316195423570985008687907853269984665640564039457584007913129639936+o0*2135987035920910082395021706169552114602704522356652769947041607822219725780640550022962086936576
def psum (a b:Nat):Int→Int
 |3=>0
 |2=>(lb a 3:Int)*lb b 1+(lb a 3:Int)*lb b 0*18446744073709551616
 |1=>(lb a 3:Int)*lb b 1+(lb a 3:Int)*lb b 0*18446744073709551616+(lb a 2:Int)*lb b 2+(lb a 2:Int)*lb b 1*18446744073709551616+(lb a 2:Int)*lb b 0*340282366920938463463374607431768211456
 |0=>(lb a 3:Int)*lb b 1+(lb a 3:Int)*lb b 0*18446744073709551616+(lb a 2:Int)*lb b 2+(lb a 2:Int)*lb b 1*18446744073709551616+(lb a 2:Int)*lb b 0*340282366920938463463374607431768211456+(lb a 1:Int)*lb b 3+(lb a 1:Int)*lb b 2*18446744073709551616+(lb a 1:Int)*lb b 1*340282366920938463463374607431768211456+(lb a 1:Int)*lb b 0*6277101735386680763835789423207666416102355444464034512896
 |_=>(lb a 3:Int)*lb b 1+(lb a 3:Int)*lb b 0*18446744073709551616+(lb a 2:Int)*lb b 2+(lb a 2:Int)*lb b 1*18446744073709551616+(lb a 2:Int)*lb b 0*340282366920938463463374607431768211456+(lb a 1:Int)*lb b 3+(lb a 1:Int)*lb b 2*18446744073709551616+(lb a 1:Int)*lb b 1*340282366920938463463374607431768211456+(lb a 1:Int)*lb b 0*6277101735386680763835789423207666416102355444464034512896+(lb a 0:Int)*lb b 3*18446744073709551616+(lb a 0:Int)*lb b 2*340282366920938463463374607431768211456+(lb a 0:Int)*lb b 1*6277101735386680763835789423207666416102355444464034512896+(lb a 0:Int)*lb b 0*115792089237316195423570985008687907853269984665640564039457584007913129639936
theorem ps3 (a b:Nat):psum a b 3=0:=rfl
theorem ps2 (a b:Nat):psum a b 2=(lb a 3:Int)*lb b 1+(lb a 3:Int)*lb b 0*18446744073709551616:=rfl
theorem ps1 (a b:Nat):psum a b 1=(lb a 3:Int)*lb b 1+(lb a 3:Int)*lb b 0*18446744073709551616+(lb a 2:Int)*lb b 2+(lb a 2:Int)*lb b 1*18446744073709551616+(lb a 2:Int)*lb b 0*340282366920938463463374607431768211456:=rfl
theorem ps0 (a b:Nat):psum a b 0=(lb a 3:Int)*lb b 1+(lb a 3:Int)*lb b 0*18446744073709551616+(lb a 2:Int)*lb b 2+(lb a 2:Int)*lb b 1*18446744073709551616+(lb a 2:Int)*lb b 0*340282366920938463463374607431768211456+(lb a 1:Int)*lb b 3+(lb a 1:Int)*lb b 2*18446744073709551616+(lb a 1:Int)*lb b 1*340282366920938463463374607431768211456+(lb a 1:Int)*lb b 0*6277101735386680763835789423207666416102355444464034512896:=rfl
theorem psm (a b:Nat):psum a b (-1)=(lb a 3:Int)*lb b 1+(lb a 3:Int)*lb b 0*18446744073709551616+(lb a 2:Int)*lb b 2+(lb a 2:Int)*lb b 1*18446744073709551616+(lb a 2:Int)*lb b 0*340282366920938463463374607431768211456+(lb a 1:Int)*lb b 3+(lb a 1:Int)*lb b 2*18446744073709551616+(lb a 1:Int)*lb b 1*340282366920938463463374607431768211456+(lb a 1:Int)*lb b 0*6277101735386680763835789423207666416102355444464034512896+(lb a 0:Int)*lb b 3*18446744073709551616+(lb a 0:Int)*lb b 2*340282366920938463463374607431768211456+(lb a 0:Int)*lb b 1*6277101735386680763835789423207666416102355444464034512896+(lb a 0:Int)*lb b 0*115792089237316195423570985008687907853269984665640564039457584007913129639936:=rfl
theorem mul_val {a b:Nat} {o0 o1 o2 o3 o4 o5:Int} (h:vo o0 o1 o2 o3 o4 o5=psum a b (-1)) (h0:0≤o0∧o0<18446744073709551616) (h1:0≤o1∧o1<18446744073709551616) (h2:0≤o2∧o2<18446744073709551616) (h3:0≤o3∧o3<18446744073709551616) (h4:0≤o4∧o4<18446744073709551616) (h5:0≤o5∧o5<18446744073709551616) :
  (Value.agg [.int .u64 o0,.int .u64 o1,.int .u64 o2,.int .u64 o3].toArray)=numV (TT.mulF a b):=by
 obtain⟨O0,rfl⟩:=Int.eq_ofNat_of_zero_le h0.1
 obtain⟨O1,rfl⟩:=Int.eq_ofNat_of_zero_le h1.1
 obtain⟨O2,rfl⟩:=Int.eq_ofNat_of_zero_le h2.1
 obtain⟨O3,rfl⟩:=Int.eq_ofNat_of_zero_le h3.1
 obtain⟨O4,rfl⟩:=Int.eq_ofNat_of_zero_le h4.1
 obtain⟨O5,rfl⟩:=Int.eq_ofNat_of_zero_le h5.1
 have hS:TT.mulS a b=O5+O4*cW+(O0*cW^3+O1*cW^2+O2*cW+O3)*cW^2:=by
  have e:((TT.mulS a b:Nat):Int)=vo O0 O1 O2 O3 O4 O5:=by
   rw[h]
   show ((TT.mulS a b:Nat):Int)=(lb a 3:Int)*lb b 1+(lb a 3:Int)*lb b 0*18446744073709551616+(lb a 2:Int)*lb b 2+(lb a 2:Int)*lb b 1*18446744073709551616+(lb a 2:Int)*lb b 0*340282366920938463463374607431768211456+(lb a 1:Int)*lb b 3+(lb a 1:Int)*lb b 2*18446744073709551616+(lb a 1:Int)*lb b 1*340282366920938463463374607431768211456+(lb a 1:Int)*lb b 0*6277101735386680763835789423207666416102355444464034512896+(lb a 0:Int)*lb b 3*18446744073709551616+(lb a 0:Int)*lb b 2*340282366920938463463374607431768211456+(lb a 0:Int)*lb b 1*6277101735386680763835789423207666416102355444464034512896+(lb a 0:Int)*lb b 0*115792089237316195423570985008687907853269984665640564039457584007913129639936
   unfold TT.mulS
   simp only[Int.natCast_add,Int.natCast_mul,Int.natCast_pow]
   generalize (lb a 0:Int)=x0;generalize (lb a 1:Int)=x1;generalize (lb a 2:Int)=x2;generalize (lb a 3:Int)=x3
   generalize (lb b 0:Int)=y0;generalize (lb b 1:Int)=y1;generalize (lb b 2:Int)=y2;generalize (lb b 3:Int)=y3
   have hc:((cW:Nat):Int)=18446744073709551616:=rfl
   rw[hc]
   grind
  have e2:((TT.mulS a b:Nat):Int)=((O5+O4*cW+(O0*cW^3+O1*cW^2+O2*cW+O3)*cW^2:Nat):Int):=by
   rw[e]
   unfold vo
   simp only[Int.natCast_add,Int.natCast_mul,Int.natCast_pow]
   have hc:((cW:Nat):Int)=18446744073709551616:=rfl
   rw[hc]
   grind
  exact Int.ofNat.inj e2
 have lt:∀{z:Nat},(z:Int)<18446744073709551616→z<cW:=fun {z} h=>by simp only[cW];omega
 have hq:TT.mulF a b=O0*cW^3+O1*cW^2+O2*cW+O3:=by
  unfold TT.mulF
  rw[hS,Nat.add_mul_div_right _ _ (by decide)]
  have hlt:O5+O4*cW<cW^2:=by
   have l5:=lt h5.2;have l4:=lt h4.2
   have:(O4+1)*cW≤cW*cW:=Nat.mul_le_mul_right _ l4
   rw[Nat.succ_mul] at this
   rw[Nat.pow_two];omega
  rw[Nat.div_eq_of_lt hlt,Nat.zero_add]
 exact num_val h0.1 h1.1 h2.1 h3.1 (TT.lb_eq (lt h0.2) (lt h1.2) (lt h2.2) (lt h3.2) hq)
end Go.Proofs.YtjmdeplmenbmmaaGreat
