/- Joined texts: Whr. -/
import Derived.Test.YtjmdeplmenbmmaaGreatW17
set_option linter.unusedVariables false
set_option maxHeartbeats 8000000
namespace Go.Proofs.YtjmdeplmenbmmaaGreat
open Go.RowKit
theorem Upd.splN {x z:Hl} (y:Hl) {H H':List Hl} (h:Upd x z H H'):∃H1,Upd x y H H1∧Upd y z H1 H':=by
 induction h with
 |here r=>exact⟨y::r,.here r,.here r⟩
 |there u _ ih =>
  obtain⟨H1,h1,h2⟩:=ih
  exact⟨u::H1,.there u h1,.there u h2⟩
theorem St.setCsN {w0:World} {b:Nat} {t:TypeId} : ∀(us:List Value) (o:Nat) (cs:List Value) (H H':List Hl) (w:World),St w0 H w→Upd (.blk b t cs) (.blk b t (setAt cs o us)) H H'→St w0 H' (w.setCells b o us)
 |[],o,cs,H,H',w,h,hu=>by
  have e:H'=H:=by
   induction hu with
   |here r=>rfl
   |there z h ih=>rw[ih (h:=St.sub ‹_› (List.sublist_cons_self _ _))]
  rw[e];exact h
 |u::r,o,cs,H,H',w,h,hu=>by
  obtain⟨H1,h1,h2⟩:=hu.splN (.blk b t (cs.set o u))
  exact St.setCsN r (o+1) (cs.set o u) H1 H' _ (h.setCell u h1) h2
section
variable {P:Program} {n:Nat} {L:FL} {w0:World} {H:List Hl} {Q:Exit→Act→World→Prop} {ops:Array Oper} {rest:List Oper} {ty:TypeId} {pos:String} {af:Array Edge} {gd:Option (Nat×Bool)} {x y:Operand} {t t':TypeId}
theorem x_storePt {b o k:Nat} {cs us:List Value} {H':List Hl} (hx:evO L x=some (.pointer (some ⟨b,o,none⟩))) (hy:evO L y=some (.agg us.toArray)) (hu:us.all (·.oneCell')=true)
  (hm:Upd (.blk b t' cs) (.blk b t' (setAt cs o us)) H H') (hk:us.length=k) (ho:Nat.ble (o+k) cs.length=true) (hs:rowB P t k=true):EX P n L w0 H ⟨none,.store t x y,ty,pos,af,gd⟩ (fun _:Unit=>True) (fun _=>L) (fun _=>H') :=
 EX.of_skip fun a w ha hw=>by
  have ho':o+k≤cs.length:=Nat.le_of_ble_eq_true ho
  have hadd:∀j,(⟨b,o,none⟩:Addr).add j=⟨b,o+j,none⟩:=fun j=>by unfold Addr.add;split<;>simp_all
  have hrun:=run_storeCells_cells (P:=P) b o us 0 w (fun j hj=>by
   rw[hw.cell hm.mem,List.getElem?_eq_getElem (by omega)];rfl) (fun j _=>hw.free hm.mem _) (fun u hu'=>List.all_eq_true.1 hu u hu')
  refine⟨w.setCells b o us,(),by simp[execOp,ha.eval hx,ha.eval hy,Instr.storeAt,Instr.sureAddr,storeVar,Value.cells,run_sizeOf_of (info_of_rowB hs),hk,hrun],trivial,rfl,St.setCsN us o cs H H' w hw hm⟩
theorem RS.storePt {b o k:Nat} {cs us:List Value} {H':List Hl} (h:RS P ops Q n L w0 H' rest) (hx:evO L x=some (.pointer (some ⟨b,o,none⟩))) (hy:evO L y=some (.agg us.toArray)) (hu:us.all (·.oneCell')=true)
  (hm:Upd (.blk b t' cs) (.blk b t' (setAt cs o us)) H H') (hk:us.length=k) (ho:Nat.ble (o+k) cs.length=true) (hs:rowB P t k=true):RS P ops Q n L w0 H (⟨none,.store t x y,ty,pos,af,none⟩::rest):=RS.actX rfl (x_storePt hx hy hu hm hk ho hs) fun _ _=>h
end
theorem y_nilNo {P:Program} {n:Nat} {L:FL} {w0:World} {H:List Hl} {d:Option Tmp} {ty t t' e:TypeId} {pos:String} {af:Array Edge} {g:Option (Nat×Bool)} {x y:Operand} {a0:Addr} (hx:evO L x=some (.pointer (some a0))) (hy:evO L y=some (.pointer none)) (ht:P.underlying t=some (.pointer e)):V P n L w0 H ⟨d,.binOp .eql t x y t',ty,pos,af,g⟩ (.bool false):=by
 unfold V
 intro a w ha hw
 have h:∀k:Nat,(Op.equalIn (k+1) t (.pointer (some a0)) (.pointer none)).run P w=.ok false w:=fun k=>by simp[Op.equalIn,run_underlying ht]
 simp[execOp,ha.eval hx,ha.eval hy,eqGuard,binOp,Op.equal,Op.maxDepth,h 9999]
theorem bk_ptr:Tryz.prog.underlying 34=some (.pointer 86):=by kernel_rfl
theorem nst_c {fv:Value} : Cont Tryz.prog 40 [.slice none 0 0,fv] (.int .i64 (-1)):=fun w=>by
 refine enter0 Tryz.func40 rfl rfl rfl ?_
 repeat' (first|(show G _ _ _ _ _ _ (.loop _);refine G.loopN 1 (GR.step ?_))|(show X (Exit.then (Code.rounds _ _ _ _) _) _ _ _ _ .normal;refine X.round (GR.step ?_))|(show VK _ _ _ _ _ ⟨_,.call { callee:=.builtin .len,args:=_,argTypes:=#[78] },_,_,_,_⟩ _;refine VK.mk (y_lenV (by rfl) (by decide +kernel)) ?_)|(show YK _ _ _ _ _ ⟨_,.call { callee:=.builtin .len,args:=_,argTypes:=#[78] },_,_,_,_⟩ _;refine YK.ofV (y_lenV (by rfl) (by decide +kernel)) ?_)|(show VG _ _ _ _ _ _ ⟨_,.call { callee:=.builtin .len,args:=_,argTypes:=#[78] },_,_,_,_⟩ _;refine VG.mk (fun hb=>by(try(have hc:=And.left hb;have hb:=And.right hb;rw[hc]));(try rw[hb]);exact y_lenV (by rfl) (by decide +kernel)) ?_)|(show YG _ _ _ _ _ _ ⟨_,.call { callee:=.builtin .len,args:=_,argTypes:=#[78] },_,_,_,_⟩ _;refine YG.mk (fun hb=>by(try(have hc:=And.left hb;have hb:=And.right hb;rw[hc]));(try rw[hb]);exact V.y (y_lenV (by rfl) (by decide +kernel))) ?_)|(refine nxV ?_)|(refine nSS ?_)|(refine nS1 fun _=>?_)|(refine nMM ?_)|(refine nM1 fun _=>?_)|(refine nxG ?_)|(refine nxX ?_)|(refine G.cN rfl (fun hc=>?_) (fun hc=>?_)<;>(try first|exact hc.elim|(exfalso;omega))))
 all_goals first
  |(exfalso;omega)
  |exact X.ret1
theorem RM.kn {P:Program} {n:Nat} {L:FL} {w0:World} {H HS:List Hl} {Q:Exit→Act→World→Prop} {ops:Array Oper} {ord:List Mv} {ps:List Pd} {b b':Bool} (g:Nat) (hg:lk L g=some (.bool b)) (hb:b=b') (h1:RM P ops Q HS n ps ((g,.bool b')::L) w0 H ord):RM P ops Q HS n ps L w0 H ord:=by
 subst hb
 refine RM.spl (p:=b=true) g (by rw[hg,Bool.decide_eq_true]) (fun h=>?_) (fun h=>?_)
 ·rw[←h];exact h1
 ·have h:b=false:=by simpa using h
  rw[←h];exact h1
section
variable {b:Nat} {dv pv:Sl} {pl:List PagT} {nm:List UInt8} {lo hi lon:Int}
theorem bod_err:(bodR pl nm lo hi).2=0∨bodR pl nm lo hi=(geo0,20):=by
 unfold bodR
 split
 ·exact dur_err
 split
 ·exact .inr rfl
 split
 ·exact .inr rfl
 ·exact .inl rfl
theorem nwhr_c (hB:BkOk pl):ContIn Tryz.prog (BkW b dv pv pl) 10 [ptB b,strV nm,arcV lo hi] (.tuple [geoV (whR pl nm lo hi).1,.int .i64 (whR pl nm lo hi).2].toArray):=fun w hw0=>by
 have hcl:=hw0.cell
 have q1:=nclk_c (a:=lo) (b:=hi)
 have q2:=fun fv=>nst_c (fv:=fv)
 unfold whR
 by_cases ht:timeOk lo hi
 ·rw[if_neg (by simpa using ht)]
  have ht2:=ht
  obtain⟨ht3,ht4,ht5⟩:=ht2
  rw[decide_eq_true ht] at q1
  have q3:=ntrk_c (b:=b) (dv:=dv) (pv:=pv) (pl:=pl) ⟨hB.len,fun p hp=>(hB.ok p hp).1⟩
  have q4:=fun(z:Sl) (l:List (List UInt8)) (h:l.length≤1000000)=>nin_c z.v l nm h
  by_cases ha:nm=ariesN
  ·have hd:decide (nm=[65,114,105,101,115])=true:=decide_eq_true ha
   rw[if_neg (by rintro⟨g,_⟩;exact g ha)]
   by_cases hw:86400000≤hi-lo
   ·rw[if_pos hw]
    refine enter0 Tryz.func10 rfl rfl rfl ?_
    repeat' (first|(show YK _ _ _ _ _ ⟨_,.call { callee:=.builtin .len,args:=_,argTypes:=#[9] },_,_,_,_⟩ _;refine YK.ofV (y_lenS (by rfl) StrTy.is) ?_)|(show VK _ _ _ _ _ ⟨_,.call { callee:=.builtin .len,args:=_,argTypes:=#[9] },_,_,_,_⟩ _;refine VK.mk (y_lenS (by rfl) StrTy.is) ?_)|(show YG _ _ _ _ _ _ ⟨_,.call { callee:=.builtin .len,args:=_,argTypes:=#[9] },_,_,_,_⟩ _;refine YG.mk (fun hb=>by(try(have hc:=And.left hb;have hb:=And.right hb;rw[hc]));(try rw[hb]);exact V.y (y_lenS (by rfl) StrTy.is)) ?_)|(show VG _ _ _ _ _ _ ⟨_,.call { callee:=.builtin .len,args:=_,argTypes:=#[9] },_,_,_,_⟩ _;refine VG.mk (fun hb=>by(try(have hc:=And.left hb;have hb:=And.right hb;rw[hc]));(try rw[hb]);exact y_lenS (by rfl) StrTy.is) ?_)|(refine nxN ?_)|(show YK _ _ _ _ _ ⟨_,.binOp .eql _ _ (.const (.pointer none)) _,_,_,_,_⟩ _;refine YK.ofV (y_nilNo (by rfl) (by rfl) bk_ptr) ?_)|(show VK _ _ _ _ _ ⟨_,.load 78 _,_,_,_,_⟩ _;refine VK.mk (y_loadX (by rfl) (hcl _ _ (by rfl)) (by decide +kernel)) ?_)|(show YK _ _ _ _ _ ⟨_,.load 78 _,_,_,_,_⟩ _;refine YK.ofV (y_loadX (by rfl) (hcl _ _ (by rfl)) (by decide +kernel)) ?_)|(show VG _ _ _ _ _ _ ⟨_,.load 78 _,_,_,_,_⟩ _;refine VG.mk (fun hb=>by(try(have hc:=And.left hb;have hb:=And.right hb;rw[hc]));(try rw[hb]);exact y_loadX (by rfl) (hcl _ _ (by rfl)) (by decide +kernel)) ?_)|(show YG _ _ _ _ _ _ ⟨_,.load 78 _,_,_,_,_⟩ _;refine YG.mk (fun hb=>by(try(have hc:=And.left hb;have hb:=And.right hb;rw[hc]));(try rw[hb]);exact V.y (y_loadX (by rfl) (hcl _ _ (by rfl)) (by decide +kernel))) ?_)|(show YK _ _ _ _ _ ⟨_,.build 45 #[],_,_,_,_⟩ _;refine YK.ofV (y_build (parts:=[]) (vs:=[]) (by rfl) geo_z) ?_)|(show RM _ _ _ _ _ _ ((26,.bool (!_))::_) _ _ _;refine RM.kn 26 rfl (b':=false) (by simp;exact ha) ?_)|(show YK _ _ _ _ _ _ _;first|refine YK.mk (zcA (q1) ⟨rfl,rfl⟩) ?_|refine YK.mk (zcA (q2 _) ⟨rfl,rfl,rfl⟩) ?_)|(refine nxV ?_)|(refine nSS ?_)|(refine nS1 fun _=>?_)|(refine nMM ?_)|(refine nM1 fun _=>?_)|(show YG _ _ _ _ _ _ _ _;refine YG.mk (fun hb=>by(try(have hc:=And.left hb;have hb:=And.right hb;rw[hc]));(try rw[hb]);first|exact(zcA (q1) ⟨rfl,rfl⟩)|exact(zcA (q2 _) ⟨rfl,rfl,rfl⟩)|exact V.y vAuto) ?_)|(refine nxG ?_)|(refine nxVS ?_)|(refine nxGS ?_)|(refine G.mA 4 [.go 0,.go 1,.go 2,.go 3,.go 4,.go 5,.go 6,.go 7,.go 9,.go 8,.go 10,.go 11,.go 12] ?_)|(refine G.mA 14 [.go 0,.go 1,.go 2,.go 3,.go 4,.go 5,.go 6,.go 7,.go 8,.go 9,.go 10,.go 11,.go 12,.go 13] ?_)|(refine nxX ?_)|(refine G.cN rfl (fun hc=>?_) (fun hc=>?_)<;>(try first|exact hc.elim|(exfalso;omega))))
    all_goals first
     |(exfalso;omega)
     |(exfalso;simp at hc;done)
     |exact X.ret (vs:=[_,_]) rfl ⟨⟨_,_,_,_,rfl,(by exact memA),lenA,by decide +kernel,rfl⟩,rfl,rfl⟩ rfl rE
   ·rw[if_neg hw,if_pos ha]
    have q5:=nintv_c ht
    generalize NO.betA lo hi=R at *
    refine enter0 Tryz.func10 rfl rfl rfl ?_
    repeat' (first|(show YK _ _ _ _ _ ⟨_,.call { callee:=.builtin .len,args:=_,argTypes:=#[9] },_,_,_,_⟩ _;refine YK.ofV (y_lenS (by rfl) StrTy.is) ?_)|(show VK _ _ _ _ _ ⟨_,.call { callee:=.builtin .len,args:=_,argTypes:=#[9] },_,_,_,_⟩ _;refine VK.mk (y_lenS (by rfl) StrTy.is) ?_)|(show YG _ _ _ _ _ _ ⟨_,.call { callee:=.builtin .len,args:=_,argTypes:=#[9] },_,_,_,_⟩ _;refine YG.mk (fun hb=>by(try(have hc:=And.left hb;have hb:=And.right hb;rw[hc]));(try rw[hb]);exact V.y (y_lenS (by rfl) StrTy.is)) ?_)|(show VG _ _ _ _ _ _ ⟨_,.call { callee:=.builtin .len,args:=_,argTypes:=#[9] },_,_,_,_⟩ _;refine VG.mk (fun hb=>by(try(have hc:=And.left hb;have hb:=And.right hb;rw[hc]));(try rw[hb]);exact y_lenS (by rfl) StrTy.is) ?_)|(refine nxN ?_)|(show YK _ _ _ _ _ ⟨_,.binOp .eql _ _ (.const (.pointer none)) _,_,_,_,_⟩ _;refine YK.ofV (y_nilNo (by rfl) (by rfl) bk_ptr) ?_)|(show VK _ _ _ _ _ ⟨_,.load 78 _,_,_,_,_⟩ _;refine VK.mk (y_loadX (by rfl) (hcl _ _ (by rfl)) (by decide +kernel)) ?_)|(show YK _ _ _ _ _ ⟨_,.load 78 _,_,_,_,_⟩ _;refine YK.ofV (y_loadX (by rfl) (hcl _ _ (by rfl)) (by decide +kernel)) ?_)|(show VG _ _ _ _ _ _ ⟨_,.load 78 _,_,_,_,_⟩ _;refine VG.mk (fun hb=>by(try(have hc:=And.left hb;have hb:=And.right hb;rw[hc]));(try rw[hb]);exact y_loadX (by rfl) (hcl _ _ (by rfl)) (by decide +kernel)) ?_)|(show YG _ _ _ _ _ _ ⟨_,.load 78 _,_,_,_,_⟩ _;refine YG.mk (fun hb=>by(try(have hc:=And.left hb;have hb:=And.right hb;rw[hc]));(try rw[hb]);exact V.y (y_loadX (by rfl) (hcl _ _ (by rfl)) (by decide +kernel))) ?_)|(show YK _ _ _ _ _ ⟨_,.build 45 #[],_,_,_,_⟩ _;refine YK.ofV (y_build (parts:=[]) (vs:=[]) (by rfl) geo_z) ?_)|(show RM _ _ _ _ _ _ ((26,.bool (!_))::_) _ _ _;refine RM.kn 26 rfl (b':=false) (by simp;exact ha) ?_)|(show RS _ _ _ _ _ _ _ (⟨none,.store 42 _ _,_,_,_,_⟩::_);refine RS.storePt (k:=2) ?_ (by rfl) (by rfl) (by rfl) (by exact updA) (by rfl) (by rfl) (by decide +kernel);try simp only[setAt,List.set_cons_zero,List.set_cons_succ])|(show YK _ _ _ _ _ _ _;first|refine YK.mk (zcA (q1) ⟨rfl,rfl⟩) ?_|refine YK.mk (zcA (q2 _) ⟨rfl,rfl,rfl⟩) ?_|refine YK.mk (zcA (q5) ⟨rfl,rfl⟩) ?_)|(refine nxV ?_)|(refine nSS ?_)|(refine nS1 fun _=>?_)|(refine nMM ?_)|(refine nM1 fun _=>?_)|(show YG _ _ _ _ _ _ _ _;refine YG.mk (fun hb=>by(try(have hc:=And.left hb;have hb:=And.right hb;rw[hc]));(try rw[hb]);first|exact(zcA (q1) ⟨rfl,rfl⟩)|exact(zcA (q2 _) ⟨rfl,rfl,rfl⟩)|exact(zcA (q5) ⟨rfl,rfl⟩)|exact V.y vAuto) ?_)|(refine nxG ?_)|(refine nxVS ?_)|(refine nxGS ?_)|(refine G.mA 4 [.go 0,.go 1,.go 2,.go 3,.go 4,.go 5,.go 6,.go 7,.go 9,.go 8,.go 10,.go 11,.go 12] ?_)|(refine G.mA 14 [.go 0,.go 1,.go 2,.go 3,.go 4,.go 5,.go 6,.go 7,.go 8,.go 9,.go 10,.go 11,.go 12,.go 13] ?_)|(refine nxX ?_)|(refine G.cN rfl (fun hc=>?_) (fun hc=>?_)<;>(try first|exact hc.elim|(exfalso;omega))))
    all_goals first
     |(exfalso;omega)
     |(exfalso;simp at hc;done)
     |(exfalso;exact absurd ha (by assumption))
     |exact X.ret (vs:=[_,_]) rfl ⟨⟨_,_,_,_,rfl,(by exact memA),lenA,by decide +kernel,rfl⟩,rfl,rfl⟩ rfl rE
  ·have hd:decide (nm=[65,114,105,101,115])=false:=decide_eq_false ha
   by_cases hin:nm∈namesL pl
   ·rw[if_neg (by rintro⟨_,g⟩;exact g hin)]
    by_cases hw:86400000≤hi-lo
    ·rw[if_pos hw]
     refine enter0 Tryz.func10 rfl rfl rfl ?_
     repeat' (first|(show YK _ _ _ _ _ ⟨_,.call { callee:=.builtin .len,args:=_,argTypes:=#[9] },_,_,_,_⟩ _;refine YK.ofV (y_lenS (by rfl) StrTy.is) ?_)|(show VK _ _ _ _ _ ⟨_,.call { callee:=.builtin .len,args:=_,argTypes:=#[9] },_,_,_,_⟩ _;refine VK.mk (y_lenS (by rfl) StrTy.is) ?_)|(show YG _ _ _ _ _ _ ⟨_,.call { callee:=.builtin .len,args:=_,argTypes:=#[9] },_,_,_,_⟩ _;refine YG.mk (fun hb=>by(try(have hc:=And.left hb;have hb:=And.right hb;rw[hc]));(try rw[hb]);exact V.y (y_lenS (by rfl) StrTy.is)) ?_)|(show VG _ _ _ _ _ _ ⟨_,.call { callee:=.builtin .len,args:=_,argTypes:=#[9] },_,_,_,_⟩ _;refine VG.mk (fun hb=>by(try(have hc:=And.left hb;have hb:=And.right hb;rw[hc]));(try rw[hb]);exact y_lenS (by rfl) StrTy.is) ?_)|(refine nxN ?_)|(show YK _ _ _ _ _ ⟨_,.binOp .eql _ _ (.const (.pointer none)) _,_,_,_,_⟩ _;refine YK.ofV (y_nilNo (by rfl) (by rfl) bk_ptr) ?_)|(show VK _ _ _ _ _ ⟨_,.load 78 _,_,_,_,_⟩ _;refine VK.mk (y_loadX (by rfl) (hcl _ _ (by rfl)) (by decide +kernel)) ?_)|(show YK _ _ _ _ _ ⟨_,.load 78 _,_,_,_,_⟩ _;refine YK.ofV (y_loadX (by rfl) (hcl _ _ (by rfl)) (by decide +kernel)) ?_)|(show VG _ _ _ _ _ _ ⟨_,.load 78 _,_,_,_,_⟩ _;refine VG.mk (fun hb=>by(try(have hc:=And.left hb;have hb:=And.right hb;rw[hc]));(try rw[hb]);exact y_loadX (by rfl) (hcl _ _ (by rfl)) (by decide +kernel)) ?_)|(show YG _ _ _ _ _ _ ⟨_,.load 78 _,_,_,_,_⟩ _;refine YG.mk (fun hb=>by(try(have hc:=And.left hb;have hb:=And.right hb;rw[hc]));(try rw[hb]);exact V.y (y_loadX (by rfl) (hcl _ _ (by rfl)) (by decide +kernel))) ?_)|(show YK _ _ _ _ _ ⟨_,.build 45 #[],_,_,_,_⟩ _;refine YK.ofV (y_build (parts:=[]) (vs:=[]) (by rfl) geo_z) ?_)|(show RM _ _ _ _ _ _ ((26,.bool (!_))::_) _ _ _;refine RM.kn 26 rfl (b':=true) (by simp;exact ha) ?_)|(show RM _ _ _ _ _ _ ((30,.bool (decide _))::_) _ _ _;refine RM.kn 30 rfl (b':=true) (by decide) ?_)|(show RM _ _ _ _ _ _ _ _ _ (.go 8::_);refine RM.callXIG (by rfl) (by rfl) (by rfl) q3 (fun w' hw'=>hw0.keep hw'.ext) (by exact⟨rfl,rfl⟩) ?_ (by exact fun _ _ h=>h.sub (by(first|exact List.Sublist.refl _|exact .cons _ (List.Sublist.refl _)|exact .cons _ (.cons _ (List.Sublist.refl _))|exact .cons _ (.cons _ (.cons _ (List.Sublist.refl _)))|exact .cons _ (.cons _ (.cons _ (.cons _ (List.Sublist.refl _))))|exact .cons _ (.cons _ (.cons _ (.cons _ (.cons _ (List.Sublist.refl _)))))|exact .cons _ (.cons _ (.cons _ (.cons _ (.cons _ (.cons _ (List.Sublist.refl _))))))|exact .cons _ (.cons _ (.cons _ (.cons _ (.cons _ (.cons _ (.cons _ (List.Sublist.refl _)))))))|exact .cons _ (.cons _ (.cons _ (.cons _ (.cons _ (.cons _ (.cons _ (.cons _ (List.Sublist.refl _))))))))))) (by decide +kernel) (by rfl);rintro z ⟨hz1,hz2⟩;dsimp only[List.cons_append,List.nil_append])|(show YK _ _ _ _ _ _ _;first|refine YK.mk (zcA (q1) ⟨rfl,rfl⟩) ?_|refine YK.mk (zcA (q2 _) ⟨rfl,rfl,rfl⟩) ?_|refine YK.mk (zcR (q4 _ _ hz2) ⟨rfl,rfl,rfl⟩) ?_)|(refine nxV ?_)|(refine nSS ?_)|(refine nS1 fun _=>?_)|(refine nMM ?_)|(refine nM1 fun _=>?_)|(show YG _ _ _ _ _ _ _ _;refine YG.mk (fun hb=>by(try(have hc:=And.left hb;have hb:=And.right hb;rw[hc]));(try rw[hb]);first|exact(zcA (q1) ⟨rfl,rfl⟩)|exact(zcA (q2 _) ⟨rfl,rfl,rfl⟩)|exact(zcR (q4 _ _ hz2) ⟨rfl,rfl,rfl⟩)|exact V.y vAuto) ?_)|(refine nxG ?_)|(refine nxVS ?_)|(refine nxGS ?_)|(refine G.mA 4 [.go 0,.go 1,.go 2,.go 3,.go 4,.go 5,.go 6,.go 7,.go 9,.go 8,.go 10,.go 11,.go 12] ?_)|(refine G.mA 14 [.go 0,.go 1,.go 2,.go 3,.go 4,.go 5,.go 6,.go 7,.go 8,.go 9,.go 10,.go 11,.go 12,.go 13] ?_)|(refine nxX ?_)|(refine G.cN rfl (fun hc=>?_) (fun hc=>?_)<;>(try first|exact hc.elim|(exfalso;omega))))
     all_goals first
      |(exfalso;omega)
      |(exfalso;simp at hc;done)
      |(exfalso;exact hc ((hz1 _).2 hin))
      |exact X.ret (vs:=[_,_]) rfl ⟨⟨_,_,_,_,rfl,(by exact memA),lenA,by decide +kernel,rfl⟩,rfl,rfl⟩ rfl rE
    ·rw[if_neg hw,if_neg ha]
     have q5:=nbody_c (b:=b) (dv:=dv) (pv:=pv) (nm:=nm) hB ht (by omega)
     have he:=bod_err (pl:=pl) (nm:=nm) (lo:=lo) (hi:=hi)
     generalize bodR pl nm lo hi=R at *
     rcases he with he|rfl
     ·obtain⟨g,e⟩:=R
      dsimp only at he
      subst he
      dsimp only at q5 ⊢
      refine enter0 Tryz.func10 rfl rfl rfl ?_
      repeat' (first|(show YK _ _ _ _ _ ⟨_,.call { callee:=.builtin .len,args:=_,argTypes:=#[9] },_,_,_,_⟩ _;refine YK.ofV (y_lenS (by rfl) StrTy.is) ?_)|(show VK _ _ _ _ _ ⟨_,.call { callee:=.builtin .len,args:=_,argTypes:=#[9] },_,_,_,_⟩ _;refine VK.mk (y_lenS (by rfl) StrTy.is) ?_)|(show YG _ _ _ _ _ _ ⟨_,.call { callee:=.builtin .len,args:=_,argTypes:=#[9] },_,_,_,_⟩ _;refine YG.mk (fun hb=>by(try(have hc:=And.left hb;have hb:=And.right hb;rw[hc]));(try rw[hb]);exact V.y (y_lenS (by rfl) StrTy.is)) ?_)|(show VG _ _ _ _ _ _ ⟨_,.call { callee:=.builtin .len,args:=_,argTypes:=#[9] },_,_,_,_⟩ _;refine VG.mk (fun hb=>by(try(have hc:=And.left hb;have hb:=And.right hb;rw[hc]));(try rw[hb]);exact y_lenS (by rfl) StrTy.is) ?_)|(refine nxN ?_)|(show YK _ _ _ _ _ ⟨_,.binOp .eql _ _ (.const (.pointer none)) _,_,_,_,_⟩ _;refine YK.ofV (y_nilNo (by rfl) (by rfl) bk_ptr) ?_)|(show VK _ _ _ _ _ ⟨_,.load 78 _,_,_,_,_⟩ _;refine VK.mk (y_loadX (by rfl) (hcl _ _ (by rfl)) (by decide +kernel)) ?_)|(show YK _ _ _ _ _ ⟨_,.load 78 _,_,_,_,_⟩ _;refine YK.ofV (y_loadX (by rfl) (hcl _ _ (by rfl)) (by decide +kernel)) ?_)|(show VG _ _ _ _ _ _ ⟨_,.load 78 _,_,_,_,_⟩ _;refine VG.mk (fun hb=>by(try(have hc:=And.left hb;have hb:=And.right hb;rw[hc]));(try rw[hb]);exact y_loadX (by rfl) (hcl _ _ (by rfl)) (by decide +kernel)) ?_)|(show YG _ _ _ _ _ _ ⟨_,.load 78 _,_,_,_,_⟩ _;refine YG.mk (fun hb=>by(try(have hc:=And.left hb;have hb:=And.right hb;rw[hc]));(try rw[hb]);exact V.y (y_loadX (by rfl) (hcl _ _ (by rfl)) (by decide +kernel))) ?_)|(show YK _ _ _ _ _ ⟨_,.build 45 #[],_,_,_,_⟩ _;refine YK.ofV (y_build (parts:=[]) (vs:=[]) (by rfl) geo_z) ?_)|(show RM _ _ _ _ _ _ ((26,.bool (!_))::_) _ _ _;refine RM.kn 26 rfl (b':=true) (by simp;exact ha) ?_)|(show RM _ _ _ _ _ _ ((30,.bool (decide _))::_) _ _ _;refine RM.kn 30 rfl (b':=true) (by decide) ?_)|(show RM _ _ _ _ _ _ _ _ _ (.go 8::_);refine RM.callXIG (by rfl) (by rfl) (by rfl) q3 (fun w' hw'=>hw0.keep hw'.ext) (by exact⟨rfl,rfl⟩) ?_ (by exact fun _ _ h=>h.sub (by(first|exact List.Sublist.refl _|exact .cons _ (List.Sublist.refl _)|exact .cons _ (.cons _ (List.Sublist.refl _))|exact .cons _ (.cons _ (.cons _ (List.Sublist.refl _)))|exact .cons _ (.cons _ (.cons _ (.cons _ (List.Sublist.refl _))))|exact .cons _ (.cons _ (.cons _ (.cons _ (.cons _ (List.Sublist.refl _)))))|exact .cons _ (.cons _ (.cons _ (.cons _ (.cons _ (.cons _ (List.Sublist.refl _))))))|exact .cons _ (.cons _ (.cons _ (.cons _ (.cons _ (.cons _ (.cons _ (List.Sublist.refl _)))))))|exact .cons _ (.cons _ (.cons _ (.cons _ (.cons _ (.cons _ (.cons _ (.cons _ (List.Sublist.refl _))))))))))) (by decide +kernel) (by rfl);rintro z ⟨hz1,hz2⟩;dsimp only[List.cons_append,List.nil_append])|(show YK _ _ _ _ _ ⟨_,.call { callee:=.value (.func 44),args:=_,argTypes:=_ },_,_,_,_⟩ _;refine YK.mk (zcI (q5) (fun w' hw'=>hw0.keep hw'.ext) ⟨rfl,rfl,rfl,rfl⟩ (by decide +kernel)) ?_)|(show YG _ _ _ _ _ _ ⟨_,.call { callee:=.value (.func 44),args:=_,argTypes:=_ },_,_,_,_⟩ _;refine YG.mk (fun hb=>by(try(have hc:=And.left hb;have hb:=And.right hb;rw[hc]));(try rw[hb]);exact zcI (q5) (fun w' hw'=>hw0.keep hw'.ext) ⟨rfl,rfl,rfl,rfl⟩ (by decide +kernel)) ?_)|(show YK _ _ _ _ _ _ _;first|refine YK.mk (zcA (q1) ⟨rfl,rfl⟩) ?_|refine YK.mk (zcA (q2 _) ⟨rfl,rfl,rfl⟩) ?_|refine YK.mk (zcR (q4 _ _ hz2) ⟨rfl,rfl,rfl⟩) ?_)|(refine nxV ?_)|(refine nSS ?_)|(refine nS1 fun _=>?_)|(refine nMM ?_)|(refine nM1 fun _=>?_)|(show YG _ _ _ _ _ _ _ _;refine YG.mk (fun hb=>by(try(have hc:=And.left hb;have hb:=And.right hb;rw[hc]));(try rw[hb]);first|exact(zcA (q1) ⟨rfl,rfl⟩)|exact(zcA (q2 _) ⟨rfl,rfl,rfl⟩)|exact(zcR (q4 _ _ hz2) ⟨rfl,rfl,rfl⟩)|exact V.y vAuto) ?_)|(refine nxG ?_)|(refine nxVS ?_)|(refine nxGS ?_)|(refine G.mA 4 [.go 0,.go 1,.go 2,.go 3,.go 4,.go 5,.go 6,.go 7,.go 9,.go 8,.go 10,.go 11,.go 12] ?_)|(refine G.mA 14 [.go 0,.go 1,.go 2,.go 3,.go 4,.go 5,.go 6,.go 7,.go 8,.go 9,.go 10,.go 11,.go 12,.go 13] ?_)|(refine nxX ?_)|(refine G.cN rfl (fun hc=>?_) (fun hc=>?_)<;>(try first|exact hc.elim|(exfalso;omega))))
      all_goals first
       |(exfalso;omega)
       |(exfalso;simp at hc;done)
       |(exfalso;exact absurd (by assumption) ha)
       |(exfalso;exact hc ((hz1 _).2 hin))
       |exact X.ret (vs:=[_,_]) rfl ⟨⟨_,_,_,_,rfl,(by exact memA),lenA,by decide +kernel,rfl⟩,rfl,rfl⟩ rfl rE
     ·dsimp only at q5 ⊢
      refine enter0 Tryz.func10 rfl rfl rfl ?_
      repeat' (first|(show YK _ _ _ _ _ ⟨_,.call { callee:=.builtin .len,args:=_,argTypes:=#[9] },_,_,_,_⟩ _;refine YK.ofV (y_lenS (by rfl) StrTy.is) ?_)|(show VK _ _ _ _ _ ⟨_,.call { callee:=.builtin .len,args:=_,argTypes:=#[9] },_,_,_,_⟩ _;refine VK.mk (y_lenS (by rfl) StrTy.is) ?_)|(show YG _ _ _ _ _ _ ⟨_,.call { callee:=.builtin .len,args:=_,argTypes:=#[9] },_,_,_,_⟩ _;refine YG.mk (fun hb=>by(try(have hc:=And.left hb;have hb:=And.right hb;rw[hc]));(try rw[hb]);exact V.y (y_lenS (by rfl) StrTy.is)) ?_)|(show VG _ _ _ _ _ _ ⟨_,.call { callee:=.builtin .len,args:=_,argTypes:=#[9] },_,_,_,_⟩ _;refine VG.mk (fun hb=>by(try(have hc:=And.left hb;have hb:=And.right hb;rw[hc]));(try rw[hb]);exact y_lenS (by rfl) StrTy.is) ?_)|(refine nxN ?_)|(show YK _ _ _ _ _ ⟨_,.binOp .eql _ _ (.const (.pointer none)) _,_,_,_,_⟩ _;refine YK.ofV (y_nilNo (by rfl) (by rfl) bk_ptr) ?_)|(show VK _ _ _ _ _ ⟨_,.load 78 _,_,_,_,_⟩ _;refine VK.mk (y_loadX (by rfl) (hcl _ _ (by rfl)) (by decide +kernel)) ?_)|(show YK _ _ _ _ _ ⟨_,.load 78 _,_,_,_,_⟩ _;refine YK.ofV (y_loadX (by rfl) (hcl _ _ (by rfl)) (by decide +kernel)) ?_)|(show VG _ _ _ _ _ _ ⟨_,.load 78 _,_,_,_,_⟩ _;refine VG.mk (fun hb=>by(try(have hc:=And.left hb;have hb:=And.right hb;rw[hc]));(try rw[hb]);exact y_loadX (by rfl) (hcl _ _ (by rfl)) (by decide +kernel)) ?_)|(show YG _ _ _ _ _ _ ⟨_,.load 78 _,_,_,_,_⟩ _;refine YG.mk (fun hb=>by(try(have hc:=And.left hb;have hb:=And.right hb;rw[hc]));(try rw[hb]);exact V.y (y_loadX (by rfl) (hcl _ _ (by rfl)) (by decide +kernel))) ?_)|(show YK _ _ _ _ _ ⟨_,.build 45 #[],_,_,_,_⟩ _;refine YK.ofV (y_build (parts:=[]) (vs:=[]) (by rfl) geo_z) ?_)|(show RM _ _ _ _ _ _ ((26,.bool (!_))::_) _ _ _;refine RM.kn 26 rfl (b':=true) (by simp;exact ha) ?_)|(show RM _ _ _ _ _ _ ((30,.bool (decide _))::_) _ _ _;refine RM.kn 30 rfl (b':=true) (by decide) ?_)|(show RM _ _ _ _ _ _ _ _ _ (.go 8::_);refine RM.callXIG (by rfl) (by rfl) (by rfl) q3 (fun w' hw'=>hw0.keep hw'.ext) (by exact⟨rfl,rfl⟩) ?_ (by exact fun _ _ h=>h.sub (by(first|exact List.Sublist.refl _|exact .cons _ (List.Sublist.refl _)|exact .cons _ (.cons _ (List.Sublist.refl _))|exact .cons _ (.cons _ (.cons _ (List.Sublist.refl _)))|exact .cons _ (.cons _ (.cons _ (.cons _ (List.Sublist.refl _))))|exact .cons _ (.cons _ (.cons _ (.cons _ (.cons _ (List.Sublist.refl _)))))|exact .cons _ (.cons _ (.cons _ (.cons _ (.cons _ (.cons _ (List.Sublist.refl _))))))|exact .cons _ (.cons _ (.cons _ (.cons _ (.cons _ (.cons _ (.cons _ (List.Sublist.refl _)))))))|exact .cons _ (.cons _ (.cons _ (.cons _ (.cons _ (.cons _ (.cons _ (.cons _ (List.Sublist.refl _))))))))))) (by decide +kernel) (by rfl);rintro z ⟨hz1,hz2⟩;dsimp only[List.cons_append,List.nil_append])|(show YK _ _ _ _ _ ⟨_,.call { callee:=.value (.func 44),args:=_,argTypes:=_ },_,_,_,_⟩ _;refine YK.mk (zcI (q5) (fun w' hw'=>hw0.keep hw'.ext) ⟨rfl,rfl,rfl,rfl⟩ (by decide +kernel)) ?_)|(show YG _ _ _ _ _ _ ⟨_,.call { callee:=.value (.func 44),args:=_,argTypes:=_ },_,_,_,_⟩ _;refine YG.mk (fun hb=>by(try(have hc:=And.left hb;have hb:=And.right hb;rw[hc]));(try rw[hb]);exact zcI (q5) (fun w' hw'=>hw0.keep hw'.ext) ⟨rfl,rfl,rfl,rfl⟩ (by decide +kernel)) ?_)|(show YK _ _ _ _ _ _ _;first|refine YK.mk (zcA (q1) ⟨rfl,rfl⟩) ?_|refine YK.mk (zcA (q2 _) ⟨rfl,rfl,rfl⟩) ?_|refine YK.mk (zcR (q4 _ _ hz2) ⟨rfl,rfl,rfl⟩) ?_)|(refine nxV ?_)|(refine nSS ?_)|(refine nS1 fun _=>?_)|(refine nMM ?_)|(refine nM1 fun _=>?_)|(show YG _ _ _ _ _ _ _ _;refine YG.mk (fun hb=>by(try(have hc:=And.left hb;have hb:=And.right hb;rw[hc]));(try rw[hb]);first|exact(zcA (q1) ⟨rfl,rfl⟩)|exact(zcA (q2 _) ⟨rfl,rfl,rfl⟩)|exact(zcR (q4 _ _ hz2) ⟨rfl,rfl,rfl⟩)|exact V.y vAuto) ?_)|(refine nxG ?_)|(refine nxVS ?_)|(refine nxGS ?_)|(refine G.mA 4 [.go 0,.go 1,.go 2,.go 3,.go 4,.go 5,.go 6,.go 7,.go 9,.go 8,.go 10,.go 11,.go 12] ?_)|(refine G.mA 14 [.go 0,.go 1,.go 2,.go 3,.go 4,.go 5,.go 6,.go 7,.go 8,.go 9,.go 10,.go 11,.go 12,.go 13] ?_)|(refine nxX ?_)|(refine G.cN rfl (fun hc=>?_) (fun hc=>?_)<;>(try first|exact hc.elim|(exfalso;omega))))
      all_goals first
       |(exfalso;omega)
       |(exfalso;simp at hc;done)
       |(exfalso;exact absurd (by assumption) ha)
       |(exfalso;exact hc ((hz1 _).2 hin))
       |exact X.ret (vs:=[_,_]) rfl ⟨⟨_,_,_,_,rfl,(by exact memA),lenA,by decide +kernel,rfl⟩,rfl,rfl⟩ rfl rE
   ·rw[if_pos ⟨ha,hin⟩]
    refine enter0 Tryz.func10 rfl rfl rfl ?_
    repeat' (first|(show YK _ _ _ _ _ ⟨_,.call { callee:=.builtin .len,args:=_,argTypes:=#[9] },_,_,_,_⟩ _;refine YK.ofV (y_lenS (by rfl) StrTy.is) ?_)|(show VK _ _ _ _ _ ⟨_,.call { callee:=.builtin .len,args:=_,argTypes:=#[9] },_,_,_,_⟩ _;refine VK.mk (y_lenS (by rfl) StrTy.is) ?_)|(show YG _ _ _ _ _ _ ⟨_,.call { callee:=.builtin .len,args:=_,argTypes:=#[9] },_,_,_,_⟩ _;refine YG.mk (fun hb=>by(try(have hc:=And.left hb;have hb:=And.right hb;rw[hc]));(try rw[hb]);exact V.y (y_lenS (by rfl) StrTy.is)) ?_)|(show VG _ _ _ _ _ _ ⟨_,.call { callee:=.builtin .len,args:=_,argTypes:=#[9] },_,_,_,_⟩ _;refine VG.mk (fun hb=>by(try(have hc:=And.left hb;have hb:=And.right hb;rw[hc]));(try rw[hb]);exact y_lenS (by rfl) StrTy.is) ?_)|(refine nxN ?_)|(show YK _ _ _ _ _ ⟨_,.binOp .eql _ _ (.const (.pointer none)) _,_,_,_,_⟩ _;refine YK.ofV (y_nilNo (by rfl) (by rfl) bk_ptr) ?_)|(show VK _ _ _ _ _ ⟨_,.load 78 _,_,_,_,_⟩ _;refine VK.mk (y_loadX (by rfl) (hcl _ _ (by rfl)) (by decide +kernel)) ?_)|(show YK _ _ _ _ _ ⟨_,.load 78 _,_,_,_,_⟩ _;refine YK.ofV (y_loadX (by rfl) (hcl _ _ (by rfl)) (by decide +kernel)) ?_)|(show VG _ _ _ _ _ _ ⟨_,.load 78 _,_,_,_,_⟩ _;refine VG.mk (fun hb=>by(try(have hc:=And.left hb;have hb:=And.right hb;rw[hc]));(try rw[hb]);exact y_loadX (by rfl) (hcl _ _ (by rfl)) (by decide +kernel)) ?_)|(show YG _ _ _ _ _ _ ⟨_,.load 78 _,_,_,_,_⟩ _;refine YG.mk (fun hb=>by(try(have hc:=And.left hb;have hb:=And.right hb;rw[hc]));(try rw[hb]);exact V.y (y_loadX (by rfl) (hcl _ _ (by rfl)) (by decide +kernel))) ?_)|(show YK _ _ _ _ _ ⟨_,.build 45 #[],_,_,_,_⟩ _;refine YK.ofV (y_build (parts:=[]) (vs:=[]) (by rfl) geo_z) ?_)|(show RM _ _ _ _ _ _ ((26,.bool (!_))::_) _ _ _;refine RM.kn 26 rfl (b':=true) (by simp;exact ha) ?_)|(show RM _ _ _ _ _ _ ((30,.bool (decide _))::_) _ _ _;refine RM.kn 30 rfl (b':=true) (by decide) ?_)|(show RM _ _ _ _ _ _ _ _ _ (.go 8::_);refine RM.callXIG (by rfl) (by rfl) (by rfl) q3 (fun w' hw'=>hw0.keep hw'.ext) (by exact⟨rfl,rfl⟩) ?_ (by exact fun _ _ h=>h.sub (by(first|exact List.Sublist.refl _|exact .cons _ (List.Sublist.refl _)|exact .cons _ (.cons _ (List.Sublist.refl _))|exact .cons _ (.cons _ (.cons _ (List.Sublist.refl _)))|exact .cons _ (.cons _ (.cons _ (.cons _ (List.Sublist.refl _))))|exact .cons _ (.cons _ (.cons _ (.cons _ (.cons _ (List.Sublist.refl _)))))|exact .cons _ (.cons _ (.cons _ (.cons _ (.cons _ (.cons _ (List.Sublist.refl _))))))|exact .cons _ (.cons _ (.cons _ (.cons _ (.cons _ (.cons _ (.cons _ (List.Sublist.refl _)))))))|exact .cons _ (.cons _ (.cons _ (.cons _ (.cons _ (.cons _ (.cons _ (.cons _ (List.Sublist.refl _))))))))))) (by decide +kernel) (by rfl);rintro z ⟨hz1,hz2⟩;dsimp only[List.cons_append,List.nil_append])|(show YK _ _ _ _ _ _ _;first|refine YK.mk (zcA (q1) ⟨rfl,rfl⟩) ?_|refine YK.mk (zcA (q2 _) ⟨rfl,rfl,rfl⟩) ?_|refine YK.mk (zcR (q4 _ _ hz2) ⟨rfl,rfl,rfl⟩) ?_)|(refine nxV ?_)|(refine nSS ?_)|(refine nS1 fun _=>?_)|(refine nMM ?_)|(refine nM1 fun _=>?_)|(show YG _ _ _ _ _ _ _ _;refine YG.mk (fun hb=>by(try(have hc:=And.left hb;have hb:=And.right hb;rw[hc]));(try rw[hb]);first|exact(zcA (q1) ⟨rfl,rfl⟩)|exact(zcA (q2 _) ⟨rfl,rfl,rfl⟩)|exact(zcR (q4 _ _ hz2) ⟨rfl,rfl,rfl⟩)|exact V.y vAuto) ?_)|(refine nxG ?_)|(refine nxVS ?_)|(refine nxGS ?_)|(refine G.mA 4 [.go 0,.go 1,.go 2,.go 3,.go 4,.go 5,.go 6,.go 7,.go 9,.go 8,.go 10,.go 11,.go 12] ?_)|(refine G.mA 14 [.go 0,.go 1,.go 2,.go 3,.go 4,.go 5,.go 6,.go 7,.go 8,.go 9,.go 10,.go 11,.go 12,.go 13] ?_)|(refine nxX ?_)|(refine G.cN rfl (fun hc=>?_) (fun hc=>?_)<;>(try first|exact hc.elim|(exfalso;omega))))
    all_goals first
     |(exfalso;omega)
     |(exfalso;simp at hc;done)
     |(exfalso;exact hin ((hz1 _).1 (by assumption)))
     |exact X.ret (vs:=[_,_]) rfl ⟨⟨_,_,_,_,rfl,(by exact memA),lenA,by decide +kernel,rfl⟩,rfl,rfl⟩ rfl rE
 ·rw[if_pos ht]
  rw[decide_eq_false ht] at q1
  refine enter0 Tryz.func10 rfl rfl rfl ?_
  repeat' (first|(refine nxN ?_)|(show YK _ _ _ _ _ ⟨_,.binOp .eql _ _ (.const (.pointer none)) _,_,_,_,_⟩ _;refine YK.ofV (y_nilNo (by rfl) (by rfl) bk_ptr) ?_)|(show YK _ _ _ _ _ ⟨_,.build 45 #[],_,_,_,_⟩ _;refine YK.ofV (y_build (parts:=[]) (vs:=[]) (by rfl) geo_z) ?_)|(show YK _ _ _ _ _ _ _;first|refine YK.mk (zcA (q1) ⟨rfl,rfl⟩) ?_)|(refine nxV ?_)|(refine nSS ?_)|(refine nS1 fun _=>?_)|(refine nMM ?_)|(refine nM1 fun _=>?_)|(show YG _ _ _ _ _ _ _ _;refine YG.mk (fun hb=>by(try(have hc:=And.left hb;have hb:=And.right hb;rw[hc]));(try rw[hb]);first|exact(zcA (q1) ⟨rfl,rfl⟩)|exact V.y vAuto) ?_)|(refine nxG ?_)|(refine G.mA 4 [.go 0,.go 1,.go 2,.go 3,.go 4,.go 5,.go 6,.go 7,.go 9,.go 8,.go 10,.go 11,.go 12] ?_)|(refine G.mA 14 [.go 0,.go 1,.go 2,.go 3,.go 4,.go 5,.go 6,.go 7,.go 8,.go 9,.go 10,.go 11,.go 12,.go 13] ?_)|(refine nxX ?_)|(refine G.cN rfl (fun hc=>?_) (fun hc=>?_)<;>(try first|exact hc.elim|(exfalso;omega))))
  all_goals first
   |(exfalso;simp at hc;done)
   |exact X.ret (vs:=[_,_]) rfl ⟨⟨_,_,_,_,rfl,(by exact memA),lenA,by decide +kernel,rfl⟩,rfl,rfl⟩ rfl rE
end
end Go.Proofs.YtjmdeplmenbmmaaGreat
