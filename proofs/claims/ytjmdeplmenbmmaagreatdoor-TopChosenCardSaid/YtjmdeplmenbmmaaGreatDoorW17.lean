/- Joined texts: Wr1, Wr2, LaidC, Ang, Prt, Ptx, Gro, Joi, Wds. -/
import Derived.Test.YtjmdeplmenbmmaaGreatDoorW16
import Derived.Test.YtjmdeplmenbmmaaGreatDoorW09
import Derived.Test.YtjmdeplmenbmmaaGreatDoorW05
import Derived.Test.YtjmdeplmenbmmaaGreatDoorW08
import Derived.Test.YtjmdeplmenbmmaaGreatDoorW03
set_option linter.unusedVariables false
set_option maxHeartbeats 8000000
namespace Go.Proofs.YtjmdeplmenbmmaaGreatDoor
open Go.RowKit
theorem setCell_sameK {w:World} {b k:Nat} {v:Value} {cs:Array Value} {t:TypeId} (h:w.heap[b]?=some (.cells cs t (0,0))) (hk:cs[k]?=some v):w.setCell ⟨b,k,none⟩ v=w:=by
 obtain⟨hb,e⟩:=Array.getElem?_eq_some_iff.1 h
 unfold World.setCell
 have hm:w.heap.modify b (fun
   |.cells c elem frozen=>.cells (if (none:Option Nat).isSome then c else c.setIfInBounds k v) elem frozen
   |o=>o)=w.heap:=by
  refine Array.ext (by simp) fun i h1 h2=>?_
  rw[Array.getElem_modify]
  split
  ·rename_i hi
   subst hi
   rw[e]
   obtain⟨hk1,hk2⟩:=Array.getElem?_eq_some_iff.1 hk
   have:cs.setIfInBounds k v=cs:=by
    refine Array.ext (by simp) fun j h3 h4=>?_
    rw[Array.getElem_setIfInBounds]
    split
    ·rename_i hj
     subst hj
     exact hk2.symm
    ·rfl
   simp[this]
  ·rfl
 exact congrArg (fun hp=>{ w with heap:=hp }) hm
theorem itoa1_c (i:Nat) (hi:i<100):Cont Tryz.prog 76 [.int .i64 (i:Int)] (.string ⟨(Lib.decDigits i).toArray⟩):=fun w=>by
 have q1:Cont Tryz.prog 156 [.int .i64 (i:Int)] (.string ⟨(Lib.decDigits i).toArray⟩):=fun w=>(Tryz.internal_strconv_Itoa_small i hi w).mono fun e w' ⟨h1,h2⟩=>⟨h1,by rw[h2];exact Below.refl _ _⟩
 refine enter0 Tryz.func76 rfl rfl rfl ?_
 repeat' (first|(show YK _ _ _ _ _ _ _;refine YK.mk (zcA (q1) ⟨rfl,rfl⟩) ?_)|(refine nxV ?_)|(refine nSS ?_)|(refine nxX ?_)|done)
 exact X.ret1
section
variable {P:Program} {n:Nat} {L:FL} {w0:World} {H:List Hl} {Q:Exit→Act→World→Prop} {ops:Array Oper} {rest:List Oper} {ty:TypeId} {pos:String} {af:Array Edge} {x y:Operand} {t t0:TypeId} {u:Value} {b k:Nat} {cs:Array Value}
theorem RS.storeSameK (h:RS P ops Q n L w0 H rest) (hx:evO L x=some (.pointer (some ⟨b,k,none⟩))) (hy:evO L y=some u) (hw:∀w,St w0 H w→w.heap[b]?=some (.cells cs t0 (0,0))) (hk:cs[k]?=some u) (hu:u.oneCell'=true) (hs:scalarB P t=true) :
  RS P ops Q n L w0 H (⟨none,.store t x y,ty,pos,af,none⟩::rest) :=
 RS.actX (post:=fun _:Unit=>True) (L':=fun _=>L) (H':=fun _=>H) rfl (EX.of_skip fun a w ha hw'=>by
  have hb:=hw w hw'
  have hc:w.cell? ⟨b,k,none⟩=some u:=by
   have:=cell_of_row w b k cs t0 (0,0) hb
   rw[this];exact hk
  have hf:w.frozen? ⟨b,k,none⟩=false:=by simp[World.frozen?,hb]
  have hadd:(⟨b,k,none⟩:Addr).add 0=⟨b,k,none⟩:=rfl
  have hsame:=setCell_sameK hb hk
  exact⟨w,(),by simp[execOp,ha.eval hx,ha.eval hy,Instr.storeAt,Instr.sureAddr,storeVar,oneCell_cells hu,run_sizeOf_of (info_of_scalarB hs),storeCells,hadd,run_store P w _ u _ hu,hc,hf,hsame],trivial,rfl,hw'⟩) fun _ _=>h
end
structure WrW (b:Nat) (s:Value) (w:World):Prop where
 blk:w.heap[b]?=some (.cells #[s,.int .i64 0] 140 (0,0))
theorem WrW.keep {b:Nat} {s:Value} {w w':World} (h:WrW b s w) (hw:Below w.heap.size w w'):WrW b s w' :=
 ⟨(hw.block b (Array.getElem?_eq_some_iff.1 h.blk).1).trans h.blk⟩
theorem WrW.cell {b:Nat} {s:Value} {w:World} (h:WrW b s w):∀k v,[s,Value.int .i64 0][k]?=some v→w.cell? ⟨b,k,none⟩=some v:=fun k v hk=>by
 have:=cell_of_row w b k #[s,.int .i64 0] _ (0,0) h.blk
 rw[this]
 simpa using hk
theorem wkeep_c {b:Nat} {s:Value} : ContIn Tryz.prog (WrW b s) 79 [ptK b,.int .i64 0] (.tuple #[]):=fun w hs=>by
 have hcl:=hs.cell
 refine enter0 Tryz.func79 rfl rfl rfl ?_
 repeat' (first|(refine nxN ?_)|(show YK _ _ _ _ _ ⟨_,.load 27 _,_,_,_,_⟩ _;refine YK.ofV (y_loadX (by rfl) (hcl _ _ (by rfl)) (by decide +kernel)) ?_)|(show RS _ _ _ _ _ _ _ (⟨none,.store 27 _ _,_,_,_,_⟩::_);refine RS.storeSameK (b:=b) (k:=1) ?_ (by rfl) (by rfl) (fun w' hw'=>(hs.keep hw'.ext).blk) (by rfl) (by rfl) (by decide +kernel))|(refine nxV ?_)|(refine nSS ?_)|(refine nxX ?_)|(refine G.cN rfl (fun hc=>?_) (fun hc=>?_)<;>(try first|exact hc.elim|(exfalso;omega))))
 all_goals first
  |exact X.endN rfl rE
  |exact X.retZ rfl rE
structure LaidC (w:World):Prop where
 tab:Lib.TabIs Tryz.prog w "internal/strconv.uint64pow10" .u64 Lib.pow10Tab
 max:∃m,w.cell? ⟨3,0,none⟩=some (.int .i64 m)
theorem LaidC.keep {w w':World} (h:LaidC w) (hb:Below w.heap.size w w'):LaidC w' where
 tab:=var_keep h.tab hb
 max:=by obtain⟨m,e⟩:=h.max;exact⟨m,(hb.cell (World.block_lt_of_cell? w _ e)).trans e⟩
theorem laidC_of {w:World} {l:List (String×DataW Unit)} (h:laidMetH Tryz.prog l w) (hp:(l.all fun x=>x.2.handleName?.isNone)=true) (hs:w.ShapedOpen Tryz.prog)
  (m1:("internal/strconv.uint64pow10",Lib.tabData .u64 Lib.pow10Tab)∈l):LaidC w:=by
 rw[MakeChecks.laidMetH_plain _ _ _ hp] at h
 obtain⟨ps,h,_⟩:=h
 refine⟨?_,cell_of_shapedOpen_int (t:=3) (zero:=#[.int .i64 0]) hs (of_decide_eq_true (by kernel_rfl)) (by kernel_rfl) (by kernel_rfl) (by kernel_rfl) (by kernel_rfl) (by kernel_rfl)⟩
 obtain⟨g',t',cs,fuel,p,h1,h2,h3,h4⟩:=laid_get h m1
 obtain rfl:=Option.some.inj (gPow.symm.trans h1)
 unfold Lib.TabIs
 rw[h3,←Lib.cells_of_tab (P:=Tryz.prog) (t:=t') (e:=257) (n:=20) (by obtain rfl:=Option.some.inj ((show (Tryz.prog.globals[0]?).map (·.type)=some 326 by kernel_rfl).symm.trans h2);kernel_rfl) (by kernel_rfl) (by kernel_rfl) (by obtain rfl:=Option.some.inj ((show (Tryz.prog.globals[0]?).map (·.type)=some 326 by kernel_rfl).symm.trans h2);kernel_rfl) h4]
theorem itoaC_c {n:Int} (h : -9223372036854775808≤n∧n≤9223372036854775807):ContIn Tryz.prog LaidC 76 [.int .i64 n] (strV (Lib.itoa n)):=fun w hI =>
 (Tryz.strconv_Itoa n h.1 h.2 w hI.tab).mono fun e w' ⟨he,k,os,hw⟩=>⟨he,by subst hw;exact below_grown w k os⟩
section
variable {P:Program} {n:Nat} {L:FL} {w0:World} {H:List Hl} {Q:Exit→Act→World→Prop} {ops:Array Oper} {rest:List Oper} {dd:Nat} {ty:TypeId} {pos:String} {af:Array Edge} {gd:Option (Nat×Bool)} {ι:Type}
theorem RS.callW0 {X2:Hl} {A B:List Hl} {f:FuncId} {xs:List Operand} {vs:List Value} {tys:Array TypeId} {post:ι→Prop} {v:ι→Value} {Y:ι→List Hl} (hc:ContW P (bldR ⟨none,0,0⟩ []) X2 f vs post v Y) (ha:AE L xs vs) (h:∀z,post z→RS P ops Q n ((dd,v z)::L) w0 (Y z++(A++B)) rest)
  (hA:At X2 A B H:=by first|exact .here|exact .there .here|exact .there (.there .here)|exact .there (.there (.there .here))|exact .there (.there (.there (.there .here))))
  (hg:isGo P f=true:=by decide +kernel) (hd:Nat.blt dd n=true:=by rfl) :
  RS P ops Q n L w0 H (⟨some dd,.call { callee:=.value (.func f),args:=xs.toArray,argTypes:=tys },ty,pos,af,none⟩::rest):=RS.actX (post:=post) (L':=fun z=>(dd,v z)::L) (H':=fun z=>Y z++(A++B)) rfl (fun a w hfr hw K Q hK=>by
   unfold Oper.wp
   rw[run_call hfr ha hg]
   have h2:=(St.front hA hw).nilRow 5 cU 1
   refine(hc w0 (A++B) w h2).mono ?_
   rintro e w' ⟨z,hz,rfl,hs⟩
   exact hK _ _ ⟨z,hz,hfr.put (by simpa [Nat.blt_eq] using hd),hs⟩) h
end
def padL (n k:Int):List UInt8:=Lib.repeatL [48] (max 0 (k-(Lib.itoa n).length)).toNat++Lib.itoa n
theorem pad_len {n k:Int} (h : -9223372036854775808≤n∧n≤9223372036854775807) (hk:k≤10):(padL n k).length≤30:=by
 have:=itoa_len h
 unfold padL
 rw[List.length_append,Lib.repeatL_length]
 simp;omega
theorem padded_c {n k:Int} (h:(-9223372036854775808≤n∧n≤9223372036854775807)∧0≤k∧k≤10):ContIn Tryz.prog LaidC 265 [.int .i64 n,.int .i64 k] (strV (padL n k)):=fun w hI=>by
 have hl:=itoa_len h.1
 have h1:=itoaC_c h.1
 have hr:(Lib.repeatL [48] (max 0 (k-(Lib.itoa n).length)).toNat).length≤10:=by rw[Lib.repeatL_length];simp;omega
 refine enter0 Tryz.func265 rfl rfl rfl ?_
 repeat' (first|(show YK _ _ _ _ _ ⟨_,.call { callee:=.builtin .len,args:=_,argTypes:=#[9] },_,_,_,_⟩ _;refine YK.ofV (y_lenS (by rfl) StrTy.is) ?_)|(show YK _ _ _ _ _ _ _;first|refine YK.mk (zcI (h1) (fun _ hw=>hI.keep hw.ext) ⟨rfl,rfl⟩ (by decide +kernel)) ?_|refine YK.mk (zcA (repeat_c [48] (m:=max 0 (k-(Lib.itoa n).length)) (by omega) (by decide)) ⟨rfl,rfl,rfl⟩) ?_)|(refine nxV ?_)|(refine nSS ?_)|(refine nxVS ?_)|(refine nxX ?_)|done)
 exact X.ret1
def angHead (n:Int):List UInt8:=Lib.itoa (n/60000)++[45]++padL (n%60000/1000) 2++[46]
def angRest (n:Int):List UInt8:=if n%1000%100=0 then Lib.itoa (n%1000/100) else padL (n%1000) 3
theorem text_p {n:Int} (h:0≤n∧n≤1099511627776):ContIn Tryz.prog LaidC 217 [.int .i64 n] (strV (angHead n++angRest n)):=fun w hI=>by
 have i1:=itoaC_c (n:=n/60000) (by omega)
 have i2:=padded_c (n:=n%60000/1000) (k:=2) (by omega)
 have i3:=itoaC_c (n:=n%1000/100) (by omega)
 have i4:=padded_c (n:=n%1000) (k:=3) (by omega)
 have l1:=itoa_len (n:=n/60000) (by omega)
 have l2:=pad_len (n:=n%60000/1000) (k:=2) (by omega) (by omega)
 have l3:=itoa_len (n:=n%1000/100) (by omega)
 have l4:=pad_len (n:=n%1000) (k:=3) (by omega) (by omega)
 have e1:(angHead n).length≤100:=by simp only[angHead,List.length_append,List.length_singleton];omega
 have w1:=fun b=>writeS_c b (.pointer none) (.inl rfl) ⟨none,0,0⟩ [] (angHead n) (by simp only[List.length_nil];omega)
 have w2:=fun b z=>writeS_c b (pB b) (.inr rfl) z (angHead n) (Lib.itoa (n%1000/100)) (by omega)
 have w3:=fun b z=>writeS_c b (pB b) (.inr rfl) z (angHead n) (padL (n%1000) 3) (by omega)
 unfold angHead angRest at *
 refine enter0 Tryz.func217 rfl rfl rfl ?_
 repeat' (first|(refine RS.callW0 (w1 _) ⟨rfl,rfl,rfl⟩ ?_;rintro z1 _;dsimp only[List.cons_append,List.nil_append])|(refine RS.callW (w2 _ _) ⟨rfl,rfl,rfl⟩ ?_;rintro z2 _;dsimp only[List.cons_append,List.nil_append])|(refine RS.callW (w3 _ _) ⟨rfl,rfl,rfl⟩ ?_;rintro z2 _;dsimp only[List.cons_append,List.nil_append])|(refine RS.string ?_ (.inr rfl) (List.Mem.head _) (List.Mem.tail _ (List.Mem.head _)) ⟨rfl,rfl⟩)|(show YK _ _ _ _ _ _ _;first|refine YK.mk (zcI (i1) (fun _ hw=>hI.keep hw.ext) ⟨rfl,rfl⟩ (by decide +kernel)) ?_|refine YK.mk (zcI (i2) (fun _ hw=>hI.keep hw.ext) ⟨rfl,rfl,rfl⟩ (by decide +kernel)) ?_|refine YK.mk (zcI (i3) (fun _ hw=>hI.keep hw.ext) ⟨rfl,rfl⟩ (by decide +kernel)) ?_|refine YK.mk (zcI (i4) (fun _ hw=>hI.keep hw.ext) ⟨rfl,rfl,rfl⟩ (by decide +kernel)) ?_)|(refine nxV ?_)|(refine nSS ?_)|(refine nS1 fun _=>?_)|(refine nxVS ?_)|(refine nxX ?_)|(refine G.cN rfl (fun hc=>?_) (fun hc=>?_)<;>(try first|exact hc.elim|(exfalso;omega))))
 ·rw[if_pos hc];exact X.ret1
 ·rw[if_neg hc];exact X.ret1
theorem text_m {n m:Int} (hm:m = -n) (h:0<m∧m≤1099511627776):ContIn Tryz.prog LaidC 217 [.int .i64 n] (strV ([45]++angHead m++angRest m)):=fun w hI=>by
 have i1:=itoaC_c (n:=m/60000) (by omega)
 have i2:=padded_c (n:=m%60000/1000) (k:=2) (by omega)
 have i3:=itoaC_c (n:=m%1000/100) (by omega)
 have i4:=padded_c (n:=m%1000) (k:=3) (by omega)
 have l1:=itoa_len (n:=m/60000) (by omega)
 have l2:=pad_len (n:=m%60000/1000) (k:=2) (by omega) (by omega)
 have l3:=itoa_len (n:=m%1000/100) (by omega)
 have l4:=pad_len (n:=m%1000) (k:=3) (by omega) (by omega)
 have e1:(angHead m).length≤100:=by simp only[angHead,List.length_append,List.length_singleton];omega
 have w0':=fun b=>writeB_c b (.pointer none) (.inl rfl) ⟨none,0,0⟩ [] 45 (by simp)
 have w1:=fun b z=>writeS_c b (pB b) (.inr rfl) z [45] (angHead m) (by simp only[List.length_singleton];omega)
 have w2:=fun b z=>writeS_c b (pB b) (.inr rfl) z ([45]++angHead m) (Lib.itoa (m%1000/100)) (by simp only[List.length_append,List.length_singleton];omega)
 have w3:=fun b z=>writeS_c b (pB b) (.inr rfl) z ([45]++angHead m) (padL (m%1000) 3) (by simp only[List.length_append,List.length_singleton];omega)
 unfold angHead angRest at *
 subst hm
 refine enter0 Tryz.func217 rfl rfl rfl ?_
 repeat' (first|(refine RS.callW0 (w0' _) ⟨rfl,rfl,rfl⟩ ?_;rintro z0 _;dsimp only[List.cons_append,List.nil_append])|(refine RS.callW (w1 _ _) ⟨rfl,rfl,rfl⟩ ?_;rintro z1 _;dsimp only[List.cons_append,List.nil_append])|(refine RS.callW (w2 _ _) ⟨rfl,rfl,rfl⟩ ?_;rintro z2 _;dsimp only[List.cons_append,List.nil_append])|(refine RS.callW (w3 _ _) ⟨rfl,rfl,rfl⟩ ?_;rintro z2 _;dsimp only[List.cons_append,List.nil_append])|(refine RS.string ?_ (.inr rfl) (List.Mem.head _) (List.Mem.tail _ (List.Mem.head _)) ⟨rfl,rfl⟩)|(show YK _ _ _ _ _ _ _;first|refine YK.mk (zcI (i1) (fun _ hw=>hI.keep hw.ext) ⟨rfl,rfl⟩ (by decide +kernel)) ?_|refine YK.mk (zcI (i2) (fun _ hw=>hI.keep hw.ext) ⟨rfl,rfl,rfl⟩ (by decide +kernel)) ?_|refine YK.mk (zcI (i3) (fun _ hw=>hI.keep hw.ext) ⟨rfl,rfl⟩ (by decide +kernel)) ?_|refine YK.mk (zcI (i4) (fun _ hw=>hI.keep hw.ext) ⟨rfl,rfl,rfl⟩ (by decide +kernel)) ?_)|(refine nxV ?_)|(refine nSS ?_)|(refine nS1 fun _=>?_)|(refine nxVS ?_)|(refine nxX ?_)|(refine G.cN rfl (fun hc=>?_) (fun hc=>?_)<;>(try first|exact hc.elim|(exfalso;omega))))
 ·rw[if_pos hc];exact X.ret1
 ·rw[if_neg hc];exact X.ret1
def angL (n:Int):List UInt8:=if n<0 then [45]++angHead (-n)++angRest (-n) else angHead n++angRest n
theorem angH_len {n:Int} (h:0≤n∧n≤1099511627776):(angHead n).length≤70∧(angRest n).length≤30:=by
 have l1:=itoa_len (n:=n/60000) (by omega)
 have l2:=pad_len (n:=n%60000/1000) (k:=2) (by omega) (by omega)
 have l3:=itoa_len (n:=n%1000/100) (by omega)
 have l4:=pad_len (n:=n%1000) (k:=3) (by omega) (by omega)
 refine⟨by simp only[angHead,List.length_append,List.length_singleton];omega,?_⟩
 unfold angRest
 split<;>omega
theorem angL_len {n:Int} (h : -1099511627776≤n∧n≤1099511627776):(angL n).length≤110:=by
 unfold angL
 split
 ·have:=angH_len (n:=-n) (by omega)
  simp only[List.length_append,List.length_singleton];omega
 ·have:=angH_len (n:=n) (by omega)
  simp only[List.length_append];omega
theorem atext_c {n:Int} (h : -1099511627776≤n∧n≤1099511627776):ContIn Tryz.prog LaidC 217 [.int .i64 n] (strV (angL n)):=by
 unfold angL
 split
 ·exact text_m rfl (by omega)
 ·exact text_p (by omega)
theorem fits_c {n:Int} (h : -1099511627776≤n∧n≤1099511627776):Cont Tryz.prog 91 [.int .i64 n] (.bool true):=fun w=>by
 refine enter0 Tryz.func91 rfl rfl rfl ?_
 repeat' (first|(refine nxV ?_)|(refine nSS ?_)|(refine nxG ?_)|(refine nxX ?_)|done)
 exact X.ret (vs:=[_]) rfl ⟨rfl,rfl⟩ rfl (fun w hw=>⟨ret_bool (by simp;omega),hw.ext⟩)
theorem aText_c {n:Int} (h : -1099511627776≤n∧n≤1099511627776):ContIn Tryz.prog LaidC 218 [.int .i64 n] (.tuple [strV (angL n),.int .i64 0].toArray):=fun w hI=>by
 have q1:=fits_c h
 have q2:=atext_c h
 generalize angL n=l at q2
 refine enter0 Tryz.func218 rfl rfl rfl ?_
 repeat' (first|(show YK _ _ _ _ _ _ _;first|refine YK.mk (zcA (q1) ⟨rfl,rfl⟩) ?_|refine YK.mk (zcI (q2) (fun _ hw=>hI.keep hw.ext) ⟨rfl,rfl⟩ (by decide +kernel)) ?_)|(refine nxV ?_)|(refine nSS ?_)|(refine nxX ?_)|(refine G.cN rfl (fun hc=>?_) (fun hc=>?_)<;>(try first|exact hc.elim|(exfalso;omega))))
 exact X.ret (vs:=[_,_]) rfl ⟨rfl,rfl,rfl⟩ rfl rE
theorem afloor_c {n:Int} (h:0≤n∧n≤1099511627776):Cont Tryz.prog 216 [.int .i64 n,.int .i64 100] (.int .i64 (n/100)):=fun w=>by
 have e1:=Int.tdiv_eq_ediv_of_nonneg (a:=n) (b:=100) h.1
 have e2:=Int.tmod_eq_emod_of_nonneg (a:=n) (b:=100) h.1
 have e3:=Int.emod_nonneg n (show (100:Int)≠0 by decide)
 refine enter0 Tryz.func216 rfl rfl rfl ?_
 repeat' (first|(refine nxV ?_)|(refine nSS ?_)|(refine nxX ?_)|(refine G.cN rfl (fun hc=>?_) (fun hc=>?_)<;>(try first|exact hc.elim|(exfalso;omega))))
 all_goals first
  |(exfalso;omega)
  |(refine X.ret (vs:=[_]) rfl ⟨rfl,rfl⟩ rfl (fun w hw=>⟨congrArg Ending.returned (congrArg (Value.int .i64) ?_),hw.ext⟩);omega)
theorem print_c {a b:Int} (h:0≤a∧a≤b∧b≤1000000000):∃l:List UInt8,l.length≤300∧ContIn Tryz.prog LaidC 157 [arcV a b] (.tuple [strV l,.int .i64 0].toArray):=by
 have q1:=gval_c (a:=a) (b:=b) (by omega)
 have q2:=afloor_c (n:=a+50) (by omega)
 have q3:=afloor_c (n:=b+50) (by omega)
 have q4:=gfits_c (n:=(a+50)/100*100) (by omega)
 have q5:=gfits_c (n:=(b+50)/100*100) (by omega)
 have t1:=atext_c (n:=(a+50)/100*100) (by omega)
 have t2:=atext_c (n:=(b+50)/100*100) (by omega)
 have k1:=angL_len (n:=(a+50)/100*100) (by omega)
 have k2:=angL_len (n:=(b+50)/100*100) (by omega)
 have hb1:0≤(a+50)/100∧(a+50)/100≤10000001:=by omega
 have hb2:0≤(b+50)/100∧(b+50)/100≤10000001:=by omega
 generalize (a+50)/100=u at *
 generalize (b+50)/100=v at *
 generalize hle:angL (u*100)=L1 at *
 generalize hle2:angL (v*100)=L2 at *
 by_cases huv:u*100=v*100
 ·refine⟨L1,by omega,fun w hI=>?_⟩
  refine enter0 Tryz.func157 rfl rfl rfl ?_
  repeat' (first|(show YK _ _ _ _ _ ⟨_,.call { callee:=.value (.func 217),args:=_,argTypes:=_ },_,_,_,_⟩ _;refine YK.mk (zcI (t1) (fun w' hw'=>hI.keep hw'.ext) ⟨rfl,rfl⟩ (by decide +kernel)) ?_)|(show YK _ _ _ _ _ _ _;first|refine YK.mk (zcA (q1) ⟨rfl,rfl⟩) ?_|refine YK.mk (zcA (q2) ⟨rfl,rfl,rfl⟩) ?_|refine YK.mk (zcA (q3) ⟨rfl,rfl,rfl⟩) ?_|refine YK.mk (zcA (q4) ⟨rfl,rfl⟩) ?_|refine YK.mk (zcA (q5) ⟨rfl,rfl⟩) ?_)|(refine nxV ?_)|(refine nSS ?_)|(refine nS1 fun _=>?_)|(refine nMM ?_)|(refine G.mA 3 [.go 0,.go 1,.go 2,.go 5,.go 6,.go 7,.go 3,.go 4,.go 8,.go 9,.go 10,.go 11] ?_)|(refine nxX ?_)|(refine G.cN rfl (fun hc=>?_) (fun hc=>?_)<;>(try first|exact hc.elim|(exfalso;omega))))
  all_goals first
   |(exfalso;omega)
   |exact X.ret (vs:=[_,_]) rfl ⟨rfl,rfl,rfl⟩ rfl rE
 ·refine⟨L1++[32,46,46,32]++L2,by simp only[List.length_append,List.length_cons,List.length_nil];omega,fun w hI=>?_⟩
  refine enter0 Tryz.func157 rfl rfl rfl ?_
  repeat' (first|(show YK _ _ _ _ _ ⟨_,.call { callee:=.value (.func 217),args:=_,argTypes:=_ },_,_,_,_⟩ _;refine YK.mk (zcI (t1) (fun w' hw'=>hI.keep hw'.ext) ⟨rfl,rfl⟩ (by decide +kernel)) ?_)|(show YK _ _ _ _ _ ⟨_,.call { callee:=.value (.func 217),args:=_,argTypes:=_ },_,_,_,_⟩ _;refine YK.mk (zcI (t2) (fun w' hw'=>hI.keep hw'.ext) ⟨rfl,rfl⟩ (by decide +kernel)) ?_)|(show YK _ _ _ _ _ _ _;first|refine YK.mk (zcA (q1) ⟨rfl,rfl⟩) ?_|refine YK.mk (zcA (q2) ⟨rfl,rfl,rfl⟩) ?_|refine YK.mk (zcA (q3) ⟨rfl,rfl,rfl⟩) ?_|refine YK.mk (zcA (q4) ⟨rfl,rfl⟩) ?_|refine YK.mk (zcA (q5) ⟨rfl,rfl⟩) ?_)|(refine nxV ?_)|(refine nSS ?_)|(refine nS1 fun _=>?_)|(refine nMM ?_)|(refine nxVS ?_)|(refine G.mA 3 [.go 0,.go 1,.go 2,.go 5,.go 6,.go 7,.go 3,.go 4,.go 8,.go 9,.go 10,.go 11] ?_)|(refine nxX ?_)|(refine G.cN rfl (fun hc=>?_) (fun hc=>?_)<;>(try first|exact hc.elim|(exfalso;omega))))
  all_goals first
   |(exfalso;omega)
   |exact X.ret (vs:=[_,_]) rfl ⟨rfl,rfl,rfl⟩ rfl rE
theorem side_x {n:Int} {s1 s2:List UInt8} (h:0≤n∧n≤100000000) (h1:s1.length≤5):∃l:List UInt8,l.length≤150∧ContIn Tryz.prog LaidC 158 [.int .i64 n,strV s1,strV s2] (strV l):=by
 have q1:=aText_c (n:=n) (by omega)
 have k1:=angL_len (n:=n) (by omega)
 generalize angL n=L1 at *
 refine⟨L1++s1,by simp only[List.length_append];omega,fun w hI=>?_⟩
 refine enter0 Tryz.func158 rfl rfl rfl ?_
 repeat' (first|(show YK _ _ _ _ _ ⟨_,.call { callee:=.value (.func 218),args:=_,argTypes:=_ },_,_,_,_⟩ _;refine YK.mk (zcI (q1) (fun w' hw'=>hI.keep hw'.ext) ⟨rfl,rfl⟩ (by decide +kernel)) ?_)|(refine nxV ?_)|(refine nSS ?_)|(refine nxVS ?_)|(refine nxX ?_)|(refine G.cN rfl (fun hc=>?_) (fun hc=>?_)<;>(try first|exact hc.elim|(exfalso;omega))))
 all_goals first
  |(exfalso;omega)
  |exact X.ret1
theorem ptext_c {la lo:Int} (hp:lat8I la∧lon8I lo) (h0:0≤la∧0≤lo):∃l:List UInt8,l.length≤400∧ContIn Tryz.prog LaidC 78 [ptV la lo] (.tuple [strV l,.int .i64 0].toArray):=by
 have q0:=pointT hp
 obtain⟨l1,k1,q1⟩:=side_x (n:=la) (s1:=[78]) (s2:=[83]) (by omega) (by simp)
 obtain⟨l2,k2,q2⟩:=side_x (n:=lo) (s1:=[69]) (s2:=[87]) (by omega) (by simp)
 refine⟨l1++[32]++l2,by simp only[List.length_append,List.length_cons,List.length_nil];omega,fun w hI=>?_⟩
 refine enter0 Tryz.func78 rfl rfl rfl ?_
 repeat' (first|(show YK _ _ _ _ _ ⟨_,.call { callee:=.value (.func 158),args:=_,argTypes:=_ },_,_,_,_⟩ _;refine YK.mk (zcI (q1) (fun w' hw'=>hI.keep hw'.ext) ⟨rfl,rfl,rfl,rfl⟩ (by decide +kernel)) ?_)|(show YK _ _ _ _ _ ⟨_,.call { callee:=.value (.func 158),args:=_,argTypes:=_ },_,_,_,_⟩ _;refine YK.mk (zcI (q2) (fun w' hw'=>hI.keep hw'.ext) ⟨rfl,rfl,rfl,rfl⟩ (by decide +kernel)) ?_)|(show YK _ _ _ _ _ _ _;refine YK.mk (zcA (q0) ⟨rfl,rfl⟩) ?_)|(refine nxV ?_)|(refine nSS ?_)|(refine nS1 fun _=>?_)|(refine nMM ?_)|(refine nxVS ?_)|(refine G.mA 3 [.go 0,.go 1,.go 4,.go 5,.go 2,.go 3,.go 6,.go 7,.go 8,.go 9] ?_)|(refine nxX ?_)|(refine G.cN rfl (fun hc=>?_) (fun hc=>?_)<;>(try first|exact hc.elim|(exfalso;omega))))
 all_goals first
  |(exfalso;omega)
  |exact X.ret (vs:=[_,_]) rfl ⟨rfl,rfl,rfl⟩ rfl rE
theorem St.grown {w0 w w':World} {H0:List Hl} {b:Nat} {s:Value} (h0:∀h∈H0,h.holds w0.heap.size w0∧h.excl=false) (hw:St w0 (Hl.blk b 247 [.pointer none,s]::H0) w)
  (h1:Lib.BuilderAt 247 5 b b (pB b) [] w') (h2:Below b w w'):∃z:Sl,St w0 (bldB b (pB b) z::bldR z []::H0) w':=by
 obtain⟨_,v,hb,hr,hne⟩:=h1
 obtain⟨z,rfl⟩:=owns_sl hr
 have hbb:w0.heap.size≤b:=(hw.all _ List.mem_cons_self).1
 have e0:Below w0.heap.size w0 w':=hw.ext.trans (h2.mono hbb)
 have s0:=St.start w0 h0
 have s1:St w0 H0 w':=⟨e0,fun h hm=>Hl.keep (h0 h hm).1 fun k hk=>e0.block k (Hl.lt (h0 h hm).1 hk),s0.apart⟩
 have hr2:w'.ownsRow w0.heap.size 5 1 z.v 0 []:=by
  refine⟨hr.1,?_⟩
  rcases hr.2 with h|⟨g,cap,cur,a1,a2,a3⟩
  ·exact .inl h
  ·exact .inr ⟨g,cap,cur,a1,Nat.le_trans hbb a2,a3⟩
 refine⟨z,e0,fun h hm=>?_,⟨fun h' hm k hk1 hk2=>?_,fun h' hm k hk1 hk2=>?_,s0.apart⟩⟩
 ·rcases List.mem_cons.1 hm with rfl|hm
  ·exact⟨hbb,hb⟩
  ·rcases List.mem_cons.1 hm with rfl|hm
   ·exact hr2
   ·exact s1.all h hm
 ·cases (show some b=some k from hk1)
  rcases List.mem_cons.1 hm with rfl|hm
  ·exact absurd hk2 hne
  ·have:=Hl.lt (h0 h' hm).1 hk2
   omega
 ·have h3:=(hr.lt k hk1).1
  have:=Hl.lt (h0 h' hm).1 hk2
  omega
theorem RS.grow0 {n k dd b:Nat} {L:FL} {w0:World} {H0:List Hl} {Q:Exit→Act→World→Prop} {ops:Array Oper} {rest:List Oper} {ty:TypeId} {pos:String} {af:Array Edge} {xs:List Operand} {tys:Array TypeId} (h0:∀h∈H0,h.holds w0.heap.size w0∧h.excl=false) (ha:AE L xs [pB b,.int .i64 (k:Int)]) (hk:k≤281474976710656)
  (h:∀z:Sl,RS Tryz.prog ops Q n ((dd,.tuple #[])::L) w0 (bldB b (pB b) z::bldR z []::H0) rest) (hd:Nat.blt dd n=true) (hg:isGo Tryz.prog 212=true) :
  RS Tryz.prog ops Q n L w0 (Hl.blk b 247 [.pointer none,.slice none 0 0]::H0) (⟨some dd,.call { callee:=.value (.func 212),args:=xs.toArray,argTypes:=tys },ty,pos,af,none⟩::rest) :=
 RS.actX (post:=fun _:Sl=>True) (L':=fun _=>(dd,.tuple #[])::L) (H':=fun z=>bldB b (pB b) z::bldR z []::H0) rfl (fun a w hfr hw K Q hK=>by
  unfold Oper.wp
  rw[run_call hfr ha hg]
  have hbk:=(hw.all _ List.mem_cons_self).2
  have hbb:=heap_lt hbk
  refine(Tryz.Builder_Grow_fresh b b k w (Nat.le_refl _) hbk (by omega) hk).mono ?_
  rintro e w' ⟨rfl,h1,h2⟩
  obtain⟨z,hs⟩:=St.grown h0 hw h1 h2
  exact hK _ _ ⟨z,trivial,hfr.put (by simpa [Nat.blt_eq] using hd),hs⟩) fun z _=>h z
theorem RS.growI {n dd b:Nat} {m:Int} {L:FL} {w0:World} {H0:List Hl} {Q:Exit→Act→World→Prop} {ops:Array Oper} {rest:List Oper} {ty:TypeId} {pos:String} {af:Array Edge} {xs:List Operand} {tys:Array TypeId} (h0:∀h∈H0,h.holds w0.heap.size w0∧h.excl=false) (ha:AE L xs [pB b,.int .i64 m]) (hm:0≤m∧m≤281474976710656)
  (h:∀z:Sl,RS Tryz.prog ops Q n ((dd,.tuple #[])::L) w0 (bldB b (pB b) z::bldR z []::H0) rest) (hd:Nat.blt dd n=true) :
  RS Tryz.prog ops Q n L w0 (Hl.blk b 247 [.pointer none,.slice none 0 0]::H0) (⟨some dd,.call { callee:=.value (.func 212),args:=xs.toArray,argTypes:=tys },ty,pos,af,none⟩::rest):=by
 obtain⟨k,rfl⟩:∃k:Nat,m=k:=⟨m.toNat,by omega⟩
 exact RS.grow0 h0 ha (by omega) h hd (by decide +kernel)
theorem join2_c {v:Value} {s1 s2:List UInt8} (hl:s1.length≤1000∧s2.length≤1000):ContR Tryz.prog [Hl.rd v cS 1 [s1,s2]] 155 [v,strV [32]] (strV (s1++[32]++s2)):=fun w hw0=>by
 have l2:(([s1,s2].length:Nat):Int)=2:=rfl
 have l1:(((([s1,s2].drop 1).take 1).length:Nat):Int)=1:=rfl
 have l3:(((List.take ([s1,s2].length-Int.toNat 1) (List.drop (Int.toNat 1) [s1,s2])).length:Nat):Int)=1:=rfl
 have n0:((nth [s1,s2] 0).length:Int)=s1.length:=rfl
 have n1:((nth [s1,s2] (0+1)).length:Int)=s2.length:=rfl
 have lsp:(([32]:List UInt8).length:Int)=1:=rfl
 have hq:(9223372036854775807:Int)/((([s1,s2].length:Nat):Int)-1)=9223372036854775807:=by rw[l2];rfl
 have hmul:((([32]:List UInt8).length:Nat):Int)*((([s1,s2].length:Nat):Int)-1)=1:=by rw[l2,lsp];rfl
 have w1:=fun b z=>writeS_c b (pB b) (.inr rfl) z [] s1 (by simp only[List.length_nil];omega)
 have w2:=fun b z=>writeS_c b (pB b) (.inr rfl) z ([]++s1) [32] (by simp only[List.length_append,List.length_cons,List.length_nil];omega)
 have w3:=fun b z=>writeS_c b (pB b) (.inr rfl) z ([]++s1++[32]) s2 (by simp only[List.length_append,List.length_cons,List.length_nil];omega)
 refine enter Tryz.func155 rfl rfl rfl hw0 ?_
 repeat' (first|(show YK _ _ _ _ _ ⟨_,.call { callee:=.builtin .len,args:=_,argTypes:=#[9] },_,_,_,_⟩ _;refine YK.ofV (y_lenS (by rfl) StrTy.is) ?_)|(show G _ _ _ _ _ _ (.loop _);refine G.loopN 3 (GR.step ?_))|(show X (Exit.then (Code.rounds _ _ _ _) _) _ _ _ _ .normal;refine X.round (GR.step ?_))|(show RS _ _ _ _ _ _ _ (⟨some 57,_,_,_,_,_⟩::_);refine RS.growI hw0 ⟨rfl,rfl,rfl⟩ (by omega) ?_ rfl;intro z0)|(show RS _ _ _ _ _ _ _ (⟨some 61,_,_,_,_,_⟩::_);refine RS.callW (w1 _ _) ⟨rfl,rfl,rfl⟩ ?_;rintro z1 _;dsimp only[List.cons_append,List.nil_append])|(show RS _ _ _ _ _ _ _ (⟨some 70,_,_,_,_,_⟩::_);refine RS.callW (w2 _ _) ⟨rfl,rfl,rfl⟩ ?_;rintro z2 _;dsimp only[List.cons_append,List.nil_append])|(show RS _ _ _ _ _ _ _ (⟨some 72,_,_,_,_,_⟩::_);refine RS.callW (w3 _ _) ⟨rfl,rfl,rfl⟩ ?_;rintro z3 _;dsimp only[List.cons_append,List.nil_append])|(show RS _ _ _ _ _ _ _ (⟨some 74,_,_,_,_,_⟩::_);refine RS.string ?_ (.inr rfl) (by exact memA) (by exact memA) ⟨rfl,rfl⟩)|(refine nxV ?_)|(refine nSS ?_)|(refine nS1 fun _=>?_)|(refine nxX ?_)|(refine G.cN rfl (fun hc=>?_) (fun hc=>?_)<;>(try first|exact hc.elim|(exfalso;omega))))
 all_goals first
  |(exfalso;omega)
  |exact X.ret1
abbrev wrB (b:Nat) (s:Sl):Hl:=Hl.blk b 140 [s.v,.int .i64 0]
abbrev wrR (s:Sl) (l:List (List UInt8)):Hl:=Hl.rw s.v 9 cS 1 l
theorem WrW.ofSt {b:Nat} {s:Sl} {w0 w:World} {H:List Hl} (hw:St w0 H w) (h:wrB b s∈H):WrW b s.v w:=⟨(hw.all _ h).2⟩
section
variable {P:Program} {n i:Nat} {L:FL} {w0:World} {H HS:List Hl} {Q:Exit→Act→World→Prop} {ops:Array Oper} {rest:List Oper} {ord:List Mv} {dd:Nat} {ty:TypeId} {pos:String} {af:Array Edge} {x y:Operand} {t e:TypeId} {bytes:Nat}
theorem RM.litS1 {a:List UInt8} (h:∀v':Sl,RM P ops Q HS n [] ((dd,v'.v)::L) w0 (Hl.rw v'.v e cS 1 [a]::H) ord) (ho:ops[i]?=some ⟨some dd,.buildSlice t 1 #[(0,x)],ty,pos,af,none⟩) (hx:evO L x=some (strV a)) [ht:RowTy P t e 1 bytes] (hd:Nat.blt dd n=true)
  (hs:∀(v':Sl) w,St w0 (Hl.rw v'.v e cS 1 [a]::H) w→St w0 HS w):RM P ops Q HS n [] L w0 H (.go i::ord):=RM.actX ho rfl rfl (x_lit (parts:=[(0,x)]) (vs:=[strV a]) (f:=cS) (l:=[a]) ⟨hx,rfl⟩ rfl rfl rfl rfl rfl rfl (rowTy_B ht.is) hd) (.inl hs) fun v' _=>h v'
theorem RS.lit2S {a b:List UInt8} (h:∀v':Sl,RS P ops Q n ((dd,v'.v)::L) w0 (Hl.rw v'.v e cS 1 [a,b]::H) rest) (hx:evO L x=some (strV a)) (hy:evO L y=some (strV b)) [ht:RowTy P t e 1 bytes] (hd:Nat.blt dd n=true) :
  RS P ops Q n L w0 H (⟨some dd,.buildSlice t 2 #[(0,x),(1,y)],ty,pos,af,none⟩::rest):=RS.actX rfl (x_lit (parts:=[(0,x),(1,y)]) (vs:=[strV a,strV b]) (f:=cS) (l:=[a,b]) ⟨hx,hy,rfl⟩ rfl rfl rfl rfl rfl rfl (rowTy_B ht.is) hd) fun v' _=>h v'
end
theorem words_c {b:Nat} {s v:Sl} {ls:List (List UInt8)} {s1 s2:List UInt8} (hl:s1.length≤1000∧s2.length≤1000) (hn:ls.length≤100):ContL Tryz.prog (fun _=>True) [wrB b s,wrR s ls,wrR v [s1,s2]] 75 [ptK b,v.v] (fun _:Sl=>True) (fun _=>.tuple #[]) (fun z=>[wrB b z,wrR z (ls++[s1++[32]++s2])]):=fun w0 HR w _ hw=>by
 have q:=join2_c (v:=v.v) hl
 change St w0 (wrB b s::wrR s ls::wrR v [s1,s2]::HR) w at hw
 refine enterU Tryz.func75 rfl rfl rfl hw ?_
 repeat' (first|(refine nxN ?_)|(show RM _ _ _ _ _ _ _ _ _ (.go 7::_);refine RM.litS1 (a:=s1++[32]++s2) (fun v'=>?_) rfl rfl rfl (fun _ _ h=>h.sub subS))|(show RM _ _ _ _ _ _ _ _ _ (.go 8::_);refine RM.appendA (f':=cS) (l:=ls) (l':=[s1++[32]++s2]) (fun z=>?_) rfl rfl rfl (by intro v';exact updA) (by exact rdA) (fun _=>rfl) (by simp only[List.length_cons,List.length_nil];omega) rfl (fun _ _ h=>h.sub subS))|(refine G.mixedM 0 [.go 0,.go 1,.go 2,.go 3,.go 4,.go 5,.go 6,.go 7,.go 8,.go 9,.go 10,.go 11] [true,false,true] ?_;dsimp only[maskH])|(show YK _ _ _ _ _ _ _;refine YK.mk (zcR (q) ⟨rfl,rfl,rfl⟩) ?_)|(refine nxV ?_)|(refine nMM ?_)|done)
 all_goals first
  |exact X.endN rfl (fun w hw=>⟨_,trivial,rfl,hw.sub subS⟩)
  |exact X.retZ rfl (fun w hw=>⟨_,trivial,rfl,hw.sub subS⟩)
end Go.Proofs.YtjmdeplmenbmmaaGreatDoor
