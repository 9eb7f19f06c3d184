/- Joined texts: Bld, Pix, Vrg, Vr2, Plc. -/
import Derived.Test.YtjmdeplmenbmmaaGreatDoorW03
import Derived.Test.YtjmdeplmenbmmaaGreatDoorW08
import Derived.Lib.Builder
import Derived.Lib.AppendStr
import Derived.Test.YtjmdeplmenbmmaaGreatDoorW05
import Derived.Test.YtjmdeplmenbmmaaGreatDoorW06
set_option linter.unusedVariables false
set_option maxHeartbeats 8000000
namespace Go.Proofs.YtjmdeplmenbmmaaGreatDoor
open Go.RowKit
section
variable {P:Program} {n:Nat} {L:FL} {w0:World} {H:List Hl} {Q:Exit→Act→World→Prop} {ops:Array Oper} {rest:List Oper} {d:Option Tmp} {dd:Nat} {ty:TypeId} {pos:String} {af:Array Edge} {g:Option (Nat×Bool)} {x y:Operand} {t t' e:TypeId} {v:Value} {b:Nat}
theorem y_eqNil0 (hx:evO L x=some (.pointer none)) (hy:evO L y=some (.pointer none)) (ht:P.underlying t=some (.pointer e)):V P n L w0 H ⟨d,.binOp .eql t x y t',ty,pos,af,g⟩ (.bool true):=by
 unfold V
 intro a w ha hw
 have h:∀k:Nat,(Op.equalIn (k+1) t (.pointer none) (.pointer none)).run P w=.ok true w:=fun k=>by simp[Op.equalIn,run_underlying ht]
 simp[execOp,ha.eval hx,ha.eval hy,eqGuard,binOp,Op.equal,Op.maxDepth,h 9999]
theorem y_eqNil1 {a0:Addr} (hx:evO L x=some (.pointer (some a0))) (hy:evO L y=some (.pointer none)) (ht:P.underlying t=some (.pointer e)):V P n L w0 H ⟨d,.binOp .eql t x y t',ty,pos,af,g⟩ (.bool false):=by
 unfold V
 intro a w ha hw
 have h:∀k:Nat,(Op.equalIn (k+1) t (.pointer (some a0)) (.pointer none)).run P w=.ok false w:=fun k=>by simp[Op.equalIn,run_underlying ht]
 simp[execOp,ha.eval hx,ha.eval hy,eqGuard,binOp,Op.equal,Op.maxDepth,h 9999]
theorem y_neSame {a0:Addr} (hx:evO L x=some (.pointer (some a0))) (hy:evO L y=some (.pointer (some a0))) (ht:P.underlying t=some (.pointer e)) (hi:(P.info? e).isSome=true):V P n L w0 H ⟨d,.binOp .neq t x y t',ty,pos,af,g⟩ (.bool false):=by
 unfold V
 intro a w ha hw
 obtain⟨j,hj⟩:=Option.isSome_iff_exists.1 hi
 have h:=Lib.run_neq_ptr_same w a0 ht hj
 simp[execOp,ha.eval hx,ha.eval hy,eqGuard,h]
theorem shape_of {T:TypeId} {cs:List Value} {w:World} (hm:Hl.blk b T cs∈H) (hw:St w0 H w):w.shape? b=some (T,cs.length):=by
 have:=(hw.all _ hm:_∧w.heap[b]?=some (.cells cs.toArray T (0,0))).2
 simp[World.shape?,this]
theorem y_toUnsafe {T:TypeId} {cs:List Value} (hx:evO L x=some (.pointer (some ⟨b,0,none⟩))) (hm:Hl.blk b T cs∈H) (h0:0<cs.length) (hs:P.underlying t=some (.pointer e)) (hd:P.underlying t'=some .unsafePointer) (hi:(P.info? e).map (·.size)=some 2):V P n L w0 H ⟨d,.convert t t' x,ty,pos,af,g⟩ (.pointer (some ⟨b,0,none⟩)):=by
 unfold V
 intro a w ha hw
 obtain⟨j,hj,hz⟩:=Option.map_eq_some_iff.1 hi
 have h:=Lib.run_to_unsafe w ⟨b,0,none⟩ hs hd hj (by omega) (shape_of hm hw) h0
 simp[execOp,ha.eval hx,h]
theorem y_fromUnsafe {k:Nat} {T:TypeId} {cs:List Value} (hx:evO L x=some (.pointer (some ⟨b,0,none⟩))) (hm:Hl.blk b T cs∈H) (hs:P.underlying t=some .unsafePointer) (hd:P.underlying t'=some (.pointer e)) (hi:(P.info? e).isSome=true) (hk:cs.length=k) (hl:liesAt P P.depth T (k/P.cellsOf T) 0 e 1=true):V P n L w0 H ⟨d,.convert t t' x,ty,pos,af,g⟩ (.pointer (some ⟨b,0,none⟩)):=by
 unfold V
 intro a w ha hw
 obtain⟨j,hj⟩:=Option.isSome_iff_exists.1 hi
 have h:=Lib.run_from_unsafe w ⟨b,0,none⟩ hs hd hj (shape_of hm hw) (by rw[hk];exact hl)
 simp[execOp,ha.eval hx,h]
theorem y_noEsc {f:FuncId} {fn:Func} {tys:Array TypeId} (hx:evO L x=some v) (hf:P.funcs[f]?=some fn) (hname:(fn.name == "runtime.NumGoroutine")=false) (hb:fn.body.isNone=true) (hn:Extern.findNext fn=none) (he:Extern.find fn=some Extern.AbiNoEscape.same):V P n L w0 H ⟨d,.call { callee:=.value (.func f),args:=#[x],argTypes:=tys },ty,pos,af,g⟩ v:=by
 unfold V
 intro a w ha hw
 rw[show execOp a.eval ⟨d,.call { callee:=.value (.func f),args:=#[x],argTypes:=tys },ty,pos,af,g⟩=callFunc f (#[]++#[x].map a.eval++#[]) from rfl]
 rw[run_callFunc_extern hf hname hb hn he]
 simp[ha.eval hx,Lib.run_noEscape]
theorem y_nil {a0:Addr} (hx:evO L x=some (.pointer (some a0))):V P n L w0 H ⟨d,.nilCheck x,ty,pos,af,g⟩ (.pointer (some a0)):=by
 unfold V
 intro a w ha hw
 simp[execOp,ha.eval hx]
end
abbrev cU (c:UInt8):List Value:=[.int .u8 c.toNat]
theorem strCells_cU (l:List UInt8):Lib.strCells ⟨l.toArray⟩=l.flatMap cU:=by
 unfold Lib.strCells
 show l.map _=_
 induction l with
 |nil=>rfl
 |cons c r ih=>simp[ih]
section
variable {P:Program} {n:Nat} {L:FL} {w0:World} {H:List Hl} {Q:Exit→Act→World→Prop} {ops:Array Oper} {rest:List Oper} {dd:Nat} {ty:TypeId} {pos:String} {af:Array Edge} {gd:Option (Nat×Bool)} {x y:Operand} {t u e:TypeId} {v:Value}
theorem run_appStr_at (w:World) (base:Nat) (t u ty e:TypeId) (i:TypeInfo) (ht:P.underlying t=some (.slice e)) (hu:P.underlying u=some .string) (hi:P.info? e=some i) (hz:i.zero=some (.int .u8 0)) (hsize:i.size=1) (hby:i.bytes=1)
  (v:Value) (n:Nat) (xs:List Value) (hown:w.ownsRow base e 1 v n xs) (s:ByteArray) (hbytes:n+s.size≤140737488355328) (hbase:base≤w.heap.size) :
  ∃v' w',(Builtin.append_ #[t,u] ty #[v,.string s]).run P w=.ok v' w'∧w'.ownsRow base e 1 v' (n+s.size) (xs++Lib.strCells s)∧w.grownBy w' v.ownBlock∧∀b,v'.ownBlock=some b→v.ownBlock=some b∨w.heap.size≤b:=by
 have hxl:xs.length=n:=by simpa using hown.1
 obtain⟨v',w',hr,h2,h3,h4⟩:=Lib.run_append_own_string (P:=P) w base t u ty e i ht hu hi hz hsize hby v n xs hown s (by simp only[maxLen];omega) hbytes hbase
 refine⟨v',w',hr,h2,h3,fun b hb=>?_⟩
 rcases hown.2 with ⟨rfl,rfl⟩|⟨g,cap,cur,rfl,hbg,hg,hnc,hcm,hcs,htake⟩
 ·by_cases hm:s.size=0
  ·rw[h4.2 ⟨rfl,hm⟩] at hb;simp[Value.ownBlock] at hb
  ·have hr2:=run_append_nil_string (P:=P) w t u ty e i (.int .u8 0) ht hu hi hz s (by omega) (by omega) (by rw[hby];omega)
   rw[hr2] at hr
   simp only[Result.ok.injEq] at hr
   rw[←hr.1] at hb
   simp only[Value.ownBlock,Option.some.injEq] at hb
   exact .inr (by omega)
 ·by_cases hroom:n+s.size≤cap
  ·have hcs':cur.size=cap:=by simpa using hcs
   have hr2:=Lib.run_append_room_string (P:=P) w t u ty e i ht hu hi hsize g n cap cur hg s hroom (by omega)
   rw[hr2] at hr
   simp only[Result.ok.injEq] at hr
   rw[←hr.1] at hb
   exact .inl hb
  ·have holds:∀j u,xs[j]?=some u→w.cell? ((⟨g,0,none⟩:Addr).add j)=some u:=hown.cells (g:=g) rfl
   have hr2:=Lib.run_append_grow_string (P:=P) w t u ty e i (.int .u8 0) ht hu hi hz ⟨g,0,none⟩ n cap xs (by rw[hsize];simpa using hxl) holds s (by omega) (by omega) (by rw[hby];exact growslice_fits (by omega) (by omega))
   rw[hr2] at hr
   simp only[Result.ok.injEq] at hr
   rw[←hr.1] at hb
   simp only[Value.ownBlock,Option.some.injEq] at hb
   exact .inr (by omega)
theorem x_appStr {l l':List UInt8} {H':Sl→List Hl} (hx:evO L x=some v) (hy:evO L y=some (strV l')) (hu:∀v':Sl,Upd (Hl.rw v e cU 1 l) (Hl.rw v'.v e cU 1 (l++l')) H (H' v')) (hb:l.length+l'.length≤140737488355328) (ht:rowTyB P t e 1 1=true) (hz0:zeroByteB P e=true) (hs:P.underlying u=some .string) (hd:Nat.blt dd n=true) :
  EX P n L w0 H ⟨some dd,.call { callee:=.builtin .append,args:=#[x,y],argTypes:=#[t,u] },ty,pos,af,gd⟩ (fun _:Sl=>True) (fun v'=>(dd,v'.v)::L) H' :=
 EX.of_run (fun a w ha hw=>by
  obtain⟨i,z,hu1,hi,hz,hs1,hby,hzs,h0⟩:=rowTyB_spec ht
  have hz2:i.zero=some (.int .u8 0):=by
   have:=zeroByteB_spec hz0
   simp[zeroOf,hi] at this
   exact this
  have hsz:(⟨l'.toArray⟩:ByteArray).size=l'.length:=size_str l'
  obtain⟨v',w',hr1,h2,h3,h4⟩:=run_appStr_at (P:=P) w w0.heap.size t u ty e i hu1 hs hi hz2 hs1 hby v l.length _ (hw.all _ (hu ⟨none,0,0⟩).mem) ⟨l'.toArray⟩ (by rw[hsz];exact hb) hw.ext.size
  rw[hsz,strCells_cU] at h2
  obtain⟨x',rfl⟩:=owns_sl h2
  refine⟨_,w',x',by simp[execOp,resolve,invoke,builtin,ha.eval hx,ha.eval hy,hr1],trivial,rfl,hw.turn (hu x') rfl h3 ?_ h4⟩
  show w'.ownsRow _ _ _ _ _ _
  rw[List.length_append,List.flatMap_append]
  exact h2) hd
theorem RS.appStr {l l':List UInt8} {H':Sl→List Hl} (h:∀v':Sl,RS P ops Q n ((dd,v'.v)::L) w0 (H' v') rest) (hx:evO L x=some v) (hy:evO L y=some (strV l')) (hu:∀v':Sl,Upd (Hl.rw v e cU 1 l) (Hl.rw v'.v e cU 1 (l++l')) H (H' v')) (hb:l.length+l'.length≤140737488355328) (ht:rowTyB P t e 1 1=true) (hz0:zeroByteB P e=true) (hs:P.underlying u=some .string) (hd:Nat.blt dd n=true) :
  RS P ops Q n L w0 H (⟨some dd,.call { callee:=.builtin .append,args:=#[x,y],argTypes:=#[t,u] },ty,pos,af,none⟩::rest):=RS.actX rfl (x_appStr hx hy hu hb ht hz0 hs hd) fun v' _=>h v'
end
abbrev pB (b:Nat):Value:=.pointer (some ⟨b,0,none⟩)
theorem copyCheck1_c (b:Nat) (sl:Value):ContU Tryz.prog (Hl.blk b 247 [pB b,sl]) 258 [pB b] (fun _:Unit=>True) (fun _=>.tuple #[]) (fun _=>[Hl.blk b 247 [pB b,sl]]):=fun w0 HR w hw=>by
 refine enterU Tryz.func258 rfl rfl rfl hw ?_
 repeat' (first|(show YK _ _ _ _ _ ⟨_,.nilCheck _,_,_,_,_⟩ _;refine YK.ofV (y_nil (by rfl)) ?_)|(show YK _ _ _ _ _ ⟨_,.binOp .eql _ _ _ _,_,_,_,_⟩ _;refine YK.ofV (y_eqNil1 (by rfl) (by rfl) Tryz.underlying244) ?_)|(show YK _ _ _ _ _ ⟨_,.binOp .neq _ _ _ _,_,_,_,_⟩ _;refine YK.ofV (y_neSame (by rfl) (by rfl) Tryz.underlying244 (by decide +kernel)) ?_)|(refine nxV ?_)|(refine nSS ?_)|(refine nxX ?_)|(refine G.cN rfl (fun hc=>?_) (fun hc=>?_)<;>(try first|exact hc.elim|(exfalso;omega))))
 exact X.endN rfl (fun w hw=>⟨(),trivial,rfl,hw⟩)
theorem copyCheck0_c (b:Nat) (sl:Value):ContU Tryz.prog (Hl.blk b 247 [.pointer none,sl]) 258 [pB b] (fun _:Unit=>True) (fun _=>.tuple #[]) (fun _=>[Hl.blk b 247 [pB b,sl]]):=fun w0 HR w hw=>by
 refine enterU Tryz.func258 rfl rfl rfl hw ?_
 repeat' (first|(show YK _ _ _ _ _ ⟨_,.nilCheck _,_,_,_,_⟩ _;refine YK.ofV (y_nil (by rfl)) ?_)|(show YK _ _ _ _ _ ⟨_,.binOp .eql _ _ _ _,_,_,_,_⟩ _;refine YK.ofV (y_eqNil0 (by rfl) (by rfl) Tryz.underlying244) ?_)|(show YK _ _ _ _ _ ⟨_,.call _,_,_,_,_⟩ _;refine YK.ofV (y_noEsc (by rfl) Tryz.func301 (by kernel_rfl) (by kernel_rfl) (by kernel_rfl) (by kernel_rfl)) ?_)|(show YK _ _ _ _ _ ⟨_,.convert 244 _ _,_,_,_,_⟩ _;refine YK.ofV (y_toUnsafe (by rfl) (List.Mem.head _) (Nat.zero_lt_succ _) Tryz.underlying244 Tryz.underlying322 (by kernel_rfl)) ?_)|(show YK _ _ _ _ _ ⟨_,.convert 322 _ _,_,_,_,_⟩ _;refine YK.ofV (y_fromUnsafe (k:=2) (by rfl) (List.Mem.head _) Tryz.underlying322 Tryz.underlying244 (by decide +kernel) rfl (by kernel_rfl)) ?_)|(refine nxV ?_)|(refine nSS ?_)|(refine nxX ?_)|(refine G.cN rfl (fun hc=>?_) (fun hc=>?_)<;>(try first|exact hc.elim|(exfalso;omega))))
 exact X.endN rfl (fun w hw=>⟨(),trivial,rfl,hw⟩)
def ContW (P:Program) (X1 X2:Hl) (f:FuncId) (args:List Value) {ι:Type} (post:ι→Prop) (v:ι→Value) (Y:ι→List Hl):Prop :=
 ∀w0 HR w,St w0 (X1::X2::HR) w→Calls P f args.toArray w fun e w'=>∃z,post z∧e=.returned (v z)∧St w0 (Y z++HR) w'
section
variable {P:Program} {n:Nat} {L:FL} {w0:World} {H:List Hl} {Q:Exit→Act→World→Prop} {ops:Array Oper} {rest:List Oper} {dd:Nat} {ty:TypeId} {pos:String} {af:Array Edge} {gd:Option (Nat×Bool)} {ι:Type}
theorem x_callW {X1 X2:Hl} {A B A' B':List Hl} {f:FuncId} {xs:List Operand} {vs:List Value} {tys:Array TypeId} {post:ι→Prop} {v:ι→Value} {Y:ι→List Hl} (hc:ContW P X1 X2 f vs post v Y) (ha:AE L xs vs) (hA:At X2 A B H) (hA2:At X1 A' B' (A++B)) (hg:isGo P f=true) (hd:Nat.blt dd n=true) :
  EX P n L w0 H ⟨some dd,.call { callee:=.value (.func f),args:=xs.toArray,argTypes:=tys },ty,pos,af,gd⟩ post (fun z=>(dd,v z)::L) (fun z=>Y z++(A'++B')):=fun a w hfr hw K Q hK=>by
 unfold Oper.wp
 rw[run_call hfr ha hg]
 have h1:=St.front hA hw
 have h2:=St.front (At.there (h:=X2) hA2) h1
 refine(hc w0 (A'++B') w h2).mono ?_
 rintro e w' ⟨z,hz,rfl,hs⟩
 exact hK _ _ ⟨z,hz,hfr.put (by simpa [Nat.blt_eq] using hd),hs⟩
theorem RS.callW {X1 X2:Hl} {A B A' B':List Hl} {f:FuncId} {xs:List Operand} {vs:List Value} {tys:Array TypeId} {post:ι→Prop} {v:ι→Value} {Y:ι→List Hl} (hc:ContW P X1 X2 f vs post v Y) (ha:AE L xs vs) (h:∀z,post z→RS P ops Q n ((dd,v z)::L) w0 (Y z++(A'++B')) rest)
  (hA:At X2 A B H:=by first|exact .here|exact .there .here|exact .there (.there .here)|exact .there (.there (.there .here))|exact .there (.there (.there (.there .here))))
  (hA2:At X1 A' B' (A++B):=by first|exact .here|exact .there .here|exact .there (.there .here)|exact .there (.there (.there .here))|exact .there (.there (.there (.there .here))))
  (hg:isGo P f=true:=by decide +kernel) (hd:Nat.blt dd n=true:=by rfl) :
  RS P ops Q n L w0 H (⟨some dd,.call { callee:=.value (.func f),args:=xs.toArray,argTypes:=tys },ty,pos,af,none⟩::rest):=RS.actX rfl (x_callW hc ha hA hA2 hg hd) h
end
abbrev bldB (b:Nat) (p:Value) (x:Sl):Hl:=Hl.blk b 247 [p,x.v]
abbrev bldR (x:Sl) (l:List UInt8):Hl:=Hl.rw x.v 5 cU 1 l
theorem writeS_c (b:Nat) (p:Value) (hp:p=.pointer none∨p=pB b) (x:Sl) (l l':List UInt8) (hb:l.length+l'.length≤140737488355328):ContW Tryz.prog (bldR x l) (bldB b p x) 213 [pB b,strV l'] (fun _:Sl=>True) (fun _=>.tuple [.int .i64 l'.length,.nilIface].toArray) (fun z=>[bldB b (pB b) z,bldR z (l++l')]):=fun w0 HR w hw=>by
 have qc:ContU Tryz.prog (bldB b p x) 258 [pB b] (fun _:Unit=>True) (fun _=>.tuple #[]) (fun _=>[bldB b (pB b) x]):=by
  rcases hp with rfl|rfl
  ·exact copyCheck0_c b x.v
  ·exact copyCheck1_c b x.v
 refine enterU Tryz.func213 rfl rfl rfl hw ?_
 repeat' (first|(show YK _ _ _ _ _ ⟨_,.call { callee:=.builtin .len,args:=_,argTypes:=#[9] },_,_,_,_⟩ _;refine YK.ofV (y_lenS (by rfl) StrTy.is) ?_)|(refine RS.callU qc ⟨rfl,rfl⟩ ?_;rintro z0 _;dsimp only[List.cons_append,List.nil_append])|(show YK _ _ _ _ _ ⟨_,.nilCheck _,_,_,_,_⟩ _;refine YK.ofV (y_nil (by rfl)) ?_)|(refine RS.appStr ?_ (by rfl) (by rfl) (fun v'=>.there _ (.here _)) hb (by decide +kernel) (by decide +kernel) Tryz.underlying9 (by rfl);intro z1)|(refine nxV ?_)|(refine nSS ?_)|(refine nxX ?_)|done)
 exact X.ret (vs:=[_,_]) rfl ⟨rfl,rfl,rfl⟩ rfl (fun w hw=>⟨z1,trivial,rfl,hw⟩)
theorem RS.litU {P:Program} {ops:Array Oper} {Q:Exit→Act→World→Prop} {n:Nat} {L:FL} {w0:World} {H:List Hl} {dd:Tmp} {ty:TypeId} {pos:String} {af:Array Edge} {t e:TypeId} {x:Operand} {c:UInt8} {rest:List Oper} (h:∀v':Sl,RS P ops Q n ((dd,v'.v)::L) w0 (Hl.rw v'.v e cU 1 [c]::H) rest) (hx:evO L x=some (.int .u8 c.toNat)) (ht:rowTyB P t e 1 1=true) (hd:Nat.blt dd n=true) :
  RS P ops Q n L w0 H (⟨some dd,.buildSlice t 1 #[(0,x)],ty,pos,af,none⟩::rest):=RS.actX rfl (x_lit (parts:=[(0,x)]) (vs:=[.int .u8 c.toNat]) (f:=cU) (l:=[c]) ⟨hx,rfl⟩ rfl rfl rfl rfl rfl rfl ht hd) fun v' _=>h v'
theorem writeB_c (b:Nat) (p:Value) (hp:p=.pointer none∨p=pB b) (x:Sl) (l:List UInt8) (c:UInt8) (hb:l.length≤1000000):ContW Tryz.prog (bldR x l) (bldB b p x) 264 [pB b,.int .u8 c.toNat] (fun _:Sl=>True) (fun _=>.nilIface) (fun z=>[bldB b (pB b) z,bldR z (l++[c])]):=fun w0 HR w hw=>by
 have qc:ContU Tryz.prog (bldB b p x) 258 [pB b] (fun _:Unit=>True) (fun _=>.tuple #[]) (fun _=>[bldB b (pB b) x]):=by
  rcases hp with rfl|rfl
  ·exact copyCheck0_c b x.v
  ·exact copyCheck1_c b x.v
 refine enterU Tryz.func264 rfl rfl rfl hw ?_
 repeat' (first|(refine RS.callU qc ⟨rfl,rfl⟩ ?_;rintro z0 _;dsimp only[List.cons_append,List.nil_append])|(show YK _ _ _ _ _ ⟨_,.nilCheck _,_,_,_,_⟩ _;refine YK.ofV (y_nil (by rfl)) ?_)|(show RS _ _ _ _ _ _ _ (⟨_,.buildSlice _ _ _,_,_,_,_⟩::_);refine RS.litU (e:=5) (c:=c) ?_ (by rfl) (by decide +kernel) (by rfl);intro z2)|(show RS _ _ _ _ _ _ _ (⟨_,.call { callee:=.builtin .append,args:=_,argTypes:=_ },_,_,_,_⟩::_);refine RS.appendA (f:=cU) (l:=l) (l':=[c]) ?_;intro z1)|(refine nxV ?_)|(refine nSS ?_)|(refine nxX ?_)|done)
 exact X.ret (vs:=[_]) rfl ⟨rfl,rfl⟩ rfl (fun w hw=>⟨z1,trivial,rfl,hw.sub (List.sublist_cons_self _ _)⟩)
theorem bytes_cU (l:List UInt8):Lib.byteCells l=l.flatMap cU:=by
 unfold Lib.byteCells
 induction l with
 |nil=>rfl
 |cons c r ih=>simp[ih]
section
variable {n:Nat} {L:FL} {w0:World} {H:List Hl} {Q:Exit→Act→World→Prop} {ops:Array Oper} {rest:List Oper} {dd:Nat} {ty:TypeId} {pos:String} {af:Array Edge} {gd:Option (Nat×Bool)} {x:Operand} {tys:Array TypeId}
theorem isBld {b:Nat} {p:Value} (hp:p=.pointer none∨p=pB b) {z:Sl} {l:List UInt8} {w:World} (h1:bldB b p z∈H) (h2:bldR z l∈H) (hw:St w0 H w):Lib.IsBuilder 247 5 w0.heap.size b (Lib.byteCells l) w:=by
 have a1:_∧w.heap[b]?=some (.cells [p,z.v].toArray 247 (0,0)):=hw.all _ h1
 have a2:w.ownsRow w0.heap.size 5 1 z.v l.length (l.flatMap cU):=hw.all _ h2
 have e:(Lib.byteCells l).length=l.length:=by unfold Lib.byteCells;simp
 have a3:Lib.BuilderAt 247 5 w0.heap.size b p (Lib.byteCells l) w:=⟨a1.1,z.v,a1.2,by rw[e,bytes_cU];exact a2,Lib.ownBlock_ne a2 a1.2 (by decide)⟩
 rcases hp with rfl|rfl
 ·exact .inl a3
 ·exact .inr a3
theorem RS.string {b:Nat} {p:Value} {z:Sl} {l:List UInt8} (h:RS Tryz.prog ops Q n ((dd,strV l)::L) w0 [] rest) (hp:p=.pointer none∨p=pB b) (h1:bldB b p z∈H) (h2:bldR z l∈H) (ha:AE L [x] [pB b]) (hd:Nat.blt dd n=true:=by rfl) :
  RS Tryz.prog ops Q n L w0 H (⟨some dd,.call { callee:=.value (.func 214),args:=[x].toArray,argTypes:=tys },ty,pos,af,none⟩::rest) :=
 RS.actX rfl (post:=fun _:Unit=>True) (fun a w hfr hw K Q hK=>by
  unfold Oper.wp
  rw[run_call hfr ha (by decide +kernel)]
  refine(Tryz.Builder_String_any w0.heap.size b l w (isBld hp h1 h2 hw) hw.ext.size).mono ?_
  rintro e w' ⟨rfl,hs⟩
  exact hK _ _ ⟨(),trivial,hfr.put (by simpa [Nat.blt_eq] using hd),hw.ext.trans hs,(fun y hy=>by cases hy),trivial⟩) fun _ _=>h
end
def signI (n:Int):Int:=if TT.turnI n≥10800000 then TT.turnI n-21600000 else TT.turnI n
theorem wrap_c {n:Int} (h : -4611686018427387904≤n∧n≤4611686018427387904):Cont Tryz.prog 87 [.int .i64 n] (.int .i64 (TT.turnI n)):=fun w=>by
 have ht:=tmod_turn n
 have hb : -21600000<n.tmod 21600000∧n.tmod 21600000<21600000:=by omega
 refine enter0 Tryz.func87 rfl rfl rfl ?_
 repeat' (first|(refine nxV ?_)|(refine nSS ?_)|(refine nxX ?_)|(refine G.cN rfl (fun hc=>?_) (fun hc=>?_)<;>(try first|exact hc.elim|(exfalso;omega))))
 all_goals refine X.ret (vs:=[_]) rfl ⟨rfl,rfl⟩ rfl (fun w hw=>⟨congrArg Ending.returned (congrArg (Value.int .i64) ?_),hw.ext⟩)
 all_goals (unfold TT.turnI;omega)
theorem signed_c {n:Int} (h : -4611686018427387904≤n∧n≤4611686018427387904):Cont Tryz.prog 31 [.int .i64 n] (.int .i64 (signI n)):=fun w=>by
 have q1:=wrap_c h
 have hb:=TT.turnI_bd n
 unfold signI
 generalize TT.turnI n=m at *
 by_cases hc:m≥10800000
 ·rw[if_pos hc]
  refine enter0 Tryz.func31 rfl rfl rfl ?_
  repeat' (first|(show YK _ _ _ _ _ _ _;refine YK.mk (zcA (q1) ⟨rfl,rfl⟩) ?_)|(refine nxV ?_)|(refine nSS ?_)|(refine nxX ?_)|(refine G.cN rfl (fun hc=>?_) (fun hc=>?_)<;>(try first|exact hc.elim|(exfalso;omega))))
  exact X.ret1
 ·rw[if_neg hc]
  refine enter0 Tryz.func31 rfl rfl rfl ?_
  repeat' (first|(show YK _ _ _ _ _ _ _;refine YK.mk (zcA (q1) ⟨rfl,rfl⟩) ?_)|(refine nxV ?_)|(refine nSS ?_)|(refine nxX ?_)|(refine G.cN rfl (fun hc=>?_) (fun hc=>?_)<;>(try first|exact hc.elim|(exfalso;omega))))
  exact X.ret1
theorem signI_bd (n:Int) : -10800000≤signI n∧signI n<10800000:=by
 have:=TT.turnI_bd n
 unfold signI
 split<;>omega
def pointB (la lo:Int):Bool:=decide (-5400000≤la)&&decide (la≤5400000)&&decide (-10800000≤lo)&&decide (lo<10800000)
abbrev ptV (la lo:Int):Value:=.agg [.int .i64 la,.int .i64 lo].toArray
theorem vpoint_c (la lo:Int):Cont Tryz.prog 37 [ptV la lo] (.bool (pointB la lo)):=fun w=>by
 refine enter0 Tryz.func37 rfl rfl rfl ?_
 repeat' (first|(refine nxV ?_)|(refine nSS ?_)|(refine nS1 fun _=>?_)|(refine nxG ?_)|(refine nxX ?_)|done)
 exact X.ret1
def ofT (x:RR.CellT):Cel:=⟨x.lv,x.r,x.c⟩
theorem ofT_ok {x:RR.CellT} : ckB (ofT x)=true↔RR.okC x:=by
 obtain⟨lv,r,c⟩:=x
 have e:(2:Int)^((lv:Int)).toNat=((2^lv:Nat):Int):=by rw[Int.toNat_natCast];simp
 show (decide (0≤(lv:Int))&&decide ((lv:Int)≤16)&&decide (0≤(r:Int))&&decide ((r:Int)<2^((lv:Int)).toNat)&&decide (0≤(c:Int))&&decide ((c:Int)<2*2^((lv:Int)).toNat))=true↔(lv≤16∧r<2^lv∧c<2*2^lv)
 rw[e]
 generalize 2^lv=q
 simp only[Bool.and_eq_true,decide_eq_true_eq]
 omega
theorem flatT (l:List RR.CellT):(l.map ofT).flatMap cK=l.flatMap cT:=by
 rw[List.flatMap_map];rfl
theorem rdT_K (v:Value) (l:List RR.CellT):Hl.rd v cK 3 (l.map ofT)=Hl.rd v cT 3 l:=by
 show Hl.ro false v 3 (l.map ofT).length ((l.map ofT).flatMap cK)=Hl.ro false v 3 l.length (l.flatMap cT)
 rw[flatT,List.length_map]
theorem eqT {x y:RR.CellT} : eqCells (cT x) (cT y)=decide (x=y):=by
 obtain⟨a,b,c⟩:=x
 obtain⟨d,e,f⟩:=y
 by_cases h:a=d∧b=e∧c=f
 ·obtain⟨rfl,rfl,rfl⟩:=h
  simp[eqCells,vEq,cT]
 ·have hn:¬(RR.CellT.mk a b c=RR.CellT.mk d e f):=fun g=>h (by simpa using g)
  rw[decide_eq_false hn]
  simp only[eqCells,vEq,cT]
  simp
  omega
theorem celEq_c (v u:Value) (a b:List RR.CellT) (ha:a.length≤1000000) (hb':b.length≤1000000):ContR Tryz.prog [Hl.rd v cT 3 a,Hl.rd u cT 3 b] 144 [v,u] (.bool (decide (a=b))):=fun w hw0=>by
 by_cases hl:a.length=b.length
 ·refine enter Tryz.func144 rfl rfl rfl hw0 ?_
  repeat' (first|(refine nxV ?_)|(refine nSS ?_)|(refine nxX ?_)|(refine G.cN rfl (fun hc=>?_) (fun hc=>?_)<;>(try first|exact hc.elim|(exfalso;omega))))
  all_goals first|(exfalso;omega)|skip
  refine G.loop (ι:=Nat) (fun i=>[(0,v),(1,u),(12,.int .i64 a.length),(13,.int .i64 (i:Int))]) (fun _=>[Hl.rd v cT 3 a,Hl.rd u cT 3 b]) (fun i=>i≤a.length∧a.take i=b.take i) (fun i=>a.length-i) 0 ⟨Nat.zero_le _,rfl⟩ ⟨rfl,rfl,rfl,rfl,trivial⟩ (by exact fun w h=>h.sub subS) ?_
  rintro i mx ⟨g1,g2⟩ hmx
  (try dsimp only at g1 g2 hmx ⊢)
  rcases Nat.lt_or_ge i a.length with hi|hi
  ·have e1:=nth_get hi
   have e2:=nth_get (l:=b) (i:=i) (by omega)
   have et:=eqT (x:=nth a (i:Int)) (y:=nth b (i:Int))
   repeat' (first|(refine nxV ?_)|(refine nSS ?_)|(refine nMM ?_)|(refine G.mA 6 [.go 0,.go 1,.go 2,.go 3,.go 4,.go 5,.go 6,.go 7,.go 8] ?_)|(refine nxX ?_)|(refine G.cN rfl (fun hc=>?_) (fun hc=>?_)<;>(try first|exact hc.elim|(exfalso;omega))))
   ·refine X.ret (vs:=[_]) rfl ⟨rfl,rfl⟩ rfl (fun w hw=>⟨ret_bool ?_,hw.ext⟩)
    rw[et,decide_eq_false_iff_not,e1,e2] at hc
    symm
    apply decide_eq_false
    intro h
    subst h
    exact hc rfl
   ·refine X.again (i+1) ⟨by omega,?_⟩ (by omega) ⟨rfl,rfl,rfl,rfl,trivial⟩ (by exact fun w h=>h.sub subS)
    rw[et,decide_eq_true_eq] at hc
    rw[List.take_add_one,List.take_add_one,g2,List.getElem?_eq_getElem hi,List.getElem?_eq_getElem (by omega),←e1,←e2,hc]
  ·obtain rfl:i=a.length:=by omega
   have hab:a=b:=by rw[List.take_length,hl,List.take_length] at g2;exact g2
   repeat' (first|(refine nxV ?_)|(refine nSS ?_)|(refine nxX ?_)|(refine G.cN rfl (fun hc=>?_) (fun hc=>?_)<;>(try first|exact hc.elim|(exfalso;omega))))
   refine X.ret (vs:=[_]) rfl ⟨rfl,rfl⟩ rfl (fun w hw=>⟨ret_bool (decide_eq_true hab).symm,hw.ext⟩)
 ·have hab:¬a=b:=fun h=>hl (by rw[h])
  rw[decide_eq_false hab]
  refine enter Tryz.func144 rfl rfl rfl hw0 ?_
  repeat' (first|(refine nxV ?_)|(refine nSS ?_)|(refine nxX ?_)|(refine G.cN rfl (fun hc=>?_) (fun hc=>?_)<;>(try first|exact hc.elim|(exfalso;omega))))
  all_goals first|(exfalso;omega)|exact X.ret1
theorem mergeS_lt {out:List (Nat×Nat)} {s:Nat×Nat} {M:Nat} (h:∀x∈out,x.1≤x.2∧x.2≤M) (hs:s.1≤s.2∧s.2≤M):∀x∈RR.mergeS out s,x.1≤x.2∧x.2≤M:=by
 rcases List.eq_nil_or_concat out with rfl|⟨p,l,rfl⟩
 ·intro x hx
  rw[RR.mergeS_nil] at hx
  obtain rfl:=List.mem_singleton.1 hx
  exact hs
 ·rw[List.concat_eq_append] at h ⊢
  rw[RR.mergeS_snoc]
  have hl:=h l (by simp)
  split
  ·intro x hx
   rcases List.mem_append.1 hx with hx|hx
   ·exact h x (List.mem_append_left _ hx)
   ·obtain rfl:=List.mem_singleton.1 hx
    show l.1≤max l.2 s.2∧max l.2 s.2≤M
    omega
  ·intro x hx
   rcases List.mem_append.1 hx with hx|hx
   ·exact h x hx
   ·obtain rfl:=List.mem_singleton.1 hx
    exact hs
theorem foldS_lt {M:Nat} : ∀(S out:List (Nat×Nat)),(∀x∈out,x.1≤x.2∧x.2≤M)→(∀x∈S,x.1≤x.2∧x.2≤M)→(∀x∈S.foldl RR.mergeS out,x.1≤x.2∧x.2≤M)∧(S.foldl RR.mergeS out).length≤out.length+S.length
 |[],out,h,_=>⟨h,Nat.le_refl _⟩
 |s::r,out,h,hs=>by
  have h1:=foldS_lt r (RR.mergeS out s) (mergeS_lt h (hs s (by simp))) fun x hx=>hs x (List.mem_cons_of_mem _ hx)
  have h2:=RR.mergeS_len out s
  rw[List.foldl_cons,List.length_cons]
  exact⟨h1.1,by omega⟩
theorem cover_facts {l:List RR.CellT} (ok:∀x∈l,RR.okC x) {S:List (Nat×Nat)} (hp:S.Perm (l.map RR.spanC)):(∀s∈S.foldl RR.mergeS [],s.1≤s.2∧s.2≤8589934592)∧(S.foldl RR.mergeS []).length≤l.length:=by
 have h:=foldS_lt (M:=8589934592) S [] (fun x hx=>by cases hx) fun x hx=>by
  have:=hp.mem_iff.1 hx
  obtain⟨y,hy,rfl⟩:=List.mem_map.1 this
  have:=RR.okC_span (ok y hy)
  omega
 refine⟨h.1,?_⟩
 have h2:=h.2
 rw[hp.length_eq,List.length_map,List.length_nil] at h2
 omega
theorem vreg_c (v:Value) (l:List RR.CellT) (ok:∀x∈l,RR.okC x) (hv:RR.IdxOk l) (hl:l.length≤4000):ContR Tryz.prog [Hl.rd v cT 3 l] 60 [v] (.bool true):=fun w hw0=>by
 have q1:=celCont_c v (l.map ofT) (by rw[List.length_map];omega)
 have ha:(l.map ofT).all ckB=true:=by
  rw[List.all_eq_true]
  intro x hx
  obtain⟨y,hy,rfl⟩:=List.mem_map.1 hx
  exact ofT_ok.2 (ok y hy)
 rw[rdT_K,ha] at q1
 have q2:=cover_c v l ok hl
 have q4:=fun u=>celEq_c u v l l (by omega) (by omega)
 rw[decide_eq_true rfl] at q4
 refine enter Tryz.func60 rfl rfl rfl hw0 ?_
 repeat' (first|(show RS _ _ _ _ _ _ _ (⟨some 14,_,_,_,_,_⟩::_);refine RS.callX q2 ⟨rfl,rfl⟩ ?_;rintro⟨z,C⟩ ⟨S,hS1,hS2,hS3⟩;dsimp only at hS3;subst hS3;have hcf:=cover_facts ok hS1;have hri:=(RR.region_iff ok hS1 hS2).2 hv;have q3:=tidy_c z.v (S.foldl RR.mergeS []) hcf.1 (by omega) (by(rw[hri];exact hl));rw[hri] at q3;dsimp only[List.cons_append,List.nil_append])|(show RS _ _ _ _ _ _ _ (⟨some 15,_,_,_,_,_⟩::_);refine RS.callX q3 ⟨rfl,rfl⟩ ?_;rintro z2 -;dsimp only[List.cons_append,List.nil_append])|(show YK _ _ _ _ _ _ _;refine YK.mk (zcR ((q4 _)) ⟨rfl,rfl,rfl⟩) ?_)|(refine nxV ?_)|(refine nSS ?_)|(show YG _ _ _ _ _ _ _ _;refine YG.mk (fun hb=>by(try(have hc:=And.left hb;have hb:=And.right hb;rw[hc]));(try rw[hb]);first|exact(zcR (q1) ⟨rfl,rfl,rfl⟩)|exact V.y vAuto) ?_)|(refine nxX ?_)|(refine G.cN rfl (fun hc=>?_) (fun hc=>?_)<;>(try first|exact hc.elim|(exfalso;omega))))
 all_goals first|(exfalso;omega)|exact X.ret1
abbrev plV (a b c d:Int):Value:=.agg [.int .i64 a,.int .i64 b,.int .i64 c,.int .i64 d].toArray
theorem edge_c {i lv e:Nat} (hi:i≤200000) (hl:lv≤16) (he:i*10800000/2^lv=e):Cont Tryz.prog 145 [.int .i64 (i:Int),.int .i64 (lv:Int)] (.int .i64 (e:Int)):=fun w=>by
 refine enter0 Tryz.func145 rfl rfl rfl ?_
 repeat' (first|(show YK _ _ _ _ _ ⟨_,.binOp .shr _ _ _ _,_,_,_,_⟩ _;refine YK.ofV (y_shrA (m:=i*10800000) (j:=lv) (by rfl) (by rfl) (by omega) (by omega) he) ?_)|(refine nxV ?_)|(refine nSS ?_)|(refine nxX ?_)|done)
 exact X.ret1
def egN (i lv:Nat):Nat:=i*10800000/2^lv
def bxA (x:RR.CellT):Int:=(egN x.r x.lv:Int)-5400000
def bxB (x:RR.CellT):Int:=(egN (x.r+1) x.lv:Int)-5400000
def bxC (x:RR.CellT):Int:=(egN x.c x.lv:Int)-10800000
def bxD (x:RR.CellT):Int:=(egN (x.c+1) x.lv:Int)-10800000
theorem egN_mono {i j lv:Nat} (h:i≤j):egN i lv≤egN j lv:=Nat.div_le_div_right (Nat.mul_le_mul_right _ h)
theorem egN_top (k lv:Nat):egN (k*2^lv) lv=k*10800000:=by
 unfold egN
 rw[Nat.mul_right_comm,Nat.mul_div_cancel _ (Nat.pow_pos (by decide))]
theorem egN_step (i lv:Nat):egN (i+1) lv≤egN i lv+10800001:=by
 unfold egN
 have hp:0<2^lv:=Nat.pow_pos (by decide)
 have h1:=Nat.div_add_mod (i*10800000) (2^lv)
 have h2:=Nat.mod_lt (i*10800000) hp
 have h3:(i+1)*10800000<(i*10800000/2^lv+10800002)*2^lv:=by
  rw[Nat.add_mul (i*10800000/2^lv),Nat.mul_comm (i*10800000/2^lv)]
  have h4:10800002*1≤10800002*2^lv:=Nat.mul_le_mul_left _ hp
  omega
 have:=(Nat.div_lt_iff_lt_mul hp).2 h3
 omega
structure BxOk (a b c d:Int):Prop where
 lat : -5400000≤a∧a≤b∧b≤5400000
 lon : -10800000≤c∧c<10800000∧c≤d∧d-c<21600000
theorem box_ok {x:RR.CellT} (ok:RR.okC x):BxOk (bxA x) (bxB x) (bxC x) (bxD x):=by
 obtain⟨h1,h2,h3⟩:=ok
 have r1:=egN_mono (i:=x.r) (j:=x.r+1) (lv:=x.lv) (by omega)
 have r2:=egN_mono (i:=x.r+1) (j:=1*2^x.lv) (lv:=x.lv) (by omega)
 have c1:=egN_mono (i:=x.c) (j:=x.c+1) (lv:=x.lv) (by omega)
 have c2:=egN_mono (i:=x.c+1) (j:=2*2^x.lv) (lv:=x.lv) (by omega)
 have c3:=egN_step x.c x.lv
 have c4:egN x.c x.lv<21600000:=by
  unfold egN
  refine(Nat.div_lt_iff_lt_mul (Nat.pow_pos (by decide))).2 ?_
  have:x.c*10800000<2*2^x.lv*10800000:=Nat.mul_lt_mul_of_pos_right h3 (by decide)
  omega
 rw[egN_top] at r2 c2
 unfold bxA bxB bxC bxD
 exact⟨by omega,by omega⟩
theorem built_pl (a b c d:Int):Tryz.prog.built 36 [(0,.agg [.int .i64 a,.int .i64 b].toArray),(1,.agg [.int .i64 c,.int .i64 d].toArray)]=some [.int .i64 a,.int .i64 b,.int .i64 c,.int .i64 d].toArray:=by kernel_rfl
theorem box_c {x:RR.CellT} (ok:RR.okC x):Cont Tryz.prog 61 [celV x.lv x.r x.c] (plV (bxA x) (bxB x) (bxC x) (bxD x)):=fun w=>by
 have hbd:=okC_bd ok
 have hk:=box_ok ok
 have q1:=edge_c (i:=x.r) (lv:=x.lv) (e:=egN x.r x.lv) (by omega) (by omega) rfl
 have q2:=edge_c (i:=x.r+1) (lv:=x.lv) (e:=egN (x.r+1) x.lv) (by omega) (by omega) rfl
 have q3:=edge_c (i:=x.c) (lv:=x.lv) (e:=egN x.c x.lv) (by omega) (by omega) rfl
 have q4:=edge_c (i:=x.c+1) (lv:=x.lv) (e:=egN (x.c+1) x.lv) (by omega) (by omega) rfl
 obtain⟨hk1,hk2⟩:=hk
 unfold bxA bxB bxC bxD at *
 generalize egN x.r x.lv=A at *
 generalize egN (x.r+1) x.lv=B at *
 generalize egN x.c x.lv=C at *
 generalize egN (x.c+1) x.lv=D at *
 refine enter0 Tryz.func61 rfl rfl rfl ?_
 repeat' (first|(show VK _ _ _ _ _ ⟨some 31,.build _ _,_,_,_,_⟩ _;refine VK.mk (y_build (parts:=[(0,.tmp 16),(1,.tmp 30)]) (vs:=[_,_]) ⟨rfl,rfl,rfl⟩ (built_pl _ _ _ _)) ?_)|(show YK _ _ _ _ _ _ _;first|refine YK.mk (zcA (q1) ⟨rfl,rfl,rfl⟩) ?_|refine YK.mk (zcA (q2) ⟨rfl,rfl,rfl⟩) ?_|refine YK.mk (zcA (q3) ⟨rfl,rfl,rfl⟩) ?_|refine YK.mk (zcA (q4) ⟨rfl,rfl,rfl⟩) ?_)|(refine nxV ?_)|(refine nSS ?_)|(refine nS1 fun _=>?_)|(refine nMM ?_)|(refine G.mA 1 [.go 0,.go 1,.go 2,.go 3,.go 6,.go 7,.go 8,.go 9,.go 10,.go 14,.go 15,.go 16,.go 17,.go 20,.go 21,.go 22,.go 23,.go 24,.go 4,.go 5,.go 11,.go 12,.go 13,.go 18,.go 19,.go 25,.go 26,.go 27,.go 28,.go 29] ?_)|(refine nxX ?_)|done)
 exact X.ret (vs:=[_]) rfl ⟨⟨_,_,_,_,rfl,(by exact memA),lenA,by decide +kernel,rfl⟩,rfl⟩ rfl rE
theorem plat_c {a b:Int} (h : -5400000≤a∧a≤b∧b≤5400000):Cont Tryz.prog 100 [arcV a b] (.bool true):=fun w=>by
 refine enter0 Tryz.func100 rfl rfl rfl ?_
 repeat' (first|(refine nxV ?_)|(refine nSS ?_)|(refine nS1 fun _=>?_)|(refine nxG ?_)|(refine nxX ?_)|done)
 exact X.ret (vs:=[_]) rfl ⟨rfl,rfl⟩ rfl (fun w hw=>⟨ret_bool (by simp;omega),hw.ext⟩)
theorem pev_c:Cont Tryz.prog 176 [] (arcV (-10800000) 10800000):=fun w=>by
 refine enter0 Tryz.func176 rfl rfl rfl ?_
 repeat' (first|(refine nxV ?_)|(refine nSS ?_)|(refine nS1 fun _=>?_)|(refine nxX ?_)|done)
 exact X.ret (vs:=[_]) rfl ⟨⟨_,_,_,_,rfl,(by exact memA),lenA,by decide +kernel,rfl⟩,rfl⟩ rfl rE
theorem pall_c {c d:Int} (h:d-c<21600000):Cont Tryz.prog 113 [arcV c d] (.bool false):=fun w=>by
 have q1:=pev_c
 refine enter0 Tryz.func113 rfl rfl rfl ?_
 repeat' (first|(show YK _ _ _ _ _ _ _;refine YK.mk (zcA (q1) rfl) ?_)|(refine nxV ?_)|(refine nSS ?_)|(refine nS1 fun _=>?_)|(refine nMM ?_)|(refine G.mA 1 [.go 0,.go 1,.go 2,.go 3] ?_)|(refine nxX ?_)|done)
 refine X.ret (vs:=[_]) rfl ⟨rfl,rfl⟩ rfl (fun w hw=>⟨ret_bool ?_,hw.ext⟩)
 simp[eqCells,vEq]
 omega
theorem plon_c {c d:Int} (h : -10800000≤c∧c<10800000∧c≤d∧d-c<21600000):Cont Tryz.prog 101 [arcV c d] (.bool true):=fun w=>by
 have q1:=pall_c h.2.2.2
 refine enter0 Tryz.func101 rfl rfl rfl ?_
 repeat' (first|(show YK _ _ _ _ _ _ _;refine YK.mk (zcA (q1) ⟨rfl,rfl⟩) ?_)|(refine nxV ?_)|(refine nSS ?_)|(refine nS1 fun _=>?_)|(refine nxG ?_)|(refine nxX ?_)|done)
 exact X.ret (vs:=[_]) rfl ⟨rfl,rfl⟩ rfl (fun w hw=>⟨ret_bool (by simp;omega),hw.ext⟩)
theorem pval_c {a b c d:Int} (h:BxOk a b c d):Cont Tryz.prog 46 [plV a b c d] (.bool true):=fun w=>by
 have q1:=plat_c h.lat
 have q2:=plon_c h.lon
 refine enter0 Tryz.func46 rfl rfl rfl ?_
 repeat' (first|(show YK _ _ _ _ _ ⟨_,.load 34 _,_,_,_,_⟩ _;refine YK.ofV (zlP (k:=2) (by rfl) (by exact memA) (by decide +kernel) (by rfl)) ?_)|(show YK _ _ _ _ _ _ _;first|refine YK.mk (zcA (q1) ⟨rfl,rfl⟩) ?_|refine YK.mk (zcA (q2) ⟨rfl,rfl⟩) ?_)|(refine nxV ?_)|(refine nSS ?_)|(refine nS1 fun _=>?_)|(refine nxX ?_)|done)
 exact X.ret1
theorem pbey_c {c d n:Int} (h1 : -21600000≤c∧c≤21600000) (h2 : -21600000≤n∧n≤21600000):Cont Tryz.prog 114 [arcV c d,.int .i64 n] (.int .i64 (TT.turnI (n-c))):=fun w=>by
 have q1:=wrap_c (n:=n-c) (by omega)
 refine enter0 Tryz.func114 rfl rfl rfl ?_
 repeat' (first|(show YK _ _ _ _ _ _ _;refine YK.mk (zcA (q1) ⟨rfl,rfl⟩) ?_)|(refine nxV ?_)|(refine nSS ?_)|(refine nS1 fun _=>?_)|(refine nxX ?_)|done)
 exact X.ret1
theorem phas_c {c d n:Int} (h : -10800000≤c∧c<10800000∧c≤d∧d-c<21600000) (h2 : -10800000≤n∧n≤10800000):Cont Tryz.prog 48 [arcV c d,.int .i64 n] (.bool (decide (TT.turnI (n-c)≤d-c))):=fun w=>by
 have q1:=pall_c h.2.2.2
 have q2:=pbey_c (c:=c) (d:=d) (n:=n) (by omega) (by omega)
 generalize TT.turnI (n-c)=k at *
 refine enter0 Tryz.func48 rfl rfl rfl ?_
 repeat' (first|(show YK _ _ _ _ _ _ _;first|refine YK.mk (zcA (q1) ⟨rfl,rfl⟩) ?_|refine YK.mk (zcA (q2) ⟨rfl,rfl,rfl⟩) ?_)|(refine nxV ?_)|(refine nSS ?_)|(refine nS1 fun _=>?_)|(refine nMM ?_)|(refine G.mA 1 [.go 0,.go 1,.go 2,.go 3,.go 4,.go 6,.go 7,.go 8,.go 9,.go 10,.go 5,.go 11,.go 12,.go 13] ?_)|(refine nxX ?_)|done)
 exact X.ret (vs:=[_]) rfl ⟨rfl,rfl⟩ rfl (fun w hw=>⟨ret_bool (by simp),hw.ext⟩)
def inBx (a b c d la lo:Int):Bool:=if la<a∨b<la then false else decide (la=5400000)||decide (la = -5400000)||decide (TT.turnI (lo-c)≤d-c)
theorem pcon_c {a b c d la lo:Int} (h:BxOk a b c d) (hp:pointB la lo=true):Cont Tryz.prog 14 [plV a b c d,ptV la lo] (.tuple [.bool (inBx a b c d la lo),.int .i64 0].toArray):=fun w=>by
 have q1:=pval_c h
 have q2:=vpoint_c la lo
 rw[hp] at q2
 simp only[pointB,Bool.and_eq_true,decide_eq_true_eq] at hp
 have q3:=phas_c (n:=lo) h.lon (by omega)
 unfold inBx
 obtain⟨hA,hO⟩:=h
 generalize TT.turnI (lo-c)=k at *
 refine enter0 Tryz.func14 rfl rfl rfl ?_
 repeat' (first|(show YG _ _ _ _ _ _ ⟨_,.load 34 _,_,_,_,_⟩ _;refine YG.mk (fun hb=>by(try rw[hb]);exact V.y (zlP (k:=2) (by rfl) (by exact memA) (by decide +kernel) (by rfl))) ?_)|(show YK _ _ _ _ _ _ _;first|refine YK.mk (zcA (q1) ⟨rfl,rfl⟩) ?_|refine YK.mk (zcA (q2) ⟨rfl,rfl⟩) ?_)|(refine nxV ?_)|(refine nSS ?_)|(refine nS1 fun _=>?_)|(show YG _ _ _ _ _ _ _ _;refine YG.mk (fun hb=>by(try(have hc:=And.left hb;have hb:=And.right hb;rw[hc]));(try rw[hb]);first|exact(zcA (q3) ⟨rfl,rfl,rfl⟩)|exact V.y vAuto) ?_)|(refine nxX ?_)|(refine G.cN rfl (fun hc=>?_) (fun hc=>?_)<;>(try first|exact hc.elim|(exfalso;omega))))
 ·exact X.ret (vs:=[_,_]) rfl ⟨rfl,rfl,rfl⟩ rfl (fun w hw=>⟨by rw[if_pos (by omega)],hw.ext⟩)
 ·exact X.ret (vs:=[_,_]) rfl ⟨rfl,rfl,rfl⟩ rfl (fun w hw=>⟨by rw[if_neg (by omega)],hw.ext⟩)
end Go.Proofs.YtjmdeplmenbmmaaGreatDoor
