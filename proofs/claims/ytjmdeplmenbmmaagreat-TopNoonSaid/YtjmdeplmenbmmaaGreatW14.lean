/- Joined texts: Du0, Ove. -/
import Derived.Test.YtjmdeplmenbmmaaGreatW13
import Derived.Test.YtjmdeplmenbmmaaGreatW10
import Derived.Test.YtjmdeplmenbmmaaGreatW12
set_option linter.unusedVariables false
set_option maxHeartbeats 8000000
namespace Go.Proofs.YtjmdeplmenbmmaaGreat
open Go.RowKit
section
variable {P:Program} {Q:Exit→Act→World→Prop} {n:Nat} {L:FL} {w0:World} {H:List Hl}
theorem RS.lit1Tk {ops:Array Oper} {rest:List Oper} {dd:Nat} {ty t e:TypeId} {bytes:Nat} {pos:String} {af:Array Edge} {x:Operand} {a:TrkT} (h:∀v':Sl,RS P ops Q n ((dd,v'.v)::L) w0 (Hl.rw v'.v e cTk 6 [a]::H) rest) (hx:evO L x=some (trV a)) [ht:RowTy P t e 6 bytes] (hd:Nat.blt dd n=true:=by rfl) :
  RS P ops Q n L w0 H (⟨some dd,.buildSlice t 1 #[(0,x)],ty,pos,af,none⟩::rest):=RS.actX rfl (x_litS (parts:=[(0,x)]) (vs:=[trV a]) (cs:=cTk a) (f:=cTk) (l:=[a]) ⟨hx,rfl⟩ rfl rfl rfl rfl (fun zs hz=>by
   match zs,hz with
   |[_,_,_,_,_,_],_=>rfl) rfl rfl rfl (rowTy_B ht.is) hd) fun v' _=>h v'
theorem RF.litI {HS:List Hl} {ops:Array Oper} {ord:List Mv} {dd i:Nat} {ty:TypeId} {pos:String} {af:Array Edge} {t e:TypeId} {bytes:Nat} {x:Operand} {m:Int} (h:∀v':Sl,RF P ops Q HS n ((dd,v'.v)::L) w0 (Hl.rw v'.v e cI 1 [m]::H) ord) (ho:ops[i]?=some ⟨some dd,.buildSlice t 1 #[(0,x)],ty,pos,af,none⟩) (hx:evO L x=some (.int .i64 m)) [ht:RowTy P t e 1 bytes] (hd:Nat.blt dd n=true)
  (hs:∀(v':Sl) w,St w0 (Hl.rw v'.v e cI 1 [m]::H) w→St w0 HS w):RF P ops Q HS n L w0 H (.go i::ord) :=
 RF.actX ho rfl rfl (x_lit (parts:=[(0,x)]) (vs:=[.int .i64 m]) (f:=cI) (l:=[m]) ⟨hx,rfl⟩ rfl rfl rfl rfl rfl rfl (rowTy_B ht.is) hd) (.inl hs) fun v' _=>h v'
theorem RF.appendL {HS:List Hl} {ops:Array Oper} {ord:List Mv} {dd i:Nat} {ty:TypeId} {pos:String} {af:Array Edge} {α:Type} {f':α→List Value} {l l':List α} {t e:TypeId} {s bytes:Nat} {x y:Operand} {u u':Value} {H':Sl→List Hl} (h:∀v':Sl,RF P ops Q HS n ((dd,v'.v)::L) w0 (H' v') ord) (ho:ops[i]?=some ⟨some dd,.call { callee:=.builtin .append,args:=#[x,y],argTypes:=#[t,t] },ty,pos,af,none⟩) (hx:evO L x=some u) (hy:evO L y=some u') (hu:∀v':Sl,Upd (Hl.rw u e f' s l) (Hl.rw v'.v e f' s (l++l')) H (H' v')) (hr:RdT H u' f' s l')
  (h1:∀a,(f' a).all (·.oneCell')=true) [ht:RowTy P t e s bytes] (hb:(l.length+l'.length)*bytes≤140737488355328∧l.length+l'.length≤140737488355328) (hd:Nat.blt dd n=true)
  (hl:lateF .any ops i=true):RF P ops Q HS n L w0 H (.go i::ord) :=
 RF.actX ho rfl rfl (x_append hx hy hu hr h1 hb (rowTy_B ht.is) hd) (.inr hl) fun v' _=>h v'
end
theorem page_built (y m d:Int) (v:Sl):Tryz.prog.built 32 [(0,.agg [.int .i64 y,.int .i64 m,.int .i64 d].toArray),(1,v.v)]=some [.int .i64 y,.int .i64 m,.int .i64 d,v.v].toArray:=by kernel_rfl
theorem one_ok {t:TrkT} (h:okT t=true):pageB 2000 1 1 [t]=true:=by
 have e1:dateOk 2000 1 1=true:=by decide
 have e2:tracksOk [t]=true:=by
  unfold tracksOk
  rw[List.all_eq_true]
  intro i hi
  have:=List.mem_range.1 hi
  obtain rfl:i=0:=by simpa using this
  unfold trkOk nmsL
  show (okT t&&_)=true
  rw[h]
  simp
 unfold pageB
 rw[e1,e2]
 simp
theorem one_fit {t:TrkT} (h:TrkF t):fitT [t]:=fun x hx=>by
 rcases List.mem_singleton.1 hx with rfl
 have:=h.nm;have:=h.gl;have:=h.dl
 omega
theorem nvalid_c {t:TrkT} (h:okT t=true):ContIn Tryz.prog (fun w=>In1 w t) 230 [trV t] (.bool true):=fun w hw0=>by
 have hf:=trk_facts h
 have q1:=fun v=>pvalid_c (y:=2000) (m:=1) (d:=1) (v:=v) (l:=[t]) fun _=>one_fit hf
 rw[one_ok h] at q1
 refine enter0 Tryz.func230 rfl rfl rfl ?_
 repeat' (first|(refine nxN ?_)|(show RS _ _ _ _ _ _ _ (⟨some 5,.buildSlice 30 1 _,_,_,_,_⟩::_);refine RS.lit1Tk (a:=t) (fun v'=>?_) rfl)|(show VK _ _ _ _ _ ⟨_,.build 32 #[(0,_),(1,_)],_,_,_,_⟩ _;refine VK.mk (y_build (parts:=[(0,_),(1,_)]) (vs:=[_,_]) ⟨rfl,rfl,rfl⟩ (page_built _ _ _ _)) ?_)|(show YK _ _ _ _ _ ⟨_,.build 32 #[(0,_),(1,_)],_,_,_,_⟩ _;refine YK.ofV (y_build (parts:=[(0,_),(1,_)]) (vs:=[_,_]) ⟨rfl,rfl,rfl⟩ (page_built _ _ _ _)) ?_)|(show VG _ _ _ _ _ _ ⟨_,.build 32 #[(0,_),(1,_)],_,_,_,_⟩ _;refine VG.mk (fun hb=>by(try(have hc:=And.left hb;have hb:=And.right hb;rw[hc]));(try rw[hb]);exact y_build (parts:=[(0,_),(1,_)]) (vs:=[_,_]) ⟨rfl,rfl,rfl⟩ (page_built _ _ _ _)) ?_)|(show YG _ _ _ _ _ _ ⟨_,.build 32 #[(0,_),(1,_)],_,_,_,_⟩ _;refine YG.mk (fun hb=>by(try(have hc:=And.left hb;have hb:=And.right hb;rw[hc]));(try rw[hb]);exact V.y (y_build (parts:=[(0,_),(1,_)]) (vs:=[_,_]) ⟨rfl,rfl,rfl⟩ (page_built _ _ _ _))) ?_)|(show YK _ _ _ _ _ ⟨_,.call { callee:=.value (.func 28),args:=_,argTypes:=_ },_,_,_,_⟩ _;refine YK.mk (zcI (q1 _) (fun w' hw'=>⟨RO.of_row (hw'.all (Hl.rw _ 76 cTk 6 [t]) (by exact memA)),fun x hx=>by rcases List.mem_singleton.1 hx with rfl;exact hw0.keep hw'.ext⟩) ⟨rfl,rfl⟩ (by decide +kernel)) ?_)|(show YG _ _ _ _ _ _ ⟨_,.call { callee:=.value (.func 28),args:=_,argTypes:=_ },_,_,_,_⟩ _;refine YG.mk (fun hb=>by(try(have hc:=And.left hb;have hb:=And.right hb;rw[hc]));(try rw[hb]);exact zcI (q1 _) (fun w' hw'=>⟨RO.of_row (hw'.all (Hl.rw _ 76 cTk 6 [t]) (by exact memA)),fun x hx=>by rcases List.mem_singleton.1 hx with rfl;exact hw0.keep hw'.ext⟩) ⟨rfl,rfl⟩ (by decide +kernel)) ?_)|(refine nxV ?_)|(refine nSS ?_)|(refine nS1 fun _=>?_)|(refine nMM ?_)|(refine nM1 fun _=>?_)|(refine nxG ?_)|(refine nxX ?_)|(refine G.cN rfl (fun hc=>?_) (fun hc=>?_)<;>(try first|exact hc.elim|(exfalso;omega))))
 all_goals exact X.ret1
theorem ninst_c {t:TrkT} {ms:Int} (h:okT t=true) (hm:0≤ms∧ms≤86400000):ContIn Tryz.prog (fun w=>In1 w t) 203 [trV t,.int .i64 ms] (.int .i64 0):=fun w hw0=>by
 have q1:=nvalid_c h
 refine enter0 Tryz.func203 rfl rfl rfl ?_
 repeat' (first|(refine nxN ?_)|(show YK _ _ _ _ _ ⟨_,.call { callee:=.value (.func 230),args:=_,argTypes:=_ },_,_,_,_⟩ _;refine YK.mk (zcI (q1) (fun w' hw'=>hw0.keep hw'.ext) ⟨rfl,rfl⟩ (by decide +kernel)) ?_)|(show YG _ _ _ _ _ _ ⟨_,.call { callee:=.value (.func 230),args:=_,argTypes:=_ },_,_,_,_⟩ _;refine YG.mk (fun hb=>by(try(have hc:=And.left hb;have hb:=And.right hb;rw[hc]));(try rw[hb]);exact zcI (q1) (fun w' hw'=>hw0.keep hw'.ext) ⟨rfl,rfl⟩ (by decide +kernel)) ?_)|(refine nxV ?_)|(refine nSS ?_)|(refine nS1 fun _=>?_)|(refine nMM ?_)|(refine nM1 fun _=>?_)|(refine nxG ?_)|(refine nxX ?_)|(refine G.cN rfl (fun hc=>?_) (fun hc=>?_)<;>(try first|exact hc.elim|(exfalso;omega))))
 all_goals first
  |(exfalso;simp at hc;done)
  |(exfalso;simp at hc;omega)
  |exact X.ret1
theorem angL_succ (gl:List Int) (k:Nat):angL gl (k+1)=angL gl k++[angN gl k]:=by
 unfold angL
 rw[List.range_succ,List.map_append]
 rfl
theorem angL_len (gl:List Int) (k:Nat):(angL gl k).length=k:=by simp[angL]
theorem angL_nth (gl:List Int) {k i:Nat} (h:i<k):nth (angL gl k) (i:Int)=angN gl i:=by
 have e:=nth_some (l:=angL gl k) (m:=(i:Int)) (by omega) (by rw[angL_len];omega)
 rw[Int.toNat_natCast] at e
 unfold angL at e
 rw[List.getElem?_map,List.getElem?_range h] at e
 exact(Option.some.inj e).symm
theorem gl_at {t:TrkT} (h:TrkF t) {i:Int} (h0:0≤i) (h1:i≤24):0≤nth t.gl i∧nth t.gl i≤215999:=h.g _ (nth_in h0 (by have:=h.gl;omega))
theorem nangs_c {t:TrkT} (h:TrkF t):ContX Tryz.prog [Hl.rd t.gv.v cI 1 t.gl] 231 [trV t] (fun _:Sl=>True) (fun z=>z.v) (fun z=>[Hl.nw z.v cI 1 (angL t.gl 25)]):=fun w hw0=>by
 have hlen:=h.gl
 have b0:=gl_at h (i:=0) (by omega) (by omega)
 refine enter Tryz.func231 rfl rfl rfl hw0 ?_
 repeat' (first|(refine nxN ?_)|(refine RS.lit1I (m:=100*nth t.gl 0) (fun v'=>?_))|(refine nxV ?_)|(refine nSS ?_)|(refine nS1 fun _=>?_)|(refine nMM ?_)|(refine nM1 fun _=>?_)|(refine nxG ?_)|(refine G.mA 5 [.go 0,.go 1,.go 2,.go 3,.go 4,.go 5,.go 6,.go 7,.go 8,.go 9,.go 10,.go 11,.go 12,.go 13,.go 14,.go 15,.go 16,.go 17,.go 18,.go 19,.go 20,.go 21,.go 22,.go 23] ?_)|(refine nxX ?_)|(refine G.cN rfl (fun hc=>?_) (fun hc=>?_)<;>(try first|exact hc.elim|(exfalso;omega))))
 rename_i b1
 refine G.loop (ι:=Sl×Nat) (fun y=>[(1,.pointer (some ⟨b1,0,none⟩)),(2,.slice none 0 0),(3,y.1.v),(4,.int .i64 (y.2:Int))]) (fun y=>[Hl.rw y.1.v 3 cI 1 (angL t.gl y.2),Hl.blk b1 76 [strV t.nm,t.gv.v,t.dv.v,.int .i64 t.se,.int .i64 t.pa,.int .i64 t.be],Hl.rd t.gv.v cI 1 t.gl]) (fun y=>1≤y.2∧y.2≤25) (fun y=>25-y.2) (v',1) ⟨by omega,by omega⟩ ⟨rfl,rfl,rfl,rfl,trivial⟩ (by exact fun w h=>h.sub subS) ?_
 rintro⟨z,i⟩ mx ⟨g1,g2⟩ hmx
 dsimp only at g1 g2 hmx ⊢
 rcases Nat.lt_or_ge i 25 with hi|hi
 ·have e1:(i:Int)-1=((i-1:Nat):Int):=by omega
  have c1:=gl_at h (i:=(i:Int)) (by omega) (by omega)
  have c2:=gl_at h (i:=((i:Int)-1)) (by omega) (by omega)
  have c3:=angL_nth t.gl (k:=i) (i:=i-1) (by omega)
  rw[←e1] at c3
  have c4:=angN_bd h (i-1) (by omega)
  have hs:angN t.gl i=angN t.gl (i-1)+(100*(nth t.gl (i:Int)-nth t.gl ((i:Int)-1)))%21600000:=by
   obtain⟨j,rfl⟩:∃j,i=j+1:=⟨i-1,by omega⟩
   rw[show ((j+1:Nat):Int)-1=(j:Int) by omega,Nat.add_sub_cancel]
   rfl
  have hO:=angL_succ t.gl i
  have hll:=angL_len t.gl i
  have q1:=nwrap_c (n:=100*(nth t.gl (i:Int)-nth t.gl ((i:Int)-1))) (by omega)
  have gm1:=Int.emod_nonneg (100*(nth t.gl (i:Int)-nth t.gl ((i:Int)-1))) (show (21600000:Int)≠0 by decide)
  have gm2:=Int.emod_lt_of_pos (100*(nth t.gl (i:Int)-nth t.gl ((i:Int)-1))) (show (0:Int)<21600000 by decide)
  rw[hs] at hO
  generalize (100*(nth t.gl (i:Int)-nth t.gl ((i:Int)-1)))%21600000=r at *
  rw[←c3] at hO c4
  clear hs c3
  generalize angL t.gl i=A at *
  repeat' (first|(refine nxN ?_)|(show RF _ _ _ _ _ _ _ _ (.go 21::_);refine RF.litI (m:=nth A ((i:Int)-1)+r) (fun v'=>?_) rfl (by rfl) rfl (fun _ _ h=>h.sub subS))|(show RF _ _ _ _ _ _ _ _ (.go 22::_);refine RF.appendL (f':=cI) (l:=A) (l':=[nth A ((i:Int)-1)+r]) (fun z1=>?_) rfl (by rfl) (by rfl) (by intro v';exact updA) (by exact rdA) (fun _=>rfl) (by simp only[List.length_cons,List.length_nil];omega) rfl (by decide +kernel))|(refine G.mixedFH 5 [.go 0,.go 1,.go 2,.go 3,.go 4,.go 5,.go 6,.go 7,.go 8,.go 9,.go 10,.go 11,.go 12,.go 13,.go 14,.go 15,.go 16,.go 17,.go 18,.go 19,.go 20,.go 21,.go 22,.go 23] ?_)|(refine nxRF ?_)|(refine nxVF ?_)|(show YK _ _ _ _ _ _ _;first|refine YK.mk (zcA (q1) ⟨rfl,rfl⟩) ?_)|(refine nxV ?_)|(refine nSS ?_)|(refine nS1 fun _=>?_)|(refine nMM ?_)|(refine nM1 fun _=>?_)|(show YG _ _ _ _ _ _ _ _;refine YG.mk (fun hb=>by(try(have hc:=And.left hb;have hb:=And.right hb;rw[hc]));(try rw[hb]);first|exact(zcA (q1) ⟨rfl,rfl⟩)|exact V.y vAuto) ?_)|(refine nxG ?_)|(refine nxX ?_)|(refine G.cN rfl (fun hc=>?_) (fun hc=>?_)<;>(try first|exact hc.elim|(exfalso;omega))))
  all_goals first
   |(exfalso;omega)
   |(refine X.again (z1,i+1) ⟨by dsimp only;omega,by dsimp only;omega⟩ (by dsimp only;omega) ⟨rfl,rfl,rfl,rfl,trivial⟩ (by dsimp only;rw[hO];exact fun w h=>h.sub subS);done)
 ·obtain rfl:i=25:=by omega
  repeat' (first|(refine nxN ?_)|(refine nxV ?_)|(refine nSS ?_)|(refine nS1 fun _=>?_)|(refine nMM ?_)|(refine nM1 fun _=>?_)|(refine nxG ?_)|(refine G.mA 5 [.go 0,.go 1,.go 2,.go 3,.go 4,.go 5,.go 6,.go 7,.go 8,.go 9,.go 10,.go 11,.go 12,.go 13,.go 14,.go 15,.go 16,.go 17,.go 18,.go 19,.go 20,.go 21,.go 22,.go 23] ?_)|(refine nxX ?_)|(refine G.cN rfl (fun hc=>?_) (fun hc=>?_)<;>(try first|exact hc.elim|(exfalso;omega))))
  all_goals first
   |(exfalso;omega)
   |exact X.retN (vs:=[_]) z rfl ⟨rfl,rfl⟩ rfl trivial rfl (NewIn.rw (by exact memA) NewIn.nil)
end Go.Proofs.YtjmdeplmenbmmaaGreat
set_option maxHeartbeats 8000000
namespace Go.Proofs.YtjmdeplmenbmmaaGreat
open Go.RowKit Go.Shelf
def hulL:List (Int×Int)→Int×Int
 |[]=>(0,0)
 |x::r=>r.foldl NO.hullA x
theorem hulL_snoc (l:List (Int×Int)) (x:Int×Int) (h:l≠[]):hulL (l++[x])=NO.hullA (hulL l) x:=by
 cases l with
 |nil=>exact absurd rfl h
 |cons y r=>simp[hulL,List.foldl_append]
theorem hulL_pie (at_:Int→Int×Int) (lo hi:Int):hulL (pieL at_ lo hi)=NO.spanA at_ lo hi:=rfl
theorem arc_built (a b:Int):Tryz.prog.built 42 [(0,.int .i64 a),(1,.int .i64 b)]=some [.int .i64 a,.int .i64 b].toArray:=by kernel_rfl
instance {m:Nat} {P:Program} {fn:Func} {v:Value} {w:World} : NoOut (bodyPostM Fence.wide m P fn fun e w'=>e=.returned v∧Below w.heap.size w w'):=⟨fun⟨_,_,h,_⟩=>by cases h⟩
section
variable {B:Nat} {H:List Hl}
theorem AllCells.nil:AllCells B []:=fun h hm=>by cases hm
theorem AllCells.cons {x:Hl} (hx:OnCells x) (h:AllCells B H):AllCells B (x::H):=fun y hm=>by
 rcases List.mem_cons.1 hm with rfl|hm
 ·exact .inl hx
 ·exact h y hm
theorem AllCells.blk {b:Nat} {t:TypeId} {cs:List Value} (h:AllCells B H):AllCells B (.blk b t cs::H):=h.cons (onCells_blk _ _ _)
end
theorem fr_zip1 {nT p:Nat} {L:FL} {a:Act} {v:Value} (ha:Fr nT L a) (hp:p<nT):Fr nT ((p,v)::L) { tmps:=((#[p]:Array Tmp).zip #[v]).foldl (fun t (p,v)=>t.setIfInBounds p v) a.tmps,defers:=[] }:=by
 have h:=ha.put (v:=v) hp
 have hd:=ha.defs
 have e:({ tmps:=((#[p]:Array Tmp).zip #[v]).foldl (fun t (p,v)=>t.setIfInBounds p v) a.tmps,defers:=[] } : Act)=a.put (some p) v:=by
  obtain⟨ts,dd⟩:=a
  simp only at hd
  subst hd
  simp[Act.put]
 rw[e]
 exact h
theorem lin_sm {a b:Int×Int} {r:Int} (ka:smA a) (kb:smA b) (hr:0≤r∧r≤3600000):smA (NO.linA a b r 3600000):=by
 have g:=fun(x y:Int) (hx : -10000000000≤x∧x≤10000000000) (hy : -10000000000≤y∧y≤10000000000)=>(show -36000000000000000≤x*(3600000-r)+y*r∧x*(3600000-r)+y*r≤36000000000000000 by
  have h1:=Int.mul_le_mul_of_nonneg_right hx.1 (show 0≤3600000-r by omega)
  have h2:=Int.mul_le_mul_of_nonneg_right hx.2 (show 0≤3600000-r by omega)
  have h3:=Int.mul_le_mul_of_nonneg_right hy.1 hr.1
  have h4:=Int.mul_le_mul_of_nonneg_right hy.2 hr.1
  omega)
 have g1:=g a.1 b.1 (by omega) (by omega)
 have g2:=g a.2 b.2 (by omega) (by omega)
 unfold NO.linA smA
 generalize a.1*(3600000-r)+b.1*r=x at *
 generalize a.2*(3600000-r)+b.2*r=y at *
 omega
theorem ins_sm {at_:Int→Int×Int} (ha:∀h:Int,0≤h∧h≤24→smA (at_ h)) {ms:Int} (hm:0≤ms∧ms≤86400000):smA (NO.insA at_ ms):=by
 unfold NO.insA
 split
 ·exact ha _ (by omega)
 ·exact lin_sm (ha _ (by omega)) (ha _ (by omega)) (by omega)
theorem span_bd {C:World→Prop} {fa:FuncId} {bs:Array Value} {at_:Int→Int×Int} {lo hi:Int} (ha:AtC C fa bs at_) (hl:0≤lo∧lo≤hi∧hi≤86400000) : -20000000000≤(NO.spanA at_ lo hi).1∧(NO.spanA at_ lo hi).1≤20000000000∧-20000000000≤(NO.spanA at_ lo hi).2∧(NO.spanA at_ lo hi).2≤20000000000:=by
 have h0:=fun h hh=>(ha.2 h hh).1
 have h1:=ins_sm h0 (ms:=lo) (by omega)
 have h2:=ins_sm h0 (ms:=hi) (by omega)
 have a:=NO.fold_le ((NO.hoursL lo hi).map at_) (NO.hullA (NO.insA at_ lo) (NO.insA at_ hi))
 have b:=NO.le_fold (p:=-10000000000) (q:=10000000000) ((NO.hoursL lo hi).map at_) (NO.hullA (NO.insA at_ lo) (NO.insA at_ hi)) (by unfold NO.hullA;dsimp only;omega) (by unfold NO.hullA;dsimp only;omega) fun x hx=>by
  obtain⟨k,hk,rfl⟩:=List.mem_map.1 hx
  have:=NO.mem_hours.1 hk
  have:=h0 k (by omega)
  omega
 have c:=a.1
 unfold NO.spanA
 generalize List.foldl NO.hullA (NO.hullA (NO.insA at_ lo) (NO.insA at_ hi)) ((NO.hoursL lo hi).map at_)=z at *
 unfold NO.hullA at c
 dsimp only at c
 omega
theorem X.retW {P:Program} {m:Nat} {nT:Nat} {L:FL} {w0:World} {fn:Func} {R:Ending→World→Prop} {rs:List ResultVar} {vs:List Value} {v:Value} : ∀(Ds:List Nat) {H:List Hl} (hf:fn.results=rs.toArray) (hr:RV P L H rs vs) (hv:(match vs with|[v]=>v|_=>.tuple vs.toArray)=v)
  (h:∀w,St w0 H w→R (.returned v) w),X (Qs (Ds.map colD) (bodyPostM Fence.wide m P fn R)) nT L w0 (Ds.map oD++H) .ret:=fun Ds H hf hr hv h=>by
 unfold X
 intro a w ha hw
 show LeavesInM Fence.wide m P fn a.tmps R (Ds.map colD) .returning w
 induction Ds generalizing w with
 |nil =>
  have h1:=run_RV ha hw hr
  have h2:(rs.toArray.mapM (resOf a.tmps)).run P w=.ok vs.toArray w:=by
   rw[List.mapM_toArray]
   simp[h1]
  refine⟨v,?_,h w hw⟩
  have h3:results fn a.tmps=(do let vs ←fn.results.mapM (resOf a.tmps);pure (if h:vs.size=1 then vs[0] else .tuple vs)):=rfl
  rw[h3,hf]
  subst hv
  simp only[Sem.run_bind,h2,Result.andThen_ok,Sem.run_pure]
  match vs with
  |[]=>rfl
  |[u]=>rfl
  |u::u'::r=>simp
 |cons D Ds ih=>exact⟨(fun h=>by cases h),.inl ⟨D,_,rfl,run_takeDeferred (hw.at List.mem_cons_self),ih _ hw.close⟩⟩
theorem X.retQ {P:Program} {m:Nat} {nT:Nat} {L:FL} {w0:World} {fn:Func} {R:Ending→World→Prop} {rs:List ResultVar} {vs:List Value} {v:Value} (Ds:List Nat) {H R':List Hl} (hp:Pick (Ds.map oD) H R') (hf:fn.results=rs.toArray) (hr:RV P L R' rs vs) (hv:(match vs with|[v]=>v|_=>.tuple vs.toArray)=v)
  (h:∀w,St w0 R' w→R (.returned v) w):X (Qs (Ds.map colD) (bodyPostM Fence.wide m P fn R)) nT L w0 H .ret:=by
 have:=X.retW (P:=P) (m:=m) (nT:=nT) (L:=L) (w0:=w0) Ds hf hr hv h
 unfold X at this ⊢
 exact fun a w ha hw=>this a w ha (hw.picked hp)
section
variable {C:World→Prop} {fa:FuncId} {bs:Array Value} {at_:Int→Int×Int} {lo hi:Int}
theorem nover_c (hk:∀w w',C w→Below w.heap.size w w'→C w') (ha:AtC C fa bs at_) (hl:0≤lo∧lo≤hi∧hi≤86400000) (t:TrkT) (hbe:0≤t.be∧t.be≤1000) :
  ContIn Tryz.prog C 232 [trV t,.int .i64 lo,.int .i64 hi,.func (.func fa) #[] bs] (arcV (NO.overA at_ lo hi t.be).1 (NO.overA at_ lo hi t.be).2):=fun w hC0=>by
 have q1:=nce_c (n:=100*t.be) (d:=8) (by omega)
 refine enterM (m:=12) (nT:=53) Tryz.func232 rfl rfl rfl (Hp:=[]) (fun h hm=>by cases hm) ?_
  /- refine enter Tryz.func232 -/
 repeat' (first|(show GI _ _ _ _ _ _ _ _ _ (.seq (.region _ _ _) _);apply GI.seq)|(show GI _ _ _ _ _ _ _ _ _ (.seq (.seq _ _) _);apply GI.seq)|(show GI _ _ _ _ _ _ _ _ _ (.seq (.cond _ _ _) _);apply GI.seq)|(show GI _ _ _ _ _ _ _ _ _ (.seq (.block _ (.loop _)) _);apply GI.seq)|(show GI _ _ _ _ _ _ _ _ _ (.seq (.block _ (.seq _ _)) _);apply GI.seq)|(show GI _ _ _ _ _ _ _ _ _ (.seq (.loop _) _);apply GI.seq)|(show GI _ _ _ _ _ _ _ _ _ (.seq (.skip) _);apply GI.seq)|(show GI _ _ _ _ _ _ _ _ _ (.seq (.block _ (.rangeFunc _ _ _ _)) _);apply GI.seq)|(show GI _ _ _ _ _ _ _ _ _ (.region _ _ false);refine GI.region (by decide +kernel) ?_)|(show GI _ _ _ _ _ _ _ _ _ (.cond _ _ _);refine GI.cN rfl (fun hc=>?_) (fun hc=>?_)<;>(try first|exact hc.elim|(exfalso;omega)))|(show GI _ _ _ _ _ _ _ _ _ (.block _ (.loop _));apply GI.block)|(show GI _ _ _ _ _ _ _ _ _ (.block _ (.seq _ _));apply GI.block)|(apply GI.skip)|(apply GI.exit)|(apply GI.ret)|(apply XD.next)|(apply XD.then_ret)|(apply XD.then_exit)|(apply XD.block_out)|(apply XD.block_normal)|(apply XD.block_ret)|(refine XD.block_exit rfl ?_)|(refine nxN ?_)|(show RS _ _ _ _ _ _ _ (⟨some 16,.call _,_,_,_,_⟩::_);refine RS.callL (pieces_L lo hi fa bs) trivial ?_;rintro⟨b3,b4,b5,b7⟩ -;dsimp only[List.cons_append,List.nil_append])|(refine nxV ?_)|(refine nSS ?_)|(refine nS1 fun _=>?_)|(refine nMM ?_)|(refine nM1 fun _=>?_)|(refine nxG ?_)|(refine nxX ?_)|(refine G.cN rfl (fun hc=>?_) (fun hc=>?_)<;>(try first|exact hc.elim|(exfalso;omega))))
 rename_i b4t b8 b9 b10
 refine GI.weakL [(1,.int .i64 lo),(2,.int .i64 hi),(4,.pointer (some ⟨b4t,0,none⟩)),(8,.pointer (some ⟨b8,0,none⟩)),(9,.pointer (some ⟨b9,0,none⟩)),(10,.pointer (some ⟨b10,0,none⟩)),(16,pieV b3 b4 b5 b7)] ⟨rfl,rfl,rfl,rfl,rfl,rfl,rfl,trivial⟩ ?_
 refine GI.rangeQ (α:=Int×Int) (ι:=List (Int×Int)) (ι₁:=Nat) (κ:=Unit) (by decide) rfl (by decide +kernel) (encs:=encA) [(b7,43,[insV b5]),(b5,43,[.func (.func fa) #[] bs]),(b4,3,[.int .i64 hi]),(b3,3,[.int .i64 lo])] (C:=C) (fun W hW=>hk _ _ hC0 hW)
  (Pr:=PrA (pieL at_ lo hi)) (S:=fun xs=>xs=pieL at_ lo hi) (Sp:=fun _=>True) (fun w' h=>pie_own hk ha hl (by decide) ((h.cell (b:=b7) (t:=43) (cs:=[insV b5]) (by exact memA) 0).trans rfl) ((h.cell (b:=b5) (t:=43) (cs:=[.func (.func fa) #[] bs]) (by exact memA) 0).trans rfl) ((h.cell (b:=b4) (t:=3) (cs:=[.int .i64 hi]) (by exact memA) 0).trans rfl) ((h.cell (b:=b3) (t:=3) (cs:=[.int .i64 lo]) (by exact memA) 0).trans rfl)) (fun _=>rfl)
  (fun pre z=>z=pre) (fun z=>[Hl.blk b7 43 [insV b5],Hl.blk b5 43 [.func (.func fa) #[] bs],Hl.blk b4 3 [.int .i64 hi],Hl.blk b3 3 [.int .i64 lo],Hl.blk b10 4 [.bool z.isEmpty],Hl.blk b9 42 [.int .i64 (hulL z).1,.int .i64 (hulL z).2],Hl.blk b8 42 [.int .i64 0,.int .i64 0],Hl.blk b4t 76 [strV t.nm,t.gv.v,t.dv.v,.int .i64 t.se,.int .i64 t.pa,.int .i64 t.be]])
  (fun _ _=>False) (fun _=>[]) ?hk (fun _ _ _=>.blk (.blk (.blk (.blk (.blk (.blk (.blk (.blk .nil)))))))) (fun _ _ _=>.nil) [] rfl (fun w' h=>h)
  (fun x=>[(17,arcV x.1 x.2),(1,.int .i64 lo),(2,.int .i64 hi),(4,.pointer (some ⟨b4t,0,none⟩)),(8,.pointer (some ⟨b8,0,none⟩)),(9,.pointer (some ⟨b9,0,none⟩)),(10,.pointer (some ⟨b10,0,none⟩)),(16,pieV b3 b4 b5 b7)])
  (fun x z b=>[(11,.pointer (some ⟨b,0,none⟩)),(17,arcV x.1 x.2),(1,.int .i64 lo),(2,.int .i64 hi),(4,.pointer (some ⟨b4t,0,none⟩)),(8,.pointer (some ⟨b8,0,none⟩)),(9,.pointer (some ⟨b9,0,none⟩)),(10,.pointer (some ⟨b10,0,none⟩)),(16,pieV b3 b4 b5 b7)])
  (fun x z b=>[Hl.blk b 42 [.int .i64 x.1,.int .i64 x.2],Hl.blk b7 43 [insV b5],Hl.blk b5 43 [.func (.func fa) #[] bs],Hl.blk b4 3 [.int .i64 hi],Hl.blk b3 3 [.int .i64 lo],Hl.blk b10 4 [.bool z.isEmpty],Hl.blk b9 42 [.int .i64 (hulL z).1,.int .i64 (hulL z).2],Hl.blk b8 42 [.int .i64 0,.int .i64 0],Hl.blk b4t 76 [strV t.nm,t.gv.v,t.dv.v,.int .i64 t.se,.int .i64 t.pa,.int .i64 t.be]])
  ?hk1 (fun a x ha=>fr_zip1 ha (by decide)) ?asg ?body ?done ?stop
 case hk =>
  intro z x hx
  simp only[List.mem_cons,List.not_mem_nil,or_false] at hx
  rcases hx with rfl|rfl|rfl|rfl<;>simp
 case hk1 =>
  intro _ z _ x hx
  simp only[List.mem_cons,List.not_mem_nil,or_false] at hx
  rcases hx with rfl|rfl|rfl|rfl<;>simp
 case asg =>
  rintro r D pre x z oD oL hP rfl
  obtain⟨x1,x2⟩:=x
  dsimp only
  repeat' (first|(show GI _ _ _ _ _ _ _ _ _ (.seq (.region _ _ _) _);apply GI.seq)|(show GI _ _ _ _ _ _ _ _ _ (.seq (.seq _ _) _);apply GI.seq)|(show GI _ _ _ _ _ _ _ _ _ (.seq (.cond _ _ _) _);apply GI.seq)|(show GI _ _ _ _ _ _ _ _ _ (.seq (.block _ (.loop _)) _);apply GI.seq)|(show GI _ _ _ _ _ _ _ _ _ (.seq (.block _ (.seq _ _)) _);apply GI.seq)|(show GI _ _ _ _ _ _ _ _ _ (.seq (.loop _) _);apply GI.seq)|(show GI _ _ _ _ _ _ _ _ _ (.seq (.skip) _);apply GI.seq)|(show GI _ _ _ _ _ _ _ _ _ (.seq (.block _ (.rangeFunc _ _ _ _)) _);apply GI.seq)|(show GI _ _ _ _ _ _ _ _ _ (.region _ _ false);refine GI.region (by decide +kernel) ?_)|(show GI _ _ _ _ _ _ _ _ _ (.cond _ _ _);refine GI.cN rfl (fun hc=>?_) (fun hc=>?_)<;>(try first|exact hc.elim|(exfalso;omega)))|(show GI _ _ _ _ _ _ _ _ _ (.block _ (.loop _));apply GI.block)|(show GI _ _ _ _ _ _ _ _ _ (.block _ (.seq _ _));apply GI.block)|(apply GI.skip)|(apply GI.exit)|(apply GI.ret)|(apply XD.next)|(apply XD.then_ret)|(apply XD.then_exit)|(apply XD.block_out)|(apply XD.block_normal)|(apply XD.block_ret)|(refine XD.block_exit rfl ?_)|(refine nxN ?_)|(refine nxV ?_)|(refine nSS ?_)|(refine nS1 fun _=>?_)|(refine nMM ?_)|(refine nM1 fun _=>?_)|(refine nxG ?_)|(refine nxX ?_)|(refine G.cN rfl (fun hc=>?_) (fun hc=>?_)<;>(try first|exact hc.elim|(exfalso;omega))))
  all_goals exact X.asgd _ ⟨rfl,rfl,rfl,rfl,rfl,rfl,rfl,rfl,rfl,trivial⟩ (fun W' h=>h.perm (by exact(List.perm_append_comm (l₁:=[_]) (l₂:=[_,_])).append_right _))
 case body =>
  rintro r D pre x z b11 oD oL hP rfl
  obtain⟨x1,x2⟩:=x
  dsimp only
  cases z with
  |nil =>
   have e1:min x1 x1=x1:=by omega
   have e2:max x2 x2=x2:=by omega
   repeat' (first|(show GI _ _ _ _ _ _ _ _ _ (.seq (.region _ _ _) _);apply GI.seq)|(show GI _ _ _ _ _ _ _ _ _ (.seq (.seq _ _) _);apply GI.seq)|(show GI _ _ _ _ _ _ _ _ _ (.seq (.cond _ _ _) _);apply GI.seq)|(show GI _ _ _ _ _ _ _ _ _ (.seq (.block _ (.loop _)) _);apply GI.seq)|(show GI _ _ _ _ _ _ _ _ _ (.seq (.block _ (.seq _ _)) _);apply GI.seq)|(show GI _ _ _ _ _ _ _ _ _ (.seq (.loop _) _);apply GI.seq)|(show GI _ _ _ _ _ _ _ _ _ (.seq (.skip) _);apply GI.seq)|(show GI _ _ _ _ _ _ _ _ _ (.seq (.block _ (.rangeFunc _ _ _ _)) _);apply GI.seq)|(show GI _ _ _ _ _ _ _ _ _ (.region _ _ false);refine GI.region (by decide +kernel) ?_)|(show GI _ _ _ _ _ _ _ _ _ (.cond _ _ _);refine GI.cN rfl (fun hc=>?_) (fun hc=>?_)<;>(try first|exact hc.elim|(exfalso;omega)))|(show GI _ _ _ _ _ _ _ _ _ (.block _ (.loop _));apply GI.block)|(show GI _ _ _ _ _ _ _ _ _ (.block _ (.seq _ _));apply GI.block)|(apply GI.skip)|(apply GI.exit)|(apply GI.ret)|(apply XD.next)|(apply XD.then_ret)|(apply XD.then_exit)|(apply XD.block_out)|(apply XD.block_normal)|(apply XD.block_ret)|(refine XD.block_exit rfl ?_)|(refine nxN ?_)|(show VK _ _ _ _ _ ⟨_,.build 42 #[(0,_),(1,_)],_,_,_,_⟩ _;refine VK.mk (y_build (parts:=[(0,_),(1,_)]) (vs:=[_,_]) ⟨rfl,rfl,rfl⟩ (arc_built _ _)) ?_)|(show YK _ _ _ _ _ ⟨_,.build 42 #[(0,_),(1,_)],_,_,_,_⟩ _;refine YK.ofV (y_build (parts:=[(0,_),(1,_)]) (vs:=[_,_]) ⟨rfl,rfl,rfl⟩ (arc_built _ _)) ?_)|(show VG _ _ _ _ _ _ ⟨_,.build 42 #[(0,_),(1,_)],_,_,_,_⟩ _;refine VG.mk (fun hb=>by(try(have hc:=And.left hb;have hb:=And.right hb;rw[hc]));(try rw[hb]);exact y_build (parts:=[(0,_),(1,_)]) (vs:=[_,_]) ⟨rfl,rfl,rfl⟩ (arc_built _ _)) ?_)|(show YG _ _ _ _ _ _ ⟨_,.build 42 #[(0,_),(1,_)],_,_,_,_⟩ _;refine YG.mk (fun hb=>by(try(have hc:=And.left hb;have hb:=And.right hb;rw[hc]));(try rw[hb]);exact V.y (y_build (parts:=[(0,_),(1,_)]) (vs:=[_,_]) ⟨rfl,rfl,rfl⟩ (arc_built _ _))) ?_)|(refine nxV ?_)|(refine nSS ?_)|(refine nS1 fun _=>?_)|(refine nMM ?_)|(refine nM1 fun _=>?_)|(refine nxG ?_)|(refine nxX ?_)|(refine G.cN rfl (fun hc=>?_) (fun hc=>?_)<;>(try first|exact hc.elim|(exfalso;omega))))
   all_goals first
    |(exfalso;simp at hc;done)
    |(rw[e1,e2];exact X.nextQ [(x1,x2)] rfl (fun W' h=>(h.sub (H':=oE D oD::oE (D+1) oL::[Hl.blk b7 43 [insV b5],Hl.blk b5 43 [.func (.func fa) #[] bs],Hl.blk b4 3 [.int .i64 hi],Hl.blk b3 3 [.int .i64 lo],Hl.blk b10 4 [.bool false],Hl.blk b9 42 [.int .i64 x1,.int .i64 x2],Hl.blk b8 42 [.int .i64 0,.int .i64 0],Hl.blk b4t 76 [strV t.nm,t.gv.v,t.dv.v,.int .i64 t.se,.int .i64 t.pa,.int .i64 t.be]]) subS)))
  |cons y pr =>
   have e1:=hulL_snoc (y::pr) (x1,x2) (by simp)
   have e2:(y::pr++[(x1,x2)]).isEmpty=false:=rfl
   have e3:(y::pr).isEmpty=false:=rfl
   rw[e3]
   generalize hulL (y::pr)=h0 at *
   obtain⟨h1,h2⟩:=h0
   unfold NO.hullA at e1
   dsimp only at e1 ⊢
   repeat' (first|(show GI _ _ _ _ _ _ _ _ _ (.seq (.region _ _ _) _);apply GI.seq)|(show GI _ _ _ _ _ _ _ _ _ (.seq (.seq _ _) _);apply GI.seq)|(show GI _ _ _ _ _ _ _ _ _ (.seq (.cond _ _ _) _);apply GI.seq)|(show GI _ _ _ _ _ _ _ _ _ (.seq (.block _ (.loop _)) _);apply GI.seq)|(show GI _ _ _ _ _ _ _ _ _ (.seq (.block _ (.seq _ _)) _);apply GI.seq)|(show GI _ _ _ _ _ _ _ _ _ (.seq (.loop _) _);apply GI.seq)|(show GI _ _ _ _ _ _ _ _ _ (.seq (.skip) _);apply GI.seq)|(show GI _ _ _ _ _ _ _ _ _ (.seq (.block _ (.rangeFunc _ _ _ _)) _);apply GI.seq)|(show GI _ _ _ _ _ _ _ _ _ (.region _ _ false);refine GI.region (by decide +kernel) ?_)|(show GI _ _ _ _ _ _ _ _ _ (.cond _ _ _);refine GI.cN rfl (fun hc=>?_) (fun hc=>?_)<;>(try first|exact hc.elim|(exfalso;omega)))|(show GI _ _ _ _ _ _ _ _ _ (.block _ (.loop _));apply GI.block)|(show GI _ _ _ _ _ _ _ _ _ (.block _ (.seq _ _));apply GI.block)|(apply GI.skip)|(apply GI.exit)|(apply GI.ret)|(apply XD.next)|(apply XD.then_ret)|(apply XD.then_exit)|(apply XD.block_out)|(apply XD.block_normal)|(apply XD.block_ret)|(refine XD.block_exit rfl ?_)|(refine nxN ?_)|(show VK _ _ _ _ _ ⟨_,.build 42 #[(0,_),(1,_)],_,_,_,_⟩ _;refine VK.mk (y_build (parts:=[(0,_),(1,_)]) (vs:=[_,_]) ⟨rfl,rfl,rfl⟩ (arc_built _ _)) ?_)|(show YK _ _ _ _ _ ⟨_,.build 42 #[(0,_),(1,_)],_,_,_,_⟩ _;refine YK.ofV (y_build (parts:=[(0,_),(1,_)]) (vs:=[_,_]) ⟨rfl,rfl,rfl⟩ (arc_built _ _)) ?_)|(show VG _ _ _ _ _ _ ⟨_,.build 42 #[(0,_),(1,_)],_,_,_,_⟩ _;refine VG.mk (fun hb=>by(try(have hc:=And.left hb;have hb:=And.right hb;rw[hc]));(try rw[hb]);exact y_build (parts:=[(0,_),(1,_)]) (vs:=[_,_]) ⟨rfl,rfl,rfl⟩ (arc_built _ _)) ?_)|(show YG _ _ _ _ _ _ ⟨_,.build 42 #[(0,_),(1,_)],_,_,_,_⟩ _;refine YG.mk (fun hb=>by(try(have hc:=And.left hb;have hb:=And.right hb;rw[hc]));(try rw[hb]);exact V.y (y_build (parts:=[(0,_),(1,_)]) (vs:=[_,_]) ⟨rfl,rfl,rfl⟩ (arc_built _ _))) ?_)|(refine nxV ?_)|(refine nSS ?_)|(refine nS1 fun _=>?_)|(refine nMM ?_)|(refine nM1 fun _=>?_)|(refine nxG ?_)|(refine nxX ?_)|(refine G.cN rfl (fun hc=>?_) (fun hc=>?_)<;>(try first|exact hc.elim|(exfalso;omega))))
   all_goals first
    |(exfalso;simp at hc;done)
    |(refine X.nextQ (y::pr++[(x1,x2)]) rfl (fun W' h=>?_);rw[e1,e2];exact h.sub subS)
 case stop =>
  rintro D pre y _ hy
  exact hy.elim
 case done =>
  rintro D xs z rfl rfl
  apply XD.next
  rw[hulL_pie]
  have e0:(pieL at_ lo hi).isEmpty=false:=rfl
  rw[e0]
  have hmg:NO.margA lo hi t.be=if lo=hi∧lo%3600000=0 then 0 else -(-(100*t.be)/8):=rfl
  have ho:NO.overA at_ lo hi t.be=((NO.spanA at_ lo hi).1-NO.margA lo hi t.be,(NO.spanA at_ lo hi).2+NO.margA lo hi t.be):=rfl
  have hm8:0≤-(-(100*t.be)/8)∧-(-(100*t.be)/8)≤100000:=by omega
  have hsp:=span_bd ha hl
  rw[ho]
  have em:lo.tmod 3600000=lo%3600000:=Int.tmod_eq_emod_of_nonneg hl.1
  generalize NO.spanA at_ lo hi=sp at *
  obtain⟨s1,s2⟩:=sp
  dsimp only at *
  generalize -(-(100*t.be)/8)=mg at *
  by_cases hz:lo=hi∧lo%3600000=0
  ·rw[hmg,if_pos hz]
   repeat' (first|(show GI _ _ _ _ _ _ _ _ _ (.seq (.region _ _ _) _);apply GI.seq)|(show GI _ _ _ _ _ _ _ _ _ (.seq (.seq _ _) _);apply GI.seq)|(show GI _ _ _ _ _ _ _ _ _ (.seq (.cond _ _ _) _);apply GI.seq)|(show GI _ _ _ _ _ _ _ _ _ (.seq (.block _ (.loop _)) _);apply GI.seq)|(show GI _ _ _ _ _ _ _ _ _ (.seq (.block _ (.seq _ _)) _);apply GI.seq)|(show GI _ _ _ _ _ _ _ _ _ (.seq (.loop _) _);apply GI.seq)|(show GI _ _ _ _ _ _ _ _ _ (.seq (.skip) _);apply GI.seq)|(show GI _ _ _ _ _ _ _ _ _ (.seq (.block _ (.rangeFunc _ _ _ _)) _);apply GI.seq)|(show GI _ _ _ _ _ _ _ _ _ (.region _ _ false);refine GI.region (by decide +kernel) ?_)|(show GI _ _ _ _ _ _ _ _ _ (.cond _ _ _);refine GI.cN rfl (fun hc=>?_) (fun hc=>?_)<;>(try first|exact hc.elim|(exfalso;omega)))|(show GI _ _ _ _ _ _ _ _ _ (.block _ (.loop _));apply GI.block)|(show GI _ _ _ _ _ _ _ _ _ (.block _ (.seq _ _));apply GI.block)|(apply GI.skip)|(apply GI.exit)|(apply GI.ret)|(apply XD.next)|(apply XD.then_ret)|(apply XD.then_exit)|(apply XD.block_out)|(apply XD.block_normal)|(apply XD.block_ret)|(refine XD.block_exit rfl ?_)|(refine nxN ?_)|(show VK _ _ _ _ _ ⟨_,.build 42 #[(0,_),(1,_)],_,_,_,_⟩ _;refine VK.mk (y_build (parts:=[(0,_),(1,_)]) (vs:=[_,_]) ⟨rfl,rfl,rfl⟩ (arc_built _ _)) ?_)|(show YK _ _ _ _ _ ⟨_,.build 42 #[(0,_),(1,_)],_,_,_,_⟩ _;refine YK.ofV (y_build (parts:=[(0,_),(1,_)]) (vs:=[_,_]) ⟨rfl,rfl,rfl⟩ (arc_built _ _)) ?_)|(show VG _ _ _ _ _ _ ⟨_,.build 42 #[(0,_),(1,_)],_,_,_,_⟩ _;refine VG.mk (fun hb=>by(try(have hc:=And.left hb;have hb:=And.right hb;rw[hc]));(try rw[hb]);exact y_build (parts:=[(0,_),(1,_)]) (vs:=[_,_]) ⟨rfl,rfl,rfl⟩ (arc_built _ _)) ?_)|(show YG _ _ _ _ _ _ ⟨_,.build 42 #[(0,_),(1,_)],_,_,_,_⟩ _;refine YG.mk (fun hb=>by(try(have hc:=And.left hb;have hb:=And.right hb;rw[hc]));(try rw[hb]);exact V.y (y_build (parts:=[(0,_),(1,_)]) (vs:=[_,_]) ⟨rfl,rfl,rfl⟩ (arc_built _ _))) ?_)|(show YK _ _ _ _ _ _ _;first|refine YK.mk (zcA (q1) ⟨rfl,rfl,rfl⟩) ?_)|(refine nxV ?_)|(refine nSS ?_)|(refine nS1 fun _=>?_)|(refine nMM ?_)|(refine nM1 fun _=>?_)|(show YG _ _ _ _ _ _ _ _;refine YG.mk (fun hb=>by(try(have hc:=And.left hb;have hb:=And.right hb;rw[hc]));(try rw[hb]);first|exact(zcA (q1) ⟨rfl,rfl,rfl⟩)|exact V.y vAuto) ?_)|(refine nxG ?_)|(refine nxX ?_)|(refine G.cN rfl (fun hc=>?_) (fun hc=>?_)<;>(try first|exact hc.elim|(exfalso;omega))))
   all_goals exact X.retQ [D] (by(repeat(first|exact Pick.nil|(apply Pick.cons;(case a=>(first|exact At.here|exact At.there (At.here)|exact At.there (At.there (At.here))|exact At.there (At.there (At.there (At.here)))|exact At.there (At.there (At.there (At.there (At.here))))|exact At.there (At.there (At.there (At.there (At.there (At.here)))))|exact At.there (At.there (At.there (At.there (At.there (At.there (At.here))))))|exact At.there (At.there (At.there (At.there (At.there (At.there (At.there (At.here)))))))|exact At.there (At.there (At.there (At.there (At.there (At.there (At.there (At.there (At.here))))))))|exact At.there (At.there (At.there (At.there (At.there (At.there (At.there (At.there (At.there (At.here))))))))))))))) (vs:=[_]) rfl ⟨⟨_,_,_,_,rfl,(by exact memA),lenA,by decide +kernel,rfl⟩,rfl⟩ rfl (fun w1 h=>⟨by rw[Int.sub_zero,Int.add_zero],h.ext⟩)
  ·rw[hmg,if_neg hz]
   repeat' (first|(show GI _ _ _ _ _ _ _ _ _ (.seq (.region _ _ _) _);apply GI.seq)|(show GI _ _ _ _ _ _ _ _ _ (.seq (.seq _ _) _);apply GI.seq)|(show GI _ _ _ _ _ _ _ _ _ (.seq (.cond _ _ _) _);apply GI.seq)|(show GI _ _ _ _ _ _ _ _ _ (.seq (.block _ (.loop _)) _);apply GI.seq)|(show GI _ _ _ _ _ _ _ _ _ (.seq (.block _ (.seq _ _)) _);apply GI.seq)|(show GI _ _ _ _ _ _ _ _ _ (.seq (.loop _) _);apply GI.seq)|(show GI _ _ _ _ _ _ _ _ _ (.seq (.skip) _);apply GI.seq)|(show GI _ _ _ _ _ _ _ _ _ (.seq (.block _ (.rangeFunc _ _ _ _)) _);apply GI.seq)|(show GI _ _ _ _ _ _ _ _ _ (.region _ _ false);refine GI.region (by decide +kernel) ?_)|(show GI _ _ _ _ _ _ _ _ _ (.cond _ _ _);refine GI.cN rfl (fun hc=>?_) (fun hc=>?_)<;>(try first|exact hc.elim|(exfalso;omega)))|(show GI _ _ _ _ _ _ _ _ _ (.block _ (.loop _));apply GI.block)|(show GI _ _ _ _ _ _ _ _ _ (.block _ (.seq _ _));apply GI.block)|(apply GI.skip)|(apply GI.exit)|(apply GI.ret)|(apply XD.next)|(apply XD.then_ret)|(apply XD.then_exit)|(apply XD.block_out)|(apply XD.block_normal)|(apply XD.block_ret)|(refine XD.block_exit rfl ?_)|(refine nxN ?_)|(show VK _ _ _ _ _ ⟨_,.build 42 #[(0,_),(1,_)],_,_,_,_⟩ _;refine VK.mk (y_build (parts:=[(0,_),(1,_)]) (vs:=[_,_]) ⟨rfl,rfl,rfl⟩ (arc_built _ _)) ?_)|(show YK _ _ _ _ _ ⟨_,.build 42 #[(0,_),(1,_)],_,_,_,_⟩ _;refine YK.ofV (y_build (parts:=[(0,_),(1,_)]) (vs:=[_,_]) ⟨rfl,rfl,rfl⟩ (arc_built _ _)) ?_)|(show VG _ _ _ _ _ _ ⟨_,.build 42 #[(0,_),(1,_)],_,_,_,_⟩ _;refine VG.mk (fun hb=>by(try(have hc:=And.left hb;have hb:=And.right hb;rw[hc]));(try rw[hb]);exact y_build (parts:=[(0,_),(1,_)]) (vs:=[_,_]) ⟨rfl,rfl,rfl⟩ (arc_built _ _)) ?_)|(show YG _ _ _ _ _ _ ⟨_,.build 42 #[(0,_),(1,_)],_,_,_,_⟩ _;refine YG.mk (fun hb=>by(try(have hc:=And.left hb;have hb:=And.right hb;rw[hc]));(try rw[hb]);exact V.y (y_build (parts:=[(0,_),(1,_)]) (vs:=[_,_]) ⟨rfl,rfl,rfl⟩ (arc_built _ _))) ?_)|(show YK _ _ _ _ _ _ _;first|refine YK.mk (zcA (q1) ⟨rfl,rfl,rfl⟩) ?_)|(refine nxV ?_)|(refine nSS ?_)|(refine nS1 fun _=>?_)|(refine nMM ?_)|(refine nM1 fun _=>?_)|(show YG _ _ _ _ _ _ _ _;refine YG.mk (fun hb=>by(try(have hc:=And.left hb;have hb:=And.right hb;rw[hc]));(try rw[hb]);first|exact(zcA (q1) ⟨rfl,rfl,rfl⟩)|exact V.y vAuto) ?_)|(refine nxG ?_)|(refine nxX ?_)|(refine G.cN rfl (fun hc=>?_) (fun hc=>?_)<;>(try first|exact hc.elim|(exfalso;omega))))
   all_goals first
    |(exfalso;omega)
    |exact X.retQ [D] (by(repeat(first|exact Pick.nil|(apply Pick.cons;(case a=>(first|exact At.here|exact At.there (At.here)|exact At.there (At.there (At.here))|exact At.there (At.there (At.there (At.here)))|exact At.there (At.there (At.there (At.there (At.here))))|exact At.there (At.there (At.there (At.there (At.there (At.here)))))|exact At.there (At.there (At.there (At.there (At.there (At.there (At.here))))))|exact At.there (At.there (At.there (At.there (At.there (At.there (At.there (At.here)))))))|exact At.there (At.there (At.there (At.there (At.there (At.there (At.there (At.there (At.here))))))))|exact At.there (At.there (At.there (At.there (At.there (At.there (At.there (At.there (At.there (At.here))))))))))))))) (vs:=[_]) rfl ⟨⟨_,_,_,_,rfl,(by exact memA),lenA,by decide +kernel,rfl⟩,rfl⟩ rfl (fun w1 h=>⟨rfl,h.ext⟩)
end
end Go.Proofs.YtjmdeplmenbmmaaGreat
