/- Joined texts: Du2. -/
import Derived.Test.YtjmdeplmenbmmaaGreatW14
set_option linter.unusedVariables false
set_option maxHeartbeats 8000000
namespace Go.Proofs.YtjmdeplmenbmmaaGreat
open Go.RowKit Go.Shelf
theorem gat_sm {t:TrkT} (hf:TrkF t) {h:Int} (hh:0≤h∧h≤24):smA (gAt t h):=by
 have:=angN_bd hf h.toNat (by omega)
 unfold gAt smA
 dsimp only
 omega
theorem dat_sm {t:TrkT} (hf:TrkF t) {h:Int} (hh:0≤h∧h≤24):smA (dAt t h):=by
 have:=le_at hf hh.1 hh.2
 unfold dAt smA
 dsimp only
 omega
def Cg (B:Nat) (z:Sl) (t:TrkT) (w:World):Prop:=(∀k v,[z.v][k]?=some v→w.cell? ⟨B,k,none⟩=some v)∧RO w z.v 1 25 ((angL t.gl 25).flatMap cI)
def Cd (B:Nat) (t:TrkT) (w:World):Prop:=(∀k v,(cTk t)[k]?=some v→w.cell? ⟨B,k,none⟩=some v)∧RO w t.dv.v 1 t.dl.length (t.dl.flatMap cI)
theorem Cg.keep {B:Nat} {z:Sl} {t:TrkT} {w w':World} (h:Cg B z t w) (hb:Below w.heap.size w w'):Cg B z t w':=⟨fun k v hk=>by
 have e:=h.1 k v hk
 exact(hb.cell (World.block_lt_of_cell? w _ e)).trans e,h.2.stay hb⟩
theorem Cd.keep {B:Nat} {t:TrkT} {w w':World} (h:Cd B t w) (hb:Below w.heap.size w w'):Cd B t w':=⟨fun k v hk=>by
 have e:=h.1 k v hk
 exact(hb.cell (World.block_lt_of_cell? w _ e)).trans e,h.2.stay hb⟩
theorem gh1_c {t:TrkT} (hf:TrkF t) (B:Nat) (z:Sl) {h:Int} (hh:0≤h∧h≤24):ContIn Tryz.prog (Cg B z t) 233 ([.int .i64 h]++(#[.pointer (some ⟨B,0,none⟩)]:Array Value).toList) (arcV (gAt t h).1 (gAt t h).2):=fun w hw0=>by
 obtain⟨hcl,hro⟩:=hw0
 have hlen:=angL_len t.gl 25
 have bd:=angN_bd hf h.toNat (by omega)
 have e:=angL_nth t.gl (k:=25) (i:=h.toNat) (by omega)
 rw[show ((h.toNat:Nat):Int)=h by omega] at e
 have q1:=nar_c (n:=angN t.gl h.toNat) (by omega)
 unfold gAt
 dsimp only
 generalize angL t.gl 25=A at *
 rw[←e] at q1 bd ⊢
 refine enter Tryz.func233 rfl rfl rfl (Hp:=[Hl.rd z.v cI 1 A]) (fun h hm=>by
  rcases List.mem_singleton.1 hm with rfl
  exact⟨⟨by rw[hlen];exact hro,fun h=>by cases h⟩,rfl⟩) ?_
 repeat' (first|(show VK _ _ _ _ _ ⟨_,.load 73 _,_,_,_,_⟩ _;refine VK.mk (y_loadX (by rfl) (hcl _ _ (by rfl)) (by decide +kernel)) ?_)|(show YK _ _ _ _ _ ⟨_,.load 73 _,_,_,_,_⟩ _;refine YK.ofV (y_loadX (by rfl) (hcl _ _ (by rfl)) (by decide +kernel)) ?_)|(show VG _ _ _ _ _ _ ⟨_,.load 73 _,_,_,_,_⟩ _;refine VG.mk (fun hb=>by(try(have hc:=And.left hb;have hb:=And.right hb;rw[hc]));(try rw[hb]);exact y_loadX (by rfl) (hcl _ _ (by rfl)) (by decide +kernel)) ?_)|(show YG _ _ _ _ _ _ ⟨_,.load 73 _,_,_,_,_⟩ _;refine YG.mk (fun hb=>by(try(have hc:=And.left hb;have hb:=And.right hb;rw[hc]));(try rw[hb]);exact V.y (y_loadX (by rfl) (hcl _ _ (by rfl)) (by decide +kernel))) ?_)|(show YK _ _ _ _ _ _ _;first|refine YK.mk (zcA (q1) ⟨rfl,rfl⟩) ?_)|(refine nxV ?_)|(refine nSS ?_)|(refine nS1 fun _=>?_)|(refine nMM ?_)|(refine nM1 fun _=>?_)|(show YG _ _ _ _ _ _ _ _;refine YG.mk (fun hb=>by(try(have hc:=And.left hb;have hb:=And.right hb;rw[hc]));(try rw[hb]);first|exact(zcA (q1) ⟨rfl,rfl⟩)|exact V.y vAuto) ?_)|(refine nxG ?_)|(refine nxX ?_)|(refine G.cN rfl (fun hc=>?_) (fun hc=>?_)<;>(try first|exact hc.elim|(exfalso;omega))))
 all_goals first
  |(exfalso;omega)
  |exact X.ret (vs:=[_]) rfl ⟨⟨_,_,_,_,rfl,(by exact memA),lenA,by decide +kernel,rfl⟩,rfl⟩ rfl rE
theorem de1_c {t:TrkT} (hf:TrkF t) (B:Nat) {h:Int} (hh:0≤h∧h≤24):ContIn Tryz.prog (Cd B t) 235 ([.int .i64 h]++(#[.pointer (some ⟨B,0,none⟩)]:Array Value).toList) (arcV (dAt t h).1 (dAt t h).2):=fun w hw0=>by
 obtain⟨hcl,hro⟩:=hw0
 have hlen:=hf.dl
 have bd:=le_at hf hh.1 hh.2
 have q1:=nar_c (n:=100*nth t.dl h) (by omega)
 unfold dAt
 dsimp only
 refine enter Tryz.func235 rfl rfl rfl (Hp:=[Hl.rd t.dv.v cI 1 t.dl]) (fun h hm=>by
  rcases List.mem_singleton.1 hm with rfl
  exact⟨⟨hro,fun h=>by cases h⟩,rfl⟩) ?_
 repeat' (first|(show VK _ _ _ _ _ ⟨_,.load 73 _,_,_,_,_⟩ _;refine VK.mk (y_loadX (by rfl) (hcl _ _ (by rfl)) (by decide +kernel)) ?_)|(show YK _ _ _ _ _ ⟨_,.load 73 _,_,_,_,_⟩ _;refine YK.ofV (y_loadX (by rfl) (hcl _ _ (by rfl)) (by decide +kernel)) ?_)|(show VG _ _ _ _ _ _ ⟨_,.load 73 _,_,_,_,_⟩ _;refine VG.mk (fun hb=>by(try(have hc:=And.left hb;have hb:=And.right hb;rw[hc]));(try rw[hb]);exact y_loadX (by rfl) (hcl _ _ (by rfl)) (by decide +kernel)) ?_)|(show YG _ _ _ _ _ _ ⟨_,.load 73 _,_,_,_,_⟩ _;refine YG.mk (fun hb=>by(try(have hc:=And.left hb;have hb:=And.right hb;rw[hc]));(try rw[hb]);exact V.y (y_loadX (by rfl) (hcl _ _ (by rfl)) (by decide +kernel))) ?_)|(show YK _ _ _ _ _ _ _;first|refine YK.mk (zcA (q1) ⟨rfl,rfl⟩) ?_)|(refine nxV ?_)|(refine nSS ?_)|(refine nS1 fun _=>?_)|(refine nMM ?_)|(refine nM1 fun _=>?_)|(show YG _ _ _ _ _ _ _ _;refine YG.mk (fun hb=>by(try(have hc:=And.left hb;have hb:=And.right hb;rw[hc]));(try rw[hb]);first|exact(zcA (q1) ⟨rfl,rfl⟩)|exact V.y vAuto) ?_)|(refine nxG ?_)|(refine nxX ?_)|(refine G.cN rfl (fun hc=>?_) (fun hc=>?_)<;>(try first|exact hc.elim|(exfalso;omega))))
 all_goals first
  |(exfalso;omega)
  |exact X.ret (vs:=[_]) rfl ⟨⟨_,_,_,_,rfl,(by exact memA),lenA,by decide +kernel,rfl⟩,rfl⟩ rfl rE
theorem gha_at {t:TrkT} (hf:TrkF t) (B:Nat) (z:Sl):AtC (Cg B z t) 233 #[.pointer (some ⟨B,0,none⟩)] (gAt t):=⟨by decide +kernel,fun h hh=>⟨gat_sm hf hh,gh1_c hf B z hh⟩⟩
theorem dec_at {t:TrkT} (hf:TrkF t) (B:Nat):AtC (Cd B t) 235 #[.pointer (some ⟨B,0,none⟩)] (dAt t):=⟨by decide +kernel,fun h hh=>⟨dat_sm hf hh,de1_c hf B hh⟩⟩
theorem over_ok {C:World→Prop} {fa:FuncId} {bs:Array Value} {at_:Int→Int×Int} {lo hi be:Int} (ha:AtC C fa bs at_) (ho:∀h,(at_ h).1≤(at_ h).2) (hb:0≤be∧be≤1000) (hl:0≤lo∧lo≤hi∧hi≤86400000):okA (NO.overA at_ lo hi be).1 (NO.overA at_ lo hi be).2:=by
 have a:=span_bd ha hl
 have o:=over_ord ho hb.1 lo hi
 have hm:0≤NO.margA lo hi be∧NO.margA lo hi be≤100000:=by unfold NO.margA;split<;>omega
 unfold NO.overA at o ⊢
 dsimp only at o ⊢
 omega
section
variable {t:TrkT} {lo hi:Int}
theorem ngha_c (hf:TrkF t) (hl:0≤lo∧lo≤hi∧hi≤86400000):ContIn Tryz.prog (fun w=>In1 w t) 204 [trV t,.int .i64 lo,.int .i64 hi] (.tuple [arcV (NO.turnA (NO.overA (gAt t) lo hi t.be)).1 (NO.turnA (NO.overA (gAt t) lo hi t.be)).2,.int .i64 0].toArray):=fun w hw0=>by
 have q1:=nangs_c hf
 have q2:=fun B z=>nover_c (C:=Cg B z t) (fun _ _ h hb=>h.keep hb) (gha_at hf B z) hl t hf.be
 have ok:=over_ok (gha_at hf 0 ⟨none,0,0⟩) (gat_ord t) hf.be hl
 have hlen:=angL_len t.gl 25
 generalize NO.overA (gAt t) lo hi t.be=R at *
 obtain⟨r1,r2⟩:=R
 dsimp only at q2 ok
 have q3:=nturn_c ok
 generalize NO.turnA (r1,r2)=T at *
 refine enter Tryz.func204 rfl rfl rfl (Hp:=[Hl.rd t.gv.v cI 1 t.gl]) (fun h hm=>by
  rcases List.mem_singleton.1 hm with rfl
  exact⟨⟨hw0.1,fun h=>by cases h⟩,rfl⟩) ?_
 repeat' (first|(refine nxN ?_)|(show RS _ _ _ _ _ _ _ (⟨some 10,.call _,_,_,_,_⟩::_);refine RS.callX (q1) ⟨rfl,rfl⟩ ?_;rintro z hz;dsimp only[List.cons_append,List.nil_append])|(show YK _ _ _ _ _ ⟨_,.call { callee:=.value (.func 232),args:=_,argTypes:=_ },_,_,_,_⟩ _;refine YK.mk (zcI (q2 _ z) (fun w' hw'=>⟨fun k v hk=>(hw'.cell (t:=73) (cs:=[z.v]) (by exact memA) k).trans hk,by rw[←hlen];exact(hw'.all (Hl.nw z.v cI 1 (angL t.gl 25)) (by exact memA)).1⟩) ⟨rfl,rfl,rfl,rfl,rfl⟩ (by decide +kernel)) ?_)|(show YG _ _ _ _ _ _ ⟨_,.call { callee:=.value (.func 232),args:=_,argTypes:=_ },_,_,_,_⟩ _;refine YG.mk (fun hb=>by(try(have hc:=And.left hb;have hb:=And.right hb;rw[hc]));(try rw[hb]);exact zcI (q2 _ z) (fun w' hw'=>⟨fun k v hk=>(hw'.cell (t:=73) (cs:=[z.v]) (by exact memA) k).trans hk,by rw[←hlen];exact(hw'.all (Hl.nw z.v cI 1 (angL t.gl 25)) (by exact memA)).1⟩) ⟨rfl,rfl,rfl,rfl,rfl⟩ (by decide +kernel)) ?_)|(show YK _ _ _ _ _ _ _;first|refine YK.mk (zcA (q3) ⟨rfl,rfl⟩) ?_)|(refine nxV ?_)|(refine nSS ?_)|(refine nS1 fun _=>?_)|(refine nMM ?_)|(refine nM1 fun _=>?_)|(show YG _ _ _ _ _ _ _ _;refine YG.mk (fun hb=>by(try(have hc:=And.left hb;have hb:=And.right hb;rw[hc]));(try rw[hb]);first|exact(zcA (q3) ⟨rfl,rfl⟩)|exact V.y vAuto) ?_)|(refine nxG ?_)|(refine nxX ?_)|(refine G.cN rfl (fun hc=>?_) (fun hc=>?_)<;>(try first|exact hc.elim|(exfalso;omega))))
 all_goals first
  |(exfalso;omega)
  |exact X.ret (vs:=[_,_]) rfl ⟨⟨_,_,_,_,rfl,(by exact memA),lenA,by decide +kernel,rfl⟩,rfl,rfl⟩ rfl rE
theorem ndec_c (hf:TrkF t) (hl:0≤lo∧lo≤hi∧hi≤86400000):ContIn Tryz.prog (fun w=>In1 w t) 205 [trV t,.int .i64 lo,.int .i64 hi] (.tuple [arcV (latA (NO.overA (dAt t) lo hi t.be)).1 (latA (NO.overA (dAt t) lo hi t.be)).2,.int .i64 0].toArray):=fun w hw0=>by
 have q2:=fun B=>nover_c (C:=Cd B t) (fun _ _ h hb=>h.keep hb) (dec_at hf B) hl t hf.be
 have ok:=over_ok (dec_at hf 0) (dat_ord t) hf.be hl
 have bd:=over_bd (f:=dAt t) hf.be.1 hl (x:=5399950) (y:=-5399950) fun h hh=>dat_bd hf hh
 unfold latA
 generalize NO.overA (dAt t) lo hi t.be=R at *
 obtain⟨r1,r2⟩:=R
 dsimp only at q2 ok bd ⊢
 have q3:=nmeet_c (c:=-5400000) (d:=5400000) ok (by omega) (by omega)
 generalize max r1 (-5400000)=x at *
 generalize min r2 5400000=y at *
 refine enter Tryz.func205 rfl rfl rfl (Hp:=[Hl.rd t.dv.v cI 1 t.dl]) (fun h hm=>by
  rcases List.mem_singleton.1 hm with rfl
  exact⟨⟨hw0.2,fun h=>by cases h⟩,rfl⟩) ?_
 repeat' (first|(refine nxN ?_)|(show VK _ _ _ _ _ ⟨_,.build 42 #[(0,_),(1,_)],_,_,_,_⟩ _;refine VK.mk (y_build (parts:=[(0,_),(1,_)]) (vs:=[_,_]) ⟨rfl,rfl,rfl⟩ (arc_built _ _)) ?_)|(show YK _ _ _ _ _ ⟨_,.build 42 #[(0,_),(1,_)],_,_,_,_⟩ _;refine YK.ofV (y_build (parts:=[(0,_),(1,_)]) (vs:=[_,_]) ⟨rfl,rfl,rfl⟩ (arc_built _ _)) ?_)|(show VG _ _ _ _ _ _ ⟨_,.build 42 #[(0,_),(1,_)],_,_,_,_⟩ _;refine VG.mk (fun hb=>by(try(have hc:=And.left hb;have hb:=And.right hb;rw[hc]));(try rw[hb]);exact y_build (parts:=[(0,_),(1,_)]) (vs:=[_,_]) ⟨rfl,rfl,rfl⟩ (arc_built _ _)) ?_)|(show YG _ _ _ _ _ _ ⟨_,.build 42 #[(0,_),(1,_)],_,_,_,_⟩ _;refine YG.mk (fun hb=>by(try(have hc:=And.left hb;have hb:=And.right hb;rw[hc]));(try rw[hb]);exact V.y (y_build (parts:=[(0,_),(1,_)]) (vs:=[_,_]) ⟨rfl,rfl,rfl⟩ (arc_built _ _))) ?_)|(show YK _ _ _ _ _ ⟨_,.call { callee:=.value (.func 232),args:=_,argTypes:=_ },_,_,_,_⟩ _;refine YK.mk (zcI (q2 _) (fun w' hw'=>⟨fun k v hk=>(hw'.cell (t:=76) (cs:=cTk t) (by exact memA) k).trans hk,(hw'.all (Hl.rd t.dv.v cI 1 t.dl) (by exact memA)).1⟩) ⟨rfl,rfl,rfl,rfl,rfl⟩ (by decide +kernel)) ?_)|(show YG _ _ _ _ _ _ ⟨_,.call { callee:=.value (.func 232),args:=_,argTypes:=_ },_,_,_,_⟩ _;refine YG.mk (fun hb=>by(try(have hc:=And.left hb;have hb:=And.right hb;rw[hc]));(try rw[hb]);exact zcI (q2 _) (fun w' hw'=>⟨fun k v hk=>(hw'.cell (t:=76) (cs:=cTk t) (by exact memA) k).trans hk,(hw'.all (Hl.rd t.dv.v cI 1 t.dl) (by exact memA)).1⟩) ⟨rfl,rfl,rfl,rfl,rfl⟩ (by decide +kernel)) ?_)|(show YK _ _ _ _ _ _ _;first|refine YK.mk (zcA (q3) ⟨rfl,rfl,rfl⟩) ?_)|(refine nxV ?_)|(refine nSS ?_)|(refine nS1 fun _=>?_)|(refine nMM ?_)|(refine nM1 fun _=>?_)|(show YG _ _ _ _ _ _ _ _;refine YG.mk (fun hb=>by(try(have hc:=And.left hb;have hb:=And.right hb;rw[hc]));(try rw[hb]);first|exact(zcA (q3) ⟨rfl,rfl,rfl⟩)|exact V.y vAuto) ?_)|(refine nxG ?_)|(refine nxX ?_)|(refine G.cN rfl (fun hc=>?_) (fun hc=>?_)<;>(try first|exact hc.elim|(exfalso;omega))))
 all_goals first
  |(exfalso;omega)
  |exact X.ret (vs:=[_,_]) rfl ⟨⟨_,_,_,_,rfl,(by exact memA),lenA,by decide +kernel,rfl⟩,rfl,rfl⟩ rfl rE
theorem nDur_c (ho:okT t=true) (hl:0≤lo∧lo≤hi∧hi≤86400000):ContIn Tryz.prog (fun w=>In1 w t) 155 [trV t,.int .i64 lo,.int .i64 hi] (.tuple [arcV (NO.turnA (NO.overA (gAt t) lo hi t.be)).1 (NO.turnA (NO.overA (gAt t) lo hi t.be)).2,arcV (latA (NO.overA (dAt t) lo hi t.be)).1 (latA (NO.overA (dAt t) lo hi t.be)).2,.int .i64 0].toArray):=fun w hw0=>by
 have hf:=trk_facts ho
 have q1:=ninst_c ho (ms:=lo) (by omega)
 have q2:=ninst_c ho (ms:=hi) (by omega)
 have q3:=ngha_c hf hl
 have q4:=ndec_c hf hl
 generalize NO.turnA (NO.overA (gAt t) lo hi t.be)=R1 at *
 generalize latA (NO.overA (dAt t) lo hi t.be)=R2 at *
 clear hf ho
 refine enter0 Tryz.func155 rfl rfl rfl ?_
 repeat' (first|(refine nxN ?_)|(show YK _ _ _ _ _ ⟨some 14,.call { callee:=.value (.func 203),args:=_,argTypes:=_ },_,_,_,_⟩ _;refine YK.mk (zcI (q1) (fun w' hw'=>hw0.keep hw'.ext) ⟨rfl,rfl,rfl⟩ (by decide +kernel)) ?_)|(show YG _ _ _ _ _ _ ⟨some 14,.call { callee:=.value (.func 203),args:=_,argTypes:=_ },_,_,_,_⟩ _;refine YG.mk (fun hb=>by(try(have hc:=And.left hb;have hb:=And.right hb;rw[hc]));(try rw[hb]);exact zcI (q1) (fun w' hw'=>hw0.keep hw'.ext) ⟨rfl,rfl,rfl⟩ (by decide +kernel)) ?_)|(show YK _ _ _ _ _ ⟨some 19,.call { callee:=.value (.func 203),args:=_,argTypes:=_ },_,_,_,_⟩ _;refine YK.mk (zcI (q2) (fun w' hw'=>hw0.keep hw'.ext) ⟨rfl,rfl,rfl⟩ (by decide +kernel)) ?_)|(show YG _ _ _ _ _ _ ⟨some 19,.call { callee:=.value (.func 203),args:=_,argTypes:=_ },_,_,_,_⟩ _;refine YG.mk (fun hb=>by(try(have hc:=And.left hb;have hb:=And.right hb;rw[hc]));(try rw[hb]);exact zcI (q2) (fun w' hw'=>hw0.keep hw'.ext) ⟨rfl,rfl,rfl⟩ (by decide +kernel)) ?_)|(show YK _ _ _ _ _ ⟨_,.call { callee:=.value (.func 204),args:=_,argTypes:=_ },_,_,_,_⟩ _;refine YK.mk (zcI (q3) (fun w' hw'=>hw0.keep hw'.ext) ⟨rfl,rfl,rfl,rfl⟩ (by decide +kernel)) ?_)|(show YG _ _ _ _ _ _ ⟨_,.call { callee:=.value (.func 204),args:=_,argTypes:=_ },_,_,_,_⟩ _;refine YG.mk (fun hb=>by(try(have hc:=And.left hb;have hb:=And.right hb;rw[hc]));(try rw[hb]);exact zcI (q3) (fun w' hw'=>hw0.keep hw'.ext) ⟨rfl,rfl,rfl,rfl⟩ (by decide +kernel)) ?_)|(show YK _ _ _ _ _ ⟨_,.call { callee:=.value (.func 205),args:=_,argTypes:=_ },_,_,_,_⟩ _;refine YK.mk (zcI (q4) (fun w' hw'=>hw0.keep hw'.ext) ⟨rfl,rfl,rfl,rfl⟩ (by decide +kernel)) ?_)|(show YG _ _ _ _ _ _ ⟨_,.call { callee:=.value (.func 205),args:=_,argTypes:=_ },_,_,_,_⟩ _;refine YG.mk (fun hb=>by(try(have hc:=And.left hb;have hb:=And.right hb;rw[hc]));(try rw[hb]);exact zcI (q4) (fun w' hw'=>hw0.keep hw'.ext) ⟨rfl,rfl,rfl,rfl⟩ (by decide +kernel)) ?_)|(refine G.mixedM 14 [.go 0,.go 1,.go 2,.go 3,.go 4] [true,true,false,false,true] ?_;dsimp only[maskH])|(refine nxV ?_)|(refine nSS ?_)|(refine nS1 fun _=>?_)|(refine nMM ?_)|(refine nM1 fun _=>?_)|(refine nxG ?_)|(refine nxX ?_)|(refine G.cN rfl (fun hc=>?_) (fun hc=>?_)<;>(try first|exact hc.elim|(exfalso;omega))))
 all_goals first
  |(exfalso;omega)
  |(exact X.ret (vs:=[_,_,_]) rfl ⟨⟨_,_,_,_,rfl,(by exact memA),lenA,by decide +kernel,rfl⟩,⟨_,_,_,_,rfl,(by exact memA),lenA,by decide +kernel,rfl⟩,rfl,rfl⟩ rfl rE)
end
end Go.Proofs.YtjmdeplmenbmmaaGreat
