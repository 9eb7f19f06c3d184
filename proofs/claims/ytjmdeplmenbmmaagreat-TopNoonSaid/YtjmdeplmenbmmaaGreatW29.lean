/- Joined texts: Cvr, Ar22. -/
import Derived.Test.YtjmdeplmenbmmaaGreatW28
import Derived.Test.YtjmdeplmenbmmaaGreatV06
set_option linter.unusedVariables false
set_option maxHeartbeats 8000000
namespace Go.Proofs.YtjmdeplmenbmmaaGreat
open Go.RowKit
abbrev plB (b:Nat) (P L:Int):Hl:=Hl.blk b 63 [.int .i64 P,.int .i64 P,.int .i64 L,.int .i64 L]
abbrev inB1 (b:Nat) (m:Int):Hl:=Hl.blk b 3 [.int .i64 m]
abbrev opB (b bO:Nat):Hl:=Hl.blk b 128 [bxP bO]
def meM (P L:Int) (x:RR.CellT):Bool:=mtB P L (bxA x) (bxB x) (bxC x) (bxD x)
section
variable {bO:Nat} {P L:Int} {m:Nat} {z:Sl} {o o':List RR.CellT} {c x:RR.CellT}
theorem cov1_c {b4 b6 b7:Nat} {r:Bool} (hc:ContL Tryz.prog (fun _=>True) [rgB bO z,rgR z o] 69 [v4 P P L L,ctV x,.int .i64 m,bxP bO] (fun _:Sl=>True) (fun _=>.bool r) (fun z'=>[rgB bO z',rgR z' o'])) :
  ContL Tryz.prog (fun _=>True) [plB b4 P L,inB1 b6 m,opB b7 bO,rgB bO z,rgR z o] 135 ([ctV x]++(#[bxC' b4,bxC' b6,bxC' b7]:Array Value).toList) (fun _:Sl=>True) (fun _=>.bool (!r)) (fun z'=>[plB b4 P L,inB1 b6 m,opB b7 bO,rgB bO z',rgR z' o']):=fun w0 HR w hC hw=>by
 change St w0 (plB b4 P L::inB1 b6 m::opB b7 bO::rgB bO z::rgR z o::HR) w at hw
 refine enterU Tryz.func135 rfl rfl rfl hw ?_
 repeat' (first|(refine nxN ?_)|(show VK _ _ _ _ _ ⟨_,.load 63 _,_,_,_,_⟩ _;refine VK.mk (zlP (k:=4) (by rfl) (by exact memA) (by decide +kernel) (by rfl)) ?_)|(show YK _ _ _ _ _ ⟨_,.load 63 _,_,_,_,_⟩ _;refine YK.ofV (zlP (k:=4) (by rfl) (by exact memA) (by decide +kernel) (by rfl)) ?_)|(show VG _ _ _ _ _ _ ⟨_,.load 63 _,_,_,_,_⟩ _;refine VG.mk (fun hb=>by(try(have hc:=And.left hb;have hb:=And.right hb;rw[hc]));(try rw[hb]);exact zlP (k:=4) (by rfl) (by exact memA) (by decide +kernel) (by rfl)) ?_)|(show YG _ _ _ _ _ _ ⟨_,.load 63 _,_,_,_,_⟩ _;refine YG.mk (fun hb=>by(try(have hc:=And.left hb;have hb:=And.right hb;rw[hc]));(try rw[hb]);exact V.y (zlP (k:=4) (by rfl) (by exact memA) (by decide +kernel) (by rfl))) ?_)|(show RS _ _ _ _ _ _ _ (⟨some 10,.call _,_,_,_,_⟩::_);refine RS.callL (hc) trivial ?_;rintro z1 -;dsimp only[List.cons_append,List.nil_append])|(refine nxV ?_)|(refine nSS ?_)|(refine nS1 fun _=>?_)|(refine nMM ?_)|(refine nM1 fun _=>?_)|(refine nxG ?_)|(refine nxX ?_)|(refine G.cN rfl (fun hc=>?_) (fun hc=>?_)<;>(try first|exact hc.elim|(exfalso;omega))))
 exact X.ret (vs:=[_]) rfl ⟨rfl,rfl⟩ rfl (fun w hw=>⟨z1,trivial,rfl,hw.sub (H':=rgB bO z1::rgR z1 o'::plB b4 P L::inB1 b6 m::opB b7 bO::HR) subS |>.perm (by exact(List.perm_append_comm (l₁:=[rgB bO z1,rgR z1 o']) (l₂:=[plB b4 P L,inB1 b6 m,opB b7 bO])).append_right HR)⟩)
theorem bx_lt {c:RR.CellT} (ok:RR.okC c):bxA c<bxB c:=by
 have hp:2^c.lv≤10800000:=Nat.le_trans (Nat.pow_le_pow_right (by decide) ok.1) (by decide)
 have h0:0<2^c.lv:=Nat.pow_pos (by decide)
 have h1:egN c.r c.lv+1≤egN (c.r+1) c.lv:=by
  unfold egN
  rw[←Nat.add_div_right _ h0]
  exact Nat.div_le_div_right (by rw[Nat.add_mul,Nat.one_mul];exact Nat.add_le_add_left hp _)
 unfold bxA bxB
 omega
theorem cov_w1 (hP : -5400000≤P∧P≤5400000) (hL : -10800000≤L∧L<10800000) (ok:RR.okC c) (hM:meM P L c=false):ContL Tryz.prog (fun _=>True) [rgB bO z,rgR z o] 69 [v4 P P L L,ctV c,.int .i64 m,bxP bO] (fun _:Unit=>True) (fun _=>.bool true) (fun _=>[rgB bO z,rgR z o]):=fun w0 HR w _ hw=>by
 change St w0 (rgB bO z::rgR z o::HR) w at hw
 have q1:=rbox_c ok
 have q2:=rmeets_c hP hL (box_ok ok).lat (box_ok ok).lon
 unfold meM at hM
 rw[hM] at q2
 generalize bxA c=a at *
 generalize bxB c=b at *
 generalize bxC c=e at *
 generalize bxD c=f at *
 refine enterU Tryz.func69 rfl rfl rfl hw ?_
 repeat' (first|(refine nxN ?_)|(show VK _ _ _ _ _ ⟨_,.load 63 _,_,_,_,_⟩ _;refine VK.mk (zlP (k:=4) (by rfl) (by exact memA) (by decide +kernel) (by rfl)) ?_)|(show YK _ _ _ _ _ ⟨_,.load 63 _,_,_,_,_⟩ _;refine YK.ofV (zlP (k:=4) (by rfl) (by exact memA) (by decide +kernel) (by rfl)) ?_)|(show VG _ _ _ _ _ _ ⟨_,.load 63 _,_,_,_,_⟩ _;refine VG.mk (fun hb=>by(try(have hc:=And.left hb;have hb:=And.right hb;rw[hc]));(try rw[hb]);exact zlP (k:=4) (by rfl) (by exact memA) (by decide +kernel) (by rfl)) ?_)|(show YG _ _ _ _ _ _ ⟨_,.load 63 _,_,_,_,_⟩ _;refine YG.mk (fun hb=>by(try(have hc:=And.left hb;have hb:=And.right hb;rw[hc]));(try rw[hb]);exact V.y (zlP (k:=4) (by rfl) (by exact memA) (by decide +kernel) (by rfl))) ?_)|(show YK _ _ _ _ _ _ _;first|refine YK.mk (zcA (q1) ⟨rfl,rfl⟩) ?_|refine YK.mk (zcA (q2) ⟨rfl,rfl,rfl⟩) ?_)|(refine nxV ?_)|(refine nSS ?_)|(refine nS1 fun _=>?_)|(refine nMM ?_)|(refine nM1 fun _=>?_)|(show YG _ _ _ _ _ _ _ _;refine YG.mk (fun hb=>by(try(have hc:=And.left hb;have hb:=And.right hb;rw[hc]));(try rw[hb]);first|exact(zcA (q1) ⟨rfl,rfl⟩)|exact(zcA (q2) ⟨rfl,rfl,rfl⟩)|exact V.y vAuto) ?_)|(refine nxG ?_)|(refine G.mA 5 [.go 0,.go 1,.go 2,.go 3,.go 4,.go 5,.go 6,.go 7,.go 8] ?_)|(refine nxX ?_)|(refine G.cN rfl (fun hc=>?_) (fun hc=>?_)<;>(try first|exact hc.elim|(exfalso;omega))))
 all_goals first
  |(exfalso;simp at hc;done)
  |exact X.ret (vs:=[_]) rfl ⟨rfl,rfl⟩ rfl (fun w hw=>⟨(),trivial,rfl,hw.sub subS⟩)
theorem cov_w2 (hP : -5400000≤P∧P≤5400000) (hL : -10800000≤L∧L<10800000) (ok:RR.okC c) (okO:∀x∈o,RR.okC x) (ho:o.length≤4064) (hM:meM P L c=true) (hm:c.lv=m):ContL Tryz.prog (fun _=>True) [rgB bO z,rgR z o] 69 [v4 P P L L,ctV c,.int .i64 m,bxP bO] (fun _:Sl=>True) (fun _=>.bool (decide ((RR.push o c).length≤4064))) (fun z'=>[rgB bO z',rgR z' (RR.push o c)]):=fun w0 HR w _ hw=>by
 change St w0 (rgB bO z::rgR z o::HR) w at hw
 have q1:=rbox_c ok
 have q2:=rmeets_c hP hL (box_ok ok).lat (box_ok ok).lon
 have q3:=pins_no hP hL ⟨(box_ok ok).lat.1,bx_lt ok,(box_ok ok).lat.2.2⟩ (box_ok ok).lon
 unfold meM at hM
 rw[hM] at q2
 clear hM
 generalize bxA c=a at *
 generalize bxB c=b at *
 generalize bxC c=e at *
 generalize bxD c=f at *
 subst hm
 have hp:=RR.push_eq o c
 have okP:∀x∈o++[c],RR.okC x:=fun x hx'=>by
  rcases List.mem_append.1 hx' with h|h
  ·exact okO x h
  ·rw[List.mem_singleton.1 h];exact ok
 have hlp:(o++[c]).length≤4065:=by rw[List.length_append,List.length_singleton];omega
 have hpl:=RR.push_len o c
 generalize RR.push o c=pc at *
 refine enterU Tryz.func69 rfl rfl rfl hw ?_
 repeat' (first|(refine nxN ?_)|(show VK _ _ _ _ _ ⟨_,.load 63 _,_,_,_,_⟩ _;refine VK.mk (zlP (k:=4) (by rfl) (by exact memA) (by decide +kernel) (by rfl)) ?_)|(show YK _ _ _ _ _ ⟨_,.load 63 _,_,_,_,_⟩ _;refine YK.ofV (zlP (k:=4) (by rfl) (by exact memA) (by decide +kernel) (by rfl)) ?_)|(show VG _ _ _ _ _ _ ⟨_,.load 63 _,_,_,_,_⟩ _;refine VG.mk (fun hb=>by(try(have hc:=And.left hb;have hb:=And.right hb;rw[hc]));(try rw[hb]);exact zlP (k:=4) (by rfl) (by exact memA) (by decide +kernel) (by rfl)) ?_)|(show YG _ _ _ _ _ _ ⟨_,.load 63 _,_,_,_,_⟩ _;refine YG.mk (fun hb=>by(try(have hc:=And.left hb;have hb:=And.right hb;rw[hc]));(try rw[hb]);exact V.y (zlP (k:=4) (by rfl) (by exact memA) (by decide +kernel) (by rfl))) ?_)|(show RM _ _ _ _ _ _ _ _ _ (.go 5::_);refine RM.lit1C (a:=c) (fun v'=>?_) rfl rfl rfl (fun _ _ h=>h.sub subS))|(show RM _ _ _ _ _ _ _ _ _ (.go 6::_);refine RM.appendA (f':=cT) (l:=o) (l':=[c]) (fun z'=>?_) rfl (by rfl) (by rfl) (by intro v';exact updA) (by exact rdA) (fun _=>rfl) (by simp only[List.length_cons,List.length_nil];omega) (by rfl) (fun _ _ h=>h.sub subS))|(refine G.mixedM 5 [.go 0,.go 1,.go 2,.go 3,.go 4,.go 5,.go 6,.go 7,.go 8] [true,true,true,true,true,true,false] ?_;dsimp only[maskH])|(show YK _ _ _ _ _ _ _;first|refine YK.mk (zcA (q1) ⟨rfl,rfl⟩) ?_|refine YK.mk (zcA (q2) ⟨rfl,rfl,rfl⟩) ?_|refine YK.mk (zcA (q3) ⟨rfl,rfl,rfl⟩) ?_)|(refine nxV ?_)|(refine nSS ?_)|(refine nS1 fun _=>?_)|(refine nMM ?_)|(refine nM1 fun _=>?_)|(show YG _ _ _ _ _ _ _ _;refine YG.mk (fun hb=>by(try(have hc:=And.left hb;have hb:=And.right hb;rw[hc]));(try rw[hb]);first|exact(zcA (q1) ⟨rfl,rfl⟩)|exact(zcA (q2) ⟨rfl,rfl,rfl⟩)|exact(zcA (q3) ⟨rfl,rfl,rfl⟩)|exact V.y vAuto) ?_)|(refine nxG ?_)|(refine nxX ?_)|(refine G.cN rfl (fun hc=>?_) (fun hc=>?_)<;>(try first|exact hc.elim|(exfalso;omega))))
 rename_i b4 b5 b6 b7 b9 hcx
 clear q1 q2 q3 hlp hpl
 generalize hO:o++[c]=O1 at *
 have hl1:O1.length≤4065:=by rw[←hO,List.length_append,List.length_singleton];omega
 refine G.loop (ι:=Sl×List RR.CellT) (fun y=>[(7,.pointer (some ⟨b7,0,none⟩))]) (fun y=>rgB bO y.1::rgR y.1 y.2::opB b7 bO::HR) (fun y=>RR.mrgN y.2.length y.2=pc∧(∀x∈y.2,RR.okC x)∧y.2.length≤4065) (fun y=>y.2.length) (z',O1) ⟨hp.symm,okP,hl1⟩ ⟨rfl,trivial⟩ (fun w' h=>by
  have h2:=h.sub (H':=opB b7 bO::rgB bO z'::rgR z' O1::HR) subS
  exact h2.perm (List.perm_middle (l₁:=[rgB bO z',rgR z' O1])).symm) ?_
 clear hp okP hl1 hO
 rintro⟨y,O2⟩ mx2 ⟨k1,k2,k3⟩ hmx2
 (try dsimp only at k1 k2 k3 hmx2 ⊢)
 cases hmg:RR.mrg O2 with
 |some l' =>
  have q1:=merge_some (b:=bO) (s:=y) k2 (by omega) hmg
  have e1:=RR.mrg_len hmg
  repeat' (first|(refine nxN ?_)|(show RS _ _ _ _ _ _ _ (⟨some 36,.call _,_,_,_,_⟩::_);refine RS.callL (q1) trivial ?_;rintro y1 -;dsimp only[List.cons_append,List.nil_append])|(refine nxV ?_)|(refine nSS ?_)|(refine nS1 fun _=>?_)|(refine nMM ?_)|(refine nM1 fun _=>?_)|(refine nxG ?_)|(refine G.mA 5 [.go 0,.go 1,.go 2,.go 3,.go 4,.go 5,.go 6,.go 7,.go 8] ?_)|(refine nxX ?_)|(refine G.cN rfl (fun hc=>?_) (fun hc=>?_)<;>(try first|exact hc.elim|(exfalso;omega))))
  exact X.again (y1,l') ⟨(RR.mrgN_step hmg).symm.trans k1,RR.mrg_ok k2 hmg,by dsimp only;omega⟩ (by dsimp only;omega) ⟨rfl,trivial⟩ (by exact fun w h=>h.sub subS)
 |none =>
  have q1:=merge_no (b:=bO) (s:=y) k2 (by omega) hmg
  rw[RR.mrgN_stop hmg] at k1
  subst k1
  repeat' (first|(refine nxN ?_)|(show RS _ _ _ _ _ _ _ (⟨some 36,.call _,_,_,_,_⟩::_);refine RS.callL (q1) trivial ?_;rintro y1 -;dsimp only[List.cons_append,List.nil_append])|(refine nxV ?_)|(refine nSS ?_)|(refine nS1 fun _=>?_)|(refine nMM ?_)|(refine nM1 fun _=>?_)|(refine nxG ?_)|(refine G.mA 5 [.go 0,.go 1,.go 2,.go 3,.go 4,.go 5,.go 6,.go 7,.go 8] ?_)|(refine nxX ?_)|(refine G.cN rfl (fun hc=>?_) (fun hc=>?_)<;>(try first|exact hc.elim|(exfalso;omega))))
  all_goals first
   |(exfalso;simp at hc;done)
   |skip
  exact X.ret (vs:=[_]) rfl ⟨rfl,rfl⟩ rfl (fun w hw=>⟨y,trivial,ret_bool (decide_eq_decide.2 (by omega)),hw.sub subS⟩)
theorem cov_w3 {r:Bool} (hP : -5400000≤P∧P≤5400000) (hL : -10800000≤L∧L<10800000) (ok:RR.okC c) (hM:meM P L c=true) (hm:c.lv<m) (hm2:m≤16)
  (hcc:∀b4 b6 b7 v,ContL Tryz.prog (fun _=>True) [Hl.nw v cT 3 (RR.kids c),plB b4 P L,inB1 b6 m,opB b7 bO,rgB bO z,rgR z o] 134 [v,.func (.func 135) #[] #[bxC' b4,bxC' b6,bxC' b7]] (fun _:Sl=>True) (fun _=>.bool (!r)) (fun z'=>[Hl.nw v cT 3 (RR.kids c),plB b4 P L,inB1 b6 m,opB b7 bO,rgB bO z',rgR z' o'])) :
  ContL Tryz.prog (fun _=>True) [rgB bO z,rgR z o] 69 [v4 P P L L,ctV c,.int .i64 m,bxP bO] (fun _:Sl=>True) (fun _=>.bool r) (fun z'=>[rgB bO z',rgR z' o']):=fun w0 HR w _ hw=>by
 change St w0 (rgB bO z::rgR z o::HR) w at hw
 have q1:=rbox_c ok
 have q2:=rmeets_c hP hL (box_ok ok).lat (box_ok ok).lon
 have q3:=pins_no hP hL ⟨(box_ok ok).lat.1,bx_lt ok,(box_ok ok).lat.2.2⟩ (box_ok ok).lon
 have q4:=kids_c ok (by omega)
 unfold meM at hM
 rw[hM] at q2
 clear hM
 generalize bxA c=a at *
 generalize bxB c=b at *
 generalize bxC c=e at *
 generalize bxD c=f at *
 refine enterU Tryz.func69 rfl rfl rfl hw ?_
 repeat' (first|(refine nxN ?_)|(show VK _ _ _ _ _ ⟨_,.load 63 _,_,_,_,_⟩ _;refine VK.mk (zlP (k:=4) (by rfl) (by exact memA) (by decide +kernel) (by rfl)) ?_)|(show YK _ _ _ _ _ ⟨_,.load 63 _,_,_,_,_⟩ _;refine YK.ofV (zlP (k:=4) (by rfl) (by exact memA) (by decide +kernel) (by rfl)) ?_)|(show VG _ _ _ _ _ _ ⟨_,.load 63 _,_,_,_,_⟩ _;refine VG.mk (fun hb=>by(try(have hc:=And.left hb;have hb:=And.right hb;rw[hc]));(try rw[hb]);exact zlP (k:=4) (by rfl) (by exact memA) (by decide +kernel) (by rfl)) ?_)|(show YG _ _ _ _ _ _ ⟨_,.load 63 _,_,_,_,_⟩ _;refine YG.mk (fun hb=>by(try(have hc:=And.left hb;have hb:=And.right hb;rw[hc]));(try rw[hb]);exact V.y (zlP (k:=4) (by rfl) (by exact memA) (by decide +kernel) (by rfl))) ?_)|(show RS _ _ _ _ _ _ _ (⟨some 44,.call _,_,_,_,_⟩::_);refine RS.callX (q4) ⟨rfl,rfl⟩ ?_;rintro v2 -;dsimp only[List.cons_append,List.nil_append])|(show RS _ _ _ _ _ _ _ (⟨some 49,.call _,_,_,_,_⟩::_);refine RS.callL (hcc _ _ _ _) trivial ?_;rintro z1 -;dsimp only[List.cons_append,List.nil_append])|(show YK _ _ _ _ _ _ _;first|refine YK.mk (zcA (q1) ⟨rfl,rfl⟩) ?_|refine YK.mk (zcA (q2) ⟨rfl,rfl,rfl⟩) ?_|refine YK.mk (zcA (q3) ⟨rfl,rfl,rfl⟩) ?_)|(refine nxV ?_)|(refine nSS ?_)|(refine nS1 fun _=>?_)|(refine nMM ?_)|(refine nM1 fun _=>?_)|(show YG _ _ _ _ _ _ _ _;refine YG.mk (fun hb=>by(try(have hc:=And.left hb;have hb:=And.right hb;rw[hc]));(try rw[hb]);first|exact(zcA (q1) ⟨rfl,rfl⟩)|exact(zcA (q2) ⟨rfl,rfl,rfl⟩)|exact(zcA (q3) ⟨rfl,rfl,rfl⟩)|exact V.y vAuto) ?_)|(refine nxG ?_)|(refine G.mA 5 [.go 0,.go 1,.go 2,.go 3,.go 4,.go 5,.go 6,.go 7,.go 8] ?_)|(refine nxX ?_)|(refine G.cN rfl (fun hc=>?_) (fun hc=>?_)<;>(try first|exact hc.elim|(exfalso;omega))))
 all_goals first
  |(exfalso;omega)
  |(exfalso;simp at hc;done)
  |(exfalso;simp at hc;omega)
  |exact X.ret (vs:=[_]) rfl ⟨rfl,rfl⟩ rfl (fun w hw=>⟨z1,trivial,ret_bool (Bool.not_not _),hw.sub subS⟩)
theorem cov_c (hP : -5400000≤P∧P≤5400000) (hL : -10800000≤L∧L<10800000) (hm2:m≤16):∀(d:Nat) {c:RR.CellT},RR.okC c→c.lv+d=m→∀(z:Sl) (o:List RR.CellT),RR.CvI o →
  ContL Tryz.prog (fun _=>True) [rgB bO z,rgR z o] 69 [v4 P P L L,ctV c,.int .i64 m,bxP bO] (fun _:Sl=>True) (fun _=>.bool (RR.covS (meM P L) m d c o).1) (fun z'=>[rgB bO z',rgR z' (RR.covS (meM P L) m d c o).2])
 |d,c,ok,hd,z,o,hI=>by
  unfold RR.covS
  split
  ·rename_i h1
   exact ContL.unit z (cov_w1 (bO:=bO) (m:=m) (z:=z) (o:=o) hP hL ok h1) rfl
  rename_i h1
  have h1':meM P L c=true:=by simpa using h1
  split
  ·rename_i h2
   exact cov_w2 (bO:=bO) (z:=z) hP hL ok hI.1 hI.2 h1' h2
  ·rename_i h2
   cases d with
   |zero=>omega
   |succ d =>
    have hkl:∀x∈RR.kids c,x.lv+d=m:=fun x hx=>by
     simp only[RR.kids,List.mem_cons,List.not_mem_nil,or_false] at hx
     rcases hx with rfl|rfl|rfl|rfl<;>(dsimp only;omega)
    refine cov_w3 (bO:=bO) (z:=z) (o:=o) hP hL ok h1' (by omega) hm2 fun b4 b6 b7 v=>?_
    exact coL_c (C:=fun _=>True) (σ:=List RR.CellT) (Xs:=fun z a=>[plB b4 P L,inB1 b6 m,opB b7 bO,rgB bO z,rgR z a]) (I:=RR.CvI) (f:=RR.covS (meM P L) m d) (fid:=135) (cap:=#[bxC' b4,bxC' b6,bxC' b7]) (by decide +kernel) v (RR.kids c) (by show 4≤1000000;decide)
     (fun x hx z a hI=>cov1_c (cov_c hP hL hm2 d (RR.okC_kid ok (by omega) hx) (hkl x hx) z a hI))
     (fun x hx a hI ht=>RR.covS_inv hm2 d (RR.okC_kid ok (by omega) hx) (hkl x hx) hI ht) z o hI
end
section
variable {P:Program} {n:Nat} {L:FL} {w0:World} {H:List Hl} {Q:Exit→Act→World→Prop} {ops:Array Oper} {rest:List Oper} {dd:Nat} {ty:TypeId} {pos:String} {af:Array Edge} {t e:TypeId} {bytes:Nat}
theorem RS.lit2T {x0 x1:Operand} {a b:RR.CellT} (h:∀v':Sl,RS P ops Q n ((dd,v'.v)::L) w0 (Hl.rw v'.v e cT 3 [a,b]::H) rest) (hx0:evO L x0=some (celV a.lv a.r a.c)) (hx1:evO L x1=some (celV b.lv b.r b.c)) [ht:RowTy P t e 3 bytes] (hd:Nat.blt dd n=true:=by rfl) :
  RS P ops Q n L w0 H (⟨some dd,.buildSlice t 2 #[(0,x0),(1,x1)],ty,pos,af,none⟩::rest) :=
 RS.actX rfl (x_litS (parts:=[(0,x0),(1,x1)]) (vs:=[celV a.lv a.r a.c,celV b.lv b.r b.c]) (cs:=cT a++cT b) (f:=cT) (l:=[a,b]) ⟨hx0,hx1,rfl⟩ rfl rfl rfl rfl (fun zs hz=>by
  match zs,hz with
  |[_,_,_,_,_,_],_=>rfl) rfl rfl rfl (rowTy_B ht.is) hd) fun v' _=>h v'
end
theorem cel0_built:Tryz.prog.built 126 []=some [.int .i64 0,.int .i64 0,.int .i64 0].toArray:=by kernel_rfl
theorem cel1_built:Tryz.prog.built 126 [(2,.int .i64 1)]=some [.int .i64 0,.int .i64 0,.int .i64 1].toArray:=by kernel_rfl
abbrev ce0:RR.CellT:=⟨0,0,0⟩
abbrev ce1:RR.CellT:=⟨0,0,1⟩
def ok3 (a b:List RR.CellT):Nat→List RR.CellT
 |0=>[]
 |1=>a
 |_=>b
section
variable {P L:Int} {m:Nat}
theorem around22_c (hP : -5400000≤P∧P≤5400000) (hL : -10800000≤L∧L<10800000) (hm:m≤4):ContX Tryz.prog [] 19 [v4 P P L L,.int .i64 m] (fun _:Sl=>True) (fun z=>.tuple [z.v,.int .i64 0].toArray) (fun z=>[Hl.nw z.v cT 3 (RR.arF (meM P L) m)]):=fun w hw0=>by
 have q1:=pval2_c (a:=P) (b:=P) (c:=L) (d:=L) (by omega) (Or.inr (by omega))
 have p4:4^m≤256:=Nat.le_trans (Nat.pow_le_pow_right (by decide) hm) (by decide)
 have hlen:=RR.arF_len (M:=meM P L) (m:=m)
 have e0:=RR.covS_eq (M:=meM P L) (m:=m) m ce0 [] (by rw[List.length_nil];omega)
 have l0:=RR.covF_len (M:=meM P L) (m:=m) m ce0 []
 rw[List.length_nil] at l0
 have e1:=RR.covS_eq (M:=meM P L) (m:=m) m ce1 (RR.covF (meM P L) m m ce0 []) (by omega)
 have i0:RR.CvI []:=⟨(fun x hx=>by cases hx),by decide⟩
 have i1:=RR.covS_inv (M:=meM P L) (m:=m) (by omega) m RR.ok0 (by simp) i0 (by rw[e0])
 rw[e0] at i1
 have k0:=fun(bO:Nat) (z:Sl)=>cov_c (bO:=bO) hP hL (m:=m) (by omega) m RR.ok0 (by simp) z [] i0
 have k1:=fun(bO:Nat) (z:Sl)=>cov_c (bO:=bO) hP hL (m:=m) (by omega) m RR.ok1 (by simp) z (RR.covF (meM P L) m m ce0 []) i1
 simp only[e0] at k0
 simp only[e1] at k1
 have ha:RR.covF (meM P L) m m ce1 (RR.covF (meM P L) m m ce0 [])=RR.arF (meM P L) m:=rfl
 rw[ha] at k1
 clear ha e0 e1 l0 i0 i1
 generalize RR.covF (meM P L) m m ce0 []=O0 at *
 generalize RR.arF (meM P L) m=O1 at *
 have hk:∀(i:Nat),i<2→∀(bO:Nat) (z:Sl),ContL Tryz.prog (fun _=>True) [rgB bO z,rgR z (ok3 O0 O1 i)] 69 [v4 P P L L,ctV (nth [ce0,ce1] (i:Int)),.int .i64 m,bxP bO] (fun _:Sl=>True) (fun _=>.bool true) (fun z'=>[rgB bO z',rgR z' (ok3 O0 O1 (i+1))]):=fun i hi bO z=>by
  match i,hi with
  |0,_=>exact k0 bO z
  |1,_=>exact k1 bO z
 clear k0 k1
 have hl3:(ok3 O0 O1 2).length≤512:=by show O1.length≤512;omega
 have h3:O1=ok3 O0 O1 2:=rfl
 rw[h3]
 clear h3 hlen p4
 have h0:ok3 O0 O1 0=[]:=rfl
 generalize ok3 O0 O1=F at *
 refine enter Tryz.func19 rfl rfl rfl hw0 ?_
 repeat' (first|(refine nxN ?_)|(show VK _ _ _ _ _ ⟨_,.load 63 _,_,_,_,_⟩ _;refine VK.mk (zlP (k:=4) (by rfl) (by exact memA) (by decide +kernel) (by rfl)) ?_)|(show YK _ _ _ _ _ ⟨_,.load 63 _,_,_,_,_⟩ _;refine YK.ofV (zlP (k:=4) (by rfl) (by exact memA) (by decide +kernel) (by rfl)) ?_)|(show VG _ _ _ _ _ _ ⟨_,.load 63 _,_,_,_,_⟩ _;refine VG.mk (fun hb=>by(try(have hc:=And.left hb;have hb:=And.right hb;rw[hc]));(try rw[hb]);exact zlP (k:=4) (by rfl) (by exact memA) (by decide +kernel) (by rfl)) ?_)|(show YG _ _ _ _ _ _ ⟨_,.load 63 _,_,_,_,_⟩ _;refine YG.mk (fun hb=>by(try(have hc:=And.left hb;have hb:=And.right hb;rw[hc]));(try rw[hb]);exact V.y (zlP (k:=4) (by rfl) (by exact memA) (by decide +kernel) (by rfl))) ?_)|(show VK _ _ _ _ _ ⟨_,.build 126 #[],_,_,_,_⟩ _;refine VK.mk (y_build (parts:=[]) (vs:=[]) rfl (cel0_built)) ?_)|(show YK _ _ _ _ _ ⟨_,.build 126 #[],_,_,_,_⟩ _;refine YK.ofV (y_build (parts:=[]) (vs:=[]) rfl (cel0_built)) ?_)|(show VG _ _ _ _ _ _ ⟨_,.build 126 #[],_,_,_,_⟩ _;refine VG.mk (fun hb=>by(try(have hc:=And.left hb;have hb:=And.right hb;rw[hc]));(try rw[hb]);exact y_build (parts:=[]) (vs:=[]) rfl (cel0_built)) ?_)|(show YG _ _ _ _ _ _ ⟨_,.build 126 #[],_,_,_,_⟩ _;refine YG.mk (fun hb=>by(try(have hc:=And.left hb;have hb:=And.right hb;rw[hc]));(try rw[hb]);exact V.y (y_build (parts:=[]) (vs:=[]) rfl (cel0_built))) ?_)|(show VK _ _ _ _ _ ⟨_,.build 126 #[(2,_)],_,_,_,_⟩ _;refine VK.mk (y_build (parts:=[(2,_)]) (vs:=[_]) ⟨rfl,rfl⟩ (cel1_built)) ?_)|(show YK _ _ _ _ _ ⟨_,.build 126 #[(2,_)],_,_,_,_⟩ _;refine YK.ofV (y_build (parts:=[(2,_)]) (vs:=[_]) ⟨rfl,rfl⟩ (cel1_built)) ?_)|(show VG _ _ _ _ _ _ ⟨_,.build 126 #[(2,_)],_,_,_,_⟩ _;refine VG.mk (fun hb=>by(try(have hc:=And.left hb;have hb:=And.right hb;rw[hc]));(try rw[hb]);exact y_build (parts:=[(2,_)]) (vs:=[_]) ⟨rfl,rfl⟩ (cel1_built)) ?_)|(show YG _ _ _ _ _ _ ⟨_,.build 126 #[(2,_)],_,_,_,_⟩ _;refine YG.mk (fun hb=>by(try(have hc:=And.left hb;have hb:=And.right hb;rw[hc]));(try rw[hb]);exact V.y (y_build (parts:=[(2,_)]) (vs:=[_]) ⟨rfl,rfl⟩ (cel1_built))) ?_)|(show RS _ _ _ _ _ _ _ (⟨some 22,.buildSlice 67 2 _,_,_,_,_⟩::_);refine RS.lit2T (a:=ce0) (b:=ce1) (fun v'=>?_) (by rfl) (by rfl))|(show YK _ _ _ _ _ _ _;first|refine YK.mk (zcA (q1) ⟨rfl,rfl⟩) ?_)|(refine nxV ?_)|(refine nSS ?_)|(refine nS1 fun _=>?_)|(refine nMM ?_)|(refine nM1 fun _=>?_)|(show YG _ _ _ _ _ _ _ _;refine YG.mk (fun hb=>by(try(have hc:=And.left hb;have hb:=And.right hb;rw[hc]));(try rw[hb]);first|exact(zcA (q1) ⟨rfl,rfl⟩)|exact V.y vAuto) ?_)|(refine nxG ?_)|(refine nxX ?_)|(refine G.cN rfl (fun hc=>?_) (fun hc=>?_)<;>(try first|exact hc.elim|(exfalso;omega))))
 rename_i b2 hcx b6
 refine G.loop (ι:=Sl×Nat) (fun y=>[(1,.int .i64 m),(2,.pointer (some ⟨b2,0,none⟩)),(6,.pointer (some ⟨b6,0,none⟩)),(22,v'.v),(23,.int .i64 2),(24,.int .i64 (y.2:Int))]) (fun y=>[rgB b6 y.1,rgR y.1 (F y.2),Hl.rw v'.v 126 cT 3 [ce0,ce1],plB b2 P L]) (fun y=>y.2≤2) (fun y=>2-y.2) (⟨none,0,0⟩,0) (Nat.zero_le _) ⟨rfl,rfl,rfl,rfl,rfl,rfl,trivial⟩ (fun w' h=>by
  have h2:=St.nilRow 126 cT 3 (h.sub (H':=[Hl.rw v'.v 126 cT 3 [ce0,ce1],rgB b6 ⟨none,0,0⟩,plB b2 P L]) subS)
  dsimp only
  rw[h0]
  exact h2.perm (List.perm_middle (l₁:=[rgR ⟨none,0,0⟩ [],Hl.rw v'.v 126 cT 3 [ce0,ce1]]) |>.trans (List.Perm.refl _))) ?_
 rintro⟨z,i⟩ mx g1 hmx
 (try dsimp only at g1 hmx ⊢)
 have l2:(([ce0,ce1].length:Nat):Int)=2:=rfl
 rcases Nat.lt_or_ge i 2 with hi|hi
 ·have q2:=hk i hi b6 z
  generalize F i=Fi at *
  generalize hF1:F (i+1)=Fi1 at *
  repeat' (first|(refine nxN ?_)|(show VK _ _ _ _ _ ⟨_,.load 63 _,_,_,_,_⟩ _;refine VK.mk (zlP (k:=4) (by rfl) (by exact memA) (by decide +kernel) (by rfl)) ?_)|(show YK _ _ _ _ _ ⟨_,.load 63 _,_,_,_,_⟩ _;refine YK.ofV (zlP (k:=4) (by rfl) (by exact memA) (by decide +kernel) (by rfl)) ?_)|(show VG _ _ _ _ _ _ ⟨_,.load 63 _,_,_,_,_⟩ _;refine VG.mk (fun hb=>by(try(have hc:=And.left hb;have hb:=And.right hb;rw[hc]));(try rw[hb]);exact zlP (k:=4) (by rfl) (by exact memA) (by decide +kernel) (by rfl)) ?_)|(show YG _ _ _ _ _ _ ⟨_,.load 63 _,_,_,_,_⟩ _;refine YG.mk (fun hb=>by(try(have hc:=And.left hb;have hb:=And.right hb;rw[hc]));(try rw[hb]);exact V.y (zlP (k:=4) (by rfl) (by exact memA) (by decide +kernel) (by rfl))) ?_)|(show RS _ _ _ _ _ _ _ (⟨some 31,.call _,_,_,_,_⟩::_);refine RS.callL (q2) trivial ?_;rintro z1 -;dsimp only[List.cons_append,List.nil_append])|(refine nxV ?_)|(refine nSS ?_)|(refine nS1 fun _=>?_)|(refine nMM ?_)|(refine nM1 fun _=>?_)|(refine nxG ?_)|(refine nxX ?_)|(refine G.cN rfl (fun hc=>?_) (fun hc=>?_)<;>(try first|exact hc.elim|(exfalso;omega))))
  all_goals first
   |(exfalso;simp at hc;done)
   |(exfalso;omega)
   |skip
  refine X.again (z1,i+1) (by dsimp only;omega) (by dsimp only;omega) ⟨rfl,rfl,rfl,rfl,rfl,rfl,trivial⟩ (by dsimp only;rw[hF1];exact fun w h=>h.sub subS)
 ·obtain rfl:i=2:=by omega
  generalize F 2=F2 at *
  repeat' (first|(refine nxN ?_)|(refine nxV ?_)|(refine nSS ?_)|(refine nS1 fun _=>?_)|(refine nMM ?_)|(refine nM1 fun _=>?_)|(refine nxG ?_)|(refine nxX ?_)|(refine G.cN rfl (fun hc=>?_) (fun hc=>?_)<;>(try first|exact hc.elim|(exfalso;omega))))
  all_goals first
   |(exfalso;simp at hc;done)
   |(exfalso;omega)
   |skip
  exact X.retN (vs:=[_,_]) z rfl ⟨rfl,rfl,rfl⟩ rfl trivial rfl (NewIn.rw (by exact memA) NewIn.nil)
end
end Go.Proofs.YtjmdeplmenbmmaaGreat
