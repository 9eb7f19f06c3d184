/- TopChosen: the statement. -/
import Derived.Test.YtjmdeplmenbmmaaGreatDoorW02
import Derived.Test.YtjmdeplmenbmmaaGreatDoorW30
import Derived.Test.YtjmdeplmenbmmaaGreatDoorW31
set_option linter.unusedVariables false
namespace Go.Proofs.YtjmdeplmenbmmaaGreatDoor
open Go.ChangeShapes Go.WideShapes Go.ChangeAt Go.RowKit Go.Deep Go.Joins
theorem laid_pow:(Rows.laid_internal_strconv_uint64pow10:DataW Unit)=Lib.tabData .u64 Lib.pow10Tab:=by kernel_rfl
set_option maxRecDepth 100000 in
theorem topChosen_lifted (os:Os) (started:os.Started) (H:Type) (enc:TypeId×Value→H) :
  ReturnsInHanded {} Tryz.checked os 4 .any (fun w args=>(Rows.topChosenSpec.pre enc Tryz.prog Tryz.f4 Rows.topChosenRow.domain false w args∧laidMetH Tryz.prog Rows.topChosenRow.laid w)∧sizedMet enc Tryz.prog Tryz.f4 (OpenSpec.ofChange Rows.topChosenSpec) false w args) (Rows.topChosenSpec.post enc Tryz.prog Tryz.f4 false true false false):=by
 refine returns_laid (C:=Tryz.checked) (X:=fun w _=>laidMetH Tryz.prog Rows.topChosenRow.laid w) (fun _ _ _ hh h=>h.of_heap hh) own started (by kernel_rfl) Tryz.func4
  (ChangeSpec.witness_shaped (enc:=enc) (C:=Tryz.checked) (os:=os) (X:=fun w _=>laidMetH Tryz.prog Rows.topChosenRow.laid w) false (World.laidAll Tryz.prog os Rows.topChosenRow.laid) #[.slice none 0 0,.agg #[.int .i64 0,.int .i64 0],.int .u8 0,.int .u8 0,.int .u16 0,.int .u8 0] 8 (World.laidAll_os _ _ _)
   (World.shaped_of_ZipB (by kernel_rfl) (by kernel_rfl)) (by kernel_rfl) (by kernel_rfl) (by kernel_rfl)
   (by rw[MakeChecks.laidMetH_plain _ _ _ (by kernel_rfl)];exact laidMet_laidAll _ (by kernel_rfl) (by kernel_rfl))) ?_
 intro W base args ds gs before hval0 hW hsh hL
 have hI:LaidC W:=laidC_of hL (by kernel_rfl) hsh (laid_pow ▸ (show ("internal/strconv.uint64pow10",Rows.laid_internal_strconv_uint64pow10)∈Rows.topChosenRow.laid from (by first|exact .head _|exact .tail _ (.head _)|exact .tail _ (.tail _ (.head _))|exact .tail _ (.tail _ (.tail _ (.head _)))|exact .tail _ (.tail _ (.tail _ (.tail _ (.head _))))|exact .tail _ (.tail _ (.tail _ (.tail _ (.tail _ (.head _)))))|exact .tail _ (.tail _ (.tail _ (.tail _ (.tail _ (.tail _ (.head _))))))|exact .tail _ (.tail _ (.tail _ (.tail _ (.tail _ (.tail _ (.tail _ (.head _)))))))|exact .tail _ (.tail _ (.tail _ (.tail _ (.tail _ (.tail _ (.tail _ (.tail _ (.head _)))))))))))
 have hval:∀(j:Nat) t v,Tryz.f4.params[j]?=some t→args[j]?=some v→Value.okWide Tryz.prog W .any base t v:=hval0
 have hW':=hW
 obtain⟨p,q,hA0,hV,rfl,hfz,hnd⟩:=hW
 have hA:DataW.TrodAll enc Tryz.prog W 0 (fun _=>true) true Tryz.f4.params.toList args.toList ds p:=hA0
 rw[Tryz.params4] at hA hval
 obtain⟨v0,vs0,d0,ds0,p0,q0,hargs,rfl,rfl,h0,r0⟩:=trodAll_cons hA
 obtain⟨v1,vs1,d1,ds1,p1,q1,rfl,rfl,rfl,h1,r1⟩:=trodAll_cons r0
 obtain⟨v2,vs2,d2,ds2,p2,q2,rfl,rfl,rfl,h2,r2⟩:=trodAll_cons r1
 obtain⟨v3,vs3,d3,ds3,p3,q3,rfl,rfl,rfl,h3,r3⟩:=trodAll_cons r2
 obtain⟨v4,vs4,d4,ds4,p4,q4,rfl,rfl,rfl,h4,r4⟩:=trodAll_cons r3
 obtain⟨v5,vs5,d5,ds5,p5,q5,rfl,rfl,rfl,h5,r5⟩:=trodAll_cons r4
 obtain⟨rfl,rfl,rfl⟩:=trodAll_nil r5
 obtain rfl:args=#[v0,v1,v2,v3,v4,v5]:=by cases args;simp_all
 obtain⟨rfl,rfl⟩:=trodVars_none hV
 obtain⟨A0,n0,c0,rfl⟩:=okWide_slice Tryz.underlying49 (hval 0 49 v0 rfl rfl)
 obtain⟨b0,ro0,lm0,wb0⟩:=arg_seen Tryz.underlying49 Tryz.underlying53 (by kernel_rfl) (by kernel_rfl) (by kernel_rfl) Tryz.underlying9 Tryz.underlying34 (by kernel_rfl) (by kernel_rfl) Tryz.underlying3 Tryz.underlying3 Tryz.underlying34 (by kernel_rfl) (by kernel_rfl) Tryz.underlying3 Tryz.underlying3 (hval 0 49 _ rfl rfl) h0
 obtain⟨a1_0,a1_1,rfl,w1_0,w1_1⟩:=arg_agg2 Tryz.underlying23 (by kernel_rfl) (by kernel_rfl) Tryz.underlying3 Tryz.underlying3 (hval 1 23 v1 rfl rfl) h1
 obtain⟨a2,rfl,w2⟩:=arg_int Tryz.underlying5 (hval 2 5 v2 rfl rfl) h2
 obtain⟨a3,rfl,w3⟩:=arg_int Tryz.underlying5 (hval 3 5 v3 rfl rfl) h3
 obtain⟨a4,rfl,w4⟩:=arg_int Tryz.underlying50 (hval 4 50 v4 rfl rfl) h4
 obtain⟨a5,rfl,w5⟩:=arg_int Tryz.underlying5 (hval 5 5 v5 rfl rfl) h5
 clear hA0 hval0
 simp only[List.append_nil] at hW'
 refine(chosen_c (l:=b0) (P:=a1_0) (L:=a1_1) (k:=a2) (o:=a3) (wi:=a4) (lv:=a5) (by have h:=w2;simpa [Lit.wf,IntKind.min,IntKind.max,IntKind.signed,IntKind.bits] using h) (by have h:=w3;simpa [Lit.wf,IntKind.min,IntKind.max,IntKind.signed,IntKind.bits] using h) (by have h:=w4;simpa [Lit.wf,IntKind.min,IntKind.max,IntKind.signed,IntKind.bits] using h) (by have h:=w5;simpa [Lit.wf,IntKind.min,IntKind.max,IntKind.signed,IntKind.bits] using h) lm0 W ⟨hI,ro0⟩).mono fun e W' ⟨he,hb⟩=>?_
 subst he
 exact⟨_,rfl,post_of_law laidOut (by decide +kernel) hW' rfl rfl rfl (fun _ _ _=>trodAll_cons_mk (shut_bool Tryz.underlying4 _) trodAll_mk0) hb (ok_one (by kernel_rfl) rfl (okWide_bool_mk Tryz.underlying4 _))⟩
theorem topChosen_k1:(Rows.topChosenRow.inPlace==Tryz.pinned.checked.prog.inPlace 4)=true:=by kernel_rfl
theorem topChosen_k2:(Rows.topChosenRow.unfollowed==Tryz.pinned.checked.prog.unfollowed 4)=true:=by kernel_rfl
theorem topChosen_k3:(Rows.topChosenRow.recurses==Tryz.pinned.checked.prog.recurses 4)=true:=by kernel_rfl
theorem topChosen_k4:(Rows.topChosenRow.named==Tryz.pinned.checked.prog.varsNamed 4)=true:=by kernel_rfl
theorem topChosen_closed:joinedFacts Tryz.pinned.checked.prog 4 Tryz.f4 Rows.topChosenSpec Rows.topChosenRow=true:=by
 unfold joinedFacts
 rw[topChosen_k1,topChosen_k2,topChosen_k3,topChosen_k4]
 kernel_rfl
theorem topChosen_wf:OpenClaim.wfByText (OpenSpec.ofChange Rows.topChosenSpec) Rows.topChosenRow=true:=by kernel_rfl
theorem topChosen_looks:false=Tryz.pinned.checked.prog.looks []:=by kernel_rfl
theorem topChosen_goes:false=Rows.topChosenRow.goesBy Tryz.pinned.checked.prog:=by kernel_rfl
theorem topChosen_row:Rows.TopChosenSaid :=
 OpenClaim.holds_of_wide 4 Tryz.f4 rfl rfl rfl rfl rfl rfl rfl ⟨rfl,rfl,rfl,rfl,rfl⟩ rfl rfl rfl rfl rfl (by kernel_rfl) Tryz.func4 topChosen_closed
  (of_decide_eq_true (by kernel_rfl)) (by unfold Func.isWrapper;first|(rw[if_pos (by decide +kernel)];kernel_rfl)|(rw[if_neg (by decide +kernel)];exact⟨rfl,rfl⟩))
  (fun os started H enc _=>topChosen_lifted os started H enc)
theorem TopChosen_holds:Rows.TopChosenCardSaid :=
 Claim7.holds_tied_plain_at .later _ _ true _ _
  topChosen_row (fun _ h=>by cases h) topChosen_wf (fun _ h=>by cases h) topChosen_row_tie rfl ⟨rfl,rfl⟩ (by kernel_rfl) rfl
  (fun f fn hf hfn=>by
   obtain rfl:f=4:=Option.some.inj ((show Tryz.prog.funcNamed Tryz.f4.name=some 4 by kernel_rfl).symm.trans hf) |>.symm
   obtain rfl:fn=Tryz.f4:=(Option.some.inj (Tryz.func4.symm.trans hfn)).symm
   exact⟨topChosen_looks,fun j t ht=>by
    rw[Tryz.params4] at ht
    have hm:t∈[49,23,5,5,50,5]:=by simpa using Array.mem_of_getElem? ht
    have hall:([49,23,5,5,50,5].all fun u=>!Tryz.prog.wantsStandIn u)=true:=by kernel_rfl
    exact(show Tryz.prog.wantsStandIn t=false by simpa using List.all_eq_true.1 hall t hm)⟩)
  topChosen_goes
end Go.Proofs.YtjmdeplmenbmmaaGreatDoor
