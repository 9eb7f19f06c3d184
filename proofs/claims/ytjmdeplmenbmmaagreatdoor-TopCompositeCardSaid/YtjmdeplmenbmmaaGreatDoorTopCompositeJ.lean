/- TopComposite: the statement. -/
import Derived.Test.YtjmdeplmenbmmaaGreatDoorW02
import Derived.Test.YtjmdeplmenbmmaaGreatDoorW26
set_option linter.unusedVariables false
namespace Go.Proofs.YtjmdeplmenbmmaaGreatDoor
open Go.ChangeShapes Go.WideShapes Go.ChangeAt Go.RowKit Go.Deep Go.Joins
theorem laid_pow : (Rows.laid_internal_strconv_uint64pow10 : DataW Unit) = Lib.tabData .u64 Lib.pow10Tab := by kernel_rfl
set_option maxRecDepth 100000 in
theorem topComposite_lifted (os : Os) (started : os.Started) (H : Type) (enc : TypeId × Value → H) :
    ReturnsInHanded {} Tryz.checked os 3 .any (fun w args => (Rows.topCompositeSpec.pre enc Tryz.prog Tryz.f3 Rows.topCompositeRow.domain false w args ∧ laidMetH Tryz.prog Rows.topCompositeRow.laid w) ∧ sizedMet enc Tryz.prog Tryz.f3 (OpenSpec.ofChange Rows.topCompositeSpec) false w args) (Rows.topCompositeSpec.post enc Tryz.prog Tryz.f3 false true false false) := by
  refine returns_laid (C := Tryz.checked) (X := fun w _ => laidMetH Tryz.prog Rows.topCompositeRow.laid w) (fun _ _ _ hh h => h.of_heap hh) own started (by kernel_rfl) Tryz.func3
    (ChangeSpec.witness_shaped (enc := enc) (C := Tryz.checked) (os := os) (X := fun w _ => laidMetH Tryz.prog Rows.topCompositeRow.laid w) false (World.laidAll Tryz.prog os Rows.topCompositeRow.laid) #[.agg #[.int .i64 0, .int .i64 0], .agg #[.int .i64 0, .int .i64 0], .int .i64 0] 8 (World.laidAll_os _ _ _)
      (World.shaped_of_ZipB (by kernel_rfl) (by kernel_rfl)) (by kernel_rfl) (by kernel_rfl) (by kernel_rfl)
      (by rw [MakeChecks.laidMetH_plain _ _ _ (by kernel_rfl)]; exact laidMet_laidAll _ (by kernel_rfl) (by kernel_rfl))) ?_
  intro W base args ds gs before hval0 hW hsh hL
  have hI : LaidC W := laidC_of hL (by kernel_rfl) hsh (laid_pow ▸ (show ("internal/strconv.uint64pow10", Rows.laid_internal_strconv_uint64pow10) ∈ Rows.topCompositeRow.laid from (by first | exact .head _ | exact .tail _ (.head _) | exact .tail _ (.tail _ (.head _)) | exact .tail _ (.tail _ (.tail _ (.head _))) | exact .tail _ (.tail _ (.tail _ (.tail _ (.head _)))) | exact .tail _ (.tail _ (.tail _ (.tail _ (.tail _ (.head _))))) | exact .tail _ (.tail _ (.tail _ (.tail _ (.tail _ (.tail _ (.head _)))))) | exact .tail _ (.tail _ (.tail _ (.tail _ (.tail _ (.tail _ (.tail _ (.head _))))))) | exact .tail _ (.tail _ (.tail _ (.tail _ (.tail _ (.tail _ (.tail _ (.tail _ (.head _)))))))))))
  have hval : ∀ (j : Nat) t v, Tryz.f3.params[j]? = some t → args[j]? = some v → Value.okWide Tryz.prog W .any base t v := hval0
  have hW' := hW
  obtain ⟨p, q, hA0, hV, rfl, hfz, hnd⟩ := hW
  have hA : DataW.TrodAll enc Tryz.prog W 0 (fun _ => true) true Tryz.f3.params.toList args.toList ds p := hA0
  rw [Tryz.params3] at hA hval
  obtain ⟨v0, vs0, d0, ds0, p0, q0, hargs, rfl, rfl, h0, r0⟩ := trodAll_cons hA
  obtain ⟨v1, vs1, d1, ds1, p1, q1, rfl, rfl, rfl, h1, r1⟩ := trodAll_cons r0
  obtain ⟨v2, vs2, d2, ds2, p2, q2, rfl, rfl, rfl, h2, r2⟩ := trodAll_cons r1
  obtain ⟨rfl, rfl, rfl⟩ := trodAll_nil r2
  obtain rfl : args = #[v0, v1, v2] := by cases args; simp_all
  obtain ⟨rfl, rfl⟩ := trodVars_none hV
  obtain ⟨a0_0, a0_1, rfl, w0_0, w0_1⟩ := arg_agg2 Tryz.underlying23 (by kernel_rfl) (by kernel_rfl) Tryz.underlying3 Tryz.underlying3 (hval 0 23 v0 rfl rfl) h0
  obtain ⟨a1_0, a1_1, rfl, w1_0, w1_1⟩ := arg_agg2 Tryz.underlying23 (by kernel_rfl) (by kernel_rfl) Tryz.underlying3 Tryz.underlying3 (hval 1 23 v1 rfl rfl) h1
  obtain ⟨a2, rfl, w2⟩ := arg_int Tryz.underlying3 (hval 2 3 v2 rfl rfl) h2
  clear hA0 hval0
  simp only [List.append_nil] at hW'
  refine (comp_c (C := LaidC) (fun _ _ h hb => h.keep hb) (a := (a0_0, a0_1)) (b := (a1_0, a1_1)) (lim := a2) ⟨(by have h := w0_0; simpa [Lit.wf, IntKind.min, IntKind.max, IntKind.signed, IntKind.bits] using h), (by have h := w0_1; simpa [Lit.wf, IntKind.min, IntKind.max, IntKind.signed, IntKind.bits] using h)⟩ ⟨(by have h := w1_0; simpa [Lit.wf, IntKind.min, IntKind.max, IntKind.signed, IntKind.bits] using h), (by have h := w1_1; simpa [Lit.wf, IntKind.min, IntKind.max, IntKind.signed, IntKind.bits] using h)⟩ (by have h := w2; simpa [Lit.wf, IntKind.min, IntKind.max, IntKind.signed, IntKind.bits] using h) obsAwake_c W hI).mono fun e W' ⟨he, hb⟩ => ?_
  subst he
  exact ⟨_, rfl, post_of_law laidOut (by decide +kernel) hW' rfl rfl rfl (fun _ _ _ => trodAll_cons_mk (shut_bool Tryz.underlying4 _) trodAll_mk0) hb (ok_one (by kernel_rfl) rfl (okWide_bool_mk Tryz.underlying4 _))⟩
theorem topComposite_k1 : (Rows.topCompositeRow.inPlace == Tryz.pinned.checked.prog.inPlace 3) = true := by kernel_rfl
theorem topComposite_k2 : (Rows.topCompositeRow.unfollowed == Tryz.pinned.checked.prog.unfollowed 3) = true := by kernel_rfl
theorem topComposite_k3 : (Rows.topCompositeRow.recurses == Tryz.pinned.checked.prog.recurses 3) = true := by kernel_rfl
theorem topComposite_k4 : (Rows.topCompositeRow.named == Tryz.pinned.checked.prog.varsNamed 3) = true := by kernel_rfl
theorem topComposite_closed : joinedFacts Tryz.pinned.checked.prog 3 Tryz.f3 Rows.topCompositeSpec Rows.topCompositeRow = true := by
  unfold joinedFacts
  rw [topComposite_k1, topComposite_k2, topComposite_k3, topComposite_k4]
  kernel_rfl
theorem topComposite_wf : OpenClaim.wfByText (OpenSpec.ofChange Rows.topCompositeSpec) Rows.topCompositeRow = true := by kernel_rfl
theorem topComposite_looks : false = Tryz.pinned.checked.prog.looks [] := by kernel_rfl
theorem topComposite_goes : false = Rows.topCompositeRow.goesBy Tryz.pinned.checked.prog := by kernel_rfl
theorem topComposite_row : Rows.TopCompositeSaid :=
  OpenClaim.holds_of_wide 3 Tryz.f3 rfl rfl rfl rfl rfl rfl rfl ⟨rfl, rfl, rfl, rfl, rfl⟩ rfl rfl rfl rfl rfl (by kernel_rfl) Tryz.func3 topComposite_closed
    (of_decide_eq_true (by kernel_rfl)) (by unfold Func.isWrapper; first | (rw [if_pos (by decide +kernel)]; kernel_rfl) | (rw [if_neg (by decide +kernel)]; exact ⟨rfl, rfl⟩))
    (fun os started H enc _ => topComposite_lifted os started H enc)
theorem TopComposite_holds : Rows.TopCompositeCardSaid :=
  Claim7.holds_tied_plain_at .later _ _ true _ _
    topComposite_row (fun _ h => by cases h) topComposite_wf (fun _ h => by cases h) topComposite_row_tie rfl ⟨rfl, rfl⟩ (by kernel_rfl) rfl
    (fun f fn hf hfn => by
      obtain rfl : f = 3 := Option.some.inj ((show Tryz.prog.funcNamed Tryz.f3.name = some 3 by kernel_rfl).symm.trans hf) |>.symm
      obtain rfl : fn = Tryz.f3 := (Option.some.inj (Tryz.func3.symm.trans hfn)).symm
      exact ⟨topComposite_looks, fun j t ht => by
        rw [Tryz.params3] at ht
        have hm : t ∈ [23, 23, 3] := by simpa using Array.mem_of_getElem? ht
        have hall : ([23, 23, 3].all fun u => !Tryz.prog.wantsStandIn u) = true := by kernel_rfl
        exact (show Tryz.prog.wantsStandIn t = false by simpa using List.all_eq_true.1 hall t hm)⟩)
    topComposite_goes
end Go.Proofs.YtjmdeplmenbmmaaGreatDoor
