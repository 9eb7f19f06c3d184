/- ChronometerTruth: the statement. -/
import Derived.Test.YtcjganfppcjdfaaFrameI
import Derived.Test.YtcjganfppcjdfaaTruthL
set_option linter.unusedVariables false
namespace Go.Proofs.Ytcjganfppcjdfaa
open Go.ChangeShapes Go.WideShapes Go.ChangeAt Go.RowKit Go.Deep Go.Joins

def mkChk (c : Int × Int × Int) : Chk := ⟨c.1, c.2.1, c.2.2⟩
theorem ro_chk {w : World} {v : Value} {b : List (Int × Int × Int)} (h : RO w v 3 b.length (b.flatMap fun c => [.int .i64 c.1, .int .i64 c.2.1, .int .i64 c.2.2])) : RO w v 3 (b.map mkChk).length ((b.map mkChk).flatMap cC) := by
  rw [List.length_map, List.flatMap_map]
  exact h

set_option maxRecDepth 100000 in
theorem chronometerTruth_lifted (os : Os) (started : os.Started) (H : Type) (enc : TypeId × Value → H) :
    ReturnsInHanded {} Try.checked os 7 .any (Rows.chronometerTruthSpec.pre6 enc Try.prog Try.f7 Rows.chronometerTruthRow.domain false) (Rows.chronometerTruthSpec.post enc Try.prog Try.f7 false true false false) := by
  refine returnsInHanded_of_change (C := Try.checked) own started (by kernel_rfl) Try.func7
    (ChangeSpec.witness6 (enc := enc) (C := Try.checked) false ⟨#[], #[.int .i32 0, .int .i32 0, .int .i16 0, .slice none 0 0, .slice none 0 0, .int .u32 0], []⟩ 8 (by kernel_rfl) (by kernel_rfl) (by kernel_rfl) (by kernel_rfl)) ?_
  intro W base args ds gs before hval0 hW hcnd _
  have hval : ∀ (j : Nat) t v, Try.f7.params[j]? = some t → args[j]? = some v → Value.okWide Try.prog W .any base t v := hval0
  have hW' := hW
  obtain ⟨p, q, hA0, hV, rfl, hfz, hnd⟩ := hW
  have hA : DataW.TrodAll enc Try.prog W 0 (fun _ => true) true Try.f7.params.toList args.toList ds p := hA0
  rw [Try.params7] at hA hval
  obtain ⟨v0, vs0, d0, ds0, p0, q0, hargs, rfl, rfl, h0, r0⟩ := trodAll_cons hA
  obtain ⟨v1, vs1, d1, ds1, p1, q1, rfl, rfl, rfl, h1, r1⟩ := trodAll_cons r0
  obtain ⟨v2, vs2, d2, ds2, p2, q2, rfl, rfl, rfl, h2, r2⟩ := trodAll_cons r1
  obtain ⟨v3, vs3, d3, ds3, p3, q3, rfl, rfl, rfl, h3, r3⟩ := trodAll_cons r2
  obtain ⟨v4, vs4, d4, ds4, p4, q4, rfl, rfl, rfl, h4, r4⟩ := trodAll_cons r3
  obtain ⟨v5, vs5, d5, ds5, p5, q5, rfl, rfl, rfl, h5, r5⟩ := trodAll_cons r4
  obtain ⟨rfl, rfl, rfl⟩ := trodAll_nil r5
  obtain rfl : args = #[v0, v1, v2, v3, v4, v5] := by cases args; simp_all
  obtain ⟨rfl, rfl⟩ := trodVars_none hV
  obtain ⟨a0, rfl, w0⟩ := arg_int Try.underlying21 (hval 0 21 v0 rfl rfl) h0
  obtain ⟨a1, rfl, w1⟩ := arg_int Try.underlying21 (hval 1 21 v1 rfl rfl) h1
  obtain ⟨a2, rfl, w2⟩ := arg_int Try.underlying47 (hval 2 47 v2 rfl rfl) h2
  obtain ⟨b3, ro3, _, wb3⟩ := arg_slice1 Try.underlying48 Try.underlying50 (by kernel_rfl) (hval 3 48 v3 rfl rfl) h3
  obtain ⟨b4, ro4, _, wb4⟩ := arg_slice1 Try.underlying49 Try.underlying52 (by kernel_rfl) (hval 4 49 v4 rfl rfl) h4
  obtain ⟨a5, rfl, w5⟩ := arg_int Try.underlying50 (hval 5 50 v5 rfl rfl) h5
  clear hA0 hval0
  simp only [List.append_nil] at hW'
  refine ((truth_law awake_c v3 v4 b3 b4 (i32_of w0) (i32_of w1) (i16_of w2) (u32_of w5) (fun x hx => u32_of (wb3 x hx)) (fun x hx => i8_of (wb4 x hx)) W (fun h hm => by rcases List.mem_cons.1 hm with rfl | hm; exact ⟨⟨ro3, fun h => by cases h⟩, rfl⟩; rcases List.mem_singleton.1 hm with rfl; exact ⟨⟨ro4, fun h => by cases h⟩, rfl⟩))).mono fun e W' ⟨he, hb⟩ => ?_
  subst he
  exact ⟨_, rfl, post_of_law laidOut (by decide +kernel) hW' rfl rfl rfl (fun _ _ _ => trodAll_cons_mk (shut_bool Try.underlying4 _) trodAll_mk0) hb (ok_one (by kernel_rfl) rfl (okWide_bool_mk Try.underlying4 _))⟩

/-- THE STATEMENT. -/
theorem ChronometerTruth_holds : Rows.ChronometerTruthSaid :=
  OpenClaim.holds_of_wide 7 Try.f7 rfl rfl rfl rfl rfl rfl rfl ⟨rfl, rfl, rfl, rfl, rfl⟩ rfl rfl rfl rfl rfl (by kernel_rfl) Try.func7 (by kernel_rfl)
    (of_decide_eq_true (by kernel_rfl)) (by unfold Func.isWrapper; first | (rw [if_pos (by decide +kernel)]; kernel_rfl) | (rw [if_neg (by decide +kernel)]; exact ⟨rfl, rfl⟩))
    (fun os started H enc _ => chronometerTruth_lifted os started H enc)

end Go.Proofs.Ytcjganfppcjdfaa
