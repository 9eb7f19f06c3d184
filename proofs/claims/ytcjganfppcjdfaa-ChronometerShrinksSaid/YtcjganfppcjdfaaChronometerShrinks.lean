/- ChronometerShrinks: the statement. -/
import Derived.Test.YtcjganfppcjdfaaFrameI
import Derived.Test.YtcjganfppcjdfaaShrinkL
set_option linter.unusedVariables false
namespace Go.Proofs.Ytcjganfppcjdfaa
open Go.ChangeShapes Go.WideShapes Go.ChangeAt Go.RowKit Go.Deep Go.Joins

def mkChk (c : Int × Int × Int) : Chk := ⟨c.1, c.2.1, c.2.2⟩
theorem ro_chk {w : World} {v : Value} {b : List (Int × Int × Int)} (h : RO w v 3 b.length (b.flatMap fun c => [.int .i64 c.1, .int .i64 c.2.1, .int .i64 c.2.2])) : RO w v 3 (b.map mkChk).length ((b.map mkChk).flatMap cC) := by
  rw [List.length_map, List.flatMap_map]
  exact h

set_option maxRecDepth 100000 in
theorem chronometerShrinks_lifted (os : Os) (started : os.Started) (H : Type) (enc : TypeId × Value → H) :
    ReturnsInHanded {} Try.checked os 8 .any (Rows.chronometerShrinksSpec.pre6 enc Try.prog Try.f8 Rows.chronometerShrinksRow.domain false) (Rows.chronometerShrinksSpec.post enc Try.prog Try.f8 false true false false) := by
  refine returnsInHanded_of_change (C := Try.checked) own started (by kernel_rfl) Try.func8
    (ChangeSpec.witness6 (enc := enc) (C := Try.checked) false ⟨#[], #[.slice none 0 0, .int .i64 0, .agg #[.int .i64 0, .int .i64 0], .agg #[.int .i64 0, .int .i64 0], .slice none 0 0], []⟩ 8 (by kernel_rfl) (by kernel_rfl) (by kernel_rfl) (by kernel_rfl)) ?_
  intro W base args ds gs before hval0 hW hcnd _
  have hval : ∀ (j : Nat) t v, Try.f8.params[j]? = some t → args[j]? = some v → Value.okWide Try.prog W .any base t v := hval0
  have hW' := hW
  obtain ⟨p, q, hA0, hV, rfl, hfz, hnd⟩ := hW
  have hA : DataW.TrodAll enc Try.prog W 0 (fun _ => true) true Try.f8.params.toList args.toList ds p := hA0
  rw [Try.params8] at hA hval
  obtain ⟨v0, vs0, d0, ds0, p0, q0, hargs, rfl, rfl, h0, r0⟩ := trodAll_cons hA
  obtain ⟨v1, vs1, d1, ds1, p1, q1, rfl, rfl, rfl, h1, r1⟩ := trodAll_cons r0
  obtain ⟨v2, vs2, d2, ds2, p2, q2, rfl, rfl, rfl, h2, r2⟩ := trodAll_cons r1
  obtain ⟨v3, vs3, d3, ds3, p3, q3, rfl, rfl, rfl, h3, r3⟩ := trodAll_cons r2
  obtain ⟨v4, vs4, d4, ds4, p4, q4, rfl, rfl, rfl, h4, r4⟩ := trodAll_cons r3
  obtain ⟨rfl, rfl, rfl⟩ := trodAll_nil r4
  obtain rfl : args = #[v0, v1, v2, v3, v4] := by cases args; simp_all
  obtain ⟨rfl, rfl⟩ := trodVars_none hV
  obtain ⟨b0, rb0, _, _⟩ := arg_slice3 Try.underlying22 Try.underlying54 (by kernel_rfl) (by kernel_rfl) (by kernel_rfl) Try.underlying3 Try.underlying3 Try.underlying3 (hval 0 22 v0 rfl rfl) h0
  have ro0 := ro_chk rb0
  obtain ⟨a1, rfl, w1⟩ := arg_int Try.underlying3 (hval 1 3 v1 rfl rfl) h1
  obtain ⟨a2_0, a2_1, rfl, w2_0, w2_1⟩ := arg_agg2 Try.underlying26 (by kernel_rfl) (by kernel_rfl) Try.underlying3 Try.underlying3 (hval 2 26 v2 rfl rfl) h2
  obtain ⟨a3_0, a3_1, rfl, w3_0, w3_1⟩ := arg_agg2 Try.underlying26 (by kernel_rfl) (by kernel_rfl) Try.underlying3 Try.underlying3 (hval 3 26 v3 rfl rfl) h3
  obtain ⟨b4, ro4, _, wb4⟩ := arg_slice1 Try.underlying57 Try.underlying5 (by kernel_rfl) (hval 4 57 v4 rfl rfl) h4
  clear hA0 hval0
  simp only [List.append_nil] at hW'
  refine ((shrinks_law awake_c v0 v4 (b0.map mkChk) b4 (face := a1) ⟨i64_of w2_0, i64_of w2_1⟩ ⟨i64_of w3_0, i64_of w3_1⟩ (fun x hx => u8_of (wb4 x hx)) W (fun h hm => by rcases List.mem_cons.1 hm with rfl | hm; exact ⟨⟨ro0, fun h => by cases h⟩, rfl⟩; rcases List.mem_singleton.1 hm with rfl; exact ⟨⟨ro4, fun h => by cases h⟩, rfl⟩))).mono fun e W' ⟨he, hb⟩ => ?_
  subst he
  exact ⟨_, rfl, post_of_law laidOut (by decide +kernel) hW' rfl rfl rfl (fun _ _ _ => trodAll_cons_mk (shut_bool Try.underlying4 _) trodAll_mk0) hb (ok_one (by kernel_rfl) rfl (okWide_bool_mk Try.underlying4 _))⟩

/-- THE STATEMENT. -/
theorem ChronometerShrinks_holds : Rows.ChronometerShrinksSaid :=
  OpenClaim.holds_of_wide 8 Try.f8 rfl rfl rfl rfl rfl rfl rfl ⟨rfl, rfl, rfl, rfl, rfl⟩ rfl rfl rfl rfl rfl (by kernel_rfl) Try.func8 (by kernel_rfl)
    (of_decide_eq_true (by kernel_rfl)) (by unfold Func.isWrapper; first | (rw [if_pos (by decide +kernel)]; kernel_rfl) | (rw [if_neg (by decide +kernel)]; exact ⟨rfl, rfl⟩))
    (fun os started H enc _ => chronometerShrinks_lifted os started H enc)

end Go.Proofs.Ytcjganfppcjdfaa
