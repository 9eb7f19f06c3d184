/- Joined texts: Gwk, SpNil, SortLay, SpSo. -/
import Derived.Test.YtjmdeplmenbmmaaGreatDoorW15
import Derived.Test.YtjmdeplmenbmmaaGreatDoorV08
import Derived.Test.YtjmdeplmenbmmaaGreatDoorW05
import Derived.Test.YtjmdeplmenbmmaaGreatDoorW06
import Derived.Shelf.SlSortCmp.WholeK
import Derived.Test.YtjmdeplmenbmmaaGreatDoorProg
import Derived.Test.YtjmdeplmenbmmaaGreatDoorW03
set_option linter.unusedVariables false
set_option maxHeartbeats 8000000
namespace Go.Proofs.YtjmdeplmenbmmaaGreatDoor
open Go.RowKit
theorem valI {lo hi : Int} (h : -1099511627776 ≤ lo ∧ lo ≤ hi ∧ hi ≤ 1099511627776) : validI lo hi = true := by
  unfold validI
  simp [h.1, h.2.1, h.2.2]
theorem two_of {p : Int × Int} (h : one31 p) : two31 p := by omega
abbrev lat8I (a : Int) : Prop := -5400000 ≤ a ∧ a ≤ 5400000
abbrev lon8I (a : Int) : Prop := -10800000 ≤ a ∧ a < 10800000
theorem course_c {b : Nat} {pa po qa qo : Int} (h1 : lat8I pa ∧ lon8I po) (h2 : lat8I qa ∧ lon8I qo) :
    ContIn Tryz.prog (WkW b) 163 [ptK b, ptV pa po, ptV qa qo] (arcV (TT.gcK pa qa (signI (qo - po))).1 (TT.gcK pa qa (signI (qo - po))).2) := fun w hs => by
  have q0 := signed_c (n := qo - po) (by omega)
  have hw := signI_bd (qo - po)
  generalize signI (qo - po) = om at *
  have o1 := TT.encl_ord (Int.le_refl om)
  have o2 := TT.encl_ord (Int.le_refl pa)
  have o3 := TT.encl_ord (Int.le_refl qa)
  have o4 := TT.cosE_ord (Int.le_refl om)
  have o5 := TT.cosE_ord (Int.le_refl pa)
  have o6 := TT.cosE_ord (Int.le_refl qa)
  have o7 := TT.mulE_bd o2 o6
  have t1 := two_of (TT.mulE_bd o5 o3)
  have t2 := two_of (TT.mulE_bd o7 o4)
  have t3 := TT.gcX_ord pa qa om
  have t4 := TT.gcY_ord pa qa om
  have v1 := valI (lo := om) (hi := om) (by omega)
  have v2 := valI (lo := pa) (hi := pa) (by omega)
  have v3 := valI (lo := qa) (hi := qa) (by omega)
  have q9 := Bearing_c (y := TT.gcY pa qa om) (x := TT.gcX pa qa om) (by omega) (by omega)
  change Cont _ _ _ (.tuple [arcV (TT.gcK pa qa om).1 (TT.gcK pa qa om).2, .int .i64 0].toArray) at q9
  generalize TT.gcK pa qa om = r at *
  unfold TT.gcX TT.gcY at *
  refine enter0 Tryz.func163 rfl rfl rfl ?_
  repeat' (first
    | (refine nxN ?_)
    | (show YK _ _ _ _ _ ⟨_, .call { callee := .value (.func 102), args := _, argTypes := _ }, _, _, _, _⟩ _; refine YK.mk (y_callIn (ksin_c (by assumption)) (fun w' hw' => hs.keep hw'.ext) ⟨rfl, rfl, rfl⟩ (by decide +kernel)) ?_)
    | (show YG _ _ _ _ _ _ ⟨_, .call { callee := .value (.func 102), args := _, argTypes := _ }, _, _, _, _⟩ _; refine YG.mk (fun hb => by (try (have hc := And.left hb; have hb := And.right hb; rw [hc])); (try rw [hb]); exact y_callIn (ksin_c (by assumption)) (fun w' hw' => hs.keep hw'.ext) ⟨rfl, rfl, rfl⟩ (by decide +kernel)) ?_)
    | (show YK _ _ _ _ _ ⟨_, .call { callee := .value (.func 103), args := _, argTypes := _ }, _, _, _, _⟩ _; refine YK.mk (y_callIn (kcos_c (by assumption)) (fun w' hw' => hs.keep hw'.ext) ⟨rfl, rfl, rfl⟩ (by decide +kernel)) ?_)
    | (show YG _ _ _ _ _ _ ⟨_, .call { callee := .value (.func 103), args := _, argTypes := _ }, _, _, _, _⟩ _; refine YG.mk (fun hb => by (try (have hc := And.left hb; have hb := And.right hb; rw [hc])); (try rw [hb]); exact y_callIn (kcos_c (by assumption)) (fun w' hw' => hs.keep hw'.ext) ⟨rfl, rfl, rfl⟩ (by decide +kernel)) ?_)
    | (show YK _ _ _ _ _ ⟨_, .call { callee := .value (.func 105), args := _, argTypes := _ }, _, _, _, _⟩ _; refine YK.mk (y_callIn (kmul_c (by assumption) (by assumption)) (fun w' hw' => hs.keep hw'.ext) ⟨rfl, rfl, rfl, rfl⟩ (by decide +kernel)) ?_)
    | (show YG _ _ _ _ _ _ ⟨_, .call { callee := .value (.func 105), args := _, argTypes := _ }, _, _, _, _⟩ _; refine YG.mk (fun hb => by (try (have hc := And.left hb; have hb := And.right hb; rw [hc])); (try rw [hb]); exact y_callIn (kmul_c (by assumption) (by assumption)) (fun w' hw' => hs.keep hw'.ext) ⟨rfl, rfl, rfl, rfl⟩ (by decide +kernel)) ?_)
    | (show YK _ _ _ _ _ ⟨_, .call { callee := .value (.func 111), args := _, argTypes := _ }, _, _, _, _⟩ _; refine YK.mk (y_callIn (ksub_c (by assumption) (by assumption) (by omega)) (fun w' hw' => hs.keep hw'.ext) ⟨rfl, rfl, rfl, rfl⟩ (by decide +kernel)) ?_)
    | (show YG _ _ _ _ _ _ ⟨_, .call { callee := .value (.func 111), args := _, argTypes := _ }, _, _, _, _⟩ _; refine YG.mk (fun hb => by (try (have hc := And.left hb; have hb := And.right hb; rw [hc])); (try rw [hb]); exact y_callIn (ksub_c (by assumption) (by assumption) (by omega)) (fun w' hw' => hs.keep hw'.ext) ⟨rfl, rfl, rfl, rfl⟩ (by decide +kernel)) ?_)
    | (show YK _ _ _ _ _ ⟨_, .call { callee := .value (.func 108), args := _, argTypes := _ }, _, _, _, _⟩ _; refine YK.mk (y_callIn (karc_c) (fun w' hw' => hs.keep hw'.ext) ⟨rfl, rfl, rfl, rfl⟩ (by decide +kernel)) ?_)
    | (show YG _ _ _ _ _ _ ⟨_, .call { callee := .value (.func 108), args := _, argTypes := _ }, _, _, _, _⟩ _; refine YG.mk (fun hb => by (try (have hc := And.left hb; have hb := And.right hb; rw [hc])); (try rw [hb]); exact y_callIn (karc_c) (fun w' hw' => hs.keep hw'.ext) ⟨rfl, rfl, rfl, rfl⟩ (by decide +kernel)) ?_)
    | (show YK _ _ _ _ _ _ _; first | refine YK.mk (y_callA (q0) ⟨rfl, rfl⟩) ?_ | refine YK.mk (y_callA (q9) ⟨rfl, rfl, rfl⟩) ?_ | refine YK.mk (y_callA (kone_c) ⟨rfl, rfl⟩) ?_)
    | (refine nxV ?_)
    | (refine nxRS ?_) | (refine nxRS1 fun _ => ?_)
    | (refine nxRM ?_) | (refine nxRM1 fun _ => ?_)
    | (show YG _ _ _ _ _ _ _ _; refine YG.mk (fun hb => by (try (have hc := And.left hb; have hb := And.right hb; rw [hc])); (try rw [hb]); first | exact (y_callA (q0) ⟨rfl, rfl⟩) | exact (y_callA (q9) ⟨rfl, rfl, rfl⟩) | exact (y_callA (kone_c) ⟨rfl, rfl⟩) | exact V.y vAuto) ?_)
    | (refine nxG ?_)
    | (refine G.mixedA 2 [.go 0, .go 1, .go 2, .go 4, .go 5, .go 6, .pend 10, .go 3, .go 7, .go 8, .go 9, .done, .go 11] ?_)
    | (refine G.mixedA 3 [.go 0, .go 1, .go 2, .go 3, .go 4, .go 7, .go 8, .go 9, .go 13, .go 14, .go 15, .go 16, .go 17, .go 20, .go 21, .go 22, .go 26, .go 27, .pend 31, .go 5, .go 6, .go 10, .go 11, .go 12, .go 18, .go 19, .go 23, .go 24, .go 25, .go 28, .go 29, .go 30, .done, .go 32] ?_)
    | (refine nxX ?_)
    | (refine G.condN rfl (fun hc => ?_) (fun hc => ?_) <;> (try first | exact False.elim hc | (exfalso; omega))))
  all_goals exact X.ret (vs := [_]) rfl ⟨⟨_, _, _, _, rfl, (by exact memA), (by (repeat (first | exact .nil | apply LenIs.cons))), by decide +kernel, rfl⟩, rfl⟩ rfl (fun w hw => ⟨rfl, hw.ext⟩)
theorem dist_c {b : Nat} {pa po qa qo : Int} {D : Int × Int} (h1 : lat8I pa ∧ lon8I po) (h2 : lat8I qa ∧ lon8I qo) (hD : TT.IsGc pa qa (signI (qo - po)) D) :
    ContIn Tryz.prog (WkW b) 164 [ptK b, ptV pa po, ptV qa qo] (arcV D.1 D.2) := fun w hs => by
  have q0 := signed_c (n := qo - po) (by omega)
  have hw := signI_bd (qo - po)
  generalize signI (qo - po) = om at *
  have hc := TT.gc_clamp (a := pa) (b := qa) (w := om) (by omega) (by omega) (by omega)
  have hH := TT.gcH_ord pa qa om
  obtain ⟨n0, n1, i1, i0, rfl⟩ := hD
  have q9 := Ahav_c (p := TT.gcH pa qa om) (by omega) hc.2 i1 i0
  clear i1 i0 hc
  have o2 := TT.cosE_ord (Int.le_refl pa)
  have o3 := TT.cosE_ord (Int.le_refl qa)
  have o4 := TT.mulE_bd o2 o3
  have o5 := TT.havE_ord (Int.le_refl om)
  have o6 := TT.havE_ord (Int.le_refl (qa - pa))
  have o7 : one31 (TT.havE om om) := by omega
  have o8 := TT.mulE_bd o4 o7
  have t1 := two_of o8
  have t2 : two31 (TT.havE (qa - pa) (qa - pa)) := by omega
  have v2 := valI (lo := pa) (hi := pa) (by omega)
  have v3 := valI (lo := qa) (hi := qa) (by omega)
  have q1 := Hav_c (lo := om) (hi := om) (valI (by omega))
  have q2 := Hav_c (lo := qa - pa) (hi := qa - pa) (valI (by omega))
  have t3 : -2147483648 ≤ (TT.addE (TT.havE (qa - pa) (qa - pa)) (TT.mulE (TT.mulE (TT.cosE pa pa) (TT.cosE qa qa)) (TT.havE om om))).1 ∧ (TT.addE (TT.havE (qa - pa) (qa - pa)) (TT.mulE (TT.mulE (TT.cosE pa pa) (TT.cosE qa qa)) (TT.havE om om))).2 ≤ 2147483648 := by
    unfold TT.gcH at hH
    omega
  unfold TT.gcH at *
  refine enter0 Tryz.func164 rfl rfl rfl ?_
  repeat' (first
    | (refine nxN ?_)
    | (show YK _ _ _ _ _ ⟨_, .call { callee := .value (.func 102), args := _, argTypes := _ }, _, _, _, _⟩ _; refine YK.mk (y_callIn (ksin_c (by assumption)) (fun w' hw' => hs.keep hw'.ext) ⟨rfl, rfl, rfl⟩ (by decide +kernel)) ?_)
    | (show YG _ _ _ _ _ _ ⟨_, .call { callee := .value (.func 102), args := _, argTypes := _ }, _, _, _, _⟩ _; refine YG.mk (fun hb => by (try (have hc := And.left hb; have hb := And.right hb; rw [hc])); (try rw [hb]); exact y_callIn (ksin_c (by assumption)) (fun w' hw' => hs.keep hw'.ext) ⟨rfl, rfl, rfl⟩ (by decide +kernel)) ?_)
    | (show YK _ _ _ _ _ ⟨_, .call { callee := .value (.func 103), args := _, argTypes := _ }, _, _, _, _⟩ _; refine YK.mk (y_callIn (kcos_c (by assumption)) (fun w' hw' => hs.keep hw'.ext) ⟨rfl, rfl, rfl⟩ (by decide +kernel)) ?_)
    | (show YG _ _ _ _ _ _ ⟨_, .call { callee := .value (.func 103), args := _, argTypes := _ }, _, _, _, _⟩ _; refine YG.mk (fun hb => by (try (have hc := And.left hb; have hb := And.right hb; rw [hc])); (try rw [hb]); exact y_callIn (kcos_c (by assumption)) (fun w' hw' => hs.keep hw'.ext) ⟨rfl, rfl, rfl⟩ (by decide +kernel)) ?_)
    | (show YK _ _ _ _ _ ⟨_, .call { callee := .value (.func 105), args := _, argTypes := _ }, _, _, _, _⟩ _; refine YK.mk (y_callIn (kmul_c (by assumption) (by assumption)) (fun w' hw' => hs.keep hw'.ext) ⟨rfl, rfl, rfl, rfl⟩ (by decide +kernel)) ?_)
    | (show YG _ _ _ _ _ _ ⟨_, .call { callee := .value (.func 105), args := _, argTypes := _ }, _, _, _, _⟩ _; refine YG.mk (fun hb => by (try (have hc := And.left hb; have hb := And.right hb; rw [hc])); (try rw [hb]); exact y_callIn (kmul_c (by assumption) (by assumption)) (fun w' hw' => hs.keep hw'.ext) ⟨rfl, rfl, rfl, rfl⟩ (by decide +kernel)) ?_)
    | (show YK _ _ _ _ _ ⟨_, .call { callee := .value (.func 111), args := _, argTypes := _ }, _, _, _, _⟩ _; refine YK.mk (y_callIn (ksub_c (by assumption) (by assumption) (by omega)) (fun w' hw' => hs.keep hw'.ext) ⟨rfl, rfl, rfl, rfl⟩ (by decide +kernel)) ?_)
    | (show YG _ _ _ _ _ _ ⟨_, .call { callee := .value (.func 111), args := _, argTypes := _ }, _, _, _, _⟩ _; refine YG.mk (fun hb => by (try (have hc := And.left hb; have hb := And.right hb; rw [hc])); (try rw [hb]); exact y_callIn (ksub_c (by assumption) (by assumption) (by omega)) (fun w' hw' => hs.keep hw'.ext) ⟨rfl, rfl, rfl, rfl⟩ (by decide +kernel)) ?_)
    | (show YK _ _ _ _ _ ⟨_, .call { callee := .value (.func 104), args := _, argTypes := _ }, _, _, _, _⟩ _; refine YK.mk (y_callIn (kadd_c (by assumption) (by assumption) (by assumption)) (fun w' hw' => hs.keep hw'.ext) ⟨rfl, rfl, rfl, rfl⟩ (by decide +kernel)) ?_)
    | (show YG _ _ _ _ _ _ ⟨_, .call { callee := .value (.func 104), args := _, argTypes := _ }, _, _, _, _⟩ _; refine YG.mk (fun hb => by (try (have hc := And.left hb; have hb := And.right hb; rw [hc])); (try rw [hb]); exact y_callIn (kadd_c (by assumption) (by assumption) (by assumption)) (fun w' hw' => hs.keep hw'.ext) ⟨rfl, rfl, rfl, rfl⟩ (by decide +kernel)) ?_)
    | (show YK _ _ _ _ _ ⟨_, .call { callee := .value (.func 106), args := _, argTypes := _ }, _, _, _, _⟩ _; refine YK.mk (y_callIn (knum_c) (fun w' hw' => hs.keep hw'.ext) ⟨rfl, rfl, rfl, rfl⟩ (by decide +kernel)) ?_)
    | (show YG _ _ _ _ _ _ ⟨_, .call { callee := .value (.func 106), args := _, argTypes := _ }, _, _, _, _⟩ _; refine YG.mk (fun hb => by (try (have hc := And.left hb; have hb := And.right hb; rw [hc])); (try rw [hb]); exact y_callIn (knum_c) (fun w' hw' => hs.keep hw'.ext) ⟨rfl, rfl, rfl, rfl⟩ (by decide +kernel)) ?_)
    | (show YK _ _ _ _ _ ⟨_, .call { callee := .value (.func 108), args := _, argTypes := _ }, _, _, _, _⟩ _; refine YK.mk (y_callIn (karc_c) (fun w' hw' => hs.keep hw'.ext) ⟨rfl, rfl, rfl, rfl⟩ (by decide +kernel)) ?_)
    | (show YG _ _ _ _ _ _ ⟨_, .call { callee := .value (.func 108), args := _, argTypes := _ }, _, _, _, _⟩ _; refine YG.mk (fun hb => by (try (have hc := And.left hb; have hb := And.right hb; rw [hc])); (try rw [hb]); exact y_callIn (karc_c) (fun w' hw' => hs.keep hw'.ext) ⟨rfl, rfl, rfl, rfl⟩ (by decide +kernel)) ?_)
    | (show YK _ _ _ _ _ _ _; first | refine YK.mk (y_callA (q0) ⟨rfl, rfl⟩) ?_ | refine YK.mk (y_callA (q9) ⟨rfl, rfl⟩) ?_ | refine YK.mk (y_callA (q1) ⟨rfl, rfl⟩) ?_ | refine YK.mk (y_callA (q2) ⟨rfl, rfl⟩) ?_ | refine YK.mk (y_callA (kone_c) ⟨rfl, rfl⟩) ?_)
    | (refine nxV ?_)
    | (refine nxRS ?_) | (refine nxRS1 fun _ => ?_)
    | (refine nxRM ?_) | (refine nxRM1 fun _ => ?_)
    | (show YG _ _ _ _ _ _ _ _; refine YG.mk (fun hb => by (try (have hc := And.left hb; have hb := And.right hb; rw [hc])); (try rw [hb]); first | exact (y_callA (q0) ⟨rfl, rfl⟩) | exact (y_callA (q9) ⟨rfl, rfl⟩) | exact (y_callA (q1) ⟨rfl, rfl⟩) | exact (y_callA (q2) ⟨rfl, rfl⟩) | exact (y_callA (kone_c) ⟨rfl, rfl⟩) | exact V.y vAuto) ?_)
    | (refine nxG ?_)
    | (refine G.mixedA 2 [.go 0, .go 1, .go 2, .go 3, .go 4, .go 7, .go 8, .go 9, .go 13, .go 14, .pend 21, .go 5, .go 6, .go 10, .go 11, .go 12, .go 15, .go 16, .go 17, .go 18, .go 19, .go 20, .done, .go 22] ?_)
    | (refine G.mixedA 3 [.go 0, .go 1, .go 2, .go 3, .go 4, .go 5, .go 6, .go 7, .go 13, .go 8, .go 9, .go 10, .go 11, .go 12, .go 14, .go 15, .go 16, .go 17, .go 18, .go 19] ?_)
    | (refine nxX ?_)
    | (refine G.condN rfl (fun hc => ?_) (fun hc => ?_) <;> (try first | exact False.elim hc | (exfalso; omega))))
  all_goals exact X.ret (vs := [_]) rfl ⟨⟨_, _, _, _, rfl, (by exact memA), (by (repeat (first | exact .nil | apply LenIs.cons))), by decide +kernel, rfl⟩, rfl⟩ rfl (fun w hw => ⟨rfl, hw.ext⟩)
theorem leg_built (a b c d : Int) : Tryz.prog.built 40 [(0, .agg [.int .i64 a, .int .i64 b].toArray), (1, .agg [.int .i64 c, .int .i64 d].toArray)] = some [.int .i64 a, .int .i64 b, .int .i64 c, .int .i64 d].toArray := by kernel_rfl
theorem place_built (a b c d : Int) : Tryz.prog.built 36 [(0, .agg [.int .i64 a, .int .i64 b].toArray), (1, .agg [.int .i64 c, .int .i64 d].toArray)] = some [.int .i64 a, .int .i64 b, .int .i64 c, .int .i64 d].toArray := by kernel_rfl
abbrev v4 (a b c d : Int) : Value := .agg [.int .i64 a, .int .i64 b, .int .i64 c, .int .i64 d].toArray
theorem pointT {la lo : Int} (h : lat8I la ∧ lon8I lo) : Cont Tryz.prog 37 [ptV la lo] (.bool true) := by
  have := vpoint_c la lo
  rw [show pointB la lo = true by unfold pointB; simp; omega] at this
  exact this
theorem inverse_c {pa po qa qo : Int} {D : Int × Int} (h1 : lat8I pa ∧ lon8I po) (h2 : lat8I qa ∧ lon8I qo) (hD : TT.IsGc pa qa (signI (qo - po)) D) :
    Cont Tryz.prog 88 [ptV pa po, ptV qa qo] (.tuple [v4 (TT.gcK pa qa (signI (qo - po))).1 (TT.gcK pa qa (signI (qo - po))).2 D.1 D.2, .int .i64 0].toArray) := fun w => by
  have q1 := pointT h1
  have q2 := pointT h2
  have q3 := fun b => course_c (b := b) h1 h2
  have q4 := fun b => dist_c (b := b) h1 h2 hD
  clear hD
  generalize signI (qo - po) = om at *
  generalize TT.gcK pa qa om = r at *
  refine enter0 Tryz.func88 rfl rfl rfl ?_
  repeat' (first
    | (refine nxN ?_)
    | (show YK _ _ _ _ _ ⟨_, .call { callee := .value (.func 163), args := _, argTypes := _ }, _, _, _, _⟩ _; refine YK.mk (y_callIn (q3 _) (fun w' hw' => WkW.ofSt hw' (by exact memA)) ⟨rfl, rfl, rfl, rfl⟩ (by decide +kernel)) ?_)
    | (show YG _ _ _ _ _ _ ⟨_, .call { callee := .value (.func 163), args := _, argTypes := _ }, _, _, _, _⟩ _; refine YG.mk (fun hb => by (try (have hc := And.left hb; have hb := And.right hb; rw [hc])); (try rw [hb]); exact y_callIn (q3 _) (fun w' hw' => WkW.ofSt hw' (by exact memA)) ⟨rfl, rfl, rfl, rfl⟩ (by decide +kernel)) ?_)
    | (show YK _ _ _ _ _ ⟨_, .call { callee := .value (.func 164), args := _, argTypes := _ }, _, _, _, _⟩ _; refine YK.mk (y_callIn (q4 _) (fun w' hw' => WkW.ofSt hw' (by exact memA)) ⟨rfl, rfl, rfl, rfl⟩ (by decide +kernel)) ?_)
    | (show YG _ _ _ _ _ _ ⟨_, .call { callee := .value (.func 164), args := _, argTypes := _ }, _, _, _, _⟩ _; refine YG.mk (fun hb => by (try (have hc := And.left hb; have hb := And.right hb; rw [hc])); (try rw [hb]); exact y_callIn (q4 _) (fun w' hw' => WkW.ofSt hw' (by exact memA)) ⟨rfl, rfl, rfl, rfl⟩ (by decide +kernel)) ?_)
    | (show VK _ _ _ _ _ ⟨_, .build 40 #[(0, _), (1, _)], _, _, _, _⟩ _; refine VK.mk (y_build (parts := [(0, _), (1, _)]) (vs := [_, _]) ⟨rfl, rfl, rfl⟩ (leg_built _ _ _ _)) ?_)
    | (show YK _ _ _ _ _ ⟨_, .build 40 #[(0, _), (1, _)], _, _, _, _⟩ _; refine YK.ofV (y_build (parts := [(0, _), (1, _)]) (vs := [_, _]) ⟨rfl, rfl, rfl⟩ (leg_built _ _ _ _)) ?_)
    | (show YK _ _ _ _ _ _ _; first | refine YK.mk (y_callA (q1) ⟨rfl, rfl⟩) ?_ | refine YK.mk (y_callA (q2) ⟨rfl, rfl⟩) ?_)
    | (refine nxV ?_)
    | (refine nxRS ?_) | (refine nxRS1 fun _ => ?_)
    | (refine nxRM ?_) | (refine nxRM1 fun _ => ?_)
    | (show YG _ _ _ _ _ _ _ _; refine YG.mk (fun hb => by (try (have hc := And.left hb; have hb := And.right hb; rw [hc])); (try rw [hb]); first | exact (y_callA (q1) ⟨rfl, rfl⟩) | exact (y_callA (q2) ⟨rfl, rfl⟩) | exact V.y vAuto) ?_)
    | (refine nxG ?_)
    | (refine G.mixedA 4 [.go 0, .go 1, .go 3, .go 4, .pend 7, .go 2, .go 5, .go 6, .done, .go 8] ?_)
    | (refine G.mixedA 6 [.go 0, .go 1, .go 2, .go 3, .go 4] ?_)
    | (refine nxX ?_)
    | (refine G.condN rfl (fun hc => ?_) (fun hc => ?_) <;> (try first | exact False.elim hc | (exfalso; omega))))
  all_goals exact X.ret (vs := [_, _]) rfl ⟨⟨_, _, _, _, rfl, (by exact memA), (by (repeat (first | exact .nil | apply LenIs.cons))), by decide +kernel, rfl⟩, rfl, rfl⟩ rfl (fun w hw => ⟨rfl, hw.ext⟩)
end Go.Proofs.YtjmdeplmenbmmaaGreatDoor
namespace Go.Proofs.YtjmdeplmenbmmaaGreatDoor
open Go.RowKit Go.Sort
set_option maxHeartbeats 1000000 in
theorem len0_world (W : World) : Calls Tryz.prog 250 #[.int .u64 0] W fun e w' => e = .returned (.int .i64 0) ∧ w' = W := by
  go_enter Tryz.func250, Tryz.ntmps250
  go_wp2_with (go_at_call 294; refine (Tryz.bits_Len64 0 _ (by decide) (by decide)).mono ?_; rintro e w' ⟨rfl, rfl⟩)
  go_ret
  exact ⟨rfl, rfl⟩
set_option maxHeartbeats 1000000 in
theorem ins0_world (p : Option Addr) (cap : Nat) (fv : Value) (W : World) : Calls Tryz.prog 285 #[.slice p 0 cap, .int .i64 0, .int .i64 0, fv] W fun e w' => e = .returned (.tuple #[]) ∧ w' = W := by
  go_enter Tryz.func285, Tryz.ntmps285
  go_wp2
  refine wp_loop_rounds 1 ?_
  rw [rounds_succ]
  go_wp2
  go_end0
  exact ⟨rfl, rfl⟩
set_option maxRecDepth 100000 in
set_option maxHeartbeats 2000000 in
theorem pdq0_world (p : Option Addr) (cap : Nat) (lim : Int) (fv : Value) (W : World) : Calls Tryz.prog 249 #[.slice p 0 cap, .int .i64 0, .int .i64 0, .int .i64 lim, fv] W fun e w' => e = .returned (.tuple #[]) ∧ w' = W := by
  go_enter Tryz.func249, Tryz.ntmps249
  go_wp2
  refine wp_loop_rounds 1 ?_
  rw [rounds_succ]
  go_wp2_with (go_at_call 285; refine (ins0_world _ _ _ _).mono ?_; rintro e w' ⟨rfl, rfl⟩)
  (try simp only [Exit.inBlock, Exit.then]); refine bodyPost_ret (results_none rfl _ _ _) rfl ?_
  exact ⟨rfl, rfl⟩
set_option maxHeartbeats 1000000 in
theorem sort0_world (p : Option Addr) (cap : Nat) (fv : Value) (W : World) : Calls Tryz.prog 206 #[.slice p 0 cap, fv] W fun e w' => e = .returned (.tuple #[]) ∧ w' = W := by
  go_enter Tryz.func206, Tryz.ntmps206
  go_wp2_with (first | (go_at_call 250; refine (len0_world _).mono ?_; rintro e w' ⟨rfl, rfl⟩) | (go_at_call 249; refine (pdq0_world _ _ _ _ _).mono ?_; rintro e w' ⟨rfl, rfl⟩))
  go_end0
  exact ⟨rfl, rfl⟩
end Go.Proofs.YtjmdeplmenbmmaaGreatDoor
namespace Go.Proofs
open Go.Shelf
def Tryz.sortFr_ren : Go.Shelf.Ren := ⟨fun | 6 => 206 | 15 => 250 | 14 => 249 | 28 => 293 | 29 => 294 | 20 => 285 | 21 => 286 | 22 => 287 | 23 => 288 | 24 => 289 | 25 => 290 | 26 => 291 | 27 => 292 | 46 => 323 | 47 => 324 | 48 => 325 | 49 => 326 | 50 => 327 | 57 => 341 | n => n, fun | 22 => 188 | 24 => 235 | 25 => 240 | 3 => 3 | 39 => 152 | 0 => 0 | 53 => 319 | 55 => 257 | 4 => 4 | 46 => 313 | 45 => 312 | 50 => 215 | 5 => 5 | 9 => 9 | 66 => 335 | 70 => 339 | 76 => 350 | 77 => 202 | n => n, fun | n => n⟩
theorem Tryz.sortFr : Go.Proofs.SlLaysF0.n6 Tryz.prog Tryz.sortFr_ren := {
  mixed := by kernel_rfl
  f6 := ⟨Tryz.f206.name, by decide, Tryz.func206.trans (congrArg some (by kernel_rfl))⟩
  f14 := ⟨Tryz.f249.name, by decide, Tryz.func249.trans (congrArg some (by kernel_rfl))⟩
  f15 := Tryz.func250.trans (congrArg some (by kernel_rfl))
  f20 := ⟨Tryz.f285.name, by decide, Tryz.func285.trans (congrArg some (by kernel_rfl))⟩
  f21 := ⟨Tryz.f286.name, by decide, Tryz.func286.trans (congrArg some (by kernel_rfl))⟩
  f22 := ⟨Tryz.f287.name, by decide, Tryz.func287.trans (congrArg some (by kernel_rfl))⟩
  f23 := ⟨Tryz.f288.name, by decide, Tryz.func288.trans (congrArg some (by kernel_rfl))⟩
  f24 := ⟨Tryz.f289.name, by decide, Tryz.func289.trans (congrArg some (by kernel_rfl))⟩
  f25 := ⟨Tryz.f290.name, by decide, Tryz.func290.trans (congrArg some (by kernel_rfl))⟩
  f26 := ⟨Tryz.f291.name, by decide, Tryz.func291.trans (congrArg some (by kernel_rfl))⟩
  f27 := ⟨Tryz.f292.name, by decide, Tryz.func292.trans (congrArg some (by kernel_rfl))⟩
  f28 := Tryz.func293.trans (congrArg some (by kernel_rfl))
  f29 := Tryz.func294.trans (congrArg some (by kernel_rfl))
  f46 := ⟨Tryz.f323.name, by decide, Tryz.func323.trans (congrArg some (by kernel_rfl))⟩
  f47 := Tryz.func324.trans (congrArg some (by kernel_rfl))
  f48 := Tryz.func325.trans (congrArg some (by kernel_rfl))
  f49 := ⟨Tryz.f326.name, by decide, Tryz.func326.trans (congrArg some (by kernel_rfl))⟩
  f50 := ⟨Tryz.f327.name, by decide, Tryz.func327.trans (congrArg some (by kernel_rfl))⟩
  f57 := ⟨Tryz.f341.name, by decide, Tryz.func341.trans (congrArg some (by kernel_rfl))⟩
  t0 := Tryz.underlying0
  a0 := Tryz.isAgg0
  z0 := Tryz.sizeOf0
  v0 := Tryz.zeroValue0
  t3 := Tryz.underlying3
  a3 := Tryz.isAgg3
  z3 := Tryz.sizeOf3
  v3 := Tryz.zeroValue3
  t4 := Tryz.underlying4
  a4 := Tryz.isAgg4
  z4 := Tryz.sizeOf4
  v4 := Tryz.zeroValue4
  t5 := Tryz.underlying5
  a5 := Tryz.isAgg5
  z5 := Tryz.sizeOf5
  v5 := Tryz.zeroValue5
  t9 := Tryz.underlying9
  a9 := Tryz.isAgg9
  z9 := Tryz.sizeOf9
  v9 := Tryz.zeroValue9
  t22 := Tryz.underlying188
  a22 := Tryz.isAgg188
  z22 := Tryz.sizeOf188
  v22 := Tryz.zeroValue188
  t25 := Tryz.underlying240
  a25 := Tryz.isAgg240
  z25 := Tryz.sizeOf240
  v25 := Tryz.zeroValue240
  t39 := Tryz.underlying152
  a39 := Tryz.isAgg152
  z39 := Tryz.sizeOf152
  v39 := Tryz.zeroValue152
  t45 := Tryz.underlying312
  a45 := Tryz.isAgg312
  z45 := Tryz.sizeOf312
  v45 := Tryz.zeroValue312
  t46 := Tryz.underlying313
  a46 := Tryz.isAgg313
  z46 := Tryz.sizeOf313
  v46 := Tryz.zeroValue313
  t50 := Tryz.underlying215
  a50 := Tryz.isAgg215
  z50 := Tryz.sizeOf215
  v50 := Tryz.zeroValue215
  t53 := Tryz.underlying319
  a53 := Tryz.isAgg319
  z53 := Tryz.sizeOf319
  v53 := Tryz.zeroValue319
  t55 := Tryz.underlying257
  a55 := Tryz.isAgg257
  z55 := Tryz.sizeOf257
  v55 := Tryz.zeroValue257
  t66 := Tryz.underlying335
  a66 := Tryz.isAgg335
  z66 := Tryz.sizeOf335
  v66 := Tryz.zeroValue335
  t70 := Tryz.underlying339
  a70 := Tryz.isAgg339
  z70 := Tryz.sizeOf339
  v70 := Tryz.zeroValue339
  t76 := Tryz.underlying350
  a76 := Tryz.isAgg350
  z76 := Tryz.sizeOf350
  v76 := Tryz.zeroValue350
  t77 := Tryz.underlying202
  a77 := Tryz.isAgg202
  z77 := Tryz.sizeOf202
  v77 := Tryz.zeroValue202 }
end Go.Proofs
set_option linter.unusedVariables false
namespace Go.Proofs.YtjmdeplmenbmmaaGreatDoor
open Go.RowKit Go.Shelf Go.Lib Go.Sort
def cN2 (x : Nat × Nat) : List Value := [.int .i64 (x.1 : Int), .int .i64 (x.2 : Int)]
def cfS (x y : Nat × Nat) : Int := cfI x.1 x.2 y.1 y.2
theorem cfS_lt {x y : Nat × Nat} : cfS x y < 0 ↔ x.1 < y.1 ∨ x.1 = y.1 ∧ y.2 < x.2 := by
  unfold cfS cfI orI cmpS3
  repeat' split
  all_goals omega
theorem spanLays (blk off size : Nat) (w : World) : CmpLays Tryz.prog 207 #[] cN2 2 cfS blk off size w := fun _ _ _ _ x y => cover1_world x.1 x.2 y.1 y.2 _
theorem swoS : SWO (ltOf cfS) where
  irrefl x := decide_eq_false fun h => by rcases cfS_lt.1 h with h | h <;> omega
  trans x y z h1 h2 := by
    have k1 := cfS_lt.1 (of_decide_eq_true h1)
    have k2 := cfS_lt.1 (of_decide_eq_true h2)
    exact decide_eq_true (cfS_lt.2 (by omega))
  ntrans x y z h1 h2 := by
    have k1 : ¬ cfS x y < 0 := of_decide_eq_false h1
    have k2 : ¬ cfS y z < 0 := of_decide_eq_false h2
    rw [cfS_lt] at k1 k2
    exact decide_eq_false fun h => by have := cfS_lt.1 h; omega
set_option maxHeartbeats 1000000 in
theorem sortS_world (blk off cap : Nat) (d : Array (Nat × Nat)) (w : World) (hH : HoldsK cN2 2 w blk off d) (hblk : blk < w.heap.size) (hsz : d.size ≤ 1000000) :
    Calls Tryz.prog 206 #[.slice (some ⟨blk, off, none⟩) d.size cap, .func (.func 207) #[] #[]] w fun e w' => e = .returned (.tuple #[]) ∧ ∃ d' n os, PermIn 0 d.size d d' ∧ SortedIn (ltOf cfS) 0 d.size d' ∧ w' = sortWorldK cN2 2 w blk off n d' os := by
  have eg : ∀ args w, (callFunc 207 args).run Tryz.prog w = .ok (.enter 207 args) w := enters_of Tryz.func207 (by kernel_rfl) rfl
  exact AnyQ.slices_SortFunc Tryz.sortFr 2 Tryz.isAgg235 Tryz.sizeOf235 cN2 (fun _ => rfl) (fun x v hv => by simp [cN2] at hv; rcases hv with rfl | rfl <;> rfl) cfS swoS 207 #[] blk off cap d w eg (spanLays blk off d.size w) hH hblk (by omega)
theorem flatS_get : ∀ (zs : List (Nat × Nat)) (t : Nat), (zs.flatMap cN2)[t]? = (zs[t / 2]?).bind fun x => (cN2 x)[t % 2]?
  | [], t => by simp
  | x :: r, 0 => rfl
  | x :: r, 1 => rfl
  | x :: r, t + 2 => by
    have := flatS_get r t
    rw [show (t + 2) / 2 = t / 2 + 1 by omega, show (t + 2) % 2 = t % 2 by omega]
    show ([Value.int .i64 (x.1 : Int), .int .i64 (x.2 : Int)] ++ r.flatMap cN2)[t + 2]? = _
    rw [List.getElem?_append_right (by simp)]
    exact this
theorem flatS_len : ∀ zs : List (Nat × Nat), (zs.flatMap cN2).length = zs.length * 2
  | [] => rfl
  | x :: r => by
    rw [List.flatMap_cons, List.length_append, flatS_len r, List.length_cons]
    show 2 + _ = _
    omega
theorem flatKS_list (zs : List (Nat × Nat)) : (flatK cN2 2 zs.toArray).toList = zs.flatMap cN2 := by
  apply List.ext_getElem?
  intro t
  by_cases ht : t < zs.length * 2
  · have hs : t < (flatK cN2 2 zs.toArray).size := by rw [size_flatK]; simpa using ht
    have h2 : t / 2 < zs.length := by omega
    rw [flatS_get, List.getElem?_eq_getElem h2, Array.getElem?_toList, Array.getElem?_eq_getElem hs]
    have hg := get_flatK cN2 2 zs.toArray t (by simpa using ht)
    rw [getElem!_pos _ t hs] at hg
    rw [hg]
    have hz : zs.toArray[t / 2]! = zs[t / 2] := by rw [getElem!_pos _ (t / 2) (by simpa using h2)]; simp
    rw [hz]
    show some (cN2 zs[t / 2])[t % 2]! = (cN2 zs[t / 2])[t % 2]?
    rcases (show t % 2 = 0 ∨ t % 2 = 1 by omega) with e | e <;> rw [e] <;> rfl
  · have z1 : (flatK cN2 2 zs.toArray).toList.length = zs.length * 2 := by rw [Array.length_toList, size_flatK]; simp
    rw [List.getElem?_eq_none (l := (flatK cN2 2 zs.toArray).toList) (by omega), List.getElem?_eq_none (l := zs.flatMap cN2) (by rw [flatS_len]; omega)]
theorem holdsS_of {w : World} {g : Nat} {cur : Array Value} {e : TypeId} {zs : List (Nat × Nat)} (hb : w.heap[g]? = some (.cells cur e (0, 0))) (ht : cur.toList.take (zs.length * 2) = zs.flatMap cN2) : HoldsK cN2 2 w g 0 zs.toArray := by
  intro j hj
  have hj' : j < zs.length * 2 := by rw [size_flatK] at hj; simpa using hj
  refine ⟨?_, by simp [World.frozen?, hb]⟩
  have h1 : cur[j]? = some (flatK cN2 2 zs.toArray)[j]! := by
    have e1 : (cur.toList.take (zs.length * 2))[j]? = cur[j]? := by rw [List.getElem?_take_of_lt hj', Array.getElem?_toList]
    rw [← e1, ht, ← flatKS_list, Array.getElem?_toList, Array.getElem?_eq_getElem hj, getElem!_pos _ j hj]
  show (match w.heap[g]? with | some (.cells c _ _) => if (none : Option Nat).isSome then none else c[0 + j]? | _ => none) = _
  rw [hb, Nat.zero_add]
  exact h1
theorem heap_sortedS {w : World} {g n : Nat} {os : Array Obj} {cur : Array Value} {e : TypeId} {fr : Nat × Nat} (d : Array Value) (hb : w.heap[g]? = some (.cells cur e fr)) :
    (grow (putRow id (Sort.ahead w n) g 0 d) os).heap[g]? = some (.cells (putCells id 0 d cur) e fr) := by
  have hg : g < w.heap.size := (Array.getElem?_eq_some_iff.1 hb).1
  rw [heap_grow_old _ _ (by simpa using hg)]
  simp [putRow, mapBlock, Sort.ahead, Array.getElem?_modify, hb, onCells]
theorem grownBy_sortedS {w : World} {g n : Nat} {os : Array Obj} (d : Array Value) : w.grownBy (grow (putRow id (Sort.ahead w n) g 0 d) os) (some g) := by
  refine ⟨rfl, rfl, rfl, by simp, fun k hk hne => ?_⟩
  rw [heap_grow_old _ _ (by simpa using hk)]
  have : g ≠ k := fun e => hne (by rw [e])
  simp [putRow, mapBlock, Sort.ahead, Array.getElem?_modify, this]
theorem take_putS (cur F : Array Value) (h : F.size ≤ cur.size) : (putCells id 0 F cur).toList.take F.size = F.toList := by
  apply List.ext_getElem?
  intro j
  by_cases hj : j < F.size
  · rw [List.getElem?_take_of_lt hj, Array.getElem?_toList, Array.getElem?_toList]
    simp [putCells, hj, show j < cur.size by omega]
  · rw [List.getElem?_take_eq_none (by omega), List.getElem?_eq_none (by simp; omega)]
theorem ownsRow_sortedS {w : World} {base g cap n : Nat} {e : TypeId} {os : Array Obj} {cur : Array Value} {m : Nat} {ds : List (Nat × Nat)} (hl : ds.length = m) (hbase : base ≤ g) (hb : w.heap[g]? = some (.cells cur e (0, 0)))
    (h1 : m ≤ cap) (h2 : cap ≤ maxLen) (h3 : cur.size = cap * 2) :
    (sortWorldK cN2 2 w g 0 n ds.toArray os).ownsRow base e 2 (.slice (some ⟨g, 0, none⟩) m cap) m (ds.flatMap cN2) := by
  have hsz : (flatK cN2 2 ds.toArray).size = m * 2 := by rw [size_flatK]; simp [hl]
  refine ⟨by rw [flatS_len, hl], .inr ⟨g, cap, _, rfl, hbase, heap_sortedS _ hb, h1, h2, by simp [putCells, h3], ?_⟩⟩
  rw [← hsz, take_putS _ _ (by omega), flatKS_list]
theorem permS_of {zs ds : List (Nat × Nat)} (hl : ds.length = zs.length) (h : PermIn 0 zs.length zs.toArray ds.toArray) : ds.Perm zs := by
  have := h.2.2
  rw [show zs.length = zs.toArray.size by simp, Array.extract_size] at this
  rw [show zs.toArray.size = ds.toArray.size by simp [hl], Array.extract_size] at this
  simpa using this
theorem pairsS_of {ds : List (Nat × Nat)} (h : SortedIn (ltOf cfS) 0 ds.length ds.toArray) : ds.Pairwise RR.spanLe := by
  rw [List.pairwise_iff_getElem]
  intro i j hi hj hij
  have := h i j (Nat.zero_le _) hij hj
  rw [getElem!_pos _ i (by simpa using hi), getElem!_pos _ j (by simpa using hj)] at this
  have h2 : ¬ cfS ds[j] ds[i] < 0 := of_decide_eq_false this
  rw [cfS_lt] at h2
  unfold RR.spanLe
  omega
theorem spanSort_c (z : Sl) (S : List (Nat × Nat)) (hn : S.length ≤ 1000000) : ContU Tryz.prog (Hl.rw z.v 235 cN2 2 S) 206 [z.v, .func (.func 207) #[] #[]] (fun S' : List (Nat × Nat) => S'.Perm S ∧ S'.Pairwise RR.spanLe) (fun _ => .tuple #[]) (fun S' => [Hl.rw z.v 235 cN2 2 S']) := fun w0 HR w hs => by
  have hown : w.ownsRow w0.heap.size 235 2 z.v S.length (S.flatMap cN2) := hs.all _ List.mem_cons_self
  obtain ⟨zv, hzv⟩ : ∃ v, v = z.v := ⟨_, rfl⟩
  rw [← hzv] at hown hs ⊢
  have h0 : S = [] → ∃ p cap, zv = .slice p 0 cap := fun hS => by
    rcases hown.2 with ⟨hv, _⟩ | ⟨g, cap, cur, hv, _⟩
    · exact ⟨_, _, hv⟩
    · rw [hS] at hv; exact ⟨_, _, hv⟩
  by_cases hS : S = []
  · obtain ⟨p, cap, hv⟩ := h0 hS
    subst hS
    rw [hv] at hs ⊢
    refine (sort0_world p cap _ w).mono ?_
    rintro e w' ⟨rfl, rfl⟩
    exact ⟨[], ⟨List.Perm.refl _, List.Pairwise.nil⟩, rfl, hs⟩
  · rcases hown.2 with ⟨hv, h1⟩ | ⟨g, cap, cur, hv, hb, hg, hnc, hcm, hcs, htake⟩
    · exact absurd (List.eq_nil_of_length_eq_zero h1) hS
    have hsz : S.toArray.size = S.length := by simp
    have hblk : g < w.heap.size := (Array.getElem?_eq_some_iff.1 hg).1
    rw [hv] at hs ⊢
    have hc := sortS_world g 0 cap S.toArray w (holdsS_of hg htake) hblk (by rw [hsz]; exact hn)
    rw [hsz] at hc
    refine hc.mono ?_
    rintro e w' ⟨rfl, d', n, os, hp, hso, rfl⟩
    obtain ⟨ds, rfl⟩ : ∃ ds : List (Nat × Nat), d' = ds.toArray := ⟨d'.toList, by simp⟩
    have hl : ds.length = S.length := by have := hp.1; simpa using this
    have sp : ∀ T : List (Nat × Nat), T ≠ [] → (Hl.rw (Value.slice (some ⟨g, 0, none⟩) S.length cap) 235 cN2 2 T).spot = some g := fun T hT => by
      cases T with
      | nil => exact absurd rfl hT
      | cons a r => rfl
    refine ⟨ds, ⟨permS_of hl hp, pairsS_of (by rw [hl]; exact hso)⟩, rfl, ?_⟩
    refine St.turn hs (Upd.here _) rfl ?_ ?_ ?_
    · rw [sp S hS]
      exact grownBy_sortedS _
    · show World.ownsRow _ _ _ _ _ _ _
      rw [hl]
      exact ownsRow_sortedS hl hb hg hnc hcm hcs
    · intro b hb2
      left
      rw [sp S hS]
      have hd : ds ≠ [] := fun h => hS (List.eq_nil_of_length_eq_zero (by rw [← hl, h]; rfl))
      rw [sp ds hd] at hb2
      exact hb2
end Go.Proofs.YtjmdeplmenbmmaaGreatDoor
