/- ratio.Parse; RatioTexts gives true. -/
import Derived.Test.YtnanempkkeokbaaDoorPar3
import Derived.Test.YtnanempkkeokbaaDoorAwk3
set_option linter.unusedVariables false
set_option maxHeartbeats 4000000
namespace Go.Proofs.YtnanempkkeokbaaDoor
open Go.RowKit

theorem LaidT.of {w : World} (h : Laid w) : LaidT w := LaidT.mk h.tab
abbrev ppV (C : Prop) [Decidable C] (n d : Int) : Value := .tuple [fracV (if C then n else 0) (if C then d else 0), .int .i64 (if C then 0 else 7)].toArray
theorem pp_bad {C : Prop} [Decidable C] {n d : Int} (h : ¬ C) : (.tuple [fracV 0 0, .int .i64 7].toArray : Value) = ppV C n d := by unfold ppV; rw [if_neg h, if_neg h, if_neg h]
theorem pp_good {C : Prop} [Decidable C] {n d : Int} (h : C) : (.tuple [fracV n d, .int .i64 0].toArray : Value) = ppV C n d := by unfold ppV; rw [if_pos h, if_pos h, if_pos h]
theorem pp_ok1 {l x y t : List UInt8} {n d e : Int} (hcut : ContIn Tryd.prog Laid 55 [strV l, strV [47]] (.tuple [strV x, strV y, .bool true].toArray)) (a1 : Cont Tryd.prog 56 [strV x] (.tuple [.int .i64 n, .nilIface].toArray)) (a2 : Cont Tryd.prog 56 [strV y] (.tuple [.int .i64 d, .nilIface].toArray))
    (ht : ContIn Tryd.prog Laid 42 [fracV n d] (.tuple [strV t, .int .i64 e].toArray)) : ContIn Tryd.prog Laid 40 [strV l] (ppV (e = 0 ∧ t = l) n d) := fun w hI => by
  refine enter0 Tryd.func40 rfl rfl rfl ?_
  repeat' (first
    | (refine YK.ofV (y_neNil0 (by rfl) (by kernel_rfl)) ?_)
    | (show YK _ _ _ _ _ _ _; first | refine YK.mk (y_callIn (hcut) (fun _ hw => hI.keep hw.ext) ⟨rfl, rfl, rfl⟩ (by decide +kernel)) ?_ | refine YK.mk (y_callA (a1) ⟨rfl, rfl⟩) ?_ | refine YK.mk (y_callA (a2) ⟨rfl, rfl⟩) ?_ | refine YK.mk (y_callIn (ht) (fun _ hw => hI.keep hw.ext) ⟨rfl, rfl⟩ (by decide +kernel)) ?_)
    | (show YK _ _ _ _ _ _ _; refine YK.ofV vAuto ?_)
    | (show VK _ _ _ _ _ _ _; refine VK.mk vAuto ?_)
    | (show RS _ _ _ _ _ _ _ _; first | (refine nxRS ?_) | (refine nxRS1 fun _ => ?_))
    | (show RM _ _ _ _ _ _ _ _ _ _; first | (refine nxRM ?_) | (refine nxRM1 fun _ => ?_))
    | (show YG _ _ _ _ _ _ _ _; refine YG.mk (fun hb => by (try (have hc := And.left hb; have hb := And.right hb; rw [hc])); (try rw [hb]); first | exact (y_callIn (hcut) (fun _ hw => hI.keep hw.ext) ⟨rfl, rfl, rfl⟩ (by decide +kernel)) | exact (y_callA (a1) ⟨rfl, rfl⟩) | exact (y_callA (a2) ⟨rfl, rfl⟩) | exact (y_callIn (ht) (fun _ hw => hI.keep hw.ext) ⟨rfl, rfl⟩ (by decide +kernel)) | exact V.y vAuto) ?_)
    | (show VG _ _ _ _ _ _ _ _; refine VG.mk (fun hb => by (try (have hc := And.left hb; have hb := And.right hb; rw [hc])); (try rw [hb]); exact vAuto) ?_)
    | (refine nxVS ?_)
    | (refine nxGS ?_)
    | (refine nxX ?_)
    | (refine G.condN rfl (fun hc => ?_) (fun hc => ?_) <;> (try first | exact False.elim hc | (exfalso; omega))))
  · refine X.ret (vs := [_, _]) rfl ⟨⟨_, _, _, _, rfl, (by exact memA), (by (repeat (first | exact .nil | apply LenIs.cons))), by decide +kernel, rfl⟩, rfl, rfl⟩ rfl (fun w hw => ⟨congrArg Ending.returned (pp_bad ?_), hw.ext⟩)
    rintro ⟨z1, z2⟩
    rcases hc with z | z
    · exact z z1
    · exact z z2
  · exact X.ret (vs := [_, _]) rfl ⟨⟨_, _, _, _, rfl, (by exact memA), (by (repeat (first | exact .nil | apply LenIs.cons))), by decide +kernel, rfl⟩, rfl, rfl⟩ rfl (fun w hw => ⟨congrArg Ending.returned (pp_good hc), hw.ext⟩)
theorem pp_ok0 {l x y t : List UInt8} {n d e : Int} (hcut : ContIn Tryd.prog Laid 55 [strV l, strV [47]] (.tuple [strV x, strV y, .bool false].toArray)) (a1 : Cont Tryd.prog 56 [strV x] (.tuple [.int .i64 n, .nilIface].toArray)) (a2 : Cont Tryd.prog 56 [strV [49]] (.tuple [.int .i64 d, .nilIface].toArray))
    (ht : ContIn Tryd.prog Laid 42 [fracV n d] (.tuple [strV t, .int .i64 e].toArray)) : ContIn Tryd.prog Laid 40 [strV l] (ppV (e = 0 ∧ t = l) n d) := fun w hI => by
  refine enter0 Tryd.func40 rfl rfl rfl ?_
  repeat' (first
    | (refine YK.ofV (y_neNil0 (by rfl) (by kernel_rfl)) ?_)
    | (show YK _ _ _ _ _ _ _; first | refine YK.mk (y_callIn (hcut) (fun _ hw => hI.keep hw.ext) ⟨rfl, rfl, rfl⟩ (by decide +kernel)) ?_ | refine YK.mk (y_callA (a1) ⟨rfl, rfl⟩) ?_ | refine YK.mk (y_callA (a2) ⟨rfl, rfl⟩) ?_ | refine YK.mk (y_callIn (ht) (fun _ hw => hI.keep hw.ext) ⟨rfl, rfl⟩ (by decide +kernel)) ?_)
    | (show YK _ _ _ _ _ _ _; refine YK.ofV vAuto ?_)
    | (show VK _ _ _ _ _ _ _; refine VK.mk vAuto ?_)
    | (show RS _ _ _ _ _ _ _ _; first | (refine nxRS ?_) | (refine nxRS1 fun _ => ?_))
    | (show RM _ _ _ _ _ _ _ _ _ _; first | (refine nxRM ?_) | (refine nxRM1 fun _ => ?_))
    | (show YG _ _ _ _ _ _ _ _; refine YG.mk (fun hb => by (try (have hc := And.left hb; have hb := And.right hb; rw [hc])); (try rw [hb]); first | exact (y_callIn (hcut) (fun _ hw => hI.keep hw.ext) ⟨rfl, rfl, rfl⟩ (by decide +kernel)) | exact (y_callA (a1) ⟨rfl, rfl⟩) | exact (y_callA (a2) ⟨rfl, rfl⟩) | exact (y_callIn (ht) (fun _ hw => hI.keep hw.ext) ⟨rfl, rfl⟩ (by decide +kernel)) | exact V.y vAuto) ?_)
    | (show VG _ _ _ _ _ _ _ _; refine VG.mk (fun hb => by (try (have hc := And.left hb; have hb := And.right hb; rw [hc])); (try rw [hb]); exact vAuto) ?_)
    | (refine nxVS ?_)
    | (refine nxGS ?_)
    | (refine nxX ?_)
    | (refine G.condN rfl (fun hc => ?_) (fun hc => ?_) <;> (try first | exact False.elim hc | (exfalso; omega))))
  · refine X.ret (vs := [_, _]) rfl ⟨⟨_, _, _, _, rfl, (by exact memA), (by (repeat (first | exact .nil | apply LenIs.cons))), by decide +kernel, rfl⟩, rfl, rfl⟩ rfl (fun w hw => ⟨congrArg Ending.returned (pp_bad ?_), hw.ext⟩)
    rintro ⟨z1, z2⟩
    rcases hc with z | z
    · exact z z1
    · exact z z2
  · exact X.ret (vs := [_, _]) rfl ⟨⟨_, _, _, _, rfl, (by exact memA), (by (repeat (first | exact .nil | apply LenIs.cons))), by decide +kernel, rfl⟩, rfl, rfl⟩ rfl (fun w hw => ⟨congrArg Ending.returned (pp_good hc), hw.ext⟩)
theorem pp_no1 {l x y : List UInt8} (hx : x.length ≤ 1000000) (hy : y.length ≤ 1000000) (hcut : ContIn Tryd.prog Laid 55 [strV l, strV [47]] (.tuple [strV x, strV y, .bool true].toArray)) (hno : ∀ n d, ¬ (Lib.atoiAll x = .ok n ∧ Lib.atoiAll y = .ok d)) : ContIn Tryd.prog Laid 40 [strV l] (.tuple [fracV 0 0, .int .i64 7].toArray) := fun w hI => by
  refine enter0 Tryd.func40 rfl rfl rfl ?_
  repeat' (first
    | (show RS _ _ _ _ _ _ _ (⟨some _, .call _, _, _, _, none⟩ :: _); refine RS.callI (atoi_c hx) ⟨rfl, rfl⟩ (fun _ hw => hI.keep hw.ext) ?_; rintro ⟨o0, v0⟩ ⟨bd0, e0⟩; dsimp only [List.cons_append, List.nil_append] at bd0 e0 ⊢)
    | (show RS _ _ _ _ _ _ _ (⟨some _, .call _, _, _, _, none⟩ :: _); refine RS.callI (atoi_c hy) ⟨rfl, rfl⟩ (fun _ hw => hI.keep hw.ext) ?_; rintro ⟨o1, v1⟩ ⟨bd1, e1⟩; dsimp only [List.cons_append, List.nil_append] at bd1 e1 ⊢)
    | (show YK _ _ _ _ _ ⟨_, .binOp .neq _ _ _ _, _, _, _, _⟩ _; refine YK.ofV (y_neErr (by rfl)) ?_)
    | (show YG _ _ _ _ _ _ ⟨_, .binOp .neq _ _ _ _, _, _, _, _⟩ _; refine YG.mk (fun hb => by (try (have hc := And.left hb; have hb := And.right hb; rw [hc])); (try rw [hb]); exact V.y (y_neErr (by rfl))) ?_)
    | (show YK _ _ _ _ _ _ _; first | refine YK.mk (y_callIn (hcut) (fun _ hw => hI.keep hw.ext) ⟨rfl, rfl, rfl⟩ (by decide +kernel)) ?_)
    | (show YK _ _ _ _ _ _ _; refine YK.ofV vAuto ?_)
    | (show VK _ _ _ _ _ _ _; refine VK.mk vAuto ?_)
    | (show RS _ _ _ _ _ _ _ _; first | (refine nxRS ?_) | (refine nxRS1 fun _ => ?_))
    | (show RM _ _ _ _ _ _ _ _ _ _; first | (refine nxRM ?_) | (refine nxRM1 fun _ => ?_))
    | (show YG _ _ _ _ _ _ _ _; refine YG.mk (fun hb => by (try (have hc := And.left hb; have hb := And.right hb; rw [hc])); (try rw [hb]); first | exact (y_callIn (hcut) (fun _ hw => hI.keep hw.ext) ⟨rfl, rfl, rfl⟩ (by decide +kernel)) | exact V.y vAuto) ?_)
    | (show VG _ _ _ _ _ _ _ _; refine VG.mk (fun hb => by (try (have hc := And.left hb; have hb := And.right hb; rw [hc])); (try rw [hb]); exact vAuto) ?_)
    | (refine nxVS ?_)
    | (refine nxGS ?_)
    | (refine nxX ?_)
    | (refine G.condN rfl (fun hc => ?_) (fun hc => ?_) <;> (try first | exact False.elim hc | (exfalso; omega))))
  · exact X.ret (vs := [_, _]) rfl ⟨⟨_, _, _, _, rfl, (by exact memA), (by (repeat (first | exact .nil | apply LenIs.cons))), by decide +kernel, rfl⟩, rfl, rfl⟩ rfl (fun w hw => ⟨rfl, hw.ext⟩)
  · exfalso
    obtain ⟨h1, h2⟩ := hc
    cases o0 with
    | some k => cases h1
    | none =>
      cases o1 with
      | some k => cases h2
      | none => exact hno v0 v1 ⟨e0, e1⟩
theorem pp_no0 {l x y : List UInt8} (hx : x.length ≤ 1000000) (hcut : ContIn Tryd.prog Laid 55 [strV l, strV [47]] (.tuple [strV x, strV y, .bool false].toArray)) (hno : ∀ n d, ¬ (Lib.atoiAll x = .ok n ∧ Lib.atoiAll [49] = .ok d)) : ContIn Tryd.prog Laid 40 [strV l] (.tuple [fracV 0 0, .int .i64 7].toArray) := fun w hI => by
  refine enter0 Tryd.func40 rfl rfl rfl ?_
  repeat' (first
    | (show RS _ _ _ _ _ _ _ (⟨some _, .call _, _, _, _, none⟩ :: _); refine RS.callI (atoi_c hx) ⟨rfl, rfl⟩ (fun _ hw => hI.keep hw.ext) ?_; rintro ⟨o0, v0⟩ ⟨bd0, e0⟩; dsimp only [List.cons_append, List.nil_append] at bd0 e0 ⊢)
    | (show RS _ _ _ _ _ _ _ (⟨some _, .call _, _, _, _, none⟩ :: _); refine RS.callI (atoi_c (l := [49]) (by decide)) ⟨rfl, rfl⟩ (fun _ hw => hI.keep hw.ext) ?_; rintro ⟨o1, v1⟩ ⟨bd1, e1⟩; dsimp only [List.cons_append, List.nil_append] at bd1 e1 ⊢)
    | (show YK _ _ _ _ _ ⟨_, .binOp .neq _ _ _ _, _, _, _, _⟩ _; refine YK.ofV (y_neErr (by rfl)) ?_)
    | (show YG _ _ _ _ _ _ ⟨_, .binOp .neq _ _ _ _, _, _, _, _⟩ _; refine YG.mk (fun hb => by (try (have hc := And.left hb; have hb := And.right hb; rw [hc])); (try rw [hb]); exact V.y (y_neErr (by rfl))) ?_)
    | (show YK _ _ _ _ _ _ _; first | refine YK.mk (y_callIn (hcut) (fun _ hw => hI.keep hw.ext) ⟨rfl, rfl, rfl⟩ (by decide +kernel)) ?_)
    | (show YK _ _ _ _ _ _ _; refine YK.ofV vAuto ?_)
    | (show VK _ _ _ _ _ _ _; refine VK.mk vAuto ?_)
    | (show RS _ _ _ _ _ _ _ _; first | (refine nxRS ?_) | (refine nxRS1 fun _ => ?_))
    | (show RM _ _ _ _ _ _ _ _ _ _; first | (refine nxRM ?_) | (refine nxRM1 fun _ => ?_))
    | (show YG _ _ _ _ _ _ _ _; refine YG.mk (fun hb => by (try (have hc := And.left hb; have hb := And.right hb; rw [hc])); (try rw [hb]); first | exact (y_callIn (hcut) (fun _ hw => hI.keep hw.ext) ⟨rfl, rfl, rfl⟩ (by decide +kernel)) | exact V.y vAuto) ?_)
    | (show VG _ _ _ _ _ _ _ _; refine VG.mk (fun hb => by (try (have hc := And.left hb; have hb := And.right hb; rw [hc])); (try rw [hb]); exact vAuto) ?_)
    | (refine nxVS ?_)
    | (refine nxGS ?_)
    | (refine nxX ?_)
    | (refine G.condN rfl (fun hc => ?_) (fun hc => ?_) <;> (try first | exact False.elim hc | (exfalso; omega))))
  · exact X.ret (vs := [_, _]) rfl ⟨⟨_, _, _, _, rfl, (by exact memA), (by (repeat (first | exact .nil | apply LenIs.cons))), by decide +kernel, rfl⟩, rfl, rfl⟩ rfl (fun w hw => ⟨rfl, hw.ext⟩)
  · exfalso
    obtain ⟨h1, h2⟩ := hc
    cases o0 with
    | some k => cases h1
    | none =>
      cases o1 with
      | some k => cases h2
      | none => exact hno v0 v1 ⟨e0, e1⟩

theorem cut_bd (l : List UInt8) : (Lib.cut l [47]).1.length ≤ l.length ∧ (Lib.cut l [47]).2.1.length ≤ l.length := by
  unfold Lib.cut
  split
  · exact ⟨by rw [List.length_take]; omega, by rw [List.length_drop]; omega⟩
  · exact ⟨Nat.le_refl _, Nat.zero_le _⟩
theorem cut_txt {a c : Int} (hv : validF a c = true) : (Lib.cut (txtF a c) [47]).1 = Lib.itoa a ∧ (c = 1 ∧ (Lib.cut (txtF a c) [47]).2.2 = false ∨ (Lib.cut (txtF a c) [47]).2.2 = true ∧ (Lib.cut (txtF a c) [47]).2.1 = Lib.itoa c) := by
  have hn : (47 : UInt8) ∉ Lib.itoa a := itoa_not (by decide) (by decide)
  unfold txtF
  split
  next h => rw [cut_not hn]; exact ⟨rfl, .inl ⟨h, rfl⟩⟩
  next h => rw [cut_at _ hn]; exact ⟨rfl, .inr ⟨rfl, rfl⟩⟩
theorem textI_c {n d : Int} (h : J64 n ∧ J64 d) : ContIn Tryd.prog Laid 42 [fracV n d] (.tuple [strV (textP n d).1, .int .i64 (textP n d).2].toArray) := fun w hI => Text_c h w (LaidT.of hI)
theorem textP_ok {n d : Int} {l : List UInt8} (h1 : (textP n d).2 = 0) (h2 : (textP n d).1 = l) : validF n d = true ∧ txtF n d = l := by
  unfold textP at h1 h2
  rcases vcases n d with hv | hv
  · rw [if_neg (by rw [hv]; decide)] at h1; cases h1
  · rw [if_pos hv] at h2; exact ⟨hv, h2⟩
theorem textP_of {n d : Int} (hv : validF n d = true) : textP n d = (txtF n d, 0) := by unfold textP; rw [if_pos hv]
abbrev ReadsE (l : List UInt8) (n d e : Int) : Prop := (e = 0 → validF n d = true ∧ txtF n d = l) ∧ (e ≠ 0 → e = 7 ∧ n = 0 ∧ d = 0 ∧ ∀ a c, validF a c = true → txtF a c ≠ l)
theorem readsE_of {l : List UInt8} {n d : Int} {C : Prop} [Decidable C] (h1 : C → validF n d = true ∧ txtF n d = l) (h2 : ∀ a c, validF a c = true → txtF a c = l → C) : ReadsE l (if C then n else 0) (if C then d else 0) (if C then 0 else 7) := by
  by_cases hC : C
  · rw [if_pos hC, if_pos hC, if_pos hC]
    exact ⟨fun _ => h1 hC, fun h => absurd rfl h⟩
  · rw [if_neg hC, if_neg hC, if_neg hC]
    exact ⟨fun h => (by cases h), fun _ => ⟨rfl, rfl, rfl, fun a c hv he => hC (h2 a c hv he)⟩⟩
theorem parse_c {l : List UInt8} (hl : l.length ≤ 1000) : ∃ n d e, ContIn Tryd.prog Laid 40 [strV l] (.tuple [fracV n d, .int .i64 e].toArray) ∧ ReadsE l n d e := by
  have hcut := cut_c l [47] (by omega)
  have hbd := cut_bd l
  have key : ∀ a c, validF a c = true → txtF a c = l → (Lib.cut l [47]).1 = Lib.itoa a ∧ (c = 1 ∧ (Lib.cut l [47]).2.2 = false ∨ (Lib.cut l [47]).2.2 = true ∧ (Lib.cut l [47]).2.1 = Lib.itoa c) := fun a c hv he => he ▸ cut_txt hv
  generalize Lib.cut l [47] = q at hcut hbd key
  obtain ⟨x, y, b⟩ := q
  dsimp only at hcut hbd key
  have at1 : Lib.atoiAll [49] = .ok 1 := by decide
  cases b with
  | true =>
    by_cases hok : ∃ n d, Lib.atoiAll x = .ok n ∧ Lib.atoiAll y = .ok d
    · obtain ⟨n, d, h1, h2⟩ := hok
      refine ⟨_, _, _, pp_ok1 hcut (atoi_ok_c (by omega) h1) (atoi_ok_c (by omega) h2) (textI_c ⟨atoi_bd h1, atoi_bd h2⟩), readsE_of (fun h => textP_ok h.1 h.2) (fun a c hv he => ?_)⟩
      obtain ⟨k1, k2⟩ := key a c hv he
      have bd := validF_bd hv
      rcases k2 with ⟨_, k2⟩ | ⟨_, k2⟩
      · cases k2
      · rw [k1, atoi_itoa (by omega)] at h1
        rw [k2, atoi_itoa (by omega)] at h2
        cases h1
        cases h2
        rw [textP_of hv]; exact ⟨rfl, he⟩
    · refine ⟨_, _, _, pp_no1 (by omega) (by omega) hcut (fun n d h => hok ⟨n, d, h⟩), fun h => (by cases h), fun _ => ⟨rfl, rfl, rfl, fun a c hv he => hok ?_⟩⟩
      obtain ⟨k1, k2⟩ := key a c hv he
      have bd := validF_bd hv
      rcases k2 with ⟨_, k2⟩ | ⟨_, k2⟩
      · cases k2
      · exact ⟨a, c, by rw [k1, atoi_itoa (by omega)], by rw [k2, atoi_itoa (by omega)]⟩
  | false =>
    by_cases hok : ∃ n, Lib.atoiAll x = .ok n
    · obtain ⟨n, h1⟩ := hok
      refine ⟨_, _, _, pp_ok0 hcut (atoi_ok_c (by omega) h1) (atoi_ok_c (l := [49]) (by decide) at1) (textI_c ⟨atoi_bd h1, by decide⟩), readsE_of (fun h => textP_ok h.1 h.2) (fun a c hv he => ?_)⟩
      obtain ⟨k1, k2⟩ := key a c hv he
      have bd := validF_bd hv
      rcases k2 with ⟨k3, k2⟩ | ⟨k2, _⟩
      · rw [k1, atoi_itoa (by omega)] at h1
        cases h1
        subst k3
        rw [textP_of hv]; exact ⟨rfl, he⟩
      · cases k2
    · refine ⟨_, _, _, pp_no0 (by omega) hcut (fun n d h => hok ⟨n, h.1⟩), fun h => (by cases h), fun _ => ⟨rfl, rfl, rfl, fun a c hv he => hok ?_⟩⟩
      obtain ⟨k1, k2⟩ := key a c hv he
      have bd := validF_bd hv
      exact ⟨a, by rw [k1, atoi_itoa (by omega)]⟩
theorem txtF_inj {a b c d : Int} (h1 : validF a b = true) (h2 : validF c d = true) (h : txtF a b = txtF c d) : a = c ∧ b = d := by
  obtain ⟨k1, k2⟩ := cut_txt h1
  obtain ⟨k3, k4⟩ := cut_txt h2
  have b1 := validF_bd h1
  have b2 := validF_bd h2
  rw [h] at k1 k2
  have e1 : Lib.itoa a = Lib.itoa c := k1.symm.trans k3
  have e2 := congrArg Lib.atoiAll e1
  rw [atoi_itoa (by omega), atoi_itoa (by omega)] at e2
  cases e2
  refine ⟨rfl, ?_⟩
  rcases k2 with ⟨g1, g2⟩ | ⟨g1, g2⟩ <;> rcases k4 with ⟨g3, g4⟩ | ⟨g3, g4⟩
  · rw [g1, g3]
  · rw [g2] at g3; cases g3
  · rw [g1] at g4; cases g4
  · have e3 := congrArg Lib.atoiAll (g2.symm.trans g4)
    rw [atoi_itoa (by omega), atoi_itoa (by omega)] at e3
    cases e3; rfl
theorem awakeI_c : ContIn Tryd.prog Laid 12 [] (.bool true) := fun w h => awake3_c w (LaidT.of h)
theorem rt_long {a b : Int} {l : List UInt8} (hl : 200 < l.length) : ContIn Tryd.prog Laid 11 [fracV a b, strV l] (.bool true) := fun w hI => by
  refine enter0 Tryd.func11 rfl rfl rfl ?_
  repeat' (first
    | (show YK _ _ _ _ _ _ _; first | refine YK.mk (y_callIn (awakeI_c) (fun _ hw => hI.keep hw.ext) rfl (by decide +kernel)) ?_)
    | (show YK _ _ _ _ _ _ _; refine YK.ofV vAuto ?_)
    | (show VK _ _ _ _ _ _ _; refine VK.mk vAuto ?_)
    | (show RS _ _ _ _ _ _ _ _; first | (refine nxRS ?_) | (refine nxRS1 fun _ => ?_))
    | (show RM _ _ _ _ _ _ _ _ _ _; first | (refine nxRM ?_) | (refine nxRM1 fun _ => ?_))
    | (show YG _ _ _ _ _ _ _ _; refine YG.mk (fun hb => by (try (have hc := And.left hb; have hb := And.right hb; rw [hc])); (try rw [hb]); first | exact (y_callIn (awakeI_c) (fun _ hw => hI.keep hw.ext) rfl (by decide +kernel)) | exact V.y vAuto) ?_)
    | (show VG _ _ _ _ _ _ _ _; refine VG.mk (fun hb => by (try (have hc := And.left hb; have hb := And.right hb; rw [hc])); (try rw [hb]); exact vAuto) ?_)
    | (refine nxVS ?_)
    | (refine nxGS ?_)
    | (refine nxX ?_)
    | (refine G.condN rfl (fun hc => ?_) (fun hc => ?_) <;> (try first | exact False.elim hc | (exfalso; omega))))
  exact X.ret (vs := [_]) rfl ⟨rfl, rfl⟩ rfl (fun w hw => ⟨rfl, hw.ext⟩)
/-- What the two Parses read agrees: either both the same fraction, or neither one. -/
theorem rt_bad {a b n d e : Int} {o : Bool} {l t : List UInt8} (hl : l.length ≤ 200) (p1 : ContIn Tryd.prog Laid 40 [strV l] (.tuple [fracV n d, .int .i64 e].toArray)) (p2 : Cont Tryd.prog 41 [strV l] (.tuple [fracV n d, .bool o].toArray)) (ho : o = decide (e = 0)) (he : e = 0 ∨ e = 7)
    (p3 : ContIn Tryd.prog Laid 42 [fracV a b] (.tuple [strV [], .int .i64 1].toArray)) (p4 : Cont Tryd.prog 16 [fracV a b] (.bool false)) : ContIn Tryd.prog Laid 11 [fracV a b, strV l] (.bool true) := fun w hI => by
  refine enter0 Tryd.func11 rfl rfl rfl ?_
  repeat' (first
    | (show YK _ _ _ _ _ _ _; first | refine YK.mk (y_callIn (awakeI_c) (fun _ hw => hI.keep hw.ext) rfl (by decide +kernel)) ?_ | refine YK.mk (y_callIn (p1) (fun _ hw => hI.keep hw.ext) ⟨rfl, rfl⟩ (by decide +kernel)) ?_ | refine YK.mk (y_callA (p2) ⟨rfl, rfl⟩) ?_ | refine YK.mk (y_callIn (p3) (fun _ hw => hI.keep hw.ext) ⟨rfl, rfl⟩ (by decide +kernel)) ?_ | refine YK.mk (y_callA (p4) ⟨rfl, rfl⟩) ?_)
    | (show YK _ _ _ _ _ _ _; refine YK.ofV vAuto ?_)
    | (show VK _ _ _ _ _ _ _; refine VK.mk vAuto ?_)
    | (show RS _ _ _ _ _ _ _ _; first | (refine nxRS ?_) | (refine nxRS1 fun _ => ?_))
    | (show RM _ _ _ _ _ _ _ _ _ _; first | (refine nxRM ?_) | (refine nxRM1 fun _ => ?_))
    | (show YG _ _ _ _ _ _ _ _; refine YG.mk (fun hb => by (try (have hc := And.left hb; have hb := And.right hb; rw [hc])); (try rw [hb]); first | exact (y_callIn (awakeI_c) (fun _ hw => hI.keep hw.ext) rfl (by decide +kernel)) | exact (y_callIn (p1) (fun _ hw => hI.keep hw.ext) ⟨rfl, rfl⟩ (by decide +kernel)) | exact (y_callA (p2) ⟨rfl, rfl⟩) | exact (y_callIn (p3) (fun _ hw => hI.keep hw.ext) ⟨rfl, rfl⟩ (by decide +kernel)) | exact (y_callA (p4) ⟨rfl, rfl⟩) | exact V.y vAuto) ?_)
    | (show VG _ _ _ _ _ _ _ _; refine VG.mk (fun hb => by (try (have hc := And.left hb; have hb := And.right hb; rw [hc])); (try rw [hb]); exact vAuto) ?_)
    | (refine nxVS ?_)
    | (refine nxGS ?_)
    | (refine nxX ?_)
    | (refine G.condN rfl (fun hc => ?_) (fun hc => ?_) <;> (try first | exact False.elim hc | (exfalso; omega))))
  · exfalso
    subst ho
    rcases he with rfl | rfl <;> simp at hc
  · refine X.ret (vs := [_]) rfl ⟨rfl, rfl⟩ rfl (fun w hw => ⟨ret_bool ?_, hw.ext⟩)
    simp
theorem rt_good {a b n d e : Int} {o : Bool} {l t : List UInt8} (hl : l.length ≤ 200) (p1 : ContIn Tryd.prog Laid 40 [strV l] (.tuple [fracV n d, .int .i64 e].toArray)) (p2 : Cont Tryd.prog 41 [strV l] (.tuple [fracV n d, .bool o].toArray)) (ho : o = decide (e = 0)) (he : e = 0 ∨ e = 7)
    (p3 : ContIn Tryd.prog Laid 42 [fracV a b] (.tuple [strV t, .int .i64 0].toArray)) (p4 : Cont Tryd.prog 16 [fracV a b] (.bool true)) (p5 : ContIn Tryd.prog Laid 40 [strV t] (.tuple [fracV a b, .int .i64 0].toArray)) (p6 : Cont Tryd.prog 43 [fracV a b] (strV t)) : ContIn Tryd.prog Laid 11 [fracV a b, strV l] (.bool true) := fun w hI => by
  refine enter0 Tryd.func11 rfl rfl rfl ?_
  repeat' (first
    | (show YK _ _ _ _ _ _ _; first | refine YK.mk (y_callIn (awakeI_c) (fun _ hw => hI.keep hw.ext) rfl (by decide +kernel)) ?_ | refine YK.mk (y_callIn (p1) (fun _ hw => hI.keep hw.ext) ⟨rfl, rfl⟩ (by decide +kernel)) ?_ | refine YK.mk (y_callA (p2) ⟨rfl, rfl⟩) ?_ | refine YK.mk (y_callIn (p3) (fun _ hw => hI.keep hw.ext) ⟨rfl, rfl⟩ (by decide +kernel)) ?_ | refine YK.mk (y_callA (p4) ⟨rfl, rfl⟩) ?_ | refine YK.mk (y_callIn (p5) (fun _ hw => hI.keep hw.ext) ⟨rfl, rfl⟩ (by decide +kernel)) ?_ | refine YK.mk (y_callA (p6) ⟨rfl, rfl⟩) ?_)
    | (show YK _ _ _ _ _ _ _; refine YK.ofV vAuto ?_)
    | (show VK _ _ _ _ _ _ _; refine VK.mk vAuto ?_)
    | (show RS _ _ _ _ _ _ _ _; first | (refine nxRS ?_) | (refine nxRS1 fun _ => ?_))
    | (show RM _ _ _ _ _ _ _ _ _ _; first | (refine nxRM ?_) | (refine nxRM1 fun _ => ?_))
    | (show YG _ _ _ _ _ _ _ _; refine YG.mk (fun hb => by (try (have hc := And.left hb; have hb := And.right hb; rw [hc])); (try rw [hb]); first | exact (y_callIn (awakeI_c) (fun _ hw => hI.keep hw.ext) rfl (by decide +kernel)) | exact (y_callIn (p1) (fun _ hw => hI.keep hw.ext) ⟨rfl, rfl⟩ (by decide +kernel)) | exact (y_callA (p2) ⟨rfl, rfl⟩) | exact (y_callIn (p3) (fun _ hw => hI.keep hw.ext) ⟨rfl, rfl⟩ (by decide +kernel)) | exact (y_callA (p4) ⟨rfl, rfl⟩) | exact (y_callIn (p5) (fun _ hw => hI.keep hw.ext) ⟨rfl, rfl⟩ (by decide +kernel)) | exact (y_callA (p6) ⟨rfl, rfl⟩) | exact V.y vAuto) ?_)
    | (show VG _ _ _ _ _ _ _ _; refine VG.mk (fun hb => by (try (have hc := And.left hb; have hb := And.right hb; rw [hc])); (try rw [hb]); exact vAuto) ?_)
    | (refine nxVS ?_)
    | (refine nxGS ?_)
    | (refine nxX ?_)
    | (refine G.condN rfl (fun hc => ?_) (fun hc => ?_) <;> (try first | exact False.elim hc | (exfalso; omega))))
  · exfalso
    subst ho
    rcases he with rfl | rfl <;> simp at hc
  · refine X.ret (vs := [_]) rfl ⟨rfl, rfl⟩ rfl (fun w hw => ⟨ret_bool ?_, hw.ext⟩)
    simp [eqCells, vEq]
theorem ratioTexts_c {a b : Int} {l : List UInt8} (h : J64 a ∧ J64 b) : ContIn Tryd.prog Laid 11 [fracV a b, strV l] (.bool true) := by
  rcases Nat.lt_or_ge 200 l.length with hl | hl
  · exact rt_long hl
  obtain ⟨n, d, e, p1, r1, r2⟩ := parse_c (l := l) (by omega)
  obtain ⟨n', d', o, p2, r3, r4⟩ := rparse_c (l := l) (by omega)
  have same : n' = n ∧ d' = d ∧ o = decide (e = 0) ∧ (e = 0 ∨ e = 7) := by
    by_cases he : e = 0
    · obtain ⟨v1, t1⟩ := r1 he
      cases o with
      | true =>
        obtain ⟨v2, t2⟩ := r3 rfl
        obtain ⟨g1, g2⟩ := txtF_inj v2 v1 (t2.trans t1.symm)
        exact ⟨g1, g2, by simp [he], .inl he⟩
      | false => exact absurd t1 ((r4 rfl).2.2 n d v1)
    · obtain ⟨e7, n0, d0, hno⟩ := r2 he
      cases o with
      | true =>
        obtain ⟨v2, t2⟩ := r3 rfl
        exact absurd t2 (hno _ _ v2)
      | false =>
        obtain ⟨z1, z2, _⟩ := r4 rfl
        exact ⟨by rw [z1, n0], by rw [z2, d0], by simp [he], .inr e7⟩
  obtain ⟨rfl, rfl, ho, he⟩ := same
  have p3 := textI_c h
  have p4 := valid3_c h
  rcases vcases a b with hv | hv
  · rw [hv] at p4
    rw [show textP a b = ([], 1) by unfold textP; rw [if_neg (by rw [hv]; decide)]] at p3
    exact rt_bad (t := l) hl p1 p2 ho he p3 p4
  · have bd := validF_bd hv
    rw [hv] at p4
    rw [textP_of hv] at p3
    obtain ⟨n2, d2, e2, p5, s1, s2⟩ := parse_c (l := txtF a b) (Nat.le_trans (txtF_len (by omega)) (by decide))
    have h0 : e2 = 0 := Classical.byContradiction fun g => (s2 g).2.2.2 a b hv rfl
    subst h0
    obtain ⟨v2, t2⟩ := s1 rfl
    obtain ⟨rfl, rfl⟩ := txtF_inj v2 hv t2
    exact rt_good hl p1 p2 ho he p3 p4 p5 (rtext_c (by omega))
end Go.Proofs.YtnanempkkeokbaaDoor
