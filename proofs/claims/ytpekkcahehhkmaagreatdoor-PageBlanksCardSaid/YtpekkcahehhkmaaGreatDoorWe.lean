/- Joined texts: LawF13, LawE13, LawC13, LawT13. -/
import Derived.Test.YtpekkcahehhkmaaGreatDoorWd
/- PageForms: the walk of the law. -/
set_option linter.unusedVariables false
set_option maxHeartbeats 4000000
namespace Go.Proofs.YtpekkcahehhkmaaGreatDoor
open Go.RowKit

theorem fit_big {l : List TrkT} (h : fitT l) (hl : l.length ≤ 14) : bigT l := ⟨by omega, fun t ht => by have := h t ht; omega⟩
theorem sameT_refl (t : TrkT) : sameT t t = true := by unfold sameT; simp
theorem sameL_refl (l : List TrkT) : sameL l l = true := sameL_t rfl fun k _ => sameT_refl _
theorem dateQ_refl (y m d : Int) : dateQ y m d y m d = true := by unfold dateQ; simp
abbrev fmP (v u : Value) (l l' : List TrkT) (w : World) : Prop := Laid w ∧ PgP v l w ∧ PgP u l' w
section
variable {y m d y' m' d' : Int} {v u : Value} {l l' : List TrkT} {s : List UInt8}
theorem forms_no {c1 c2 : Bool} (q1 : ContIn Tryz.prog (PgP v l) 9 [pgV y m d v] (.bool c1)) (q2 : ContIn Tryz.prog (PgP u l') 9 [pgV y' m' d' u] (.bool c2)) (hno : c1 = true ∨ c2 = true ∨ 100 < s.length) :
    ContIn Tryz.prog (fmP v u l l') 3 [pgV y m d v, pgV y' m' d' u, strV s] (.bool true) := fun w hw0 => by
  have hI := hw0.1
  have h1 := hw0.2.1
  have h2 := hw0.2.2
  refine enter Tryz.func3 rfl rfl rfl (Hp := []) (fun h hm => by cases hm) ?_
  repeat' (first
    | (show YK _ _ _ _ _ ⟨_, .call { callee := .builtin .len, args := _, argTypes := #[9] }, _, _, _, _⟩ _; refine YK.ofV (y_lenS (by rfl) StrTy.is) ?_)
    | (show VK _ _ _ _ _ ⟨_, .call { callee := .builtin .len, args := _, argTypes := #[9] }, _, _, _, _⟩ _; refine VK.mk (y_lenS (by rfl) StrTy.is) ?_)
    | (show YG _ _ _ _ _ _ ⟨_, .call { callee := .builtin .len, args := _, argTypes := #[9] }, _, _, _, _⟩ _; refine YG.mk (fun hb => by (try (have hc := And.left hb; have hb := And.right hb; rw [hc])); (try rw [hb]); exact V.y (y_lenS (by rfl) StrTy.is)) ?_)
    | (show VG _ _ _ _ _ _ ⟨_, .call { callee := .builtin .len, args := _, argTypes := #[9] }, _, _, _, _⟩ _; refine VG.mk (fun hb => by (try (have hc := And.left hb; have hb := And.right hb; rw [hc])); (try rw [hb]); exact y_lenS (by rfl) StrTy.is) ?_)
    | (exfalso; rcases hno with z | z | z; (rw [z] at hc; exact absurd hc.1.1 (by decide)); (rw [z] at hc; exact absurd hc.1.2 (by decide)); omega)
    | (show YK _ _ _ _ _ ⟨some 13, .call { callee := .value (.func 9), args := _, argTypes := _ }, _, _, _, _⟩ _; refine YK.mk (y_callIn (q1) (fun w hw => h1.keep hw.ext) ⟨rfl, rfl⟩ (by decide +kernel)) ?_)
    | (show YG _ _ _ _ _ _ ⟨some 13, .call { callee := .value (.func 9), args := _, argTypes := _ }, _, _, _, _⟩ _; refine YG.mk (fun hb => by (try (have hc := And.left hb; have hb := And.right hb; rw [hc])); (try rw [hb]); exact y_callIn (q1) (fun w hw => h1.keep hw.ext) ⟨rfl, rfl⟩ (by decide +kernel)) ?_)
    | (show YK _ _ _ _ _ ⟨some 16, .call { callee := .value (.func 9), args := _, argTypes := _ }, _, _, _, _⟩ _; refine YK.mk (y_callIn (q2) (fun w hw => h2.keep hw.ext) ⟨rfl, rfl⟩ (by decide +kernel)) ?_)
    | (show YG _ _ _ _ _ _ ⟨some 16, .call { callee := .value (.func 9), args := _, argTypes := _ }, _, _, _, _⟩ _; refine YG.mk (fun hb => by (try (have hc := And.left hb; have hb := And.right hb; rw [hc])); (try rw [hb]); exact y_callIn (q2) (fun w hw => h2.keep hw.ext) ⟨rfl, rfl⟩ (by decide +kernel)) ?_)
    | (show YK _ _ _ _ _ _ _; first | refine YK.mk (y_callIn (awake13_c) (fun _ hw => hI.keep hw.ext) rfl (by decide +kernel)) ?_)
    | (show YK _ _ _ _ _ _ _; refine YK.ofV vAuto ?_)
    | (show VK _ _ _ _ _ _ _; refine VK.mk vAuto ?_)
    | (show RS _ _ _ _ _ _ _ _; first | (refine nxRS ?_) | (refine nxRS1 fun _ => ?_))
    | (show RM _ _ _ _ _ _ _ _ _ _; first | (refine nxRM ?_) | (refine nxRM1 fun _ => ?_))
    | (show YG _ _ _ _ _ _ _ _; refine YG.mk (fun hb => by (try (have hc := And.left hb; have hb := And.right hb; rw [hc])); (try rw [hb]); first | exact (y_callIn (awake13_c) (fun _ hw => hI.keep hw.ext) rfl (by decide +kernel)) | exact V.y vAuto) ?_)
    | (show VG _ _ _ _ _ _ _ _; refine VG.mk (fun hb => by (try (have hc := And.left hb; have hb := And.right hb; rw [hc])); (try rw [hb]); exact vAuto) ?_)
    | (refine nxVS ?_)
    | (refine nxGS ?_)
    | (refine G.mixedA 6 [.go 0, .go 2, .go 1, .go 3, .go 4, .go 5, .go 6, .go 7, .go 9, .go 10, .go 8, .go 11, .go 12, .go 13, .go 14, .go 15, .go 16, .go 17, .go 18, .go 19] ?_)
    | (refine nxX ?_)
    | (refine G.condN rfl (fun hc => ?_) (fun hc => ?_) <;> (try first | exact False.elim hc | (exfalso; omega))))
  exact X.ret (vs := [_]) rfl ⟨rfl, rfl⟩ rfl (fun w hw => ⟨rfl, hw.ext⟩)
theorem forms_f (hl : l.length ≤ 14) (hl' : l'.length ≤ 14) (hf : fitT l) (hf' : fitT l') (hs : s.length ≤ 100) (hb : pageB y m d l = false)
    (q1 : ContIn Tryz.prog (PgP v l) 9 [pgV y m d v] (.bool false)) (q2 : ContIn Tryz.prog (PgP u l') 9 [pgV y' m' d' u] (.bool false)) :
    ContIn Tryz.prog (fmP v u l l') 3 [pgV y m d v, pgV y' m' d' u, strV s] (.bool true) := fun w hw0 => by
  have hI := hw0.1
  have h1 := hw0.2.1
  have h2 := hw0.2.2
  have q3 := pFind_c (y := y) (m := m) (d := d) (v := v) s (fun _ => hf)
  have q4 := pvalid_c (y := y) (m := m) (d := d) (v := v) (fun _ => hf)
  have q5 := rvalidP_c (y := y) (m := m) (d := d) (v := v) (fun _ => hf)
  have q6 := psame_c (y := y) (m := m) (d := d) (y' := y') (m' := m') (d' := d') (v := v) (u := u) (fit_big hf hl) (fit_big hf' hl')
  have q7 := rsame_c (y := y) (m := m) (d := d) (y' := y') (m' := m') (d' := d') (v := v) (u := u) (fit_big hf hl) (fit_big hf' hl')
  have q8 := psame_c (y := y) (m := m) (d := d) (y' := y) (m' := m) (d' := d) (v := v) (u := v) (fit_big hf hl) (fit_big hf hl)
  rw [dateQ_refl, sameL_refl] at q8
  rw [hb] at q3 q4 q5
  generalize (dateQ y m d y' m' d' && sameL l l') = S at q6 q7
  refine enter Tryz.func3 rfl rfl rfl (Hp := []) (fun h hm => by cases hm) ?_
  repeat' (first
    | (show YK _ _ _ _ _ ⟨_, .call { callee := .builtin .len, args := _, argTypes := #[9] }, _, _, _, _⟩ _; refine YK.ofV (y_lenS (by rfl) StrTy.is) ?_)
    | (show VK _ _ _ _ _ ⟨_, .call { callee := .builtin .len, args := _, argTypes := #[9] }, _, _, _, _⟩ _; refine VK.mk (y_lenS (by rfl) StrTy.is) ?_)
    | (show YG _ _ _ _ _ _ ⟨_, .call { callee := .builtin .len, args := _, argTypes := #[9] }, _, _, _, _⟩ _; refine YG.mk (fun hb => by (try (have hc := And.left hb; have hb := And.right hb; rw [hc])); (try rw [hb]); exact V.y (y_lenS (by rfl) StrTy.is)) ?_)
    | (show VG _ _ _ _ _ _ ⟨_, .call { callee := .builtin .len, args := _, argTypes := #[9] }, _, _, _, _⟩ _; refine VG.mk (fun hb => by (try (have hc := And.left hb; have hb := And.right hb; rw [hc])); (try rw [hb]); exact y_lenS (by rfl) StrTy.is) ?_)
    | (exfalso; simp at hc; done)
    | (show YK _ _ _ _ _ ⟨some 13, .call { callee := .value (.func 9), args := _, argTypes := _ }, _, _, _, _⟩ _; refine YK.mk (y_callIn (q1) (fun w hw => h1.keep hw.ext) ⟨rfl, rfl⟩ (by decide +kernel)) ?_)
    | (show YG _ _ _ _ _ _ ⟨some 13, .call { callee := .value (.func 9), args := _, argTypes := _ }, _, _, _, _⟩ _; refine YG.mk (fun hb => by (try (have hc := And.left hb; have hb := And.right hb; rw [hc])); (try rw [hb]); exact y_callIn (q1) (fun w hw => h1.keep hw.ext) ⟨rfl, rfl⟩ (by decide +kernel)) ?_)
    | (show YK _ _ _ _ _ ⟨some 16, .call { callee := .value (.func 9), args := _, argTypes := _ }, _, _, _, _⟩ _; refine YK.mk (y_callIn (q2) (fun w hw => h2.keep hw.ext) ⟨rfl, rfl⟩ (by decide +kernel)) ?_)
    | (show YG _ _ _ _ _ _ ⟨some 16, .call { callee := .value (.func 9), args := _, argTypes := _ }, _, _, _, _⟩ _; refine YG.mk (fun hb => by (try (have hc := And.left hb; have hb := And.right hb; rw [hc])); (try rw [hb]); exact y_callIn (q2) (fun w hw => h2.keep hw.ext) ⟨rfl, rfl⟩ (by decide +kernel)) ?_)
    | (show YK _ _ _ _ _ ⟨_, .call { callee := .value (.func 10), args := _, argTypes := _ }, _, _, _, _⟩ _; refine YK.mk (y_callIn (q3) (fun w hw => h1.keep hw.ext) ⟨rfl, rfl, rfl⟩ (by decide +kernel)) ?_)
    | (show YG _ _ _ _ _ _ ⟨_, .call { callee := .value (.func 10), args := _, argTypes := _ }, _, _, _, _⟩ _; refine YG.mk (fun hb => by (try (have hc := And.left hb; have hb := And.right hb; rw [hc])); (try rw [hb]); exact y_callIn (q3) (fun w hw => h1.keep hw.ext) ⟨rfl, rfl, rfl⟩ (by decide +kernel)) ?_)
    | (show YK _ _ _ _ _ ⟨_, .call { callee := .value (.func 11), args := _, argTypes := _ }, _, _, _, _⟩ _; refine YK.mk (y_callIn (q4) (fun w hw => h1.keep hw.ext) ⟨rfl, rfl⟩ (by decide +kernel)) ?_)
    | (show YG _ _ _ _ _ _ ⟨_, .call { callee := .value (.func 11), args := _, argTypes := _ }, _, _, _, _⟩ _; refine YG.mk (fun hb => by (try (have hc := And.left hb; have hb := And.right hb; rw [hc])); (try rw [hb]); exact y_callIn (q4) (fun w hw => h1.keep hw.ext) ⟨rfl, rfl⟩ (by decide +kernel)) ?_)
    | (show YK _ _ _ _ _ ⟨_, .call { callee := .value (.func 12), args := _, argTypes := _ }, _, _, _, _⟩ _; refine YK.mk (y_callIn (q5) (fun w hw => h1.keep hw.ext) ⟨rfl, rfl⟩ (by decide +kernel)) ?_)
    | (show YG _ _ _ _ _ _ ⟨_, .call { callee := .value (.func 12), args := _, argTypes := _ }, _, _, _, _⟩ _; refine YG.mk (fun hb => by (try (have hc := And.left hb; have hb := And.right hb; rw [hc])); (try rw [hb]); exact y_callIn (q5) (fun w hw => h1.keep hw.ext) ⟨rfl, rfl⟩ (by decide +kernel)) ?_)
    | (show YK _ _ _ _ _ ⟨some 37, .call { callee := .value (.func 13), args := _, argTypes := _ }, _, _, _, _⟩ _; refine YK.mk (y_callIn (q6) (fun w hw => ⟨h1.keep hw.ext, h2.keep hw.ext⟩) ⟨rfl, rfl, rfl⟩ (by decide +kernel)) ?_)
    | (show YG _ _ _ _ _ _ ⟨some 37, .call { callee := .value (.func 13), args := _, argTypes := _ }, _, _, _, _⟩ _; refine YG.mk (fun hb => by (try (have hc := And.left hb; have hb := And.right hb; rw [hc])); (try rw [hb]); exact y_callIn (q6) (fun w hw => ⟨h1.keep hw.ext, h2.keep hw.ext⟩) ⟨rfl, rfl, rfl⟩ (by decide +kernel)) ?_)
    | (show YK _ _ _ _ _ ⟨some 40, .call { callee := .value (.func 14), args := _, argTypes := _ }, _, _, _, _⟩ _; refine YK.mk (y_callIn (q7) (fun w hw => ⟨h1.keep hw.ext, h2.keep hw.ext⟩) ⟨rfl, rfl, rfl⟩ (by decide +kernel)) ?_)
    | (show YG _ _ _ _ _ _ ⟨some 40, .call { callee := .value (.func 14), args := _, argTypes := _ }, _, _, _, _⟩ _; refine YG.mk (fun hb => by (try (have hc := And.left hb; have hb := And.right hb; rw [hc])); (try rw [hb]); exact y_callIn (q7) (fun w hw => ⟨h1.keep hw.ext, h2.keep hw.ext⟩) ⟨rfl, rfl, rfl⟩ (by decide +kernel)) ?_)
    | (show YK _ _ _ _ _ ⟨some 46, .call { callee := .value (.func 13), args := _, argTypes := _ }, _, _, _, _⟩ _; refine YK.mk (y_callIn (q8) (fun w hw => ⟨h1.keep hw.ext, h1.keep hw.ext⟩) ⟨rfl, rfl, rfl⟩ (by decide +kernel)) ?_)
    | (show YG _ _ _ _ _ _ ⟨some 46, .call { callee := .value (.func 13), args := _, argTypes := _ }, _, _, _, _⟩ _; refine YG.mk (fun hb => by (try (have hc := And.left hb; have hb := And.right hb; rw [hc])); (try rw [hb]); exact y_callIn (q8) (fun w hw => ⟨h1.keep hw.ext, h1.keep hw.ext⟩) ⟨rfl, rfl, rfl⟩ (by decide +kernel)) ?_)
    | (show YK _ _ _ _ _ _ _; first | refine YK.mk (y_callIn (awake13_c) (fun _ hw => hI.keep hw.ext) rfl (by decide +kernel)) ?_)
    | (show YK _ _ _ _ _ _ _; refine YK.ofV vAuto ?_)
    | (show VK _ _ _ _ _ _ _; refine VK.mk vAuto ?_)
    | (show RS _ _ _ _ _ _ _ _; first | (refine nxRS ?_) | (refine nxRS1 fun _ => ?_))
    | (show RM _ _ _ _ _ _ _ _ _ _; first | (refine nxRM ?_) | (refine nxRM1 fun _ => ?_))
    | (show YG _ _ _ _ _ _ _ _; refine YG.mk (fun hb => by (try (have hc := And.left hb; have hb := And.right hb; rw [hc])); (try rw [hb]); first | exact (y_callIn (awake13_c) (fun _ hw => hI.keep hw.ext) rfl (by decide +kernel)) | exact V.y vAuto) ?_)
    | (show VG _ _ _ _ _ _ _ _; refine VG.mk (fun hb => by (try (have hc := And.left hb; have hb := And.right hb; rw [hc])); (try rw [hb]); exact vAuto) ?_)
    | (refine nxVS ?_)
    | (refine nxGS ?_)
    | (refine G.mixedA 6 [.go 0, .go 2, .go 1, .go 3, .go 4, .go 5, .go 6, .go 7, .go 9, .go 10, .go 8, .go 11, .go 12, .go 13, .go 14, .go 15, .go 16, .go 17, .go 18, .go 19] ?_)
    | (refine nxX ?_)
    | (refine G.condN rfl (fun hc => ?_) (fun hc => ?_) <;> (try first | exact False.elim hc | (exfalso; omega))))
  exact X.ret (vs := [_]) rfl ⟨rfl, rfl⟩ rfl (fun w hw => ⟨ret_bool rfl, hw.ext⟩)
theorem forms_t (hl : l.length ≤ 14) (hl' : l'.length ≤ 14) (hf : fitT l) (hf' : fitT l') (hs : s.length ≤ 100) (hb : pageB y m d l = true)
    (q1 : ContIn Tryz.prog (PgP v l) 9 [pgV y m d v] (.bool false)) (q2 : ContIn Tryz.prog (PgP u l') 9 [pgV y' m' d' u] (.bool false)) :
    ContIn Tryz.prog (fmP v u l l') 3 [pgV y m d v, pgV y' m' d' u, strV s] (.bool true) := fun w hw0 => by
  have hI := hw0.1
  have h1 := hw0.2.1
  have h2 := hw0.2.2
  have q3 := pFind_c (y := y) (m := m) (d := d) (v := v) s (fun _ => hf)
  have q4 := pvalid_c (y := y) (m := m) (d := d) (v := v) (fun _ => hf)
  have q5 := rvalidP_c (y := y) (m := m) (d := d) (v := v) (fun _ => hf)
  have q6 := psame_c (y := y) (m := m) (d := d) (y' := y') (m' := m') (d' := d') (v := v) (u := u) (fit_big hf hl) (fit_big hf' hl')
  have q7 := rsame_c (y := y) (m := m) (d := d) (y' := y') (m' := m') (d' := d') (v := v) (u := u) (fit_big hf hl) (fit_big hf' hl')
  have q8 := psame_c (y := y) (m := m) (d := d) (y' := y) (m' := m) (d' := d) (v := v) (u := v) (fit_big hf hl) (fit_big hf hl)
  rw [dateQ_refl, sameL_refl] at q8
  rw [hb] at q3 q4 q5
  have q9 := rfind_c (y := y) (m := m) (d := d) s v l (by omega)
  generalize idxT l s = K at q3 q9
  generalize (dateQ y m d y' m' d' && sameL l l') = S at q6 q7
  by_cases hk : K < 0
  · rw [show findP true K = (0, 12) by unfold findP; rw [if_pos rfl, if_neg (by omega)]] at q3
    refine enter Tryz.func3 rfl rfl rfl (Hp := [Hl.rd v cT 6 l]) (fun h hm => by
      rcases List.mem_singleton.1 hm with rfl
      exact ⟨⟨h1.1, fun h => by cases h⟩, rfl⟩) ?_
    repeat' (first
    | (show YK _ _ _ _ _ ⟨_, .call { callee := .builtin .len, args := _, argTypes := #[9] }, _, _, _, _⟩ _; refine YK.ofV (y_lenS (by rfl) StrTy.is) ?_)
    | (show VK _ _ _ _ _ ⟨_, .call { callee := .builtin .len, args := _, argTypes := #[9] }, _, _, _, _⟩ _; refine VK.mk (y_lenS (by rfl) StrTy.is) ?_)
    | (show YG _ _ _ _ _ _ ⟨_, .call { callee := .builtin .len, args := _, argTypes := #[9] }, _, _, _, _⟩ _; refine YG.mk (fun hb => by (try (have hc := And.left hb; have hb := And.right hb; rw [hc])); (try rw [hb]); exact V.y (y_lenS (by rfl) StrTy.is)) ?_)
    | (show VG _ _ _ _ _ _ ⟨_, .call { callee := .builtin .len, args := _, argTypes := #[9] }, _, _, _, _⟩ _; refine VG.mk (fun hb => by (try (have hc := And.left hb; have hb := And.right hb; rw [hc])); (try rw [hb]); exact y_lenS (by rfl) StrTy.is) ?_)
    | (exfalso; simp at hc; done)
    | (show YK _ _ _ _ _ ⟨some 13, .call { callee := .value (.func 9), args := _, argTypes := _ }, _, _, _, _⟩ _; refine YK.mk (y_callIn (q1) (fun w hw => h1.keep hw.ext) ⟨rfl, rfl⟩ (by decide +kernel)) ?_)
    | (show YG _ _ _ _ _ _ ⟨some 13, .call { callee := .value (.func 9), args := _, argTypes := _ }, _, _, _, _⟩ _; refine YG.mk (fun hb => by (try (have hc := And.left hb; have hb := And.right hb; rw [hc])); (try rw [hb]); exact y_callIn (q1) (fun w hw => h1.keep hw.ext) ⟨rfl, rfl⟩ (by decide +kernel)) ?_)
    | (show YK _ _ _ _ _ ⟨some 16, .call { callee := .value (.func 9), args := _, argTypes := _ }, _, _, _, _⟩ _; refine YK.mk (y_callIn (q2) (fun w hw => h2.keep hw.ext) ⟨rfl, rfl⟩ (by decide +kernel)) ?_)
    | (show YG _ _ _ _ _ _ ⟨some 16, .call { callee := .value (.func 9), args := _, argTypes := _ }, _, _, _, _⟩ _; refine YG.mk (fun hb => by (try (have hc := And.left hb; have hb := And.right hb; rw [hc])); (try rw [hb]); exact y_callIn (q2) (fun w hw => h2.keep hw.ext) ⟨rfl, rfl⟩ (by decide +kernel)) ?_)
    | (show YK _ _ _ _ _ ⟨_, .call { callee := .value (.func 10), args := _, argTypes := _ }, _, _, _, _⟩ _; refine YK.mk (y_callIn (q3) (fun w hw => h1.keep hw.ext) ⟨rfl, rfl, rfl⟩ (by decide +kernel)) ?_)
    | (show YG _ _ _ _ _ _ ⟨_, .call { callee := .value (.func 10), args := _, argTypes := _ }, _, _, _, _⟩ _; refine YG.mk (fun hb => by (try (have hc := And.left hb; have hb := And.right hb; rw [hc])); (try rw [hb]); exact y_callIn (q3) (fun w hw => h1.keep hw.ext) ⟨rfl, rfl, rfl⟩ (by decide +kernel)) ?_)
    | (show YK _ _ _ _ _ ⟨_, .call { callee := .value (.func 11), args := _, argTypes := _ }, _, _, _, _⟩ _; refine YK.mk (y_callIn (q4) (fun w hw => h1.keep hw.ext) ⟨rfl, rfl⟩ (by decide +kernel)) ?_)
    | (show YG _ _ _ _ _ _ ⟨_, .call { callee := .value (.func 11), args := _, argTypes := _ }, _, _, _, _⟩ _; refine YG.mk (fun hb => by (try (have hc := And.left hb; have hb := And.right hb; rw [hc])); (try rw [hb]); exact y_callIn (q4) (fun w hw => h1.keep hw.ext) ⟨rfl, rfl⟩ (by decide +kernel)) ?_)
    | (show YK _ _ _ _ _ ⟨_, .call { callee := .value (.func 12), args := _, argTypes := _ }, _, _, _, _⟩ _; refine YK.mk (y_callIn (q5) (fun w hw => h1.keep hw.ext) ⟨rfl, rfl⟩ (by decide +kernel)) ?_)
    | (show YG _ _ _ _ _ _ ⟨_, .call { callee := .value (.func 12), args := _, argTypes := _ }, _, _, _, _⟩ _; refine YG.mk (fun hb => by (try (have hc := And.left hb; have hb := And.right hb; rw [hc])); (try rw [hb]); exact y_callIn (q5) (fun w hw => h1.keep hw.ext) ⟨rfl, rfl⟩ (by decide +kernel)) ?_)
    | (show YK _ _ _ _ _ ⟨some 37, .call { callee := .value (.func 13), args := _, argTypes := _ }, _, _, _, _⟩ _; refine YK.mk (y_callIn (q6) (fun w hw => ⟨h1.keep hw.ext, h2.keep hw.ext⟩) ⟨rfl, rfl, rfl⟩ (by decide +kernel)) ?_)
    | (show YG _ _ _ _ _ _ ⟨some 37, .call { callee := .value (.func 13), args := _, argTypes := _ }, _, _, _, _⟩ _; refine YG.mk (fun hb => by (try (have hc := And.left hb; have hb := And.right hb; rw [hc])); (try rw [hb]); exact y_callIn (q6) (fun w hw => ⟨h1.keep hw.ext, h2.keep hw.ext⟩) ⟨rfl, rfl, rfl⟩ (by decide +kernel)) ?_)
    | (show YK _ _ _ _ _ ⟨some 40, .call { callee := .value (.func 14), args := _, argTypes := _ }, _, _, _, _⟩ _; refine YK.mk (y_callIn (q7) (fun w hw => ⟨h1.keep hw.ext, h2.keep hw.ext⟩) ⟨rfl, rfl, rfl⟩ (by decide +kernel)) ?_)
    | (show YG _ _ _ _ _ _ ⟨some 40, .call { callee := .value (.func 14), args := _, argTypes := _ }, _, _, _, _⟩ _; refine YG.mk (fun hb => by (try (have hc := And.left hb; have hb := And.right hb; rw [hc])); (try rw [hb]); exact y_callIn (q7) (fun w hw => ⟨h1.keep hw.ext, h2.keep hw.ext⟩) ⟨rfl, rfl, rfl⟩ (by decide +kernel)) ?_)
    | (show YK _ _ _ _ _ ⟨some 46, .call { callee := .value (.func 13), args := _, argTypes := _ }, _, _, _, _⟩ _; refine YK.mk (y_callIn (q8) (fun w hw => ⟨h1.keep hw.ext, h1.keep hw.ext⟩) ⟨rfl, rfl, rfl⟩ (by decide +kernel)) ?_)
    | (show YG _ _ _ _ _ _ ⟨some 46, .call { callee := .value (.func 13), args := _, argTypes := _ }, _, _, _, _⟩ _; refine YG.mk (fun hb => by (try (have hc := And.left hb; have hb := And.right hb; rw [hc])); (try rw [hb]); exact y_callIn (q8) (fun w hw => ⟨h1.keep hw.ext, h1.keep hw.ext⟩) ⟨rfl, rfl, rfl⟩ (by decide +kernel)) ?_)
    | (show YK _ _ _ _ _ _ _; first | refine YK.mk (y_callIn (awake13_c) (fun _ hw => hI.keep hw.ext) rfl (by decide +kernel)) ?_ | refine YK.mk (y_callRA (q9) ⟨rfl, rfl, rfl⟩) ?_)
    | (show YK _ _ _ _ _ _ _; refine YK.ofV vAuto ?_)
    | (show VK _ _ _ _ _ _ _; refine VK.mk vAuto ?_)
    | (show RS _ _ _ _ _ _ _ _; first | (refine nxRS ?_) | (refine nxRS1 fun _ => ?_))
    | (show RM _ _ _ _ _ _ _ _ _ _; first | (refine nxRM ?_) | (refine nxRM1 fun _ => ?_))
    | (show YG _ _ _ _ _ _ _ _; refine YG.mk (fun hb => by (try (have hc := And.left hb; have hb := And.right hb; rw [hc])); (try rw [hb]); first | exact (y_callIn (awake13_c) (fun _ hw => hI.keep hw.ext) rfl (by decide +kernel)) | exact (y_callRA (q9) ⟨rfl, rfl, rfl⟩) | exact V.y vAuto) ?_)
    | (show VG _ _ _ _ _ _ _ _; refine VG.mk (fun hb => by (try (have hc := And.left hb; have hb := And.right hb; rw [hc])); (try rw [hb]); exact vAuto) ?_)
    | (refine nxVS ?_)
    | (refine nxGS ?_)
    | (refine G.mixedA 6 [.go 0, .go 2, .go 1, .go 3, .go 4, .go 5, .go 6, .go 7, .go 9, .go 10, .go 8, .go 11, .go 12, .go 13, .go 14, .go 15, .go 16, .go 17, .go 18, .go 19] ?_)
    | (refine nxX ?_)
    | (refine G.condN rfl (fun hc => ?_) (fun hc => ?_) <;> (try first | exact False.elim hc | (exfalso; omega))))
    exact X.ret (vs := [_]) rfl ⟨rfl, rfl⟩ rfl (fun w hw => ⟨ret_bool (by simp), hw.ext⟩)
  · rw [show findP true K = (K, 0) by unfold findP; rw [if_pos rfl, if_pos (by omega)]] at q3
    refine enter Tryz.func3 rfl rfl rfl (Hp := [Hl.rd v cT 6 l]) (fun h hm => by
      rcases List.mem_singleton.1 hm with rfl
      exact ⟨⟨h1.1, fun h => by cases h⟩, rfl⟩) ?_
    repeat' (first
    | (show YK _ _ _ _ _ ⟨_, .call { callee := .builtin .len, args := _, argTypes := #[9] }, _, _, _, _⟩ _; refine YK.ofV (y_lenS (by rfl) StrTy.is) ?_)
    | (show VK _ _ _ _ _ ⟨_, .call { callee := .builtin .len, args := _, argTypes := #[9] }, _, _, _, _⟩ _; refine VK.mk (y_lenS (by rfl) StrTy.is) ?_)
    | (show YG _ _ _ _ _ _ ⟨_, .call { callee := .builtin .len, args := _, argTypes := #[9] }, _, _, _, _⟩ _; refine YG.mk (fun hb => by (try (have hc := And.left hb; have hb := And.right hb; rw [hc])); (try rw [hb]); exact V.y (y_lenS (by rfl) StrTy.is)) ?_)
    | (show VG _ _ _ _ _ _ ⟨_, .call { callee := .builtin .len, args := _, argTypes := #[9] }, _, _, _, _⟩ _; refine VG.mk (fun hb => by (try (have hc := And.left hb; have hb := And.right hb; rw [hc])); (try rw [hb]); exact y_lenS (by rfl) StrTy.is) ?_)
    | (exfalso; simp at hc; done)
    | (show YK _ _ _ _ _ ⟨some 13, .call { callee := .value (.func 9), args := _, argTypes := _ }, _, _, _, _⟩ _; refine YK.mk (y_callIn (q1) (fun w hw => h1.keep hw.ext) ⟨rfl, rfl⟩ (by decide +kernel)) ?_)
    | (show YG _ _ _ _ _ _ ⟨some 13, .call { callee := .value (.func 9), args := _, argTypes := _ }, _, _, _, _⟩ _; refine YG.mk (fun hb => by (try (have hc := And.left hb; have hb := And.right hb; rw [hc])); (try rw [hb]); exact y_callIn (q1) (fun w hw => h1.keep hw.ext) ⟨rfl, rfl⟩ (by decide +kernel)) ?_)
    | (show YK _ _ _ _ _ ⟨some 16, .call { callee := .value (.func 9), args := _, argTypes := _ }, _, _, _, _⟩ _; refine YK.mk (y_callIn (q2) (fun w hw => h2.keep hw.ext) ⟨rfl, rfl⟩ (by decide +kernel)) ?_)
    | (show YG _ _ _ _ _ _ ⟨some 16, .call { callee := .value (.func 9), args := _, argTypes := _ }, _, _, _, _⟩ _; refine YG.mk (fun hb => by (try (have hc := And.left hb; have hb := And.right hb; rw [hc])); (try rw [hb]); exact y_callIn (q2) (fun w hw => h2.keep hw.ext) ⟨rfl, rfl⟩ (by decide +kernel)) ?_)
    | (show YK _ _ _ _ _ ⟨_, .call { callee := .value (.func 10), args := _, argTypes := _ }, _, _, _, _⟩ _; refine YK.mk (y_callIn (q3) (fun w hw => h1.keep hw.ext) ⟨rfl, rfl, rfl⟩ (by decide +kernel)) ?_)
    | (show YG _ _ _ _ _ _ ⟨_, .call { callee := .value (.func 10), args := _, argTypes := _ }, _, _, _, _⟩ _; refine YG.mk (fun hb => by (try (have hc := And.left hb; have hb := And.right hb; rw [hc])); (try rw [hb]); exact y_callIn (q3) (fun w hw => h1.keep hw.ext) ⟨rfl, rfl, rfl⟩ (by decide +kernel)) ?_)
    | (show YK _ _ _ _ _ ⟨_, .call { callee := .value (.func 11), args := _, argTypes := _ }, _, _, _, _⟩ _; refine YK.mk (y_callIn (q4) (fun w hw => h1.keep hw.ext) ⟨rfl, rfl⟩ (by decide +kernel)) ?_)
    | (show YG _ _ _ _ _ _ ⟨_, .call { callee := .value (.func 11), args := _, argTypes := _ }, _, _, _, _⟩ _; refine YG.mk (fun hb => by (try (have hc := And.left hb; have hb := And.right hb; rw [hc])); (try rw [hb]); exact y_callIn (q4) (fun w hw => h1.keep hw.ext) ⟨rfl, rfl⟩ (by decide +kernel)) ?_)
    | (show YK _ _ _ _ _ ⟨_, .call { callee := .value (.func 12), args := _, argTypes := _ }, _, _, _, _⟩ _; refine YK.mk (y_callIn (q5) (fun w hw => h1.keep hw.ext) ⟨rfl, rfl⟩ (by decide +kernel)) ?_)
    | (show YG _ _ _ _ _ _ ⟨_, .call { callee := .value (.func 12), args := _, argTypes := _ }, _, _, _, _⟩ _; refine YG.mk (fun hb => by (try (have hc := And.left hb; have hb := And.right hb; rw [hc])); (try rw [hb]); exact y_callIn (q5) (fun w hw => h1.keep hw.ext) ⟨rfl, rfl⟩ (by decide +kernel)) ?_)
    | (show YK _ _ _ _ _ ⟨some 37, .call { callee := .value (.func 13), args := _, argTypes := _ }, _, _, _, _⟩ _; refine YK.mk (y_callIn (q6) (fun w hw => ⟨h1.keep hw.ext, h2.keep hw.ext⟩) ⟨rfl, rfl, rfl⟩ (by decide +kernel)) ?_)
    | (show YG _ _ _ _ _ _ ⟨some 37, .call { callee := .value (.func 13), args := _, argTypes := _ }, _, _, _, _⟩ _; refine YG.mk (fun hb => by (try (have hc := And.left hb; have hb := And.right hb; rw [hc])); (try rw [hb]); exact y_callIn (q6) (fun w hw => ⟨h1.keep hw.ext, h2.keep hw.ext⟩) ⟨rfl, rfl, rfl⟩ (by decide +kernel)) ?_)
    | (show YK _ _ _ _ _ ⟨some 40, .call { callee := .value (.func 14), args := _, argTypes := _ }, _, _, _, _⟩ _; refine YK.mk (y_callIn (q7) (fun w hw => ⟨h1.keep hw.ext, h2.keep hw.ext⟩) ⟨rfl, rfl, rfl⟩ (by decide +kernel)) ?_)
    | (show YG _ _ _ _ _ _ ⟨some 40, .call { callee := .value (.func 14), args := _, argTypes := _ }, _, _, _, _⟩ _; refine YG.mk (fun hb => by (try (have hc := And.left hb; have hb := And.right hb; rw [hc])); (try rw [hb]); exact y_callIn (q7) (fun w hw => ⟨h1.keep hw.ext, h2.keep hw.ext⟩) ⟨rfl, rfl, rfl⟩ (by decide +kernel)) ?_)
    | (show YK _ _ _ _ _ ⟨some 46, .call { callee := .value (.func 13), args := _, argTypes := _ }, _, _, _, _⟩ _; refine YK.mk (y_callIn (q8) (fun w hw => ⟨h1.keep hw.ext, h1.keep hw.ext⟩) ⟨rfl, rfl, rfl⟩ (by decide +kernel)) ?_)
    | (show YG _ _ _ _ _ _ ⟨some 46, .call { callee := .value (.func 13), args := _, argTypes := _ }, _, _, _, _⟩ _; refine YG.mk (fun hb => by (try (have hc := And.left hb; have hb := And.right hb; rw [hc])); (try rw [hb]); exact y_callIn (q8) (fun w hw => ⟨h1.keep hw.ext, h1.keep hw.ext⟩) ⟨rfl, rfl, rfl⟩ (by decide +kernel)) ?_)
    | (show YK _ _ _ _ _ _ _; first | refine YK.mk (y_callIn (awake13_c) (fun _ hw => hI.keep hw.ext) rfl (by decide +kernel)) ?_ | refine YK.mk (y_callRA (q9) ⟨rfl, rfl, rfl⟩) ?_)
    | (show YK _ _ _ _ _ _ _; refine YK.ofV vAuto ?_)
    | (show VK _ _ _ _ _ _ _; refine VK.mk vAuto ?_)
    | (show RS _ _ _ _ _ _ _ _; first | (refine nxRS ?_) | (refine nxRS1 fun _ => ?_))
    | (show RM _ _ _ _ _ _ _ _ _ _; first | (refine nxRM ?_) | (refine nxRM1 fun _ => ?_))
    | (show YG _ _ _ _ _ _ _ _; refine YG.mk (fun hb => by (try (have hc := And.left hb; have hb := And.right hb; rw [hc])); (try rw [hb]); first | exact (y_callIn (awake13_c) (fun _ hw => hI.keep hw.ext) rfl (by decide +kernel)) | exact (y_callRA (q9) ⟨rfl, rfl, rfl⟩) | exact V.y vAuto) ?_)
    | (show VG _ _ _ _ _ _ _ _; refine VG.mk (fun hb => by (try (have hc := And.left hb; have hb := And.right hb; rw [hc])); (try rw [hb]); exact vAuto) ?_)
    | (refine nxVS ?_)
    | (refine nxGS ?_)
    | (refine G.mixedA 6 [.go 0, .go 2, .go 1, .go 3, .go 4, .go 5, .go 6, .go 7, .go 9, .go 10, .go 8, .go 11, .go 12, .go 13, .go 14, .go 15, .go 16, .go 17, .go 18, .go 19] ?_)
    | (refine nxX ?_)
    | (refine G.condN rfl (fun hc => ?_) (fun hc => ?_) <;> (try first | exact False.elim hc | (exfalso; omega))))
    exact X.ret (vs := [_]) rfl ⟨rfl, rfl⟩ rfl (fun w hw => ⟨ret_bool (by simp), hw.ext⟩)
/-- PageForms answers true. -/
theorem forms_law : ContIn Tryz.prog (fmP v u l l') 3 [pgV y m d v, pgV y' m' d' u, strV s] (.bool true) := by
  have q1 := large_c (y := y) (m := m) (d := d) v l
  have q2 := large_c (y := y') (m := m') (d := d') u l'
  cases h1 : largeB l with
  | true => rw [h1] at q1; exact forms_no q1 q2 (.inl rfl)
  | false =>
    cases h2 : largeB l' with
    | true => rw [h2] at q2; exact forms_no q1 q2 (.inr (.inl rfl))
    | false =>
      rw [h1] at q1
      rw [h2] at q2
      by_cases hs : s.length ≤ 100
      · obtain ⟨a1, a2⟩ := large_no h1
        obtain ⟨b1, b2⟩ := large_no h2
        cases hb : pageB y m d l with
        | false => exact forms_f a1 b1 a2 b2 hs hb q1 q2
        | true => exact forms_t a1 b1 a2 b2 hs hb q1 q2
      · exact forms_no q1 q2 (.inr (.inr (by omega)))
end
end Go.Proofs.YtpekkcahehhkmaaGreatDoor
/- PageEntries: the walk of the law. -/
set_option linter.unusedVariables false
set_option maxHeartbeats 4000000
namespace Go.Proofs.YtpekkcahehhkmaaGreatDoor
open Go.RowKit

abbrev enP (v : Value) (l : List TrkT) (w : World) : Prop := Laid w ∧ PgP v l w
section
variable {y m d : Int} {v : Value} {l : List TrkT} {s : List UInt8} {hour : Int}
theorem ent_no {c1 : Bool} (q1 : ContIn Tryz.prog (PgP v l) 9 [pgV y m d v] (.bool c1)) (hno : c1 = true ∨ 100 < s.length) :
    ContIn Tryz.prog (enP v l) 4 [pgV y m d v, strV s, .int .i64 hour] (.bool true) := fun w hw0 => by
  have hI := hw0.1
  have h1 := hw0.2
  refine enter Tryz.func4 rfl rfl rfl (Hp := []) (fun h hm => by cases hm) ?_
  repeat' (first
    | (show YK _ _ _ _ _ ⟨_, .call { callee := .builtin .len, args := _, argTypes := #[9] }, _, _, _, _⟩ _; refine YK.ofV (y_lenS (by rfl) StrTy.is) ?_)
    | (show VK _ _ _ _ _ ⟨_, .call { callee := .builtin .len, args := _, argTypes := #[9] }, _, _, _, _⟩ _; refine VK.mk (y_lenS (by rfl) StrTy.is) ?_)
    | (show YG _ _ _ _ _ _ ⟨_, .call { callee := .builtin .len, args := _, argTypes := #[9] }, _, _, _, _⟩ _; refine YG.mk (fun hb => by (try (have hc := And.left hb; have hb := And.right hb; rw [hc])); (try rw [hb]); exact V.y (y_lenS (by rfl) StrTy.is)) ?_)
    | (show VG _ _ _ _ _ _ ⟨_, .call { callee := .builtin .len, args := _, argTypes := #[9] }, _, _, _, _⟩ _; refine VG.mk (fun hb => by (try (have hc := And.left hb; have hb := And.right hb; rw [hc])); (try rw [hb]); exact y_lenS (by rfl) StrTy.is) ?_)
    | (exfalso; rcases hno with z | z; (rw [z] at hc; exact absurd hc.1 (by decide)); omega)
    | (show YK _ _ _ _ _ ⟨_, .call { callee := .value (.func 9), args := _, argTypes := _ }, _, _, _, _⟩ _; refine YK.mk (y_callIn (q1) (fun w hw => h1.keep hw.ext) ⟨rfl, rfl⟩ (by decide +kernel)) ?_)
    | (show YG _ _ _ _ _ _ ⟨_, .call { callee := .value (.func 9), args := _, argTypes := _ }, _, _, _, _⟩ _; refine YG.mk (fun hb => by (try (have hc := And.left hb; have hb := And.right hb; rw [hc])); (try rw [hb]); exact y_callIn (q1) (fun w hw => h1.keep hw.ext) ⟨rfl, rfl⟩ (by decide +kernel)) ?_)
    | (show YK _ _ _ _ _ _ _; first | refine YK.mk (y_callIn (awake13_c) (fun _ hw => hI.keep hw.ext) rfl (by decide +kernel)) ?_)
    | (show YK _ _ _ _ _ _ _; refine YK.ofV vAuto ?_)
    | (show VK _ _ _ _ _ _ _; refine VK.mk vAuto ?_)
    | (show RS _ _ _ _ _ _ _ _; first | (refine nxRS ?_) | (refine nxRS1 fun _ => ?_))
    | (show RM _ _ _ _ _ _ _ _ _ _; first | (refine nxRM ?_) | (refine nxRM1 fun _ => ?_))
    | (show YG _ _ _ _ _ _ _ _; refine YG.mk (fun hb => by (try (have hc := And.left hb; have hb := And.right hb; rw [hc])); (try rw [hb]); first | exact (y_callIn (awake13_c) (fun _ hw => hI.keep hw.ext) rfl (by decide +kernel)) | exact V.y vAuto) ?_)
    | (show VG _ _ _ _ _ _ _ _; refine VG.mk (fun hb => by (try (have hc := And.left hb; have hb := And.right hb; rw [hc])); (try rw [hb]); exact vAuto) ?_)
    | (refine nxVS ?_)
    | (refine nxGS ?_)
    | (refine G.mixedA 14 [.go 0, .go 1, .go 2, .go 3, .go 4, .go 5, .go 6, .go 7, .go 8, .go 9, .go 10, .go 11, .go 12, .go 13, .go 14, .go 15, .go 16, .go 17, .go 18, .go 19, .go 20, .go 21, .go 22, .go 23, .go 24, .go 25, .go 26, .go 27, .go 28, .go 29, .go 30] ?_)
    | (refine nxX ?_)
    | (refine G.condN rfl (fun hc => ?_) (fun hc => ?_) <;> (try first | exact False.elim hc | (exfalso; omega))))
  exact X.ret (vs := [_]) rfl ⟨rfl, rfl⟩ rfl (fun w hw => ⟨rfl, hw.ext⟩)
theorem ent_f (hf : fitT l) (hs : s.length ≤ 100) (hb : pageB y m d l = false) (q1 : ContIn Tryz.prog (PgP v l) 9 [pgV y m d v] (.bool false)) :
    ContIn Tryz.prog (enP v l) 4 [pgV y m d v, strV s, .int .i64 hour] (.bool true) := fun w hw0 => by
  have hI := hw0.1
  have h1 := hw0.2
  have q3 := pFind_c (y := y) (m := m) (d := d) (v := v) s (fun _ => hf)
  have q5 := rvalidP_c (y := y) (m := m) (d := d) (v := v) (fun _ => hf)
  rw [hb] at q3 q5
  have q4 := pent_e (hour := hour) (e := 1) q3 (.inl rfl)
  refine enter Tryz.func4 rfl rfl rfl (Hp := []) (fun h hm => by cases hm) ?_
  repeat' (first
    | (show YK _ _ _ _ _ ⟨_, .call { callee := .builtin .len, args := _, argTypes := #[9] }, _, _, _, _⟩ _; refine YK.ofV (y_lenS (by rfl) StrTy.is) ?_)
    | (show VK _ _ _ _ _ ⟨_, .call { callee := .builtin .len, args := _, argTypes := #[9] }, _, _, _, _⟩ _; refine VK.mk (y_lenS (by rfl) StrTy.is) ?_)
    | (show YG _ _ _ _ _ _ ⟨_, .call { callee := .builtin .len, args := _, argTypes := #[9] }, _, _, _, _⟩ _; refine YG.mk (fun hb => by (try (have hc := And.left hb; have hb := And.right hb; rw [hc])); (try rw [hb]); exact V.y (y_lenS (by rfl) StrTy.is)) ?_)
    | (show VG _ _ _ _ _ _ ⟨_, .call { callee := .builtin .len, args := _, argTypes := #[9] }, _, _, _, _⟩ _; refine VG.mk (fun hb => by (try (have hc := And.left hb; have hb := And.right hb; rw [hc])); (try rw [hb]); exact y_lenS (by rfl) StrTy.is) ?_)
    | (show YK _ _ _ _ _ ⟨_, .call { callee := .value (.func 9), args := _, argTypes := _ }, _, _, _, _⟩ _; refine YK.mk (y_callIn (q1) (fun w hw => h1.keep hw.ext) ⟨rfl, rfl⟩ (by decide +kernel)) ?_)
    | (show YG _ _ _ _ _ _ ⟨_, .call { callee := .value (.func 9), args := _, argTypes := _ }, _, _, _, _⟩ _; refine YG.mk (fun hb => by (try (have hc := And.left hb; have hb := And.right hb; rw [hc])); (try rw [hb]); exact y_callIn (q1) (fun w hw => h1.keep hw.ext) ⟨rfl, rfl⟩ (by decide +kernel)) ?_)
    | (show YK _ _ _ _ _ ⟨_, .call { callee := .value (.func 16), args := _, argTypes := _ }, _, _, _, _⟩ _; refine YK.mk (y_callIn (q4) (fun w hw => h1.keep hw.ext) ⟨rfl, rfl, rfl, rfl⟩ (by decide +kernel)) ?_)
    | (show YG _ _ _ _ _ _ ⟨_, .call { callee := .value (.func 16), args := _, argTypes := _ }, _, _, _, _⟩ _; refine YG.mk (fun hb => by (try (have hc := And.left hb; have hb := And.right hb; rw [hc])); (try rw [hb]); exact y_callIn (q4) (fun w hw => h1.keep hw.ext) ⟨rfl, rfl, rfl, rfl⟩ (by decide +kernel)) ?_)
    | (show YK _ _ _ _ _ ⟨_, .call { callee := .value (.func 12), args := _, argTypes := _ }, _, _, _, _⟩ _; refine YK.mk (y_callIn (q5) (fun w hw => h1.keep hw.ext) ⟨rfl, rfl⟩ (by decide +kernel)) ?_)
    | (show YG _ _ _ _ _ _ ⟨_, .call { callee := .value (.func 12), args := _, argTypes := _ }, _, _, _, _⟩ _; refine YG.mk (fun hb => by (try (have hc := And.left hb; have hb := And.right hb; rw [hc])); (try rw [hb]); exact y_callIn (q5) (fun w hw => h1.keep hw.ext) ⟨rfl, rfl⟩ (by decide +kernel)) ?_)
    | (show YK _ _ _ _ _ _ _; first | refine YK.mk (y_callIn (awake13_c) (fun _ hw => hI.keep hw.ext) rfl (by decide +kernel)) ?_)
    | (show YK _ _ _ _ _ _ _; refine YK.ofV vAuto ?_)
    | (show VK _ _ _ _ _ _ _; refine VK.mk vAuto ?_)
    | (show RS _ _ _ _ _ _ _ _; first | (refine nxRS ?_) | (refine nxRS1 fun _ => ?_))
    | (show RM _ _ _ _ _ _ _ _ _ _; first | (refine nxRM ?_) | (refine nxRM1 fun _ => ?_))
    | (show YG _ _ _ _ _ _ _ _; refine YG.mk (fun hb => by (try (have hc := And.left hb; have hb := And.right hb; rw [hc])); (try rw [hb]); first | exact (y_callIn (awake13_c) (fun _ hw => hI.keep hw.ext) rfl (by decide +kernel)) | exact V.y vAuto) ?_)
    | (show VG _ _ _ _ _ _ _ _; refine VG.mk (fun hb => by (try (have hc := And.left hb; have hb := And.right hb; rw [hc])); (try rw [hb]); exact vAuto) ?_)
    | (refine nxVS ?_)
    | (refine nxGS ?_)
    | (refine G.mixedA 14 [.go 0, .go 1, .go 2, .go 3, .go 4, .go 5, .go 6, .go 7, .go 8, .go 9, .go 10, .go 11, .go 12, .go 13, .go 14, .go 15, .go 16, .go 17, .go 18, .go 19, .go 20, .go 21, .go 22, .go 23, .go 24, .go 25, .go 26, .go 27, .go 28, .go 29, .go 30] ?_)
    | (refine nxX ?_)
    | (refine G.condN rfl (fun hc => ?_) (fun hc => ?_) <;> (try first | exact False.elim hc | (exfalso; omega))))
  exact X.ret (vs := [_]) rfl ⟨rfl, rfl⟩ rfl (fun w hw => ⟨ret_bool (by rfl), hw.ext⟩)
theorem ent_n (hl : l.length ≤ 14) (hf : fitT l) (hs : s.length ≤ 100) (hb : pageB y m d l = true) (hk : idxT l s < 0) (q1 : ContIn Tryz.prog (PgP v l) 9 [pgV y m d v] (.bool false)) :
    ContIn Tryz.prog (enP v l) 4 [pgV y m d v, strV s, .int .i64 hour] (.bool true) := fun w hw0 => by
  have hI := hw0.1
  have h1 := hw0.2
  have q3 := pFind_c (y := y) (m := m) (d := d) (v := v) s (fun _ => hf)
  have q5 := rvalidP_c (y := y) (m := m) (d := d) (v := v) (fun _ => hf)
  rw [hb] at q3 q5
  rw [show findP true (idxT l s) = (0, 12) by unfold findP; rw [if_pos rfl, if_neg (by omega)]] at q3
  have q4 := pent_e (hour := hour) (e := 12) q3 (.inr rfl)
  have q9 := rfind_c (y := y) (m := m) (d := d) s v l (by omega)
  generalize idxT l s = K at q9 hk
  refine enter Tryz.func4 rfl rfl rfl (Hp := [Hl.rd v cT 6 l]) (fun h hm => by
    rcases List.mem_singleton.1 hm with rfl
    exact ⟨⟨h1.1, fun h => by cases h⟩, rfl⟩) ?_
  repeat' (first
    | (show YK _ _ _ _ _ ⟨_, .call { callee := .builtin .len, args := _, argTypes := #[9] }, _, _, _, _⟩ _; refine YK.ofV (y_lenS (by rfl) StrTy.is) ?_)
    | (show VK _ _ _ _ _ ⟨_, .call { callee := .builtin .len, args := _, argTypes := #[9] }, _, _, _, _⟩ _; refine VK.mk (y_lenS (by rfl) StrTy.is) ?_)
    | (show YG _ _ _ _ _ _ ⟨_, .call { callee := .builtin .len, args := _, argTypes := #[9] }, _, _, _, _⟩ _; refine YG.mk (fun hb => by (try (have hc := And.left hb; have hb := And.right hb; rw [hc])); (try rw [hb]); exact V.y (y_lenS (by rfl) StrTy.is)) ?_)
    | (show VG _ _ _ _ _ _ ⟨_, .call { callee := .builtin .len, args := _, argTypes := #[9] }, _, _, _, _⟩ _; refine VG.mk (fun hb => by (try (have hc := And.left hb; have hb := And.right hb; rw [hc])); (try rw [hb]); exact y_lenS (by rfl) StrTy.is) ?_)
    | (show YK _ _ _ _ _ ⟨_, .call { callee := .value (.func 9), args := _, argTypes := _ }, _, _, _, _⟩ _; refine YK.mk (y_callIn (q1) (fun w hw => h1.keep hw.ext) ⟨rfl, rfl⟩ (by decide +kernel)) ?_)
    | (show YG _ _ _ _ _ _ ⟨_, .call { callee := .value (.func 9), args := _, argTypes := _ }, _, _, _, _⟩ _; refine YG.mk (fun hb => by (try (have hc := And.left hb; have hb := And.right hb; rw [hc])); (try rw [hb]); exact y_callIn (q1) (fun w hw => h1.keep hw.ext) ⟨rfl, rfl⟩ (by decide +kernel)) ?_)
    | (show YK _ _ _ _ _ ⟨_, .call { callee := .value (.func 16), args := _, argTypes := _ }, _, _, _, _⟩ _; refine YK.mk (y_callIn (q4) (fun w hw => h1.keep hw.ext) ⟨rfl, rfl, rfl, rfl⟩ (by decide +kernel)) ?_)
    | (show YG _ _ _ _ _ _ ⟨_, .call { callee := .value (.func 16), args := _, argTypes := _ }, _, _, _, _⟩ _; refine YG.mk (fun hb => by (try (have hc := And.left hb; have hb := And.right hb; rw [hc])); (try rw [hb]); exact y_callIn (q4) (fun w hw => h1.keep hw.ext) ⟨rfl, rfl, rfl, rfl⟩ (by decide +kernel)) ?_)
    | (show YK _ _ _ _ _ ⟨_, .call { callee := .value (.func 12), args := _, argTypes := _ }, _, _, _, _⟩ _; refine YK.mk (y_callIn (q5) (fun w hw => h1.keep hw.ext) ⟨rfl, rfl⟩ (by decide +kernel)) ?_)
    | (show YG _ _ _ _ _ _ ⟨_, .call { callee := .value (.func 12), args := _, argTypes := _ }, _, _, _, _⟩ _; refine YG.mk (fun hb => by (try (have hc := And.left hb; have hb := And.right hb; rw [hc])); (try rw [hb]); exact y_callIn (q5) (fun w hw => h1.keep hw.ext) ⟨rfl, rfl⟩ (by decide +kernel)) ?_)
    | (show YK _ _ _ _ _ _ _; first | refine YK.mk (y_callIn (awake13_c) (fun _ hw => hI.keep hw.ext) rfl (by decide +kernel)) ?_ | refine YK.mk (y_callRA (q9) ⟨rfl, rfl, rfl⟩) ?_)
    | (show YK _ _ _ _ _ _ _; refine YK.ofV vAuto ?_)
    | (show VK _ _ _ _ _ _ _; refine VK.mk vAuto ?_)
    | (show RS _ _ _ _ _ _ _ _; first | (refine nxRS ?_) | (refine nxRS1 fun _ => ?_))
    | (show RM _ _ _ _ _ _ _ _ _ _; first | (refine nxRM ?_) | (refine nxRM1 fun _ => ?_))
    | (show YG _ _ _ _ _ _ _ _; refine YG.mk (fun hb => by (try (have hc := And.left hb; have hb := And.right hb; rw [hc])); (try rw [hb]); first | exact (y_callIn (awake13_c) (fun _ hw => hI.keep hw.ext) rfl (by decide +kernel)) | exact (y_callRA (q9) ⟨rfl, rfl, rfl⟩) | exact V.y vAuto) ?_)
    | (show VG _ _ _ _ _ _ _ _; refine VG.mk (fun hb => by (try (have hc := And.left hb; have hb := And.right hb; rw [hc])); (try rw [hb]); exact vAuto) ?_)
    | (refine nxVS ?_)
    | (refine nxGS ?_)
    | (refine G.mixedA 14 [.go 0, .go 1, .go 2, .go 3, .go 4, .go 5, .go 6, .go 7, .go 8, .go 9, .go 10, .go 11, .go 12, .go 13, .go 14, .go 15, .go 16, .go 17, .go 18, .go 19, .go 20, .go 21, .go 22, .go 23, .go 24, .go 25, .go 26, .go 27, .go 28, .go 29, .go 30] ?_)
    | (refine nxX ?_)
    | (refine G.condN rfl (fun hc => ?_) (fun hc => ?_) <;> (try first | exact False.elim hc | (exfalso; omega))))
  exact X.ret (vs := [_]) rfl ⟨rfl, rfl⟩ rfl (fun w hw => ⟨ret_bool (by rfl), hw.ext⟩)
theorem ent_h {k : Nat} (hl : l.length ≤ 14) (hf : fitT l) (hs : s.length ≤ 100) (hb : pageB y m d l = true) (hk : idxT l s = (k : Int)) (hh : hour < 0 ∨ 24 < hour) (q1 : ContIn Tryz.prog (PgP v l) 9 [pgV y m d v] (.bool false)) :
    ContIn Tryz.prog (enP v l) 4 [pgV y m d v, strV s, .int .i64 hour] (.bool true) := fun w hw0 => by
  have hI := hw0.1
  have h1 := hw0.2
  have q3 := pFind_c (y := y) (m := m) (d := d) (v := v) s (fun _ => hf)
  have q5 := rvalidP_c (y := y) (m := m) (d := d) (v := v) (fun _ => hf)
  rw [hb] at q3 q5
  rw [hk, show findP true (k : Int) = ((k : Int), 0) by unfold findP; rw [if_pos rfl, if_pos (by omega)]] at q3
  have q4 := pent_h (hour := hour) q3 hh
  have q9 := rfind_c (y := y) (m := m) (d := d) s v l (by omega)
  rw [hk] at q9
  clear hk
  refine enter Tryz.func4 rfl rfl rfl (Hp := [Hl.rd v cT 6 l]) (fun h hm => by
    rcases List.mem_singleton.1 hm with rfl
    exact ⟨⟨h1.1, fun h => by cases h⟩, rfl⟩) ?_
  repeat' (first
    | (show YK _ _ _ _ _ ⟨_, .call { callee := .builtin .len, args := _, argTypes := #[9] }, _, _, _, _⟩ _; refine YK.ofV (y_lenS (by rfl) StrTy.is) ?_)
    | (show VK _ _ _ _ _ ⟨_, .call { callee := .builtin .len, args := _, argTypes := #[9] }, _, _, _, _⟩ _; refine VK.mk (y_lenS (by rfl) StrTy.is) ?_)
    | (show YG _ _ _ _ _ _ ⟨_, .call { callee := .builtin .len, args := _, argTypes := #[9] }, _, _, _, _⟩ _; refine YG.mk (fun hb => by (try (have hc := And.left hb; have hb := And.right hb; rw [hc])); (try rw [hb]); exact V.y (y_lenS (by rfl) StrTy.is)) ?_)
    | (show VG _ _ _ _ _ _ ⟨_, .call { callee := .builtin .len, args := _, argTypes := #[9] }, _, _, _, _⟩ _; refine VG.mk (fun hb => by (try (have hc := And.left hb; have hb := And.right hb; rw [hc])); (try rw [hb]); exact y_lenS (by rfl) StrTy.is) ?_)
    | (show YK _ _ _ _ _ ⟨_, .call { callee := .value (.func 9), args := _, argTypes := _ }, _, _, _, _⟩ _; refine YK.mk (y_callIn (q1) (fun w hw => h1.keep hw.ext) ⟨rfl, rfl⟩ (by decide +kernel)) ?_)
    | (show YG _ _ _ _ _ _ ⟨_, .call { callee := .value (.func 9), args := _, argTypes := _ }, _, _, _, _⟩ _; refine YG.mk (fun hb => by (try (have hc := And.left hb; have hb := And.right hb; rw [hc])); (try rw [hb]); exact y_callIn (q1) (fun w hw => h1.keep hw.ext) ⟨rfl, rfl⟩ (by decide +kernel)) ?_)
    | (show YK _ _ _ _ _ ⟨_, .call { callee := .value (.func 16), args := _, argTypes := _ }, _, _, _, _⟩ _; refine YK.mk (y_callIn (q4) (fun w hw => h1.keep hw.ext) ⟨rfl, rfl, rfl, rfl⟩ (by decide +kernel)) ?_)
    | (show YG _ _ _ _ _ _ ⟨_, .call { callee := .value (.func 16), args := _, argTypes := _ }, _, _, _, _⟩ _; refine YG.mk (fun hb => by (try (have hc := And.left hb; have hb := And.right hb; rw [hc])); (try rw [hb]); exact y_callIn (q4) (fun w hw => h1.keep hw.ext) ⟨rfl, rfl, rfl, rfl⟩ (by decide +kernel)) ?_)
    | (show YK _ _ _ _ _ ⟨_, .call { callee := .value (.func 12), args := _, argTypes := _ }, _, _, _, _⟩ _; refine YK.mk (y_callIn (q5) (fun w hw => h1.keep hw.ext) ⟨rfl, rfl⟩ (by decide +kernel)) ?_)
    | (show YG _ _ _ _ _ _ ⟨_, .call { callee := .value (.func 12), args := _, argTypes := _ }, _, _, _, _⟩ _; refine YG.mk (fun hb => by (try (have hc := And.left hb; have hb := And.right hb; rw [hc])); (try rw [hb]); exact y_callIn (q5) (fun w hw => h1.keep hw.ext) ⟨rfl, rfl⟩ (by decide +kernel)) ?_)
    | (show YK _ _ _ _ _ _ _; first | refine YK.mk (y_callIn (awake13_c) (fun _ hw => hI.keep hw.ext) rfl (by decide +kernel)) ?_ | refine YK.mk (y_callRA (q9) ⟨rfl, rfl, rfl⟩) ?_)
    | (show YK _ _ _ _ _ _ _; refine YK.ofV vAuto ?_)
    | (show VK _ _ _ _ _ _ _; refine VK.mk vAuto ?_)
    | (show RS _ _ _ _ _ _ _ _; first | (refine nxRS ?_) | (refine nxRS1 fun _ => ?_))
    | (show RM _ _ _ _ _ _ _ _ _ _; first | (refine nxRM ?_) | (refine nxRM1 fun _ => ?_))
    | (show YG _ _ _ _ _ _ _ _; refine YG.mk (fun hb => by (try (have hc := And.left hb; have hb := And.right hb; rw [hc])); (try rw [hb]); first | exact (y_callIn (awake13_c) (fun _ hw => hI.keep hw.ext) rfl (by decide +kernel)) | exact (y_callRA (q9) ⟨rfl, rfl, rfl⟩) | exact V.y vAuto) ?_)
    | (show VG _ _ _ _ _ _ _ _; refine VG.mk (fun hb => by (try (have hc := And.left hb; have hb := And.right hb; rw [hc])); (try rw [hb]); exact vAuto) ?_)
    | (refine nxVS ?_)
    | (refine nxGS ?_)
    | (refine G.mixedA 14 [.go 0, .go 1, .go 2, .go 3, .go 4, .go 5, .go 6, .go 7, .go 8, .go 9, .go 10, .go 11, .go 12, .go 13, .go 14, .go 15, .go 16, .go 17, .go 18, .go 19, .go 20, .go 21, .go 22, .go 23, .go 24, .go 25, .go 26, .go 27, .go 28, .go 29, .go 30] ?_)
    | (refine nxX ?_)
    | (refine G.condN rfl (fun hc => ?_) (fun hc => ?_) <;> (try first | exact False.elim hc | (exfalso; omega))))
  exact X.ret (vs := [_]) rfl ⟨rfl, rfl⟩ rfl (fun w hw => ⟨ret_bool (by rfl), hw.ext⟩)
theorem ent_t {k : Nat} (hl : l.length ≤ 14) (hf : fitT l) (hs : s.length ≤ 100) (hb : pageB y m d l = true) (hk : idxT l s = (k : Int)) (hkl : k < l.length) (hh : 0 ≤ hour ∧ hour ≤ 24) (q1 : ContIn Tryz.prog (PgP v l) 9 [pgV y m d v] (.bool false)) :
    ContIn Tryz.prog (enP v l) 4 [pgV y m d v, strV s, .int .i64 hour] (.bool true) := fun w hw0 => by
  have hI := hw0.1
  have h1 := hw0.2
  obtain ⟨hl12, ho⟩ := page_tr hb hkl
  obtain ⟨o1, o2, o3, o4, o5, _⟩ := okT_parts ho
  have b1 := inB_nth o4 (i := hour) (by omega)
  have b2 := inB_nth o5 (i := hour) (by omega)
  clear o1 o4 o5
  have q3 := pFind_c (y := y) (m := m) (d := d) (v := v) s (fun _ => hf)
  have q5 := rvalidP_c (y := y) (m := m) (d := d) (v := v) (fun _ => hf)
  rw [hb] at q3 q5
  rw [hk, show findP true (k : Int) = ((k : Int), 0) by unfold findP; rw [if_pos rfl, if_pos (by omega)]] at q3
  have q4 := pent_t (hour := hour) q3 hl12 hkl ho hh
  have q9 := rfind_c (y := y) (m := m) (d := d) s v l (by omega)
  rw [hk] at q9
  have qg := rgha_c (n := nth (nth l (k : Int)).gl hour) (by omega)
  have qd := rdec_c (n := nth (nth l (k : Int)).dl hour) (by omega)
  clear hk
  generalize ((100 * nth (nth l (k : Int)).gl hour - 50) % 21600000) = A at q4 qg
  generalize A + 100 = B at q4 qg
  generalize (max (100 * nth (nth l (k : Int)).dl hour - 50) (-5400000)) = C at q4 qd
  generalize (min (100 * nth (nth l (k : Int)).dl hour + 50) 5400000) = D at q4 qd
  refine enter Tryz.func4 rfl rfl rfl (Hp := [Hl.rd v cT 6 l]) (fun h hm => by
    rcases List.mem_singleton.1 hm with rfl
    exact ⟨⟨h1.1, fun h => by cases h⟩, rfl⟩) ?_
  refine G.bring (h1.2.at hkl).1 (G.bring (h1.2.at hkl).2 ?_)
  repeat' (first
    | (show YK _ _ _ _ _ ⟨_, .call { callee := .builtin .len, args := _, argTypes := #[9] }, _, _, _, _⟩ _; refine YK.ofV (y_lenS (by rfl) StrTy.is) ?_)
    | (show VK _ _ _ _ _ ⟨_, .call { callee := .builtin .len, args := _, argTypes := #[9] }, _, _, _, _⟩ _; refine VK.mk (y_lenS (by rfl) StrTy.is) ?_)
    | (show YG _ _ _ _ _ _ ⟨_, .call { callee := .builtin .len, args := _, argTypes := #[9] }, _, _, _, _⟩ _; refine YG.mk (fun hb => by (try (have hc := And.left hb; have hb := And.right hb; rw [hc])); (try rw [hb]); exact V.y (y_lenS (by rfl) StrTy.is)) ?_)
    | (show VG _ _ _ _ _ _ ⟨_, .call { callee := .builtin .len, args := _, argTypes := #[9] }, _, _, _, _⟩ _; refine VG.mk (fun hb => by (try (have hc := And.left hb; have hb := And.right hb; rw [hc])); (try rw [hb]); exact y_lenS (by rfl) StrTy.is) ?_)
    | (show YK _ _ _ _ _ ⟨_, .call { callee := .value (.func 9), args := _, argTypes := _ }, _, _, _, _⟩ _; refine YK.mk (y_callIn (q1) (fun w hw => h1.keep hw.ext) ⟨rfl, rfl⟩ (by decide +kernel)) ?_)
    | (show YG _ _ _ _ _ _ ⟨_, .call { callee := .value (.func 9), args := _, argTypes := _ }, _, _, _, _⟩ _; refine YG.mk (fun hb => by (try (have hc := And.left hb; have hb := And.right hb; rw [hc])); (try rw [hb]); exact y_callIn (q1) (fun w hw => h1.keep hw.ext) ⟨rfl, rfl⟩ (by decide +kernel)) ?_)
    | (show YK _ _ _ _ _ ⟨_, .call { callee := .value (.func 16), args := _, argTypes := _ }, _, _, _, _⟩ _; refine YK.mk (y_callIn (q4) (fun w hw => h1.keep hw.ext) ⟨rfl, rfl, rfl, rfl⟩ (by decide +kernel)) ?_)
    | (show YG _ _ _ _ _ _ ⟨_, .call { callee := .value (.func 16), args := _, argTypes := _ }, _, _, _, _⟩ _; refine YG.mk (fun hb => by (try (have hc := And.left hb; have hb := And.right hb; rw [hc])); (try rw [hb]); exact y_callIn (q4) (fun w hw => h1.keep hw.ext) ⟨rfl, rfl, rfl, rfl⟩ (by decide +kernel)) ?_)
    | (show YK _ _ _ _ _ ⟨_, .call { callee := .value (.func 12), args := _, argTypes := _ }, _, _, _, _⟩ _; refine YK.mk (y_callIn (q5) (fun w hw => h1.keep hw.ext) ⟨rfl, rfl⟩ (by decide +kernel)) ?_)
    | (show YG _ _ _ _ _ _ ⟨_, .call { callee := .value (.func 12), args := _, argTypes := _ }, _, _, _, _⟩ _; refine YG.mk (fun hb => by (try (have hc := And.left hb; have hb := And.right hb; rw [hc])); (try rw [hb]); exact y_callIn (q5) (fun w hw => h1.keep hw.ext) ⟨rfl, rfl⟩ (by decide +kernel)) ?_)
    | (show YK _ _ _ _ _ _ _; first | refine YK.mk (y_callIn (awake13_c) (fun _ hw => hI.keep hw.ext) rfl (by decide +kernel)) ?_ | refine YK.mk (y_callRA (q9) ⟨rfl, rfl, rfl⟩) ?_ | refine YK.mk (y_callA (qg) ⟨rfl, rfl⟩) ?_ | refine YK.mk (y_callA (qd) ⟨rfl, rfl⟩) ?_)
    | (show YK _ _ _ _ _ _ _; refine YK.ofV vAuto ?_)
    | (show VK _ _ _ _ _ _ _; refine VK.mk vAuto ?_)
    | (show RS _ _ _ _ _ _ _ _; first | (refine nxRS ?_) | (refine nxRS1 fun _ => ?_))
    | (show RM _ _ _ _ _ _ _ _ _ _; first | (refine nxRM ?_) | (refine nxRM1 fun _ => ?_))
    | (show YG _ _ _ _ _ _ _ _; refine YG.mk (fun hb => by (try (have hc := And.left hb; have hb := And.right hb; rw [hc])); (try rw [hb]); first | exact (y_callIn (awake13_c) (fun _ hw => hI.keep hw.ext) rfl (by decide +kernel)) | exact (y_callRA (q9) ⟨rfl, rfl, rfl⟩) | exact (y_callA (qg) ⟨rfl, rfl⟩) | exact (y_callA (qd) ⟨rfl, rfl⟩) | exact V.y vAuto) ?_)
    | (show VG _ _ _ _ _ _ _ _; refine VG.mk (fun hb => by (try (have hc := And.left hb; have hb := And.right hb; rw [hc])); (try rw [hb]); exact vAuto) ?_)
    | (refine nxVS ?_)
    | (refine nxGS ?_)
    | (refine G.mixedA 14 [.go 0, .go 1, .go 2, .go 3, .go 4, .go 5, .go 6, .go 7, .go 8, .go 9, .go 10, .go 11, .go 12, .go 13, .go 14, .go 15, .go 16, .go 17, .go 18, .go 19, .go 20, .go 21, .go 22, .go 23, .go 24, .go 25, .go 26, .go 27, .go 28, .go 29, .go 30] ?_)
    | (refine nxX ?_)
    | (refine G.condN rfl (fun hc => ?_) (fun hc => ?_) <;> (try first | exact False.elim hc | (exfalso; omega))))
  exact X.ret (vs := [_]) rfl ⟨rfl, rfl⟩ rfl (fun w hw => ⟨ret_bool (by simp [eqCells, vEq]), hw.ext⟩)
/-- PageEntries answers true. -/
theorem entries_law : ContIn Tryz.prog (enP v l) 4 [pgV y m d v, strV s, .int .i64 hour] (.bool true) := by
  have q1 := large_c (y := y) (m := m) (d := d) v l
  cases h1 : largeB l with
  | true => rw [h1] at q1; exact ent_no q1 (.inl rfl)
  | false =>
    rw [h1] at q1
    by_cases hs : s.length ≤ 100
    · obtain ⟨a1, a2⟩ := large_no h1
      cases hb : pageB y m d l with
      | false => exact ent_f a2 hs hb q1
      | true =>
        have hi := idxT_lt (l := l) (nm := s)
        by_cases hk : idxT l s < 0
        · exact ent_n a1 a2 hs hb hk q1
        · obtain ⟨k, hk'⟩ := Int.eq_ofNat_of_zero_le (show 0 ≤ idxT l s by omega)
          by_cases hh : 0 ≤ hour ∧ hour ≤ 24
          · exact ent_t a1 a2 hs hb hk' (by omega) hh q1
          · exact ent_h a1 a2 hs hb hk' (by omega) q1
    · exact ent_no q1 (.inr (by omega))
end
end Go.Proofs.YtpekkcahehhkmaaGreatDoor
/- PageContains: the walk of the law. -/
set_option linter.unusedVariables false
set_option maxHeartbeats 4000000
namespace Go.Proofs.YtpekkcahehhkmaaGreatDoor
open Go.RowKit

theorem page_self {y m d : Int} {l : List TrkT} (h : pageB y m d l = true) {i : Nat} (hi : i < l.length) : idxT l (nth l (i : Int)).nm = (i : Int) := by
  unfold pageB at h
  simp only [Bool.and_eq_true, decide_eq_true_eq] at h
  have := h.2
  unfold tracksOk at this
  rw [List.all_eq_true] at this
  have := this i (List.mem_range.2 hi)
  unfold trkOk at this
  simp only [Bool.and_eq_true, Bool.not_eq_true', decide_eq_false_iff_not] at this
  exact (idx_self hi).2 this.2
section
variable {y m d : Int} {v : Value} {l : List TrkT} {hour : Int}
theorem con_no {c1 c2 : Bool} (q1 : ContIn Tryz.prog (PgP v l) 9 [pgV y m d v] (.bool c1)) (q2 : c1 = false → ContIn Tryz.prog (PgP v l) 11 [pgV y m d v] (.bool c2)) (hno : c1 = true ∨ c2 = false) :
    ContIn Tryz.prog (enP v l) 5 [pgV y m d v, .int .i64 hour] (.bool true) := fun w hw0 => by
  have hI := hw0.1
  have h1 := hw0.2
  refine enter Tryz.func5 rfl rfl rfl (Hp := [Hl.rd v cT 6 l]) (fun h hm => by
    rcases List.mem_singleton.1 hm with rfl
    exact ⟨⟨h1.1, fun h => by cases h⟩, rfl⟩) ?_
  cases c1 with
  | true =>
    repeat' (first
    | (show YK _ _ _ _ _ ⟨_, .call { callee := .value (.func 9), args := _, argTypes := _ }, _, _, _, _⟩ _; refine YK.mk (y_callIn (q1) (fun w hw => h1.keep hw.ext) ⟨rfl, rfl⟩ (by decide +kernel)) ?_)
    | (show YG _ _ _ _ _ _ ⟨_, .call { callee := .value (.func 9), args := _, argTypes := _ }, _, _, _, _⟩ _; refine YG.mk (fun hb => by (try (have hc := And.left hb; have hb := And.right hb; rw [hc])); (try rw [hb]); exact y_callIn (q1) (fun w hw => h1.keep hw.ext) ⟨rfl, rfl⟩ (by decide +kernel)) ?_)
    | (show YK _ _ _ _ _ _ _; first | refine YK.mk (y_callIn (awake13_c) (fun _ hw => hI.keep hw.ext) rfl (by decide +kernel)) ?_)
    | (show YK _ _ _ _ _ _ _; refine YK.ofV vAuto ?_)
    | (show VK _ _ _ _ _ _ _; refine VK.mk vAuto ?_)
    | (show RS _ _ _ _ _ _ _ _; first | (refine nxRS ?_) | (refine nxRS1 fun _ => ?_))
    | (show RM _ _ _ _ _ _ _ _ _ _; first | (refine nxRM ?_) | (refine nxRM1 fun _ => ?_))
    | (show YG _ _ _ _ _ _ _ _; refine YG.mk (fun hb => by (try (have hc := And.left hb; have hb := And.right hb; rw [hc])); (try rw [hb]); first | exact (y_callIn (awake13_c) (fun _ hw => hI.keep hw.ext) rfl (by decide +kernel)) | exact V.y vAuto) ?_)
    | (show VG _ _ _ _ _ _ _ _; refine VG.mk (fun hb => by (try (have hc := And.left hb; have hb := And.right hb; rw [hc])); (try rw [hb]); exact vAuto) ?_)
    | (refine G.mixedA 14 [.go 0, .go 1, .go 2, .go 3, .go 4, .go 5, .go 6, .go 7, .go 8, .go 9, .go 10, .go 11, .go 12, .go 13] ?_)
    | (refine nxX ?_)
    | (refine G.condN rfl (fun hc => ?_) (fun hc => ?_) <;> (try first | exact False.elim hc | (exfalso; omega))))
    exact X.ret (vs := [_]) rfl ⟨rfl, rfl⟩ rfl (fun w hw => ⟨rfl, hw.ext⟩)
  | false =>
    obtain rfl : c2 = false := by rcases hno with h | h; cases h; exact h
    have q2' := q2 rfl
    repeat' (first
    | (show YK _ _ _ _ _ ⟨_, .call { callee := .value (.func 9), args := _, argTypes := _ }, _, _, _, _⟩ _; refine YK.mk (y_callIn (q1) (fun w hw => h1.keep hw.ext) ⟨rfl, rfl⟩ (by decide +kernel)) ?_)
    | (show YG _ _ _ _ _ _ ⟨_, .call { callee := .value (.func 9), args := _, argTypes := _ }, _, _, _, _⟩ _; refine YG.mk (fun hb => by (try (have hc := And.left hb; have hb := And.right hb; rw [hc])); (try rw [hb]); exact y_callIn (q1) (fun w hw => h1.keep hw.ext) ⟨rfl, rfl⟩ (by decide +kernel)) ?_)
    | (show YK _ _ _ _ _ ⟨_, .call { callee := .value (.func 11), args := _, argTypes := _ }, _, _, _, _⟩ _; refine YK.mk (y_callIn (q2') (fun w hw => h1.keep hw.ext) ⟨rfl, rfl⟩ (by decide +kernel)) ?_)
    | (show YG _ _ _ _ _ _ ⟨_, .call { callee := .value (.func 11), args := _, argTypes := _ }, _, _, _, _⟩ _; refine YG.mk (fun hb => by (try (have hc := And.left hb; have hb := And.right hb; rw [hc])); (try rw [hb]); exact y_callIn (q2') (fun w hw => h1.keep hw.ext) ⟨rfl, rfl⟩ (by decide +kernel)) ?_)
    | (show YK _ _ _ _ _ _ _; first | refine YK.mk (y_callIn (awake13_c) (fun _ hw => hI.keep hw.ext) rfl (by decide +kernel)) ?_)
    | (show YK _ _ _ _ _ _ _; refine YK.ofV vAuto ?_)
    | (show VK _ _ _ _ _ _ _; refine VK.mk vAuto ?_)
    | (show RS _ _ _ _ _ _ _ _; first | (refine nxRS ?_) | (refine nxRS1 fun _ => ?_))
    | (show RM _ _ _ _ _ _ _ _ _ _; first | (refine nxRM ?_) | (refine nxRM1 fun _ => ?_))
    | (show YG _ _ _ _ _ _ _ _; refine YG.mk (fun hb => by (try (have hc := And.left hb; have hb := And.right hb; rw [hc])); (try rw [hb]); first | exact (y_callIn (awake13_c) (fun _ hw => hI.keep hw.ext) rfl (by decide +kernel)) | exact V.y vAuto) ?_)
    | (show VG _ _ _ _ _ _ _ _; refine VG.mk (fun hb => by (try (have hc := And.left hb; have hb := And.right hb; rw [hc])); (try rw [hb]); exact vAuto) ?_)
    | (refine G.mixedA 14 [.go 0, .go 1, .go 2, .go 3, .go 4, .go 5, .go 6, .go 7, .go 8, .go 9, .go 10, .go 11, .go 12, .go 13] ?_)
    | (refine nxX ?_)
    | (refine G.condN rfl (fun hc => ?_) (fun hc => ?_) <;> (try first | exact False.elim hc | (exfalso; omega))))
    exact X.ret (vs := [_]) rfl ⟨rfl, rfl⟩ rfl (fun w hw => ⟨rfl, hw.ext⟩)
theorem con_h (hl : l.length ≤ 14) (hf : fitT l) (hb : pageB y m d l = true) (hh : hour < 0 ∨ 24 < hour) (q1 : ContIn Tryz.prog (PgP v l) 9 [pgV y m d v] (.bool false)) :
    ContIn Tryz.prog (enP v l) 5 [pgV y m d v, .int .i64 hour] (.bool true) := fun w hw0 => by
  have hI := hw0.1
  have h1 := hw0.2
  have q2 := pvalid_c (y := y) (m := m) (d := d) (v := v) (fun _ => hf)
  rw [hb] at q2
  refine enter Tryz.func5 rfl rfl rfl (Hp := [Hl.rd v cT 6 l]) (fun h hm => by
    rcases List.mem_singleton.1 hm with rfl
    exact ⟨⟨h1.1, fun h => by cases h⟩, rfl⟩) ?_
  repeat' (first
    | (show YK _ _ _ _ _ ⟨_, .call { callee := .value (.func 9), args := _, argTypes := _ }, _, _, _, _⟩ _; refine YK.mk (y_callIn (q1) (fun w hw => h1.keep hw.ext) ⟨rfl, rfl⟩ (by decide +kernel)) ?_)
    | (show YG _ _ _ _ _ _ ⟨_, .call { callee := .value (.func 9), args := _, argTypes := _ }, _, _, _, _⟩ _; refine YG.mk (fun hb => by (try (have hc := And.left hb; have hb := And.right hb; rw [hc])); (try rw [hb]); exact y_callIn (q1) (fun w hw => h1.keep hw.ext) ⟨rfl, rfl⟩ (by decide +kernel)) ?_)
    | (show YK _ _ _ _ _ ⟨_, .call { callee := .value (.func 11), args := _, argTypes := _ }, _, _, _, _⟩ _; refine YK.mk (y_callIn (q2) (fun w hw => h1.keep hw.ext) ⟨rfl, rfl⟩ (by decide +kernel)) ?_)
    | (show YG _ _ _ _ _ _ ⟨_, .call { callee := .value (.func 11), args := _, argTypes := _ }, _, _, _, _⟩ _; refine YG.mk (fun hb => by (try (have hc := And.left hb; have hb := And.right hb; rw [hc])); (try rw [hb]); exact y_callIn (q2) (fun w hw => h1.keep hw.ext) ⟨rfl, rfl⟩ (by decide +kernel)) ?_)
    | (show YK _ _ _ _ _ _ _; first | refine YK.mk (y_callIn (awake13_c) (fun _ hw => hI.keep hw.ext) rfl (by decide +kernel)) ?_)
    | (show YK _ _ _ _ _ _ _; refine YK.ofV vAuto ?_)
    | (show VK _ _ _ _ _ _ _; refine VK.mk vAuto ?_)
    | (show RS _ _ _ _ _ _ _ _; first | (refine nxRS ?_) | (refine nxRS1 fun _ => ?_))
    | (show RM _ _ _ _ _ _ _ _ _ _; first | (refine nxRM ?_) | (refine nxRM1 fun _ => ?_))
    | (show YG _ _ _ _ _ _ _ _; refine YG.mk (fun hb => by (try (have hc := And.left hb; have hb := And.right hb; rw [hc])); (try rw [hb]); first | exact (y_callIn (awake13_c) (fun _ hw => hI.keep hw.ext) rfl (by decide +kernel)) | exact V.y vAuto) ?_)
    | (show VG _ _ _ _ _ _ _ _; refine VG.mk (fun hb => by (try (have hc := And.left hb; have hb := And.right hb; rw [hc])); (try rw [hb]); exact vAuto) ?_)
    | (refine G.mixedA 14 [.go 0, .go 1, .go 2, .go 3, .go 4, .go 5, .go 6, .go 7, .go 8, .go 9, .go 10, .go 11, .go 12, .go 13] ?_)
    | (refine nxX ?_)
    | (refine G.condN rfl (fun hc => ?_) (fun hc => ?_) <;> (try first | exact False.elim hc | (exfalso; omega))))
  rename_i b2 _
  refine G.loop (ι := Nat) (fun i => [(1, .int .i64 hour), (2, .pointer (some ⟨b2, 0, none⟩)), (24, v), (25, .int .i64 l.length), (26, .int .i64 (i : Int))]) (fun _ => [Hl.blk b2 26 [.int .i64 y, .int .i64 m, .int .i64 d, v], Hl.rd v cT 6 l]) (fun i => i ≤ l.length) (fun i => l.length - i) 0 (Nat.zero_le _) ⟨rfl, rfl, rfl, rfl, rfl, trivial⟩ (fun w h => h) ?_
  rintro i mx g1 hmx
  rcases Nat.lt_or_ge i l.length with hi | hi
  · have q3 := pFind_c (y := y) (m := m) (d := d) (v := v) (nth l (i : Int)).nm (fun _ => hf)
    rw [hb, page_self hb hi, show findP true (i : Int) = ((i : Int), 0) by unfold findP; rw [if_pos rfl, if_pos (by omega)]] at q3
    have q4 := pent_h (hour := hour) q3 hh
    repeat' (first
    | (show YK _ _ _ _ _ ⟨_, .call { callee := .builtin .len, args := _, argTypes := #[9] }, _, _, _, _⟩ _; refine YK.ofV (y_lenS (by rfl) StrTy.is) ?_)
    | (show VK _ _ _ _ _ ⟨_, .call { callee := .builtin .len, args := _, argTypes := #[9] }, _, _, _, _⟩ _; refine VK.mk (y_lenS (by rfl) StrTy.is) ?_)
    | (show YG _ _ _ _ _ _ ⟨_, .call { callee := .builtin .len, args := _, argTypes := #[9] }, _, _, _, _⟩ _; refine YG.mk (fun hb => by (try (have hc := And.left hb; have hb := And.right hb; rw [hc])); (try rw [hb]); exact V.y (y_lenS (by rfl) StrTy.is)) ?_)
    | (show VG _ _ _ _ _ _ ⟨_, .call { callee := .builtin .len, args := _, argTypes := #[9] }, _, _, _, _⟩ _; refine VG.mk (fun hb => by (try (have hc := And.left hb; have hb := And.right hb; rw [hc])); (try rw [hb]); exact y_lenS (by rfl) StrTy.is) ?_)
    | (show YK _ _ _ _ _ ⟨_, .call { callee := .value (.func 16), args := _, argTypes := _ }, _, _, _, _⟩ _; refine YK.mk (y_callIn (q4) (fun w hw => h1.keep hw.ext) ⟨rfl, rfl, rfl, rfl⟩ (by decide +kernel)) ?_)
    | (show YG _ _ _ _ _ _ ⟨_, .call { callee := .value (.func 16), args := _, argTypes := _ }, _, _, _, _⟩ _; refine YG.mk (fun hb => by (try (have hc := And.left hb; have hb := And.right hb; rw [hc])); (try rw [hb]); exact y_callIn (q4) (fun w hw => h1.keep hw.ext) ⟨rfl, rfl, rfl, rfl⟩ (by decide +kernel)) ?_)
    | (refine nxV ?_)
    | (show RS _ _ _ _ _ _ _ _; first | (refine nxRS ?_) | (refine nxRS1 fun _ => ?_))
    | (show RM _ _ _ _ _ _ _ _ _ _; first | (refine nxRM ?_) | (refine nxRM1 fun _ => ?_))
    | (refine nxG ?_)
    | (refine nxVS ?_)
    | (refine nxGS ?_)
    | (refine G.mixedA 14 [.go 0, .go 1, .go 2, .go 3, .go 4, .go 5, .go 6, .go 7, .go 8, .go 9, .go 10, .go 11, .go 12, .go 13] ?_)
    | (refine nxX ?_)
    | (refine G.condN rfl (fun hc => ?_) (fun hc => ?_) <;> (try first | exact False.elim hc | (exfalso; omega))))
    exact X.again (i + 1) (by omega) (by omega) ⟨rfl, rfl, rfl, rfl, rfl, trivial⟩ (by exact fun w h => h.sub (by repeat (first | exact List.Sublist.refl _ | apply List.Sublist.cons_cons | apply List.Sublist.cons)))
  · repeat' (first
    | (refine nxV ?_)
    | (show RS _ _ _ _ _ _ _ _; first | (refine nxRS ?_) | (refine nxRS1 fun _ => ?_))
    | (show RM _ _ _ _ _ _ _ _ _ _; first | (refine nxRM ?_) | (refine nxRM1 fun _ => ?_))
    | (refine nxG ?_)
    | (refine G.mixedA 14 [.go 0, .go 1, .go 2, .go 3, .go 4, .go 5, .go 6, .go 7, .go 8, .go 9, .go 10, .go 11, .go 12, .go 13] ?_)
    | (refine nxX ?_)
    | (refine G.condN rfl (fun hc => ?_) (fun hc => ?_) <;> (try first | exact False.elim hc | (exfalso; omega))))
    exact X.ret (vs := [_]) rfl ⟨rfl, rfl⟩ rfl (fun w hw => ⟨rfl, hw.ext⟩)
theorem con_t (hl : l.length ≤ 14) (hf : fitT l) (hb : pageB y m d l = true) (hh : 0 ≤ hour ∧ hour ≤ 24) (q1 : ContIn Tryz.prog (PgP v l) 9 [pgV y m d v] (.bool false)) :
    ContIn Tryz.prog (enP v l) 5 [pgV y m d v, .int .i64 hour] (.bool true) := fun w hw0 => by
  have hI := hw0.1
  have h1 := hw0.2
  have q2 := pvalid_c (y := y) (m := m) (d := d) (v := v) (fun _ => hf)
  rw [hb] at q2
  refine enter Tryz.func5 rfl rfl rfl (Hp := [Hl.rd v cT 6 l]) (fun h hm => by
    rcases List.mem_singleton.1 hm with rfl
    exact ⟨⟨h1.1, fun h => by cases h⟩, rfl⟩) ?_
  repeat' (first
    | (show YK _ _ _ _ _ ⟨_, .call { callee := .value (.func 9), args := _, argTypes := _ }, _, _, _, _⟩ _; refine YK.mk (y_callIn (q1) (fun w hw => h1.keep hw.ext) ⟨rfl, rfl⟩ (by decide +kernel)) ?_)
    | (show YG _ _ _ _ _ _ ⟨_, .call { callee := .value (.func 9), args := _, argTypes := _ }, _, _, _, _⟩ _; refine YG.mk (fun hb => by (try (have hc := And.left hb; have hb := And.right hb; rw [hc])); (try rw [hb]); exact y_callIn (q1) (fun w hw => h1.keep hw.ext) ⟨rfl, rfl⟩ (by decide +kernel)) ?_)
    | (show YK _ _ _ _ _ ⟨_, .call { callee := .value (.func 11), args := _, argTypes := _ }, _, _, _, _⟩ _; refine YK.mk (y_callIn (q2) (fun w hw => h1.keep hw.ext) ⟨rfl, rfl⟩ (by decide +kernel)) ?_)
    | (show YG _ _ _ _ _ _ ⟨_, .call { callee := .value (.func 11), args := _, argTypes := _ }, _, _, _, _⟩ _; refine YG.mk (fun hb => by (try (have hc := And.left hb; have hb := And.right hb; rw [hc])); (try rw [hb]); exact y_callIn (q2) (fun w hw => h1.keep hw.ext) ⟨rfl, rfl⟩ (by decide +kernel)) ?_)
    | (show YK _ _ _ _ _ _ _; first | refine YK.mk (y_callIn (awake13_c) (fun _ hw => hI.keep hw.ext) rfl (by decide +kernel)) ?_)
    | (show YK _ _ _ _ _ _ _; refine YK.ofV vAuto ?_)
    | (show VK _ _ _ _ _ _ _; refine VK.mk vAuto ?_)
    | (show RS _ _ _ _ _ _ _ _; first | (refine nxRS ?_) | (refine nxRS1 fun _ => ?_))
    | (show RM _ _ _ _ _ _ _ _ _ _; first | (refine nxRM ?_) | (refine nxRM1 fun _ => ?_))
    | (show YG _ _ _ _ _ _ _ _; refine YG.mk (fun hb => by (try (have hc := And.left hb; have hb := And.right hb; rw [hc])); (try rw [hb]); first | exact (y_callIn (awake13_c) (fun _ hw => hI.keep hw.ext) rfl (by decide +kernel)) | exact V.y vAuto) ?_)
    | (show VG _ _ _ _ _ _ _ _; refine VG.mk (fun hb => by (try (have hc := And.left hb; have hb := And.right hb; rw [hc])); (try rw [hb]); exact vAuto) ?_)
    | (refine G.mixedA 14 [.go 0, .go 1, .go 2, .go 3, .go 4, .go 5, .go 6, .go 7, .go 8, .go 9, .go 10, .go 11, .go 12, .go 13] ?_)
    | (refine nxX ?_)
    | (refine G.condN rfl (fun hc => ?_) (fun hc => ?_) <;> (try first | exact False.elim hc | (exfalso; omega))))
  rename_i b2 _
  refine G.loop (ι := Nat) (fun i => [(1, .int .i64 hour), (2, .pointer (some ⟨b2, 0, none⟩)), (24, v), (25, .int .i64 l.length), (26, .int .i64 (i : Int))]) (fun _ => [Hl.blk b2 26 [.int .i64 y, .int .i64 m, .int .i64 d, v], Hl.rd v cT 6 l]) (fun i => i ≤ l.length) (fun i => l.length - i) 0 (Nat.zero_le _) ⟨rfl, rfl, rfl, rfl, rfl, trivial⟩ (fun w h => h) ?_
  rintro i mx g1 hmx
  rcases Nat.lt_or_ge i l.length with hi | hi
  · have q3 := pFind_c (y := y) (m := m) (d := d) (v := v) (nth l (i : Int)).nm (fun _ => hf)
    rw [hb, page_self hb hi, show findP true (i : Int) = ((i : Int), 0) by unfold findP; rw [if_pos rfl, if_pos (by omega)]] at q3
    obtain ⟨hl12, ho⟩ := page_tr hb hi
    obtain ⟨o1, o2, o3, o4, o5, _⟩ := okT_parts ho
    have b1 := inB_nth o4 (i := hour) (by omega)
    have b2' := inB_nth o5 (i := hour) (by omega)
    have q4 := pent_t (hour := hour) q3 hl12 hi ho hh
    clear o1 o4 o5 ho q3
    obtain ⟨A, hA⟩ : ∃ A, (100 * nth (nth l (i : Int)).gl hour - 50) % 21600000 = A := ⟨_, rfl⟩
    obtain ⟨C, hC⟩ : ∃ C, max (100 * nth (nth l (i : Int)).dl hour - 50) (-5400000) = C := ⟨_, rfl⟩
    obtain ⟨D, hD⟩ : ∃ D, min (100 * nth (nth l (i : Int)).dl hour + 50) 5400000 = D := ⟨_, rfl⟩
    rw [hA, hC, hD] at q4
    have a1 : 0 ≤ A ∧ A < 21600000 := by omega
    have a2 : (100 * nth (nth l (i : Int)).gl hour - A) % 21600000 = 50 := by omega
    have a3 : (A + 50) % 21600000 = 100 * nth (nth l (i : Int)).gl hour := by omega
    have v1 := rarcValid_c (lo := A) (hi := A + 100) (by omega)
    have v2 := rarcValid_c (lo := C) (hi := D) (by omega)
    have qa := agree_c (a := A) (b := A + 100) (c := 100 * nth (nth l (i : Int)).gl hour) (d := 100 * nth (nth l (i : Int)).gl hour) (by omega)
    rw [a2, show (decide ((50 : Int) ≤ A + 100 - A) || decide ((A - 100 * nth (nth l (i : Int)).gl hour) % 21600000 ≤ 100 * nth (nth l (i : Int)).gl hour - 100 * nth (nth l (i : Int)).gl hour)) = true by rw [decide_eq_true (by omega), Bool.true_or]] at qa
    have qw := awrap_c (n := A + 50) (by omega)
    rw [a3] at qw
    have c1 : C ≤ 100 * nth (nth l (i : Int)).dl hour ∧ 100 * nth (nth l (i : Int)).dl hour ≤ D ∧ D - C ≤ 100 ∧ 50 ≤ D - C ∧ (D - C < 100 → 100 * nth (nth l (i : Int)).dl hour = 5400000 ∨ 100 * nth (nth l (i : Int)).dl hour = -5400000) ∧ -5400000 ≤ C ∧ D ≤ 5400000 := by omega
    clear hA hC hD a2 a3
    refine G.bring (h1.2.at hi).1 (G.bring (h1.2.at hi).2 ?_)
    repeat' (first
    | (show YK _ _ _ _ _ ⟨_, .call { callee := .builtin .len, args := _, argTypes := #[9] }, _, _, _, _⟩ _; refine YK.ofV (y_lenS (by rfl) StrTy.is) ?_)
    | (show VK _ _ _ _ _ ⟨_, .call { callee := .builtin .len, args := _, argTypes := #[9] }, _, _, _, _⟩ _; refine VK.mk (y_lenS (by rfl) StrTy.is) ?_)
    | (show YG _ _ _ _ _ _ ⟨_, .call { callee := .builtin .len, args := _, argTypes := #[9] }, _, _, _, _⟩ _; refine YG.mk (fun hb => by (try (have hc := And.left hb; have hb := And.right hb; rw [hc])); (try rw [hb]); exact V.y (y_lenS (by rfl) StrTy.is)) ?_)
    | (show VG _ _ _ _ _ _ ⟨_, .call { callee := .builtin .len, args := _, argTypes := #[9] }, _, _, _, _⟩ _; refine VG.mk (fun hb => by (try (have hc := And.left hb; have hb := And.right hb; rw [hc])); (try rw [hb]); exact y_lenS (by rfl) StrTy.is) ?_)
    | (show YK _ _ _ _ _ ⟨_, .call { callee := .value (.func 16), args := _, argTypes := _ }, _, _, _, _⟩ _; refine YK.mk (y_callIn (q4) (fun w hw => h1.keep hw.ext) ⟨rfl, rfl, rfl, rfl⟩ (by decide +kernel)) ?_)
    | (show YG _ _ _ _ _ _ ⟨_, .call { callee := .value (.func 16), args := _, argTypes := _ }, _, _, _, _⟩ _; refine YG.mk (fun hb => by (try (have hc := And.left hb; have hb := And.right hb; rw [hc])); (try rw [hb]); exact y_callIn (q4) (fun w hw => h1.keep hw.ext) ⟨rfl, rfl, rfl, rfl⟩ (by decide +kernel)) ?_)
    | (show YK _ _ _ _ _ _ _; first | refine YK.mk (y_callA (v1) ⟨rfl, rfl⟩) ?_ | refine YK.mk (y_callA (v2) ⟨rfl, rfl⟩) ?_ | refine YK.mk (y_callA (qa) ⟨rfl, rfl, rfl⟩) ?_ | refine YK.mk (y_callA (qw) ⟨rfl, rfl⟩) ?_)
    | (show YK _ _ _ _ _ _ _; refine YK.ofV vAuto ?_)
    | (show VK _ _ _ _ _ _ _; refine VK.mk vAuto ?_)
    | (show RS _ _ _ _ _ _ _ _; first | (refine nxRS ?_) | (refine nxRS1 fun _ => ?_))
    | (show RM _ _ _ _ _ _ _ _ _ _; first | (refine nxRM ?_) | (refine nxRM1 fun _ => ?_))
    | (show YG _ _ _ _ _ _ _ _; refine YG.mk (fun hb => by (try (have hc := And.left hb; have hb := And.right hb; rw [hc])); (try rw [hb]); first | exact (y_callA (v1) ⟨rfl, rfl⟩) | exact (y_callA (v2) ⟨rfl, rfl⟩) | exact (y_callA (qa) ⟨rfl, rfl, rfl⟩) | exact (y_callA (qw) ⟨rfl, rfl⟩) | exact V.y vAuto) ?_)
    | (show VG _ _ _ _ _ _ _ _; refine VG.mk (fun hb => by (try (have hc := And.left hb; have hb := And.right hb; rw [hc])); (try rw [hb]); exact vAuto) ?_)
    | (refine nxVS ?_)
    | (refine nxGS ?_)
    | (refine G.mixedA 14 [.go 0, .go 1, .go 2, .go 3, .go 4, .go 5, .go 6, .go 7, .go 8, .go 9, .go 10, .go 11, .go 12, .go 13] ?_)
    | (refine nxX ?_)
    | (refine G.condN rfl (fun hc => ?_) (fun hc => ?_) <;> (try first | exact False.elim hc | (exfalso; omega))))
    exact X.again (i + 1) (by omega) (by omega) ⟨rfl, rfl, rfl, rfl, rfl, trivial⟩ (by exact fun w h => h.sub (by repeat (first | exact List.Sublist.refl _ | apply List.Sublist.cons_cons | apply List.Sublist.cons)))
  · repeat' (first
    | (refine nxV ?_)
    | (show RS _ _ _ _ _ _ _ _; first | (refine nxRS ?_) | (refine nxRS1 fun _ => ?_))
    | (show RM _ _ _ _ _ _ _ _ _ _; first | (refine nxRM ?_) | (refine nxRM1 fun _ => ?_))
    | (refine nxG ?_)
    | (refine G.mixedA 14 [.go 0, .go 1, .go 2, .go 3, .go 4, .go 5, .go 6, .go 7, .go 8, .go 9, .go 10, .go 11, .go 12, .go 13] ?_)
    | (refine nxX ?_)
    | (refine G.condN rfl (fun hc => ?_) (fun hc => ?_) <;> (try first | exact False.elim hc | (exfalso; omega))))
    exact X.ret (vs := [_]) rfl ⟨rfl, rfl⟩ rfl (fun w hw => ⟨rfl, hw.ext⟩)
/-- PageContains answers true. -/
theorem contains_law : ContIn Tryz.prog (enP v l) 5 [pgV y m d v, .int .i64 hour] (.bool true) := by
  have q1 := large_c (y := y) (m := m) (d := d) v l
  cases h1 : largeB l with
  | true => rw [h1] at q1; exact con_no (c2 := true) q1 (fun h => by cases h) (.inl rfl)
  | false =>
    rw [h1] at q1
    obtain ⟨a1, a2⟩ := large_no h1
    cases hb : pageB y m d l with
    | false =>
      have q2 := pvalid_c (y := y) (m := m) (d := d) (v := v) (fun _ => a2)
      rw [hb] at q2
      exact con_no q1 (fun _ => q2) (.inr rfl)
    | true =>
      by_cases hh : 0 ≤ hour ∧ hour ≤ 24
      · exact con_t a1 a2 hb hh q1
      · exact con_h a1 a2 hb (by omega) q1
end
end Go.Proofs.YtpekkcahehhkmaaGreatDoor
/- PageTexts: the walk of the law. -/
set_option linter.unusedVariables false
set_option maxHeartbeats 4000000
namespace Go.Proofs.YtpekkcahehhkmaaGreatDoor
open Go.RowKit

/-! ### What a page's text measures -/
theorem itoa3 {n : Nat} (h : n < 1000) : (Lib.itoa (n : Int)).length ≤ 3 := by
  rw [itoa_of_nat]
  by_cases h1 : n < 10
  · rw [deci_lt h1]; simp
  · rw [deci_ge (by omega)]
    by_cases h2 : n / 10 < 10
    · rw [deci_lt h2]; simp
    · rw [deci_ge (by omega), deci_lt (by omega)]; simp
theorem itoa3' {n : Int} (h : 0 ≤ n ∧ n < 1000) : (Lib.itoa n).length ≤ 3 := by
  obtain ⟨u, rfl⟩ := Int.eq_ofNat_of_zero_le h.1
  exact itoa3 (by omega)
theorem pad2_len {n : Int} (h : 0 ≤ n ∧ n < 100) : (padL n 2).length = 2 := by
  obtain ⟨u, rfl⟩ := Int.eq_ofNat_of_zero_le h.1
  rw [padd2 (by omega)]; rfl
theorem angT_len3 {n : Int} (h : 0 ≤ n ∧ n ≤ 215999) : (angT n).length ≤ 12 := by
  have l1 := itoa3' (n := n / 600) (by omega)
  have l2 := pad2_len (n := n % 600 / 10) (by omega)
  have l3 := itoa3' (n := n % 600 % 10) (by omega)
  simp only [angT, List.length_append, List.length_cons]; omega
theorem tenL_len3 {n : Int} (h : 0 ≤ n ∧ n ≤ 1000) : (tenL n).length ≤ 7 := by
  have l1 := itoa3' (n := n / 10) (by omega)
  have l2 := itoa3' (n := n % 10) (by omega)
  simp only [tenL, List.length_append, List.length_cons]; omega
theorem nameB_len {w : List UInt8} (h : nameB w = true) : w.length ≤ 20 := by
  unfold nameB at h
  simp only [Bool.and_eq_true, decide_eq_true_eq] at h
  omega
theorem trkT_len {t : TrkT} (ho : okT t = true) : ∀ h : Nat, h ≤ 25 → (trkT t h).length ≤ 80 + 40 * h
  | 0, _ => by
    obtain ⟨o1, o2, o3, o4, o5, o6, o7, o8⟩ := okT_parts ho
    have l0 := nameB_len o1
    have l1 := tenL_len3 (n := t.se) (by omega)
    have l2 := tenL_len3 (n := t.pa) (by omega)
    have l3 := tenL_len3 (n := t.be) (by omega)
    simp only [trkT, bodyW, List.length_nil, List.length_append, List.length_cons]; omega
  | h + 1, hh => by
    have ih := trkT_len ho h (by omega)
    obtain ⟨o1, o2, o3, o4, o5, o6, o7, o8⟩ := okT_parts ho
    have b1 := inB_nth o4 (i := (h : Int)) (by omega)
    have b2 := inB_nth o5 (i := (h : Int)) (by omega)
    have l1 := itoa3 (n := h) (by omega)
    have l2 := angT_len3 (n := nth t.gl (h : Int)) (by omega)
    have l3 := angT_len3 (n := max (nth t.dl (h : Int)) (-(nth t.dl (h : Int)))) (by omega)
    have e : (entT t h).length ≤ 40 := by
      unfold entT entW
      simp only [List.length_append, List.length_singleton]
      split <;> simp only [List.length_cons, List.length_nil] <;> omega
    show (trkT t h ++ entT t h).length ≤ _
    rw [List.length_append]; omega
theorem pgT_len {y m d : Int} {l : List TrkT} (hb : pageB y m d l = true) : ∀ k : Nat, k ≤ l.length → (pgT y m d l k).length ≤ 200 + 1100 * k
  | 0, _ => by
    have hdt : validB y m d = true := by unfold pageB dateOk at hb; simp at hb; exact hb.1.1.1
    have ld := dateL_len hdt
    simp only [pgT, dateW, List.length_nil, List.length_append, List.length_cons]; omega
  | k + 1, h => by
    have ih := pgT_len hb k (by omega)
    have h2 := trkT_len (page_tr hb (i := k) (by omega)).2 25 (Nat.le_refl _)
    show (pgT y m d l k ++ trkT (nth l (k : Int)) 25).length ≤ _
    rw [List.length_append]; omega
/-! ### Tracks that hold the same -/
theorem same_len {l l' : List TrkT} (h : l'.map trkP = l.map trkP) : l'.length = l.length := by
  have := congrArg List.length h
  simpa using this
theorem same_nth {l l' : List TrkT} (h : l'.map trkP = l.map trkP) {i : Nat} (hi : i < l.length) : trkP (nth l' (i : Int)) = trkP (nth l (i : Int)) := by
  have e := nth_some (l := l) (m := (i : Int)) (by omega) (by omega)
  have hl := same_len h
  have e' := nth_some (l := l') (m := (i : Int)) (by omega) (by omega)
  rw [Int.toNat_natCast] at e e'
  have h1 : (l'.map trkP)[i]? = (l.map trkP)[i]? := by rw [h]
  rw [List.getElem?_map, List.getElem?_map, e, e'] at h1
  exact Option.some.inj h1
theorem okT_same {s t : TrkT} (h : trkP s = trkP t) : okT s = okT t := by
  unfold trkP at h
  simp only [Prod.mk.injEq] at h
  obtain ⟨h1, h2, h3, h4, h5, h6⟩ := h
  unfold okT
  rw [h1, h2, h3, h4, h5, h6]
theorem sameT_same {s t : TrkT} (h : trkP s = trkP t) : sameT s t = true := by
  unfold trkP at h
  simp only [Prod.mk.injEq] at h
  obtain ⟨h1, h2, h3, h4, h5, h6⟩ := h
  unfold sameT
  rw [h1, h2, h3, h4, h5, h6]
  simp
theorem nmsL_same {l l' : List TrkT} (h : l'.map trkP = l.map trkP) (i : Nat) : nmsL l' i = nmsL l i := by
  have e : ∀ l : List TrkT, nmsL l i = (((l.map trkP).take i).map (·.1)).reverse := fun l => by
    unfold nmsL
    rw [← List.map_take, List.map_map]; rfl
  rw [e, e, h]
theorem pageB_same {y m d : Int} {l l' : List TrkT} (h : l'.map trkP = l.map trkP) : pageB y m d l' = pageB y m d l := by
  have hl := same_len h
  have e : tracksOk l' = tracksOk l := by
    unfold tracksOk
    rw [hl, Bool.eq_iff_iff, List.all_eq_true, List.all_eq_true]
    have ee : ∀ i, i < l.length → trkOk l' i = trkOk l i := fun i hi => by
      unfold trkOk
      have e1 := same_nth h hi
      rw [okT_same e1, nmsL_same h, show (nth l' (i : Int)).nm = (nth l (i : Int)).nm from congrArg Prod.fst e1]
    exact ⟨fun g i hi => by rw [← ee i (List.mem_range.1 hi)]; exact g i hi, fun g i hi => by rw [ee i (List.mem_range.1 hi)]; exact g i hi⟩
  unfold pageB
  rw [hl, e]
theorem fitT_same {l l' : List TrkT} (h : l'.map trkP = l.map trkP) (hf : fitT l) : fitT l' := fun t ht => by
  have hm : trkP t ∈ l.map trkP := h ▸ List.mem_map_of_mem ht
  obtain ⟨t0, h0, e⟩ := List.mem_map.1 hm
  have := hf t0 h0
  unfold trkP at e
  simp only [Prod.mk.injEq] at e
  rw [e.1, e.2.1, e.2.2.1] at this
  exact this
theorem sameL_same {l l' : List TrkT} (h : l'.map trkP = l.map trkP) : sameL l l' = true :=
  sameL_t (same_len h).symm fun k hk => sameT_same (same_nth h hk).symm
theorem large_fit {l : List TrkT} (hl : l.length ≤ 14) (hf : fitT l) : largeB l = false := by
  unfold largeB anyB
  rw [Bool.or_eq_false_iff]
  refine ⟨decide_eq_false (by omega), ?_⟩
  rw [List.any_eq_false]
  intro i hi
  have := hf.at (List.mem_range.1 hi)
  unfold bigB
  simp; omega
/-! ### The text is read back -/
theorem repS_one : ∀ l : List UInt8, repS [32] l = l
  | [] => rfl
  | b :: r => by
    unfold repS
    rw [List.flatMap_cons]
    have := repS_one r
    unfold repS at this
    rw [this]
    split
    · rename_i h; rw [h]; rfl
    · rfl
theorem decor_zero (x : List UInt8) : decor 0 x = x ++ [10] := by
  show [] ++ (repS [32] x ++ ([] ++ [10])) = _
  rw [repS_one]; rfl
theorem plain_lines (ls : List (List UInt8)) : (ls.mapIdx fun j x => decor ((fun _ : Nat => 0) j) x).flatten = lnsT ls := by
  have e : (ls.mapIdx fun j x => decor ((fun _ : Nat => 0) j) x) = ls.map fun x => x ++ [10] := by
    apply List.ext_getElem
    · simp
    · intro i h1 h2
      simp [decor_zero]
  rw [e]
  unfold lnsT
  rw [List.flatMap_def]
theorem trkV_of {t : TrkT} (ho : okT t = true) : TrkV (trkP t) := by
  obtain ⟨o1, o2, o3, o4, o5, o6, o7, o8⟩ := okT_parts ho
  exact ⟨o1, o2, o3, fun i hi => inB_nth o4 (by show 0 ≤ (i : Int) ∧ (i : Int) < t.gl.length; omega), fun i hi => inB_nth o5 (by show 0 ≤ (i : Int) ∧ (i : Int) < t.dl.length; omega), o6, o7, o8⟩
theorem page_trV {y m d : Int} {l : List TrkT} (hb : pageB y m d l = true) : ∀ t ∈ l.map trkP, TrkV t := fun t ht => by
  obtain ⟨t0, h0, rfl⟩ := List.mem_map.1 ht
  obtain ⟨i, hi, rfl⟩ := List.getElem_of_mem h0
  have e := nth_some (l := l) (m := (i : Int)) (by omega) (by omega)
  rw [Int.toNat_natCast, List.getElem?_eq_getElem hi] at e
  rw [Option.some.inj e]
  exact trkV_of (page_tr hb hi).2
theorem page_date {y m d : Int} {l : List TrkT} (hb : pageB y m d l = true) : (0 ≤ y ∧ y < 10000) ∧ (0 ≤ m ∧ m < 100) ∧ 0 ≤ d ∧ d < 100 := by
  have hdt : validB y m d = true := by unfold pageB dateOk at hb; simp at hb; exact hb.1.1.1
  obtain ⟨hy, hm, hd⟩ := valid_of hdt
  have hdm := dim_bd y m
  omega
theorem page_len {y m d : Int} {l : List TrkT} (hb : pageB y m d l = true) : l.length ≤ 12 := by unfold pageB at hb; simp at hb; omega
theorem text_back {y m d : Int} {l : List TrkT} (hb : pageB y m d l = true) : ∃ E, Lx (pgT y m d l l.length) E ∧ pageP 13 E = some ((y, m, d), l.map trkP) := by
  obtain ⟨d1, d2, d3⟩ := page_date hb
  have hl := page_len hb
  obtain ⟨E, e1, e2⟩ := page_back (page_trV hb) d1 d2 d3 (fun _ => 0) (r := []) (a := 0) Lx.nil 13 (by rw [List.length_map]; omega)
  rw [plain_lines, List.append_nil, ← pgT_all] at e1
  exact ⟨E, e1, e2⟩
section
variable {y m d : Int} {v : Value} {l : List TrkT}
theorem large_q {l1 : List TrkT} {u : Value} (h : l1.map trkP = l.map trkP) (hl : l.length ≤ 14) (hf : fitT l) : ContIn Tryz.prog (PgP u l1) 9 [pgV y m d u] (.bool false) := by
  have q := large_c (y := y) (m := m) (d := d) u l1
  rwa [large_fit (by rw [same_len h]; exact hl) (fitT_same h hf)] at q
theorem rsame_q {l1 : List TrkT} {u : Value} (h : l1.map trkP = l.map trkP) (hl : l.length ≤ 14) (hf : fitT l) : ContIn Tryz.prog (fun w => PgP v l w ∧ PgP u l1 w) 14 [pgV y m d v, pgV y m d u] (.bool true) := by
  have q := rsame_c (y := y) (m := m) (d := d) (y' := y) (m' := m) (d' := d) (v := v) (u := u) (fit_big hf hl) (fit_big (fitT_same h hf) (by rw [same_len h]; exact hl))
  rwa [dateQ_refl, sameL_same h] at q
theorem psame_q {l1 : List TrkT} {u : Value} (h : l1.map trkP = l.map trkP) (hl : l.length ≤ 14) (hf : fitT l) : ContIn Tryz.prog (fun w => PgP v l w ∧ PgP u l1 w) 13 [pgV y m d v, pgV y m d u] (.bool true) := by
  have q := psame_c (y := y) (m := m) (d := d) (y' := y) (m' := m) (d' := d) (v := v) (u := u) (fit_big hf hl) (fit_big (fitT_same h hf) (by rw [same_len h]; exact hl))
  rwa [dateQ_refl, sameL_same h] at q
theorem tex_no (q1 : ContIn Tryz.prog (PgP v l) 9 [pgV y m d v] (.bool true)) :
    ContIn Tryz.prog (enP v l) 6 [pgV y m d v] (.bool true) := fun w hw0 => by
  have hI := hw0.1
  have h1 := hw0.2
  refine enter Tryz.func6 rfl rfl rfl (Hp := []) (fun h hm => by cases hm) ?_
  repeat' (first
    | (show YK _ _ _ _ _ ⟨_, .call { callee := .value (.func 9), args := _, argTypes := _ }, _, _, _, _⟩ _; refine YK.mk (y_callIn (q1) (fun w hw => h1.keep hw.ext) ⟨rfl, rfl⟩ (by decide +kernel)) ?_)
    | (show YG _ _ _ _ _ _ ⟨_, .call { callee := .value (.func 9), args := _, argTypes := _ }, _, _, _, _⟩ _; refine YG.mk (fun hb => by (try (have hc := And.left hb; have hb := And.right hb; rw [hc])); (try rw [hb]); exact y_callIn (q1) (fun w hw => h1.keep hw.ext) ⟨rfl, rfl⟩ (by decide +kernel)) ?_)
    | (show YK _ _ _ _ _ _ _; first | refine YK.mk (y_callIn (awake13_c) (fun _ hw => hI.keep hw.ext) rfl (by decide +kernel)) ?_)
    | (show YK _ _ _ _ _ _ _; refine YK.ofV vAuto ?_)
    | (show VK _ _ _ _ _ _ _; refine VK.mk vAuto ?_)
    | (show RS _ _ _ _ _ _ _ _; first | (refine nxRS ?_) | (refine nxRS1 fun _ => ?_))
    | (show RM _ _ _ _ _ _ _ _ _ _; first | (refine nxRM ?_) | (refine nxRM1 fun _ => ?_))
    | (show YG _ _ _ _ _ _ _ _; refine YG.mk (fun hb => by (try (have hc := And.left hb; have hb := And.right hb; rw [hc])); (try rw [hb]); first | exact (y_callIn (awake13_c) (fun _ hw => hI.keep hw.ext) rfl (by decide +kernel)) | exact V.y vAuto) ?_)
    | (show VG _ _ _ _ _ _ _ _; refine VG.mk (fun hb => by (try (have hc := And.left hb; have hb := And.right hb; rw [hc])); (try rw [hb]); exact vAuto) ?_)
    | (refine nxX ?_)
    | (refine G.condN rfl (fun hc => ?_) (fun hc => ?_) <;> (try first | exact False.elim hc | (exfalso; omega))))
  exact X.ret (vs := [_]) rfl ⟨rfl, rfl⟩ rfl (fun w hw => ⟨rfl, hw.ext⟩)
theorem tex_f (hf : fitT l) (hb : pageB y m d l = false) (q1 : ContIn Tryz.prog (PgP v l) 9 [pgV y m d v] (.bool false)) :
    ContIn Tryz.prog (enP v l) 6 [pgV y m d v] (.bool true) := fun w hw0 => by
  have hI := hw0.1
  have h1 := hw0.2
  have q2 := ptext_f (v := v) (fun _ => hf) hb
  have q5 := rvalidP_c (y := y) (m := m) (d := d) (v := v) (fun _ => hf)
  rw [hb] at q5
  refine enter Tryz.func6 rfl rfl rfl (Hp := []) (fun h hm => by cases hm) ?_
  repeat' (first
    | (show YK _ _ _ _ _ ⟨_, .call { callee := .builtin .len, args := _, argTypes := #[9] }, _, _, _, _⟩ _; refine YK.ofV (y_lenS (by rfl) StrTy.is) ?_)
    | (show VK _ _ _ _ _ ⟨_, .call { callee := .builtin .len, args := _, argTypes := #[9] }, _, _, _, _⟩ _; refine VK.mk (y_lenS (by rfl) StrTy.is) ?_)
    | (show YG _ _ _ _ _ _ ⟨_, .call { callee := .builtin .len, args := _, argTypes := #[9] }, _, _, _, _⟩ _; refine YG.mk (fun hb => by (try (have hc := And.left hb; have hb := And.right hb; rw [hc])); (try rw [hb]); exact V.y (y_lenS (by rfl) StrTy.is)) ?_)
    | (show VG _ _ _ _ _ _ ⟨_, .call { callee := .builtin .len, args := _, argTypes := #[9] }, _, _, _, _⟩ _; refine VG.mk (fun hb => by (try (have hc := And.left hb; have hb := And.right hb; rw [hc])); (try rw [hb]); exact y_lenS (by rfl) StrTy.is) ?_)
    | (show YK _ _ _ _ _ ⟨_, .call { callee := .value (.func 9), args := _, argTypes := _ }, _, _, _, _⟩ _; refine YK.mk (y_callIn (q1) (fun w hw => h1.keep hw.ext) ⟨rfl, rfl⟩ (by decide +kernel)) ?_)
    | (show YG _ _ _ _ _ _ ⟨_, .call { callee := .value (.func 9), args := _, argTypes := _ }, _, _, _, _⟩ _; refine YG.mk (fun hb => by (try (have hc := And.left hb; have hb := And.right hb; rw [hc])); (try rw [hb]); exact y_callIn (q1) (fun w hw => h1.keep hw.ext) ⟨rfl, rfl⟩ (by decide +kernel)) ?_)
    | (show YK _ _ _ _ _ ⟨_, .call { callee := .value (.func 22), args := _, argTypes := _ }, _, _, _, _⟩ _; refine YK.mk (y_callIn (q2) (fun w hw => h1.keep hw.ext) ⟨rfl, rfl⟩ (by decide +kernel)) ?_)
    | (show YG _ _ _ _ _ _ ⟨_, .call { callee := .value (.func 22), args := _, argTypes := _ }, _, _, _, _⟩ _; refine YG.mk (fun hb => by (try (have hc := And.left hb; have hb := And.right hb; rw [hc])); (try rw [hb]); exact y_callIn (q2) (fun w hw => h1.keep hw.ext) ⟨rfl, rfl⟩ (by decide +kernel)) ?_)
    | (show YK _ _ _ _ _ ⟨_, .call { callee := .value (.func 12), args := _, argTypes := _ }, _, _, _, _⟩ _; refine YK.mk (y_callIn (q5) (fun w hw => h1.keep hw.ext) ⟨rfl, rfl⟩ (by decide +kernel)) ?_)
    | (show YG _ _ _ _ _ _ ⟨_, .call { callee := .value (.func 12), args := _, argTypes := _ }, _, _, _, _⟩ _; refine YG.mk (fun hb => by (try (have hc := And.left hb; have hb := And.right hb; rw [hc])); (try rw [hb]); exact y_callIn (q5) (fun w hw => h1.keep hw.ext) ⟨rfl, rfl⟩ (by decide +kernel)) ?_)
    | (show YK _ _ _ _ _ _ _; first | refine YK.mk (y_callIn (awake13_c) (fun _ hw => hI.keep hw.ext) rfl (by decide +kernel)) ?_)
    | (show YK _ _ _ _ _ _ _; refine YK.ofV vAuto ?_)
    | (show VK _ _ _ _ _ _ _; refine VK.mk vAuto ?_)
    | (show RS _ _ _ _ _ _ _ _; first | (refine nxRS ?_) | (refine nxRS1 fun _ => ?_))
    | (show RM _ _ _ _ _ _ _ _ _ _; first | (refine nxRM ?_) | (refine nxRM1 fun _ => ?_))
    | (show YG _ _ _ _ _ _ _ _; refine YG.mk (fun hb => by (try (have hc := And.left hb; have hb := And.right hb; rw [hc])); (try rw [hb]); first | exact (y_callIn (awake13_c) (fun _ hw => hI.keep hw.ext) rfl (by decide +kernel)) | exact V.y vAuto) ?_)
    | (show VG _ _ _ _ _ _ _ _; refine VG.mk (fun hb => by (try (have hc := And.left hb; have hb := And.right hb; rw [hc])); (try rw [hb]); exact vAuto) ?_)
    | (refine nxVS ?_)
    | (refine nxGS ?_)
    | (refine nxX ?_)
    | (refine G.condN rfl (fun hc => ?_) (fun hc => ?_) <;> (try first | exact False.elim hc | (exfalso; omega))))
  exact X.ret (vs := [_]) rfl ⟨rfl, rfl⟩ rfl (fun w hw => ⟨ret_bool (by first | rfl | simp), hw.ext⟩)
theorem tex_t (hl : l.length ≤ 14) (hf : fitT l) (hb : pageB y m d l = true) (q1 : ContIn Tryz.prog (PgP v l) 9 [pgV y m d v] (.bool false)) :
    ContIn Tryz.prog (enP v l) 6 [pgV y m d v] (.bool true) := fun w hw0 => by
  have hI := hw0.1
  have h1 := hw0.2
  have q2 := ptext_t (v := v) hf hb
  have q3 := rtextP_c (v := v) hf hb
  have q5 := rvalidP_c (y := y) (m := m) (d := d) (v := v) (fun _ => hf)
  rw [hb] at q5
  obtain ⟨E, e1, e2⟩ := text_back hb
  have hS := pgT_len hb l.length (Nat.le_refl _)
  have hl12 := page_len hb
  have q4 := parse_c (by omega) e1 e2 (by rw [List.length_map]; omega) (fun l' h => ⟨fitT_same h hf, by rw [pageB_same h, hb]⟩)
  have hS2 : (pgT y m d l l.length).length ≤ 100000 := by omega
  clear e1 hS
  generalize pgT y m d l l.length = S at q2 q3 q4 hS2
  refine enter Tryz.func6 rfl rfl rfl (Hp := [Hl.rd v cT 6 l]) (fun h hm => by
    rcases List.mem_singleton.1 hm with rfl
    exact ⟨⟨h1.1, fun h => by cases h⟩, rfl⟩) ?_
  repeat' (first
    | (show YK _ _ _ _ _ ⟨_, .call { callee := .builtin .len, args := _, argTypes := #[9] }, _, _, _, _⟩ _; refine YK.ofV (y_lenS (by rfl) StrTy.is) ?_)
    | (show VK _ _ _ _ _ ⟨_, .call { callee := .builtin .len, args := _, argTypes := #[9] }, _, _, _, _⟩ _; refine VK.mk (y_lenS (by rfl) StrTy.is) ?_)
    | (show YG _ _ _ _ _ _ ⟨_, .call { callee := .builtin .len, args := _, argTypes := #[9] }, _, _, _, _⟩ _; refine YG.mk (fun hb => by (try (have hc := And.left hb; have hb := And.right hb; rw [hc])); (try rw [hb]); exact V.y (y_lenS (by rfl) StrTy.is)) ?_)
    | (show VG _ _ _ _ _ _ ⟨_, .call { callee := .builtin .len, args := _, argTypes := #[9] }, _, _, _, _⟩ _; refine VG.mk (fun hb => by (try (have hc := And.left hb; have hb := And.right hb; rw [hc])); (try rw [hb]); exact y_lenS (by rfl) StrTy.is) ?_)
    | (show YK _ _ _ _ _ ⟨_, .call { callee := .value (.func 9), args := _, argTypes := _ }, _, _, _, _⟩ _; refine YK.mk (y_callIn (q1) (fun w hw => h1.keep hw.ext) ⟨rfl, rfl⟩ (by decide +kernel)) ?_)
    | (show YG _ _ _ _ _ _ ⟨_, .call { callee := .value (.func 9), args := _, argTypes := _ }, _, _, _, _⟩ _; refine YG.mk (fun hb => by (try (have hc := And.left hb; have hb := And.right hb; rw [hc])); (try rw [hb]); exact y_callIn (q1) (fun w hw => h1.keep hw.ext) ⟨rfl, rfl⟩ (by decide +kernel)) ?_)
    | (show YK _ _ _ _ _ ⟨_, .call { callee := .value (.func 22), args := _, argTypes := _ }, _, _, _, _⟩ _; refine YK.mk (y_callIn (q2) (fun w hw => ⟨hI.keep hw.ext, h1.keep hw.ext⟩) ⟨rfl, rfl⟩ (by decide +kernel)) ?_)
    | (show YG _ _ _ _ _ _ ⟨_, .call { callee := .value (.func 22), args := _, argTypes := _ }, _, _, _, _⟩ _; refine YG.mk (fun hb => by (try (have hc := And.left hb; have hb := And.right hb; rw [hc])); (try rw [hb]); exact y_callIn (q2) (fun w hw => ⟨hI.keep hw.ext, h1.keep hw.ext⟩) ⟨rfl, rfl⟩ (by decide +kernel)) ?_)
    | (show YK _ _ _ _ _ ⟨_, .call { callee := .value (.func 12), args := _, argTypes := _ }, _, _, _, _⟩ _; refine YK.mk (y_callIn (q5) (fun w hw => h1.keep hw.ext) ⟨rfl, rfl⟩ (by decide +kernel)) ?_)
    | (show YG _ _ _ _ _ _ ⟨_, .call { callee := .value (.func 12), args := _, argTypes := _ }, _, _, _, _⟩ _; refine YG.mk (fun hb => by (try (have hc := And.left hb; have hb := And.right hb; rw [hc])); (try rw [hb]); exact y_callIn (q5) (fun w hw => h1.keep hw.ext) ⟨rfl, rfl⟩ (by decide +kernel)) ?_)
    | (show YK _ _ _ _ _ ⟨_, .call { callee := .value (.func 24), args := _, argTypes := _ }, _, _, _, _⟩ _; refine YK.mk (y_callIn (q3) (fun w hw => h1.keep hw.ext) ⟨rfl, rfl⟩ (by decide +kernel)) ?_)
    | (show YG _ _ _ _ _ _ ⟨_, .call { callee := .value (.func 24), args := _, argTypes := _ }, _, _, _, _⟩ _; refine YG.mk (fun hb => by (try (have hc := And.left hb; have hb := And.right hb; rw [hc])); (try rw [hb]); exact y_callIn (q3) (fun w hw => h1.keep hw.ext) ⟨rfl, rfl⟩ (by decide +kernel)) ?_)
    | (show RS _ _ _ _ _ _ _ (⟨some 28, _, _, _, _, _⟩ :: _); refine RS.callI q4 ⟨rfl, rfl⟩ (fun w hw => hI.keep hw.ext) ?_; rintro ⟨l1, sl⟩ hz; dsimp only at hz ⊢; refine RS.conv (fun w h => h.perm (List.perm_append_comm (l₁ := Hl.nw sl.v cT 6 l1 :: inn l1.reverse))) ?_; dsimp only [List.cons_append, List.nil_append])
    | (show YK _ _ _ _ _ ⟨some 51, .call { callee := .value (.func 9), args := _, argTypes := _ }, _, _, _, _⟩ _; refine YK.mk (y_callIn (large_q hz hl hf) (fun w hw => pgP_of hw (by exact memA) (fun x hx => by simp [hx])) ⟨rfl, rfl⟩ (by decide +kernel)) ?_)
    | (show YG _ _ _ _ _ _ ⟨some 51, .call { callee := .value (.func 9), args := _, argTypes := _ }, _, _, _, _⟩ _; refine YG.mk (fun hb => by (try (have hc := And.left hb; have hb := And.right hb; rw [hc])); (try rw [hb]); exact y_callIn (large_q hz hl hf) (fun w hw => pgP_of hw (by exact memA) (fun x hx => by simp [hx])) ⟨rfl, rfl⟩ (by decide +kernel)) ?_)
    | (show YK _ _ _ _ _ ⟨_, .call { callee := .value (.func 14), args := _, argTypes := _ }, _, _, _, _⟩ _; refine YK.mk (y_callIn (rsame_q hz hl hf) (fun w hw => ⟨h1.keep hw.ext, pgP_of hw (by exact memA) (fun x hx => by simp [hx])⟩) ⟨rfl, rfl, rfl⟩ (by decide +kernel)) ?_)
    | (show YG _ _ _ _ _ _ ⟨_, .call { callee := .value (.func 14), args := _, argTypes := _ }, _, _, _, _⟩ _; refine YG.mk (fun hb => by (try (have hc := And.left hb; have hb := And.right hb; rw [hc])); (try rw [hb]); exact y_callIn (rsame_q hz hl hf) (fun w hw => ⟨h1.keep hw.ext, pgP_of hw (by exact memA) (fun x hx => by simp [hx])⟩) ⟨rfl, rfl, rfl⟩ (by decide +kernel)) ?_)
    | (show YK _ _ _ _ _ _ _; first | refine YK.mk (y_callIn (awake13_c) (fun _ hw => hI.keep hw.ext) rfl (by decide +kernel)) ?_)
    | (show YK _ _ _ _ _ _ _; refine YK.ofV vAuto ?_)
    | (show VK _ _ _ _ _ _ _; refine VK.mk vAuto ?_)
    | (show RS _ _ _ _ _ _ _ _; first | (refine nxRS ?_) | (refine nxRS1 fun _ => ?_))
    | (show RM _ _ _ _ _ _ _ _ _ _; first | (refine nxRM ?_) | (refine nxRM1 fun _ => ?_))
    | (show YG _ _ _ _ _ _ _ _; refine YG.mk (fun hb => by (try (have hc := And.left hb; have hb := And.right hb; rw [hc])); (try rw [hb]); first | exact (y_callIn (awake13_c) (fun _ hw => hI.keep hw.ext) rfl (by decide +kernel)) | exact V.y vAuto) ?_)
    | (show VG _ _ _ _ _ _ _ _; refine VG.mk (fun hb => by (try (have hc := And.left hb; have hb := And.right hb; rw [hc])); (try rw [hb]); exact vAuto) ?_)
    | (refine nxVS ?_)
    | (refine nxGS ?_)
    | (refine nxX ?_)
    | (refine G.condN rfl (fun hc => ?_) (fun hc => ?_) <;> (try first | exact False.elim hc | (exfalso; omega))))
  exact X.ret (vs := [_]) rfl ⟨rfl, rfl⟩ rfl (fun w hw => ⟨ret_bool (by simp [eqCells, vEq]), hw.ext⟩)
/-- PageTexts answers true. -/
theorem texts_law : ContIn Tryz.prog (enP v l) 6 [pgV y m d v] (.bool true) := by
  have q1 := large_c (y := y) (m := m) (d := d) v l
  cases h1 : largeB l with
  | true => rw [h1] at q1; exact tex_no q1
  | false =>
    rw [h1] at q1
    obtain ⟨a1, a2⟩ := large_no h1
    cases hb : pageB y m d l with
    | false => exact tex_f a2 hb q1
    | true => exact tex_t a1 a2 hb q1
end
end Go.Proofs.YtpekkcahehhkmaaGreatDoor
