/- The calendar's Parse: what it is. -/
import Derived.Test.YtpnfmbfehbnljaaGreatDoorCalText
import Derived.Test.YtpnfmbfehbnljaaGreatDoorLib2
set_option linter.unusedVariables false
set_option maxHeartbeats 8000000
namespace Go.Proofs.YtpnfmbfehbnljaaGreatDoor
open Go.RowKit

def dateP (l : List UInt8) : Option (Int × Int × Int) := match Lib.split l [45] with
  | [a, b, c] => match Lib.atoiAll a, Lib.atoiAll b, Lib.atoiAll c with
    | .ok y, .ok m, .ok d => if l.length = 10 ∧ validB y m d = true ∧ dateL y m d = l then some (y, m, d) else none
    | _, _, _ => none
  | _ => none
def parseV (r : Option (Int × Int × Int)) : Value := match r with
  | some x => .tuple [dateV x.1 x.2.1 x.2.2, .int .i64 0].toArray
  | none => .tuple [dateV 0 0 0, .int .i64 7].toArray
theorem split_bd (sep : List UInt8) : ∀ (k : Nat) (s : List UInt8), ∀ x ∈ Lib.splitK sep 0 k s, x.length ≤ s.length
  | 0, s, x, hx => by
    rcases List.mem_singleton.1 hx with rfl
    exact Nat.le_refl _
  | k + 1, s, x, hx => by
    unfold Lib.splitK at hx
    split at hx
    · rcases List.mem_singleton.1 hx with rfl
      exact Nat.le_refl _
    · rcases List.mem_cons.1 hx with rfl | hx
      · simp; omega
      · have := split_bd sep k _ x hx
        simp at this; omega
theorem dateP_eq {l : List UInt8} {P : List (List UInt8)} (hP : Lib.split l [45] = P) (h3 : l.length = 10 ∧ P.length = 3) {o0 o1 o2 : Option Nat} {v0 v1 v2 : Int} (e0 : atoiP (nth P 0) (o0, v0)) (e1 : atoiP (nth P 1) (o1, v1)) (e2 : atoiP (nth P 2) (o2, v2)) :
    dateP l = if (((o0.isSome = false ∧ o1.isSome = false) ∧ o2.isSome = false) ∧ validB v0 v1 v2 = true) ∧ dateL v0 v1 v2 = l then some (v0, v1, v2) else none := by
  obtain ⟨a, b, c, rfl⟩ : ∃ a b c, P = [a, b, c] := by
    match P, h3.2 with
    | [a, b, c], _ => exact ⟨a, b, c, rfl⟩
  unfold dateP
  rw [hP]; dsimp only
  cases o0 with
  | some N =>
    rw [if_neg (by simp)]
    cases ha : Lib.atoiAll a with
    | ok v => exact absurd ha ((show ∀ v, Lib.atoiAll a ≠ .ok v from e0.2) v)
    | range => rfl
    | _ => rfl
  | none =>
  rw [show Lib.atoiAll a = .ok v0 from e0.2]
  cases o1 with
  | some N =>
    rw [if_neg (by simp)]
    cases hb : Lib.atoiAll b with
    | ok v => exact absurd hb ((show ∀ v, Lib.atoiAll b ≠ .ok v from e1.2) v)
    | range => rfl
    | _ => rfl
  | none =>
  rw [show Lib.atoiAll b = .ok v1 from e1.2]
  cases o2 with
  | some N =>
    rw [if_neg (by simp)]
    cases hc : Lib.atoiAll c with
    | ok v => exact absurd hc ((show ∀ v, Lib.atoiAll c ≠ .ok v from e2.2) v)
    | range => rfl
    | _ => rfl
  | none =>
  rw [show Lib.atoiAll c = .ok v2 from e2.2]; dsimp only
  by_cases h : validB v0 v1 v2 = true ∧ dateL v0 v1 v2 = l
  · rw [if_pos ⟨h3.1, h⟩, if_pos ⟨⟨⟨⟨rfl, rfl⟩, rfl⟩, h.1⟩, h.2⟩]
  · rw [if_neg (fun hh => h hh.2), if_neg (fun hh => h ⟨hh.1.2, hh.2⟩)]
theorem Parse_c (l : List UInt8) (hl : l.length ≤ 1000000) : ContIn Tryz.prog Laid 30 [strV l] (parseV (dateP l)) := fun w hI => by
  have h1 := split_c l [45] (by omega) (by decide)
  have hbd : ∀ x ∈ Lib.split l [45], x.length ≤ l.length := split_bd _ _ _
  obtain ⟨P, hP⟩ : ∃ P, Lib.split l [45] = P := ⟨_, rfl⟩
  rw [hP] at h1 hbd
  by_cases h3 : l.length = 10 ∧ P.length = 3
  · have hb : ∀ k : Int, 0 ≤ k ∧ k < 3 → (nth P k).length ≤ 1000000 := fun k hk => Nat.le_trans (hbd _ (List.mem_of_getElem? (nth_some (l := P) (m := k) (by omega) (by omega)))) hl
    refine enter0 Tryz.func30 rfl rfl rfl ?_
    repeat' (first
    | (show RS _ _ _ _ _ _ _ (⟨some _, .call _, _, _, _, none⟩ :: _); refine RS.callI h1 ⟨rfl, rfl, rfl⟩ (fun _ hw => hI.keep hw.ext) ?_; rintro z _; dsimp only [List.cons_append, List.nil_append])
    | (show RS _ _ _ _ _ _ _ (⟨some _, .call _, _, _, _, none⟩ :: _); refine RS.callI (atoi_c (hb 0 (by decide))) ⟨rfl, rfl⟩ (fun _ hw => hI.keep hw.ext) ?_; rintro ⟨o0, v0⟩ ⟨bd0, e0⟩; dsimp only [List.cons_append, List.nil_append] at bd0 e0 ⊢)
    | (show RS _ _ _ _ _ _ _ (⟨some _, .call _, _, _, _, none⟩ :: _); refine RS.callI (atoi_c (hb 1 (by decide))) ⟨rfl, rfl⟩ (fun _ hw => hI.keep hw.ext) ?_; rintro ⟨o1, v1⟩ ⟨bd1, e1⟩; dsimp only [List.cons_append, List.nil_append] at bd1 e1 ⊢)
    | (show RS _ _ _ _ _ _ _ (⟨some _, .call _, _, _, _, none⟩ :: _); refine RS.callI (atoi_c (hb 2 (by decide))) ⟨rfl, rfl⟩ (fun _ hw => hI.keep hw.ext) ?_; rintro ⟨o2, v2⟩ ⟨bd2, e2⟩; dsimp only [List.cons_append, List.nil_append] at bd2 e2 ⊢)
    | (show YK _ _ _ _ _ ⟨_, .binOp .neq _ _ _ _, _, _, _, _⟩ _; refine YK.ofV (y_neErr (by rfl)) ?_)
    | (show YG _ _ _ _ _ _ ⟨_, .binOp .neq _ _ _ _, _, _, _, _⟩ _; refine YG.mk (fun hb => by (try (have hc := And.left hb; have hb := And.right hb; rw [hc])); (try rw [hb]); exact V.y (y_neErr (by rfl))) ?_)
    | (show YK _ _ _ _ _ _ _; first | refine YK.mk (y_callA (valid_c _ _ _) ⟨rfl, rfl⟩) ?_ | refine YK.mk (y_callIn (text_c ⟨bd0, bd1, bd2⟩) (fun _ hw => hI.keep hw.ext) ⟨rfl, rfl⟩ (by decide +kernel)) ?_)
    | (show YK _ _ _ _ _ _ _; refine YK.ofV vAuto ?_)
    | (show VK _ _ _ _ _ _ _; refine VK.mk vAuto ?_)
    | (show RS _ _ _ _ _ _ _ _; first | (refine nxRS ?_) | (refine nxRS1 fun _ => ?_))
    | (show RM _ _ _ _ _ _ _ _ _ _; first | (refine nxRM ?_) | (refine nxRM1 fun _ => ?_))
    | (show YG _ _ _ _ _ _ _ _; refine YG.mk (fun hb => by (try (have hc := And.left hb; have hb := And.right hb; rw [hc])); (try rw [hb]); first | exact (y_callA (valid_c _ _ _) ⟨rfl, rfl⟩) | exact (y_callIn (text_c ⟨bd0, bd1, bd2⟩) (fun _ hw => hI.keep hw.ext) ⟨rfl, rfl⟩ (by decide +kernel)) | exact V.y vAuto) ?_)
    | (show VG _ _ _ _ _ _ _ _; refine VG.mk (fun hb => by (try (have hc := And.left hb; have hb := And.right hb; rw [hc])); (try rw [hb]); exact vAuto) ?_)
    | (refine nxVS ?_)
    | (refine nxGS ?_)
    | (refine nxX ?_)
    | (refine G.condN rfl (fun hc => ?_) (fun hc => ?_) <;> (try first | exact False.elim hc | (exfalso; omega))))
    · have hr := dateP_eq hP h3 ⟨bd0, e0⟩ ⟨bd1, e1⟩ ⟨bd2, e2⟩
      rw [if_neg (fun h => by
        obtain ⟨⟨⟨⟨g1, g2⟩, g3⟩, g4⟩, g5⟩ := h
        rcases hc with (((hc | hc) | hc) | hc) | hc
        · rw [g1] at hc; cases hc
        · rw [g2] at hc; cases hc
        · rw [g3] at hc; cases hc
        · rw [g4] at hc; cases hc
        · exact hc g5)] at hr
      exact X.ret (vs := [_, _]) rfl ⟨⟨_, _, _, _, rfl, (by exact memA), (by (repeat (first | exact .nil | apply LenIs.cons))), by decide +kernel, rfl⟩, rfl, rfl⟩ rfl (fun w hw => ⟨by rw [hr]; rfl, hw.ext⟩)
    · have hr := dateP_eq hP h3 ⟨bd0, e0⟩ ⟨bd1, e1⟩ ⟨bd2, e2⟩
      rw [if_pos hc] at hr
      exact X.ret (vs := [_, _]) rfl ⟨⟨_, _, _, _, rfl, (by exact memA), (by (repeat (first | exact .nil | apply LenIs.cons))), by decide +kernel, rfl⟩, rfl, rfl⟩ rfl (fun w hw => ⟨by rw [hr]; rfl, hw.ext⟩)
  · refine enter0 Tryz.func30 rfl rfl rfl ?_
    repeat' (first
    | (show RS _ _ _ _ _ _ _ (⟨some _, .call _, _, _, _, none⟩ :: _); refine RS.callI h1 ⟨rfl, rfl, rfl⟩ (fun _ hw => hI.keep hw.ext) ?_; rintro z _; dsimp only [List.cons_append, List.nil_append])
    | (refine nxV ?_)
    | (show RS _ _ _ _ _ _ _ _; first | (refine nxRS ?_) | (refine nxRS1 fun _ => ?_))
    | (show RM _ _ _ _ _ _ _ _ _ _; first | (refine nxRM ?_) | (refine nxRM1 fun _ => ?_))
    | (refine nxG ?_)
    | (refine nxVS ?_)
    | (refine nxGS ?_)
    | (refine nxX ?_)
    | (refine G.condN rfl (fun hc => ?_) (fun hc => ?_) <;> (try first | exact False.elim hc | (exfalso; omega))))
    have hr : dateP l = none := by
      unfold dateP
      rw [hP]
      split
      · split
        · rw [if_neg (fun h => h3 ⟨h.1, rfl⟩)]
        · rfl
      · rfl
    exact X.ret (vs := [_, _]) rfl ⟨⟨_, _, _, _, rfl, (by exact memA), (by (repeat (first | exact .nil | apply LenIs.cons))), by decide +kernel, rfl⟩, rfl, rfl⟩ rfl (fun w hw => ⟨by rw [hr]; rfl, hw.ext⟩)
end Go.Proofs.YtpnfmbfehbnljaaGreatDoor
