/- angle.Parse as a function; tenths. -/
import Derived.Test.YtaglecidaedjfaaDoorAngQ
set_option linter.unusedVariables false
set_option maxHeartbeats 4000000
namespace Go.Proofs.YtaglecidaedjfaaDoor
open Go.RowKit

theorem cut_lens (l sep : List UInt8) : (Lib.cut l sep).1.length ≤ l.length ∧ (Lib.cut l sep).2.1.length ≤ l.length := by
  unfold Lib.cut
  split
  · simp only [List.length_take, List.length_drop]; omega
  · simp
theorem sat_bd : ∀ (l : List UInt8) (n : Int), l.all dgI = true → 0 ≤ n ∧ n ≤ 1125899906842624 → 0 ≤ l.foldl satStep n ∧ l.foldl satStep n ≤ 1125899906842624
  | [], n, _, h => h
  | b :: r, n, ha, h => by
    rw [List.all_cons, Bool.and_eq_true] at ha
    have hb : (48 : Int) ≤ b.toNat ∧ (b.toNat : Int) ≤ 57 := by
      have := ha.1
      unfold dgI digitB at this
      simpa only [Bool.and_eq_true, decide_eq_true_eq] using this
    rw [List.foldl_cons]
    exact sat_bd r _ ha.2 (by unfold satStep; omega)
theorem digA_bd (l : List UInt8) : 0 ≤ (digA l).1 ∧ (digA l).1 ≤ 1125899906842624 := by
  unfold digA
  split
  · rename_i h
    exact sat_bd l 0 h (by decide)
  · decide
theorem badA_iff {deg mins : List UInt8} {ok a b : Bool} {m : Int} : (!ok || !a || !b || lead0 deg || decide (¬ mins.length = 2) || decide (60 ≤ m)) = true ↔ badA deg mins ok a b m := by
  have h : (nth deg 0 = 48) ↔ ((nth deg 0).toNat : Int) = 48 := by
    constructor
    · intro h; rw [h]; rfl
    · intro h
      apply UInt8.toNat_inj.1
      have : (nth deg 0).toNat = 48 := by omega
      rw [this]; rfl
  have h2 : ((mins.length : Int) = 2) ↔ mins.length = 2 := by omega
  have h3 : ((1 : Int) < deg.length) ↔ 1 < deg.length := by omega
  unfold badA lead0
  rw [h2, h3, ← h]
  simp only [Bool.or_eq_true, Bool.and_eq_true, Bool.not_eq_true', decide_eq_true_eq]
def angE (minus : Bool) (deg mins part : List UInt8) (ok pointed : Bool) (D M T : Int × Bool) : Int × Int :=
  if (pointed && (!T.2 || decide (3 < part.length))) = true then (0, 7)
  else if (!ok || !D.2 || !M.2 || lead0 deg || decide (¬ mins.length = 2) || decide (60 ≤ M.1)) = true then (0, 7)
  else if 1099511627776 < D.1 then (0, 5)
  else if 1099511627776 < D.1 * 60000 + M.1 * 1000 + (if pointed = true then tenT T.1 part.length else 0) then (0, 5)
  else (if minus = true then -(D.1 * 60000 + M.1 * 1000 + (if pointed = true then tenT T.1 part.length else 0)) else D.1 * 60000 + M.1 * 1000 + (if pointed = true then tenT T.1 part.length else 0), 0)
theorem angE_post {minus : Bool} {deg mins part : List UInt8} {ok pointed : Bool} {D M T : Int × Bool} (h : (pointed && (!T.2 || decide (3 < part.length))) = false) : APost (angE minus deg mins part ok pointed D M T) deg mins ok D.2 M.2 minus D.1 M.1 (if pointed = true then tenT T.1 part.length else 0) := by
  unfold angE
  rw [h, if_neg (by decide)]
  generalize (if pointed = true then tenT T.1 part.length else 0) = t
  refine ⟨fun h1 => ?_, fun h1 h2 => ?_, fun h1 h2 h3 => ?_, fun h1 h2 h3 h4 => ?_, fun h1 h2 h3 h4 => ?_⟩
  · rw [if_pos (badA_iff.2 h1)]
  · rw [if_neg (fun g => h1 (badA_iff.1 g)), if_pos h2]
  · rw [if_neg (fun g => h1 (badA_iff.1 g)), if_neg h2, if_pos h3]
  · rw [if_neg (fun g => h1 (badA_iff.1 g)), if_neg h2, if_neg h3, if_pos h4]
  · rw [if_neg (fun g => h1 (badA_iff.1 g)), if_neg h2, if_neg h3, if_neg (by rw [h4]; decide)]
theorem angP_eq (s : List UInt8) : angP s = angE (cutP s).2 (Lib.cut (cutP s).1 [45]).1 (Lib.cut (Lib.cut (cutP s).1 [45]).2.1 [46]).1 (Lib.cut (Lib.cut (cutP s).1 [45]).2.1 [46]).2.1 (Lib.cut (cutP s).1 [45]).2.2 (Lib.cut (Lib.cut (cutP s).1 [45]).2.1 [46]).2.2 (digA (Lib.cut (cutP s).1 [45]).1) (digA (Lib.cut (Lib.cut (cutP s).1 [45]).2.1 [46]).1) (digA (Lib.cut (Lib.cut (cutP s).1 [45]).2.1 [46]).2.1) := rfl
theorem angParse_c (s : List UInt8) (hs : s.length ≤ 1000000) : ContIn Tryd.prog LaidC 105 [strV s] (.tuple [.int .i64 (angP s).1, .int .i64 (angP s).2].toArray) := by
  rw [angP_eq]
  have l0 := cutP_len s
  have p1 := cutPfx_c s hs
  have l1 := cut_lens (cutP s).1 [45]
  have p2 := cutC_c (cutP s).1 [45] (by omega)
  generalize cutP s = p at l0 p1 l1 p2 ⊢
  generalize Lib.cut p.1 [45] = c at l1 p2 ⊢
  have l2 := cut_lens c.2.1 [46]
  have p3 := cutC_c c.2.1 [46] (by omega)
  generalize Lib.cut c.2.1 [46] = e at l2 p3 ⊢
  have p4 := digits_c c.1 (by omega)
  have p5 := digits_c e.1 (by omega)
  have p6 := digits_c e.2.1 (by omega)
  have b4 := digA_bd c.1
  have b5 := digA_bd e.1
  have b6 := digA_bd e.2.1
  generalize digA c.1 = D at p4 b4 ⊢
  generalize digA e.1 = M at p5 b5 ⊢
  generalize digA e.2.1 = T at p6 b6 ⊢
  obtain ⟨mins, part, pointed⟩ := e
  dsimp only at l2 p3 p5 p6 ⊢
  cases pointed with
  | false => exact ap_f ⟨⟨by omega, by omega, by omega⟩, ⟨b4, b5⟩, p1, p2, p3, p4, p5⟩ (angE_post (T := T) (part := part) rfl)
  | true =>
    by_cases hb : T.2 = false ∨ 3 < part.length
    · have e : angE p.2 c.1 mins part c.2.2 true D M T = (0, 7) := by
        unfold angE
        rw [if_pos]
        rcases hb with h | h
        · rw [h]; rfl
        · rw [decide_eq_true h]; simp
      rw [e]
      exact ap_tbad ⟨⟨by omega, by omega, by omega⟩, ⟨b4, b5⟩, p1, p2, p3, p4, p5⟩ p6 hb
    · have ht : T.2 = true := by
        cases h : T.2 with
        | true => rfl
        | false => exact absurd (.inl h) hb
      have hl : part.length ≤ 3 := by omega
      refine ap_t ⟨⟨by omega, by omega, by omega⟩, ⟨b4, b5⟩, p1, p2, p3, p4, p5⟩ p6 b6 ht hl ?_
      have := angE_post (minus := p.2) (deg := c.1) (mins := mins) (part := part) (ok := c.2.2) (pointed := true) (D := D) (M := M) (T := T) (by rw [ht, decide_eq_false (by omega)]; rfl)
      rwa [if_pos rfl] at this
theorem angP_bd (s : List UInt8) : (-1099511627776 ≤ (angP s).1 ∧ (angP s).1 ≤ 1099511627776) ∧ 0 ≤ (angP s).2 ∧ (angP s).2 ≤ 7 := by
  rw [angP_eq]
  generalize Lib.cut (Lib.cut (cutP s).1 [45]).2.1 [46] = e
  generalize Lib.cut (cutP s).1 [45] = c
  have b4 := digA_bd c.1
  have b5 := digA_bd e.1
  have b6 := digA_bd e.2.1
  generalize digA c.1 = D at b4 ⊢
  generalize digA e.1 = M at b5 ⊢
  generalize digA e.2.1 = T at b6 ⊢
  have ht : 0 ≤ (if e.2.2 = true then tenT T.1 e.2.1.length else 0) := by
    split
    · unfold tenT
      exact Int.mul_nonneg b6.1 (by have : (0 : Int) ≤ 10 := by decide
                                    exact Int.pow_nonneg this)
    · decide
  unfold angE
  generalize (if e.2.2 = true then tenT T.1 e.2.1.length else 0) = t at ht ⊢
  repeat' split
  all_goals (dsimp only; omega)
theorem tdiv100 {x : Int} (h : -1099511627776 ≤ x ∧ x ≤ 1099511627776) : -1099511627776 ≤ x.tdiv 100 ∧ x.tdiv 100 ≤ 1099511627776 := by
  rcases Int.le_total 0 x with h0 | h0
  · rw [Int.tdiv_eq_ediv_of_nonneg h0]; omega
  · rw [show x = -(-x) by omega, Int.neg_tdiv, Int.tdiv_eq_ediv_of_nonneg (by omega)]; omega
theorem tenths_c (s : List UInt8) (hs : s.length ≤ 1000000) : ContIn Tryd.prog LaidC 78 [strV s] (.tuple [.int .i64 (tenP s).1, .bool (tenP s).2].toArray) := fun w hI => by
  have q1 := angParse_c s hs
  have hb := angP_bd s
  have e : tenP s = if (angP s).2 = 5 then (1099511627776, decide (¬ s = [])) else ((angP s).1.tdiv 100, decide ((angP s).2 = 0) && decide ((angP s).1.tmod 100 = 0)) := rfl
  generalize angP s = z at q1 hb e
  have ht := tdiv100 hb.1
  have hd : decide ((0 : Int) < s.length) = decide (¬ s = []) := by cases s <;> simp <;> omega
  by_cases h5 : z.2 = 5
  · rw [if_pos h5] at e
    refine enter0 Tryd.func78 rfl rfl rfl ?_
    repeat' (first
    | (show YK _ _ _ _ _ _ _; first | refine YK.mk (y_callIn (q1) (fun _ hw => hI.keep hw.ext) ⟨rfl, rfl⟩ (by decide +kernel)) ?_)
    | (show YK _ _ _ _ _ _ _; refine YK.ofV vAuto ?_)
    | (show VK _ _ _ _ _ _ _; refine VK.mk vAuto ?_)
    | (show RS _ _ _ _ _ _ _ _; first | (refine nxRS ?_) | (refine nxRS1 fun _ => ?_))
    | (show RM _ _ _ _ _ _ _ _ _ _; first | (refine nxRM ?_) | (refine nxRM1 fun _ => ?_))
    | (show YG _ _ _ _ _ _ _ _; refine YG.mk (fun hb => by (try (have hc := And.left hb; have hb := And.right hb; rw [hc])); (try rw [hb]); first | exact (y_callIn (q1) (fun _ hw => hI.keep hw.ext) ⟨rfl, rfl⟩ (by decide +kernel)) | exact V.y vAuto) ?_)
    | (show VG _ _ _ _ _ _ _ _; refine VG.mk (fun hb => by (try (have hc := And.left hb; have hb := And.right hb; rw [hc])); (try rw [hb]); exact vAuto) ?_)
    | (refine nxVS ?_)
    | (refine nxGS ?_)
    | (refine nxX ?_)
    | (refine G.condN rfl (fun hc => ?_) (fun hc => ?_) <;> (try first | exact False.elim hc | (exfalso; omega))))
    exact X.ret (vs := [_, _]) rfl ⟨rfl, rfl, rfl⟩ rfl (fun w hw => ⟨by rw [e, hd], hw.ext⟩)
  · rw [if_neg h5] at e
    refine enter0 Tryd.func78 rfl rfl rfl ?_
    repeat' (first
    | (show YK _ _ _ _ _ _ _; first | refine YK.mk (y_callIn (q1) (fun _ hw => hI.keep hw.ext) ⟨rfl, rfl⟩ (by decide +kernel)) ?_)
    | (show YK _ _ _ _ _ _ _; refine YK.ofV vAuto ?_)
    | (show VK _ _ _ _ _ _ _; refine VK.mk vAuto ?_)
    | (show RS _ _ _ _ _ _ _ _; first | (refine nxRS ?_) | (refine nxRS1 fun _ => ?_))
    | (show RM _ _ _ _ _ _ _ _ _ _; first | (refine nxRM ?_) | (refine nxRM1 fun _ => ?_))
    | (show YG _ _ _ _ _ _ _ _; refine YG.mk (fun hb => by (try (have hc := And.left hb; have hb := And.right hb; rw [hc])); (try rw [hb]); first | exact (y_callIn (q1) (fun _ hw => hI.keep hw.ext) ⟨rfl, rfl⟩ (by decide +kernel)) | exact V.y vAuto) ?_)
    | (show VG _ _ _ _ _ _ _ _; refine VG.mk (fun hb => by (try (have hc := And.left hb; have hb := And.right hb; rw [hc])); (try rw [hb]); exact vAuto) ?_)
    | (refine nxVS ?_)
    | (refine nxGS ?_)
    | (refine nxX ?_)
    | (refine G.condN rfl (fun hc => ?_) (fun hc => ?_) <;> (try first | exact False.elim hc | (exfalso; omega))))
    exact X.ret (vs := [_, _]) rfl ⟨rfl, rfl, rfl⟩ rfl (fun w hw => ⟨by rw [e, IntWalk.i64_in (z.1.tdiv 100) (by omega)], hw.ext⟩)
end Go.Proofs.YtaglecidaedjfaaDoor
