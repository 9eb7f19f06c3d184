/- Readers of numbers: strings.CutPrefix, angle.digits. -/
import Derived.Test.YtaglecidaedjfaaDoorRound
import Derived.Test.YtaglecidaedjfaaDoorConv
set_option linter.unusedVariables false
set_option maxHeartbeats 4000000
namespace Go.Proofs.YtaglecidaedjfaaDoor
open Go.RowKit

def hasP (l p : List UInt8) : Bool := decide (p.length ≤ l.length) && decide (l.take p.length = p)
theorem hasPre_c (l p : List UInt8) (hl : l.length ≤ 1000000) (hp : p.length ≤ 1000000) : Cont Tryd.prog 148 [strV l, strV p] (.bool (hasP l p)) := fun w => by
  have hr : hasP l p = (decide (p.length ≤ l.length) && decide (l.take p.length = p)) := rfl
  by_cases h : p.length ≤ l.length
  · refine enter0 Tryd.func148 rfl rfl rfl ?_
    repeat' (first
    | (refine nxV ?_)
    | (show RS _ _ _ _ _ _ _ _; first | (refine nxRS ?_) | (refine nxRS1 fun _ => ?_))
    | (show RM _ _ _ _ _ _ _ _ _ _; first | (refine nxRM ?_) | (refine nxRM1 fun _ => ?_))
    | (refine nxG ?_)
    | (refine nxVS ?_)
    | (refine nxGS ?_)
    | (refine nxX ?_)
    | (refine G.condN rfl (fun hc => ?_) (fun hc => ?_) <;> (try first | exact False.elim hc | (exfalso; omega))))
    exact X.ret (vs := [_]) rfl ⟨rfl, rfl⟩ rfl (fun w hw => ⟨ret_bool (by rw [hr]; simp [h]), hw.ext⟩)
  · refine enter0 Tryd.func148 rfl rfl rfl ?_
    repeat' (first
    | (refine nxV ?_)
    | (show RS _ _ _ _ _ _ _ _; first | (refine nxRS ?_) | (refine nxRS1 fun _ => ?_))
    | (show RM _ _ _ _ _ _ _ _ _ _; first | (refine nxRM ?_) | (refine nxRM1 fun _ => ?_))
    | (refine nxG ?_)
    | (refine nxVS ?_)
    | (refine nxGS ?_)
    | (refine nxX ?_)
    | (refine G.condN rfl (fun hc => ?_) (fun hc => ?_) <;> (try first | exact False.elim hc | (exfalso; omega))))
    exact X.ret (vs := [_]) rfl ⟨rfl, rfl⟩ rfl (fun w hw => ⟨ret_bool (by rw [hr]; simp [h]), hw.ext⟩)
theorem hasP_nil : hasP [] [45] = false := rfl
theorem hasP_cons (b : UInt8) (r : List UInt8) : hasP (b :: r) [45] = decide (b = 45) := by
  unfold hasP
  simp
theorem cutPre_c (l : List UInt8) (hl : l.length ≤ 1000000) : Cont Tryd.prog 127 [strV l, strV [45]] (.tuple [strV (cutP l).1, .bool (cutP l).2].toArray) := fun w => by
  have q1 := hasPre_c l [45] hl (by simp)
  cases l with
  | nil =>
    rw [hasP_nil] at q1
    refine enter0 Tryd.func127 rfl rfl rfl ?_
    repeat' (first
    | (show YK _ _ _ _ _ _ _; first | refine YK.mk (y_callA (q1) ⟨rfl, rfl, rfl⟩) ?_)
    | (show YK _ _ _ _ _ _ _; refine YK.ofV vAuto ?_)
    | (show VK _ _ _ _ _ _ _; refine VK.mk vAuto ?_)
    | (show RS _ _ _ _ _ _ _ _; first | (refine nxRS ?_) | (refine nxRS1 fun _ => ?_))
    | (show RM _ _ _ _ _ _ _ _ _ _; first | (refine nxRM ?_) | (refine nxRM1 fun _ => ?_))
    | (show YG _ _ _ _ _ _ _ _; refine YG.mk (fun hb => by (try (have hc := And.left hb; have hb := And.right hb; rw [hc])); (try rw [hb]); first | exact (y_callA (q1) ⟨rfl, rfl, rfl⟩) | exact V.y vAuto) ?_)
    | (show VG _ _ _ _ _ _ _ _; refine VG.mk (fun hb => by (try (have hc := And.left hb; have hb := And.right hb; rw [hc])); (try rw [hb]); exact vAuto) ?_)
    | (refine nxVS ?_)
    | (refine nxGS ?_)
    | (refine nxX ?_)
    | (refine G.condN rfl (fun hc => ?_) (fun hc => ?_) <;> (try first | exact False.elim hc | (exfalso; omega))))
    exact X.ret (vs := [_, _]) rfl ⟨rfl, rfl, rfl⟩ rfl (fun w hw => ⟨rfl, hw.ext⟩)
  | cons b r =>
    rw [hasP_cons] at q1
    have hc1 : cutP (b :: r) = if b = 45 then (r, true) else (b :: r, false) := rfl
    have hd : (b :: r).drop ([45] : List UInt8).length = r := rfl
    by_cases h : b = 45
    · rw [decide_eq_true h] at q1
      rw [if_pos h] at hc1
      refine enter0 Tryd.func127 rfl rfl rfl ?_
      repeat' (first
    | (show YK _ _ _ _ _ _ _; first | refine YK.mk (y_callA (q1) ⟨rfl, rfl, rfl⟩) ?_)
    | (show YK _ _ _ _ _ _ _; refine YK.ofV vAuto ?_)
    | (show VK _ _ _ _ _ _ _; refine VK.mk vAuto ?_)
    | (show RS _ _ _ _ _ _ _ _; first | (refine nxRS ?_) | (refine nxRS1 fun _ => ?_))
    | (show RM _ _ _ _ _ _ _ _ _ _; first | (refine nxRM ?_) | (refine nxRM1 fun _ => ?_))
    | (show YG _ _ _ _ _ _ _ _; refine YG.mk (fun hb => by (try (have hc := And.left hb; have hb := And.right hb; rw [hc])); (try rw [hb]); first | exact (y_callA (q1) ⟨rfl, rfl, rfl⟩) | exact V.y vAuto) ?_)
    | (show VG _ _ _ _ _ _ _ _; refine VG.mk (fun hb => by (try (have hc := And.left hb; have hb := And.right hb; rw [hc])); (try rw [hb]); exact vAuto) ?_)
    | (refine nxVS ?_)
    | (refine nxGS ?_)
    | (refine nxX ?_)
    | (refine G.condN rfl (fun hc => ?_) (fun hc => ?_) <;> (try first | exact False.elim hc | (exfalso; omega))))
      exact X.ret (vs := [_, _]) rfl ⟨rfl, rfl, rfl⟩ rfl (fun w hw => ⟨by rw [hc1]; rfl, hw.ext⟩)
    · rw [decide_eq_false h] at q1
      rw [if_neg h] at hc1
      refine enter0 Tryd.func127 rfl rfl rfl ?_
      repeat' (first
    | (show YK _ _ _ _ _ _ _; first | refine YK.mk (y_callA (q1) ⟨rfl, rfl, rfl⟩) ?_)
    | (show YK _ _ _ _ _ _ _; refine YK.ofV vAuto ?_)
    | (show VK _ _ _ _ _ _ _; refine VK.mk vAuto ?_)
    | (show RS _ _ _ _ _ _ _ _; first | (refine nxRS ?_) | (refine nxRS1 fun _ => ?_))
    | (show RM _ _ _ _ _ _ _ _ _ _; first | (refine nxRM ?_) | (refine nxRM1 fun _ => ?_))
    | (show YG _ _ _ _ _ _ _ _; refine YG.mk (fun hb => by (try (have hc := And.left hb; have hb := And.right hb; rw [hc])); (try rw [hb]); first | exact (y_callA (q1) ⟨rfl, rfl, rfl⟩) | exact V.y vAuto) ?_)
    | (show VG _ _ _ _ _ _ _ _; refine VG.mk (fun hb => by (try (have hc := And.left hb; have hb := And.right hb; rw [hc])); (try rw [hb]); exact vAuto) ?_)
    | (refine nxVS ?_)
    | (refine nxGS ?_)
    | (refine nxX ?_)
    | (refine G.condN rfl (fun hc => ?_) (fun hc => ?_) <;> (try first | exact False.elim hc | (exfalso; omega))))
      exact X.ret (vs := [_, _]) rfl ⟨rfl, rfl, rfl⟩ rfl (fun w hw => ⟨by rw [hc1], hw.ext⟩)
theorem cutPfx_c (l : List UInt8) (hl : l.length ≤ 1000000) : Cont Tryd.prog 106 [strV l, strV [45]] (.tuple [strV (cutP l).1, .bool (cutP l).2].toArray) := fun w => by
  have q1 := cutPre_c l hl
  generalize cutP l = z at q1
  refine enter0 Tryd.func106 rfl rfl rfl ?_
  repeat' (first
    | (show YK _ _ _ _ _ _ _; first | refine YK.mk (y_callA (q1) ⟨rfl, rfl, rfl⟩) ?_)
    | (show YK _ _ _ _ _ _ _; refine YK.ofV vAuto ?_)
    | (show VK _ _ _ _ _ _ _; refine VK.mk vAuto ?_)
    | (show RS _ _ _ _ _ _ _ _; first | (refine nxRS ?_) | (refine nxRS1 fun _ => ?_))
    | (show RM _ _ _ _ _ _ _ _ _ _; first | (refine nxRM ?_) | (refine nxRM1 fun _ => ?_))
    | (show YG _ _ _ _ _ _ _ _; refine YG.mk (fun hb => by (try (have hc := And.left hb; have hb := And.right hb; rw [hc])); (try rw [hb]); first | exact (y_callA (q1) ⟨rfl, rfl, rfl⟩) | exact V.y vAuto) ?_)
    | (show VG _ _ _ _ _ _ _ _; refine VG.mk (fun hb => by (try (have hc := And.left hb; have hb := And.right hb; rw [hc])); (try rw [hb]); exact vAuto) ?_)
    | (refine nxVS ?_)
    | (refine nxGS ?_)
    | (refine nxX ?_)
    | (refine G.condN rfl (fun hc => ?_) (fun hc => ?_) <;> (try first | exact False.elim hc | (exfalso; omega))))
  exact X.ret (vs := [_, _]) rfl ⟨rfl, rfl, rfl⟩ rfl (fun w hw => ⟨rfl, hw.ext⟩)
theorem cutP_len (l : List UInt8) : (cutP l).1.length ≤ l.length := by
  unfold cutP
  cases l with
  | nil => exact Nat.le_refl _
  | cons b r =>
    dsimp only
    split <;> simp

/-! ### angle.digits -/
def satStep (n : Int) (b : UInt8) : Int := min (10 * n + ((b.toNat : Int) - 48)) 1125899906842624
theorem satF_eq (l : List UInt8) : satF l = l.foldl satStep 0 := rfl
theorem drop_consB {l : List UInt8} {i : Nat} (h : i < l.length) : l.drop i = nth l (i : Int) :: l.drop (i + 1) := by
  have e := nth_some (l := l) (m := (i : Int)) (by omega) (by omega)
  rw [Int.toNat_natCast, List.getElem?_eq_getElem h] at e
  rw [List.drop_eq_getElem_cons h, Option.some.inj e]
theorem all_dg_f {l : List UInt8} {i : Nat} (hi : i < l.length) (h : dgI (nth l (i : Int)) = false) : l.all dgI = false := by
  rw [List.all_eq_false]
  exact ⟨nth l (i : Int), List.mem_of_getElem? (nth_some (by omega) (by omega)), by simp [h]⟩
theorem all_dg_t {l : List UInt8} (h : ∀ i : Nat, i < l.length → dgI (nth l (i : Int)) = true) : l.all dgI = true := by
  rw [List.all_eq_true]
  intro b hb
  obtain ⟨i, hi, rfl⟩ := List.getElem_of_mem hb
  have e := nth_some (l := l) (m := (i : Int)) (by omega) (by omega)
  rw [Int.toNat_natCast, List.getElem?_eq_getElem hi] at e
  rw [Option.some.inj e]
  exact h i hi
theorem digits_c (l : List UInt8) (hl : l.length ≤ 1000000) : Cont Tryd.prog 126 [strV l] (.tuple [.int .i64 (digA l).1, .bool (digA l).2].toArray) := fun w => by
  have hbl := bytI_len l
  refine enter0 Tryd.func126 rfl rfl rfl ?_
  repeat' (first
    | (show RS _ _ _ _ _ _ _ (⟨_, .convert _ _ _, _, _, _, _⟩ :: _); refine RS.bytesOf ?_ (by rfl) Tryd.underlying9 Tryd.underlying74 Tryd.underlying5; intro z)
    | (refine nxV ?_)
    | (show RS _ _ _ _ _ _ _ _; first | (refine nxRS ?_) | (refine nxRS1 fun _ => ?_))
    | (show RM _ _ _ _ _ _ _ _ _ _; first | (refine nxRM ?_) | (refine nxRM1 fun _ => ?_))
    | (refine nxG ?_)
    | (refine nxVS ?_)
    | (refine nxGS ?_)
    | (refine nxX ?_)
    | (refine G.condN rfl (fun hc => ?_) (fun hc => ?_) <;> (try first | exact False.elim hc | (exfalso; omega))))
  refine G.loop (ι := Nat × Int) (fun x => [(0, strV l), (4, .int .i64 x.2), (8, z.v), (9, .int .i64 (bytI l).length), (10, .int .i64 (x.1 : Int))]) (fun _ => [Hl.nw z.v cB 1 (bytI l)]) (fun x => x.1 ≤ l.length ∧ (∀ k : Nat, k < x.1 → dgI (nth l (k : Int)) = true) ∧ (0 ≤ x.2 ∧ x.2 ≤ 1125899906842624) ∧ (l.drop x.1).foldl satStep x.2 = satF l) (fun x => l.length - x.1) (0, 0) ⟨Nat.zero_le _, fun k hk => by dsimp only at hk; omega, by decide, rfl⟩ ⟨rfl, rfl, rfl, rfl, rfl, trivial⟩ (by exact fun w h => h.sub (by repeat (first | exact List.Sublist.refl _ | apply List.Sublist.cons_cons | apply List.Sublist.cons))) ?_
  rintro ⟨i, n⟩ mx ⟨g1, g2, g3, g4⟩ hmx
  dsimp only at g1 g2 g3 g4 hmx ⊢
  rcases Nat.lt_or_ge i l.length with hi | hi
  · have hb := bytI_get hi
    have hb0 : (nth l (i : Int)).toNat < 256 := UInt8.toNat_lt _
    have hb1 : 0 ≤ nth (bytI l) (i : Int) ∧ nth (bytI l) (i : Int) ≤ 255 := by omega
    have hdg : dgI (nth l (i : Int)) = (decide ((48 : Int) ≤ (nth l (i : Int)).toNat) && decide (((nth l (i : Int)).toNat : Int) ≤ 57)) := rfl
    repeat' (first
    | (show YK _ _ _ _ _ ⟨_, .binOp .sub 5 _ _ _, _, _, _, _⟩ _; refine YK.ofV (V.int_ (y_sub (by rfl) (by rfl)) (IntWalk.u8_in _ (by omega))) ?_)
    | (refine nxV ?_)
    | (show RS _ _ _ _ _ _ _ _; first | (refine nxRS ?_) | (refine nxRS1 fun _ => ?_))
    | (show RM _ _ _ _ _ _ _ _ _ _; first | (refine nxRM ?_) | (refine nxRM1 fun _ => ?_))
    | (refine nxG ?_)
    | (refine nxVS ?_)
    | (refine nxGS ?_)
    | (refine nxX ?_)
    | (refine G.condN rfl (fun hc => ?_) (fun hc => ?_) <;> (try first | exact False.elim hc | (exfalso; omega))))
    · have e : digA l = (0, false) := by
        unfold digA
        rw [if_neg]
        rw [all_dg_f hi (by rw [hdg]; rcases hc with h | h; rw [decide_eq_false (by omega)]; rfl; rw [decide_eq_false (show ¬ ((nth l (i : Int)).toNat : Int) ≤ 57 by omega), Bool.and_false])]
        decide
      exact X.ret (vs := [_, _]) rfl ⟨rfl, rfl, rfl⟩ rfl (fun w hw => ⟨by rw [e], hw.ext⟩)
    · refine X.again (i + 1, min (10 * n + (nth (bytI l) (i : Int) - 48)) 1125899906842624) ⟨by dsimp only; omega, fun k hk => ?_, by dsimp only; omega, ?_⟩ (by dsimp only; omega) ⟨rfl, rfl, rfl, rfl, rfl, trivial⟩ (by exact fun w h => h.sub (by repeat (first | exact List.Sublist.refl _ | apply List.Sublist.cons_cons | apply List.Sublist.cons)))
      · dsimp only at hk
        rcases Nat.lt_or_ge k i with h | h
        · exact g2 k h
        · rw [show k = i by omega, hdg, decide_eq_true (by omega), decide_eq_true (by omega)]; rfl
      · dsimp only
        rw [drop_consB hi, List.foldl_cons] at g4
        rw [← g4, hb]; rfl
  · obtain rfl : i = l.length := by omega
    repeat' (first
    | (refine nxV ?_)
    | (show RS _ _ _ _ _ _ _ _; first | (refine nxRS ?_) | (refine nxRS1 fun _ => ?_))
    | (show RM _ _ _ _ _ _ _ _ _ _; first | (refine nxRM ?_) | (refine nxRM1 fun _ => ?_))
    | (refine nxG ?_)
    | (refine nxVS ?_)
    | (refine nxGS ?_)
    | (refine nxX ?_)
    | (refine G.condN rfl (fun hc => ?_) (fun hc => ?_) <;> (try first | exact False.elim hc | (exfalso; omega))))
    have e : digA l = (n, decide (¬ l = [])) := by
      unfold digA
      rw [if_pos (all_dg_t g2), ← g4, List.drop_length]; rfl
    exact X.ret (vs := [_, _]) rfl ⟨rfl, rfl, rfl⟩ rfl (fun w hw => ⟨by rw [e]; simp, hw.ext⟩)
end Go.Proofs.YtaglecidaedjfaaDoor
