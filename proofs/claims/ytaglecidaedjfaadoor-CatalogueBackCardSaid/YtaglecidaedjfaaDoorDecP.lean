/- decimal.Parse at one digit. -/
import Derived.Test.YtaglecidaedjfaaDoorAngR
set_option linter.unusedVariables false
set_option maxHeartbeats 4000000
namespace Go.Proofs.YtaglecidaedjfaaDoor
open Go.RowKit

abbrev badD (whole part : List UInt8) (pointed a1 a2 : Bool) : Prop := (a1 = false ∨ (1 : Int) < whole.length ∧ ((nth whole 0).toNat : Int) = 48) ∨ pointed = true ∧ (a2 = false ∨ (1 : Int) < part.length)
theorem badD_not {whole part : List UInt8} {pointed a1 a2 : Bool} (h : (a1 = true ∧ ((whole.length : Int) ≤ 1 ∨ ¬ ((nth whole 0).toNat : Int) = 48)) ∧ (pointed = false ∨ a2 = true ∧ (part.length : Int) ≤ 1)) : ¬ badD whole part pointed a1 a2 := by
  obtain ⟨⟨rfl, h1⟩, h2⟩ := h
  rintro (⟨h | h⟩ | ⟨h, g⟩)
  · cases h
  · omega
  · rcases h2 with rfl | ⟨rfl, h2⟩
    · cases h
    · rcases g with g | g
      · cases g
      · omega
abbrev DPre (s body whole part : List UInt8) (minus pointed a1 a2 : Bool) : Prop :=
  (whole.length ≤ 1000000 ∧ part.length ≤ 1000000) ∧
  Cont Tryd.prog 106 [strV s, strV [45]] (.tuple [strV body, .bool minus].toArray) ∧
  ContIn Tryd.prog LaidC 48 [strV body, strV [46]] (.tuple [strV whole, strV part, .bool pointed].toArray) ∧
  Cont Tryd.prog 62 [strV whole, .func (.func 95) #[] #[]] (.bool a1) ∧
  Cont Tryd.prog 62 [strV part, .func (.func 95) #[] #[]] (.bool a2)
theorem dp_bad {s body whole part : List UInt8} {minus pointed a1 a2 : Bool} (hp : DPre s body whole part minus pointed a1 a2) (hb : badD whole part pointed a1 a2) :
    ContIn Tryd.prog LaidC 79 [strV s, .int .i64 1] (.tuple [.int .i64 0, .int .i64 7].toArray) := fun w hI => by
  obtain ⟨⟨l1, l2⟩, p1, p2, p3, p4⟩ := hp
  refine enter0 Tryd.func79 rfl rfl rfl ?_
  repeat' (first
    | (exfalso; exact badD_not hc hb)
    | (show YK _ _ _ _ _ _ _; first | refine YK.mk (y_callA (p1) ⟨rfl, rfl, rfl⟩) ?_ | refine YK.mk (y_callIn (p2) (fun _ hw => hI.keep hw.ext) ⟨rfl, rfl, rfl⟩ (by decide +kernel)) ?_ | refine YK.mk (y_callA (p3) ⟨rfl, rfl, rfl⟩) ?_ | refine YK.mk (y_callA (p4) ⟨rfl, rfl, rfl⟩) ?_)
    | (show YK _ _ _ _ _ _ _; refine YK.ofV vAuto ?_)
    | (show VK _ _ _ _ _ _ _; refine VK.mk vAuto ?_)
    | (show RS _ _ _ _ _ _ _ _; first | (refine nxRS ?_) | (refine nxRS1 fun _ => ?_))
    | (show RM _ _ _ _ _ _ _ _ _ _; first | (refine nxRM ?_) | (refine nxRM1 fun _ => ?_))
    | (show YG _ _ _ _ _ _ _ _; refine YG.mk (fun hb => by (try (have hc := And.left hb; have hb := And.right hb; rw [hc])); (try rw [hb]); first | exact (y_callA (p1) ⟨rfl, rfl, rfl⟩) | exact (y_callIn (p2) (fun _ hw => hI.keep hw.ext) ⟨rfl, rfl, rfl⟩ (by decide +kernel)) | exact (y_callA (p3) ⟨rfl, rfl, rfl⟩) | exact (y_callA (p4) ⟨rfl, rfl, rfl⟩) | exact V.y vAuto) ?_)
    | (show VG _ _ _ _ _ _ _ _; refine VG.mk (fun hb => by (try (have hc := And.left hb; have hb := And.right hb; rw [hc])); (try rw [hb]); exact vAuto) ?_)
    | (refine nxVS ?_)
    | (refine nxGS ?_)
    | (refine nxX ?_)
    | (refine G.condN rfl (fun hc => ?_) (fun hc => ?_) <;> (try first | exact False.elim hc | (exfalso; omega))))
  exact X.ret (vs := [_, _]) rfl ⟨rfl, rfl, rfl⟩ rfl (fun w hw => ⟨rfl, hw.ext⟩)
theorem dp_good {s body whole part : List UInt8} {minus pointed a1 a2 : Bool} {r : Int × Int} (hp : DPre s body whole part minus pointed a1 a2) (hb : ¬ badD whole part pointed a1 a2) (hpl : part.length ≤ 1)
    (hdg : ∀ i : Nat, i < (whole ++ part ++ Lib.repeatL [48] (1 - part.length)).length → 48 ≤ nth (bytI (whole ++ part ++ Lib.repeatL [48] (1 - part.length))) (i : Int) ∧ nth (bytI (whole ++ part ++ Lib.repeatL [48] (1 - part.length))) (i : Int) ≤ 57)
    (hr : r = match decF (whole ++ part ++ Lib.repeatL [48] (1 - part.length)) 0 with
      | none => (0, 5)
      | some n => (if minus = true then -n else n, 0)) :
    ContIn Tryd.prog LaidC 79 [strV s, .int .i64 1] (.tuple [.int .i64 r.1, .int .i64 r.2].toArray) := fun w hI => by
  obtain ⟨⟨l1, l2⟩, p1, p2, p3, p4⟩ := hp
  have p5 := repeat_c [48] (m := 1 - (part.length : Int)) (by omega) (by decide)
  rw [show (1 - (part.length : Int)).toNat = 1 - part.length by omega] at p5
  have hrl : (Lib.repeatL [48] (1 - part.length)).length ≤ 1 := by
    rcases Nat.lt_or_ge part.length 1 with h | h
    · rw [show 1 - part.length = 1 by omega]; decide
    · rw [show 1 - part.length = 0 by omega]; decide
  generalize Lib.repeatL [48] (1 - part.length) = z at hdg hr p5 hrl
  have hBl : (whole ++ part ++ z).length ≤ 2000001 := by simp only [List.length_append]; omega
  generalize hB : whole ++ part ++ z = B at hdg hr hBl
  have hbl := bytI_len B
  refine enter0 Tryd.func79 rfl rfl rfl ?_
  repeat' (first
    | (exfalso; exact hb hc)
    | (show RS _ _ _ _ _ _ _ (⟨_, .convert _ _ _, _, _, _, _⟩ :: _); refine RS.bytesOf (l := whole ++ part ++ z) ?_ (by rfl) Tryd.underlying9 Tryd.underlying74 Tryd.underlying5; rw [hB]; intro y)
    | (show YK _ _ _ _ _ _ _; first | refine YK.mk (y_callA (p1) ⟨rfl, rfl, rfl⟩) ?_ | refine YK.mk (y_callIn (p2) (fun _ hw => hI.keep hw.ext) ⟨rfl, rfl, rfl⟩ (by decide +kernel)) ?_ | refine YK.mk (y_callA (p3) ⟨rfl, rfl, rfl⟩) ?_ | refine YK.mk (y_callA (p4) ⟨rfl, rfl, rfl⟩) ?_ | refine YK.mk (y_callA (p5) ⟨rfl, rfl, rfl⟩) ?_)
    | (show YK _ _ _ _ _ _ _; refine YK.ofV vAuto ?_)
    | (show VK _ _ _ _ _ _ _; refine VK.mk vAuto ?_)
    | (show RS _ _ _ _ _ _ _ _; first | (refine nxRS ?_) | (refine nxRS1 fun _ => ?_))
    | (show RM _ _ _ _ _ _ _ _ _ _; first | (refine nxRM ?_) | (refine nxRM1 fun _ => ?_))
    | (show YG _ _ _ _ _ _ _ _; refine YG.mk (fun hb => by (try (have hc := And.left hb; have hb := And.right hb; rw [hc])); (try rw [hb]); first | exact (y_callA (p1) ⟨rfl, rfl, rfl⟩) | exact (y_callIn (p2) (fun _ hw => hI.keep hw.ext) ⟨rfl, rfl, rfl⟩ (by decide +kernel)) | exact (y_callA (p3) ⟨rfl, rfl, rfl⟩) | exact (y_callA (p4) ⟨rfl, rfl, rfl⟩) | exact (y_callA (p5) ⟨rfl, rfl, rfl⟩) | exact V.y vAuto) ?_)
    | (show VG _ _ _ _ _ _ _ _; refine VG.mk (fun hb => by (try (have hc := And.left hb; have hb := And.right hb; rw [hc])); (try rw [hb]); exact vAuto) ?_)
    | (refine nxVS ?_)
    | (refine nxGS ?_)
    | (refine nxX ?_)
    | (refine G.condN rfl (fun hc => ?_) (fun hc => ?_) <;> (try first | exact False.elim hc | (exfalso; omega))))
  clear p1 p2 p3 p4 p5 hc hb
  obtain ⟨D, hD⟩ : ∃ D, decF B 0 = D := ⟨_, rfl⟩
  rw [hD] at hr
  refine G.loop (ι := Nat × Int) (fun x => [(7, .bool minus), (11, .int .i64 x.2), (68, y.v), (69, .int .i64 (bytI B).length), (70, .int .i64 (x.1 : Int))]) (fun _ => [Hl.nw y.v cB 1 (bytI B)]) (fun x => x.1 ≤ B.length ∧ (0 ≤ x.2 ∧ x.2 ≤ 1152921504606846976) ∧ decF (B.drop x.1) x.2 = D) (fun x => B.length - x.1) (0, 0) ⟨Nat.zero_le _, by decide, hD⟩ ⟨rfl, rfl, rfl, rfl, rfl, trivial⟩ (by exact fun w h => h.sub (by repeat (first | exact List.Sublist.refl _ | apply List.Sublist.cons_cons | apply List.Sublist.cons))) ?_
  rintro ⟨i, n⟩ mx ⟨g1, g2, g3⟩ hmx
  dsimp only at g1 g2 g3 hmx ⊢
  rcases Nat.lt_or_ge i B.length with hi | hi
  · have h1 := hdg i hi
    have hbg := bytI_get hi
    rw [drop_consB hi] at g3
    unfold decF at g3
    rw [← hbg] at g3
    repeat' (first
    | (show YK _ _ _ _ _ ⟨_, .binOp .sub 5 _ _ _, _, _, _, _⟩ _; refine YK.ofV (V.int_ (y_sub (by rfl) (by rfl)) (IntWalk.u8_in _ (by omega))) ?_)
    | (refine nxV ?_)
    | (show RS _ _ _ _ _ _ _ _; first | (refine nxRS ?_) | (refine nxRS1 fun _ => ?_))
    | (show RM _ _ _ _ _ _ _ _ _ _; first | (refine nxRM ?_) | (refine nxRM1 fun _ => ?_))
    | (refine nxG ?_)
    | (refine nxVS ?_)
    | (refine nxGS ?_)
    | (refine nxX ?_)
    | (refine G.condN rfl (fun hc => ?_) (fun hc => ?_) <;> (try first | exact False.elim hc | (exfalso; omega))))
    · rw [if_pos hc] at g3
      have hr2 : r = (0, 5) := by rw [hr, ← g3]
      exact X.ret (vs := [_, _]) rfl ⟨rfl, rfl, rfl⟩ rfl (fun w hw => ⟨by rw [hr2], hw.ext⟩)
    · rw [if_neg (by omega)] at g3
      exact X.again (i + 1, 10 * n + (nth (bytI B) (i : Int) - 48)) ⟨by dsimp only; omega, by dsimp only; omega, g3⟩ (by dsimp only; omega) ⟨rfl, rfl, rfl, rfl, rfl, trivial⟩ (by exact fun w h => h.sub (by repeat (first | exact List.Sublist.refl _ | apply List.Sublist.cons_cons | apply List.Sublist.cons)))
  · obtain rfl : i = B.length := by omega
    rw [List.drop_length] at g3
    have hr2 : r = (if minus = true then -n else n, 0) := by rw [hr, ← g3]; rfl
    repeat' (first
    | (refine nxV ?_)
    | (show RS _ _ _ _ _ _ _ _; first | (refine nxRS ?_) | (refine nxRS1 fun _ => ?_))
    | (show RM _ _ _ _ _ _ _ _ _ _; first | (refine nxRM ?_) | (refine nxRM1 fun _ => ?_))
    | (refine nxG ?_)
    | (refine nxVS ?_)
    | (refine nxGS ?_)
    | (refine nxX ?_)
    | (refine G.condN rfl (fun hc => ?_) (fun hc => ?_) <;> (try first | exact False.elim hc | (exfalso; omega))))
    · exact X.ret (vs := [_, _]) rfl ⟨rfl, rfl, rfl⟩ rfl (fun w hw => ⟨by rw [hr2, if_pos hc], hw.ext⟩)
    · exact X.ret (vs := [_, _]) rfl ⟨rfl, rfl, rfl⟩ rfl (fun w hw => ⟨by rw [hr2, if_neg (by rw [hc]; decide)], hw.ext⟩)
theorem allP_nth {l : List UInt8} (h : allP digitB l = true) : ∀ b ∈ l, (48 : Int) ≤ b.toNat ∧ (b.toNat : Int) ≤ 57 := fun b hb => by
  unfold allP at h
  rw [Bool.and_eq_true, List.all_eq_true] at h
  have := h.2 b hb
  unfold digitB at this
  simpa only [Bool.and_eq_true, decide_eq_true_eq] using this
theorem cut_no {l sep : List UInt8} (h : (Lib.cut l sep).2.2 = false) : (Lib.cut l sep).2.1 = [] := by
  unfold Lib.cut at h ⊢
  split at h
  · cases h
  · rename_i c
    rw [if_neg c]
def decE (minus : Bool) (whole part : List UInt8) (pointed : Bool) : Int × Int :=
  if (!allP digitB whole || lead0 whole || (pointed && (!allP digitB part || decide (1 < part.length)))) = true then (0, 7)
  else match decF (whole ++ part ++ Lib.repeatL [48] (1 - part.length)) 0 with
    | none => (0, 5)
    | some n => (if minus = true then -n else n, 0)
theorem decP_eq (s : List UInt8) : decP s = decE (cutP s).2 (Lib.cut (cutP s).1 [46]).1 (Lib.cut (cutP s).1 [46]).2.1 (Lib.cut (cutP s).1 [46]).2.2 := rfl
theorem badD_iff {whole part : List UInt8} {pointed a1 a2 : Bool} : (!a1 || lead0 whole || (pointed && (!a2 || decide (1 < part.length)))) = true ↔ badD whole part pointed a1 a2 := by
  have h : (nth whole 0 = 48) ↔ ((nth whole 0).toNat : Int) = 48 := by
    constructor
    · intro h; rw [h]; rfl
    · intro h
      apply UInt8.toNat_inj.1
      have : (nth whole 0).toNat = 48 := by omega
      rw [this]; rfl
  have h2 : ((1 : Int) < part.length) ↔ 1 < part.length := by omega
  have h3 : ((1 : Int) < whole.length) ↔ 1 < whole.length := by omega
  unfold badD lead0
  rw [h2, h3, ← h]
  simp only [Bool.or_eq_true, Bool.and_eq_true, Bool.not_eq_true', decide_eq_true_eq]
theorem decParse_c (s : List UInt8) (hs : s.length ≤ 1000000) : ContIn Tryd.prog LaidC 79 [strV s, .int .i64 1] (.tuple [.int .i64 (decP s).1, .int .i64 (decP s).2].toArray) := by
  rw [decP_eq]
  have l0 := cutP_len s
  have p1 := cutPfx_c s hs
  have l1 := cut_lens (cutP s).1 [46]
  have p2 := cutC_c (cutP s).1 [46] (by omega)
  have hno := fun h => cut_no (l := (cutP s).1) (sep := [46]) h
  generalize cutP s = p at l0 p1 l1 p2 hno ⊢
  generalize Lib.cut p.1 [46] = c at l1 p2 hno ⊢
  obtain ⟨whole, part, pointed⟩ := c
  dsimp only at l1 p2 hno ⊢
  have p3 := all_c digitB digit_c (by decide +kernel) whole (by omega)
  have p4 := all_c digitB digit_c (by decide +kernel) part (by omega)
  by_cases hb : badD whole part pointed (allP digitB whole) (allP digitB part)
  · have e : decE p.2 whole part pointed = (0, 7) := by
      unfold decE
      rw [if_pos (badD_iff.2 hb)]
    rw [e]
    exact dp_bad ⟨⟨by omega, by omega⟩, p1, p2, p3, p4⟩ hb
  · have hw : allP digitB whole = true := by
      cases h : allP digitB whole with
      | true => rfl
      | false => exact absurd (.inl (.inl h)) hb
    have hp : part.length ≤ 1 ∧ ∀ b ∈ part, (48 : Int) ≤ b.toNat ∧ (b.toNat : Int) ≤ 57 := by
      cases hpt : pointed with
      | false =>
        rw [hno hpt]
        exact ⟨by simp, fun b hb => by cases hb⟩
      | true =>
        have h2 : allP digitB part = true := by
          cases h : allP digitB part with
          | true => rfl
          | false => exact absurd (.inr ⟨hpt, .inl h⟩) hb
        refine ⟨?_, allP_nth h2⟩
        rcases Nat.lt_or_ge 1 part.length with h | h
        · exact absurd (.inr ⟨hpt, .inr (by omega)⟩) hb
        · exact h
    refine dp_good ⟨⟨by omega, by omega⟩, p1, p2, p3, p4⟩ hb hp.1 (fun i hi => ?_) ?_
    · rw [bytI_get hi]
      have hm := List.mem_of_getElem? (nth_some (l := whole ++ part ++ Lib.repeatL [48] (1 - part.length)) (m := (i : Int)) (by omega) (by omega))
      rcases List.mem_append.1 hm with hm | hm
      · rcases List.mem_append.1 hm with hm | hm
        · exact allP_nth hw _ hm
        · exact hp.2 _ hm
      · have hr : ∀ b ∈ Lib.repeatL [48] (1 - part.length), b = 48 := by
          rcases Nat.lt_or_ge part.length 1 with h | h
          · rw [show 1 - part.length = 1 by omega]; decide
          · rw [show 1 - part.length = 0 by omega]; decide
        rw [hr _ hm]; decide
    · unfold decE
      rw [if_neg (fun g => hb (badD_iff.1 g))]
theorem decF_bd : ∀ (l : List UInt8) (n m : Int), (∀ b ∈ l, (48 : Int) ≤ b.toNat ∧ (b.toNat : Int) ≤ 57) → 0 ≤ n ∧ n ≤ 1152921504606846976 → decF l n = some m → 0 ≤ m ∧ m ≤ 1152921504606846976
  | [], n, m, _, h, e => by
    obtain rfl : n = m := Option.some.inj e
    exact h
  | b :: r, n, m, hd, h, e => by
    have hb := hd b (List.mem_cons_self ..)
    unfold decF at e
    split at e
    · cases e
    · exact decF_bd r _ m (fun x hx => hd x (List.mem_cons_of_mem _ hx)) (by omega) e
end Go.Proofs.YtaglecidaedjfaaDoor
