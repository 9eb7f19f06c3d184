/- Fractions read from texts: the reference's Parse, ratio.Parse; RatioTexts gives true. -/
import Derived.Test.YtnanempkkeokbaaDoorTxt3
import Derived.Test.YtnanempkkeokbaaDoorLib2
import Derived.Test.YtnanempkkeokbaaDoorRatP
set_option linter.unusedVariables false
set_option maxHeartbeats 4000000
namespace Go.Proofs.YtnanempkkeokbaaDoor
open Go.RowKit

abbrev rpV (C : Prop) [Decidable C] (n d : Int) : Value := .tuple [fracV (if C then n else 0) (if C then d else 0), .bool (decide C)].toArray
theorem rp_bad {C : Prop} [Decidable C] {n d : Int} (h : ¬ C) : (.tuple [fracV 0 0, .bool false].toArray : Value) = rpV C n d := by unfold rpV; rw [if_neg h, if_neg h, decide_eq_false h]
theorem rp_good {C : Prop} [Decidable C] {n d : Int} (h : C) : (.tuple [fracV n d, .bool true].toArray : Value) = rpV C n d := by unfold rpV; rw [if_pos h, if_pos h, decide_eq_true h]
theorem rp_00 {l t : List UInt8} {v : Bool} {n0 k0 : Int} (hl : l.length ≤ 1000) (hs : ¬ (0 < (l.length : Int) ∧ ((nth l 0).toNat : Int) = 45)) (q1 : Cont Tryd.prog 57 [strV l, .int .i64 0] (.tuple [.int .i64 n0, .int .i64 k0].toArray)) (hn : Q40 n0) (hk : 0 ≤ k0 ∧ k0 ≤ l.length) (hsl : ¬ (k0 < l.length ∧ ((nth l k0).toNat : Int) = 47))
    (q3 : Cont Tryd.prog 16 [fracV (n0) 1] (.bool v)) (q4 : Cont Tryd.prog 43 [fracV (n0) 1] (strV t)) : Cont Tryd.prog 41 [strV l] (rpV (k0 = l.length ∧ v = true ∧ t = l) (n0) 1) := fun w => by
  refine enter0 Tryd.func41 rfl rfl rfl ?_
  repeat' (first
    | (show YK _ _ _ _ _ _ _; first | refine YK.mk (y_callA (q1) ⟨rfl, rfl, rfl⟩) ?_ | refine YK.mk (y_callA (q3) ⟨rfl, rfl⟩) ?_ | refine YK.mk (y_callA (q4) ⟨rfl, rfl⟩) ?_)
    | (show YK _ _ _ _ _ _ _; refine YK.ofV vAuto ?_)
    | (show VK _ _ _ _ _ _ _; refine VK.mk vAuto ?_)
    | (show RS _ _ _ _ _ _ _ _; first | (refine nxRS ?_) | (refine nxRS1 fun _ => ?_))
    | (show RM _ _ _ _ _ _ _ _ _ _; first | (refine nxRM ?_) | (refine nxRM1 fun _ => ?_))
    | (show YG _ _ _ _ _ _ _ _; refine YG.mk (fun hb => by (try (have hc := And.left hb; have hb := And.right hb; rw [hc])); (try rw [hb]); first | exact (y_callA (q1) ⟨rfl, rfl, rfl⟩) | exact (y_callA (q3) ⟨rfl, rfl⟩) | exact (y_callA (q4) ⟨rfl, rfl⟩) | exact V.y vAuto) ?_)
    | (show VG _ _ _ _ _ _ _ _; refine VG.mk (fun hb => by (try (have hc := And.left hb; have hb := And.right hb; rw [hc])); (try rw [hb]); exact vAuto) ?_)
    | (refine nxVS ?_)
    | (refine nxGS ?_)
    | (refine nxX ?_)
    | (refine G.condN rfl (fun hc => ?_) (fun hc => ?_) <;> (try first | exact False.elim hc | (exfalso; omega))))
  · refine X.ret (vs := [_, _]) rfl ⟨⟨_, _, _, _, rfl, (by exact memA), (by (repeat (first | exact .nil | apply LenIs.cons))), by decide +kernel, rfl⟩, rfl, rfl⟩ rfl (fun w hw => ⟨congrArg Ending.returned (rp_bad ?_), hw.ext⟩)
    rintro ⟨z1, z2, z3⟩
    rcases hc with (z | z) | z
    · exact z z1
    · rw [z2] at z; cases z
    · exact z z3
  · exact X.ret (vs := [_, _]) rfl ⟨⟨_, _, _, _, rfl, (by exact memA), (by (repeat (first | exact .nil | apply LenIs.cons))), by decide +kernel, rfl⟩, rfl, rfl⟩ rfl (fun w hw => ⟨congrArg Ending.returned (rp_good ⟨hc.1.1, hc.1.2, hc.2⟩), hw.ext⟩)
theorem rp_01 {l t : List UInt8} {v : Bool} {n0 k0 d k : Int} (hl : l.length ≤ 1000) (hs : ¬ (0 < (l.length : Int) ∧ ((nth l 0).toNat : Int) = 45)) (q1 : Cont Tryd.prog 57 [strV l, .int .i64 0] (.tuple [.int .i64 n0, .int .i64 k0].toArray)) (hn : Q40 n0) (hk : 0 ≤ k0 ∧ k0 < l.length) (hsl : ((nth l k0).toNat : Int) = 47) (hd : Q40 d) (q2 : Cont Tryd.prog 57 [strV l, .int .i64 (k0 + 1)] (.tuple [.int .i64 d, .int .i64 k].toArray))
    (q3 : Cont Tryd.prog 16 [fracV (n0) d] (.bool v)) (q4 : Cont Tryd.prog 43 [fracV (n0) d] (strV t)) : Cont Tryd.prog 41 [strV l] (rpV (k = l.length ∧ v = true ∧ t = l) (n0) d) := fun w => by
  refine enter0 Tryd.func41 rfl rfl rfl ?_
  repeat' (first
    | (show YK _ _ _ _ _ _ _; first | refine YK.mk (y_callA (q1) ⟨rfl, rfl, rfl⟩) ?_ | refine YK.mk (y_callA (q2) ⟨rfl, rfl, rfl⟩) ?_ | refine YK.mk (y_callA (q3) ⟨rfl, rfl⟩) ?_ | refine YK.mk (y_callA (q4) ⟨rfl, rfl⟩) ?_)
    | (show YK _ _ _ _ _ _ _; refine YK.ofV vAuto ?_)
    | (show VK _ _ _ _ _ _ _; refine VK.mk vAuto ?_)
    | (show RS _ _ _ _ _ _ _ _; first | (refine nxRS ?_) | (refine nxRS1 fun _ => ?_))
    | (show RM _ _ _ _ _ _ _ _ _ _; first | (refine nxRM ?_) | (refine nxRM1 fun _ => ?_))
    | (show YG _ _ _ _ _ _ _ _; refine YG.mk (fun hb => by (try (have hc := And.left hb; have hb := And.right hb; rw [hc])); (try rw [hb]); first | exact (y_callA (q1) ⟨rfl, rfl, rfl⟩) | exact (y_callA (q2) ⟨rfl, rfl, rfl⟩) | exact (y_callA (q3) ⟨rfl, rfl⟩) | exact (y_callA (q4) ⟨rfl, rfl⟩) | exact V.y vAuto) ?_)
    | (show VG _ _ _ _ _ _ _ _; refine VG.mk (fun hb => by (try (have hc := And.left hb; have hb := And.right hb; rw [hc])); (try rw [hb]); exact vAuto) ?_)
    | (refine nxVS ?_)
    | (refine nxGS ?_)
    | (refine nxX ?_)
    | (refine G.condN rfl (fun hc => ?_) (fun hc => ?_) <;> (try first | exact False.elim hc | (exfalso; omega))))
  · refine X.ret (vs := [_, _]) rfl ⟨⟨_, _, _, _, rfl, (by exact memA), (by (repeat (first | exact .nil | apply LenIs.cons))), by decide +kernel, rfl⟩, rfl, rfl⟩ rfl (fun w hw => ⟨congrArg Ending.returned (rp_bad ?_), hw.ext⟩)
    rintro ⟨z1, z2, z3⟩
    rcases hc with (z | z) | z
    · exact z z1
    · rw [z2] at z; cases z
    · exact z z3
  · exact X.ret (vs := [_, _]) rfl ⟨⟨_, _, _, _, rfl, (by exact memA), (by (repeat (first | exact .nil | apply LenIs.cons))), by decide +kernel, rfl⟩, rfl, rfl⟩ rfl (fun w hw => ⟨congrArg Ending.returned (rp_good ⟨hc.1.1, hc.1.2, hc.2⟩), hw.ext⟩)
theorem rp_10 {l t : List UInt8} {v : Bool} {n0 k0 : Int} (hl : l.length ≤ 1000) (hs : 0 < l.length ∧ ((nth l 0).toNat : Int) = 45) (q1 : Cont Tryd.prog 57 [strV l, .int .i64 1] (.tuple [.int .i64 n0, .int .i64 k0].toArray)) (hn : Q40 n0) (hk : 0 ≤ k0 ∧ k0 ≤ l.length) (hsl : ¬ (k0 < l.length ∧ ((nth l k0).toNat : Int) = 47))
    (q3 : Cont Tryd.prog 16 [fracV (-n0) 1] (.bool v)) (q4 : Cont Tryd.prog 43 [fracV (-n0) 1] (strV t)) : Cont Tryd.prog 41 [strV l] (rpV (k0 = l.length ∧ v = true ∧ t = l) (-n0) 1) := fun w => by
  refine enter0 Tryd.func41 rfl rfl rfl ?_
  repeat' (first
    | (show YK _ _ _ _ _ _ _; first | refine YK.mk (y_callA (q1) ⟨rfl, rfl, rfl⟩) ?_ | refine YK.mk (y_callA (q3) ⟨rfl, rfl⟩) ?_ | refine YK.mk (y_callA (q4) ⟨rfl, rfl⟩) ?_)
    | (show YK _ _ _ _ _ _ _; refine YK.ofV vAuto ?_)
    | (show VK _ _ _ _ _ _ _; refine VK.mk vAuto ?_)
    | (show RS _ _ _ _ _ _ _ _; first | (refine nxRS ?_) | (refine nxRS1 fun _ => ?_))
    | (show RM _ _ _ _ _ _ _ _ _ _; first | (refine nxRM ?_) | (refine nxRM1 fun _ => ?_))
    | (show YG _ _ _ _ _ _ _ _; refine YG.mk (fun hb => by (try (have hc := And.left hb; have hb := And.right hb; rw [hc])); (try rw [hb]); first | exact (y_callA (q1) ⟨rfl, rfl, rfl⟩) | exact (y_callA (q3) ⟨rfl, rfl⟩) | exact (y_callA (q4) ⟨rfl, rfl⟩) | exact V.y vAuto) ?_)
    | (show VG _ _ _ _ _ _ _ _; refine VG.mk (fun hb => by (try (have hc := And.left hb; have hb := And.right hb; rw [hc])); (try rw [hb]); exact vAuto) ?_)
    | (refine nxVS ?_)
    | (refine nxGS ?_)
    | (refine nxX ?_)
    | (refine G.condN rfl (fun hc => ?_) (fun hc => ?_) <;> (try first | exact False.elim hc | (exfalso; omega))))
  · refine X.ret (vs := [_, _]) rfl ⟨⟨_, _, _, _, rfl, (by exact memA), (by (repeat (first | exact .nil | apply LenIs.cons))), by decide +kernel, rfl⟩, rfl, rfl⟩ rfl (fun w hw => ⟨congrArg Ending.returned (rp_bad ?_), hw.ext⟩)
    rintro ⟨z1, z2, z3⟩
    rcases hc with (z | z) | z
    · exact z z1
    · rw [z2] at z; cases z
    · exact z z3
  · exact X.ret (vs := [_, _]) rfl ⟨⟨_, _, _, _, rfl, (by exact memA), (by (repeat (first | exact .nil | apply LenIs.cons))), by decide +kernel, rfl⟩, rfl, rfl⟩ rfl (fun w hw => ⟨congrArg Ending.returned (rp_good ⟨hc.1.1, hc.1.2, hc.2⟩), hw.ext⟩)
theorem rp_11 {l t : List UInt8} {v : Bool} {n0 k0 d k : Int} (hl : l.length ≤ 1000) (hs : 0 < l.length ∧ ((nth l 0).toNat : Int) = 45) (q1 : Cont Tryd.prog 57 [strV l, .int .i64 1] (.tuple [.int .i64 n0, .int .i64 k0].toArray)) (hn : Q40 n0) (hk : 0 ≤ k0 ∧ k0 < l.length) (hsl : ((nth l k0).toNat : Int) = 47) (hd : Q40 d) (q2 : Cont Tryd.prog 57 [strV l, .int .i64 (k0 + 1)] (.tuple [.int .i64 d, .int .i64 k].toArray))
    (q3 : Cont Tryd.prog 16 [fracV (-n0) d] (.bool v)) (q4 : Cont Tryd.prog 43 [fracV (-n0) d] (strV t)) : Cont Tryd.prog 41 [strV l] (rpV (k = l.length ∧ v = true ∧ t = l) (-n0) d) := fun w => by
  refine enter0 Tryd.func41 rfl rfl rfl ?_
  repeat' (first
    | (show YK _ _ _ _ _ _ _; first | refine YK.mk (y_callA (q1) ⟨rfl, rfl, rfl⟩) ?_ | refine YK.mk (y_callA (q2) ⟨rfl, rfl, rfl⟩) ?_ | refine YK.mk (y_callA (q3) ⟨rfl, rfl⟩) ?_ | refine YK.mk (y_callA (q4) ⟨rfl, rfl⟩) ?_)
    | (show YK _ _ _ _ _ _ _; refine YK.ofV vAuto ?_)
    | (show VK _ _ _ _ _ _ _; refine VK.mk vAuto ?_)
    | (show RS _ _ _ _ _ _ _ _; first | (refine nxRS ?_) | (refine nxRS1 fun _ => ?_))
    | (show RM _ _ _ _ _ _ _ _ _ _; first | (refine nxRM ?_) | (refine nxRM1 fun _ => ?_))
    | (show YG _ _ _ _ _ _ _ _; refine YG.mk (fun hb => by (try (have hc := And.left hb; have hb := And.right hb; rw [hc])); (try rw [hb]); first | exact (y_callA (q1) ⟨rfl, rfl, rfl⟩) | exact (y_callA (q2) ⟨rfl, rfl, rfl⟩) | exact (y_callA (q3) ⟨rfl, rfl⟩) | exact (y_callA (q4) ⟨rfl, rfl⟩) | exact V.y vAuto) ?_)
    | (show VG _ _ _ _ _ _ _ _; refine VG.mk (fun hb => by (try (have hc := And.left hb; have hb := And.right hb; rw [hc])); (try rw [hb]); exact vAuto) ?_)
    | (refine nxVS ?_)
    | (refine nxGS ?_)
    | (refine nxX ?_)
    | (refine G.condN rfl (fun hc => ?_) (fun hc => ?_) <;> (try first | exact False.elim hc | (exfalso; omega))))
  · refine X.ret (vs := [_, _]) rfl ⟨⟨_, _, _, _, rfl, (by exact memA), (by (repeat (first | exact .nil | apply LenIs.cons))), by decide +kernel, rfl⟩, rfl, rfl⟩ rfl (fun w hw => ⟨congrArg Ending.returned (rp_bad ?_), hw.ext⟩)
    rintro ⟨z1, z2, z3⟩
    rcases hc with (z | z) | z
    · exact z z1
    · rw [z2] at z; cases z
    · exact z z3
  · exact X.ret (vs := [_, _]) rfl ⟨⟨_, _, _, _, rfl, (by exact memA), (by (repeat (first | exact .nil | apply LenIs.cons))), by decide +kernel, rfl⟩, rfl, rfl⟩ rfl (fun w hw => ⟨congrArg Ending.returned (rp_good ⟨hc.1.1, hc.1.2, hc.2⟩), hw.ext⟩)

/-! What the reference reads. -/
theorem nth_zero {l : List UInt8} {b : UInt8} {r : List UInt8} (h : l = b :: r) : nth l 0 = b := by subst h; rfl
theorem nth_mid {x y : List UInt8} {b : UInt8} : nth (x ++ b :: y) (x.length : Int) = b := by
  unfold nth
  rw [Int.toNat_natCast, List.getD_eq_getElem?_getD, List.getElem?_append_right (Nat.le_refl _), Nat.sub_self]; rfl
/-- The rest behind a number's digits: nothing, or a slash. -/
def restOk (r : List UInt8) : Prop := r = [] ∨ ∃ y, r = 47 :: y
theorem scan_rest {f : Nat} {n : Int} {r : List UInt8} (h : restOk r) : scan f n r = (n, 0) := by
  rcases h with rfl | ⟨y, rfl⟩
  · exact scan_nil ..
  · exact scan_no (by decide)
theorem deci_len {u : Nat} (h : u ≤ 1073741824) : (Lib.decDigits u).length ≤ 10 := dec_len 9 u (by omega)
theorem scan_num {u : Nat} (h : u ≤ 1073741824) {r : List UInt8} (hr : restOk r) : scan 11 0 (Lib.decDigits u ++ r) = ((u : Int), (Lib.decDigits u).length) := by
  have := deci_len h
  rw [scan_deci u u (Nat.le_refl _) 11 r (by omega), scan_rest hr]
  exact Prod.ext rfl (by simp)
/-- The sign's place. -/
def sgnN (l : List UInt8) : Nat := if 0 < (l.length : Int) ∧ ((nth l 0).toNat : Int) = 45 then 1 else 0
theorem sgn_read {a : Int} (h : -1073741824 ≤ a ∧ a ≤ 1073741824) {r : List UInt8} (hr : restOk r) :
    let l := Lib.itoa a ++ r
    let q := scan 11 0 (l.drop (sgnN l))
    (sgnN l = 1 ∧ -q.1 = a ∨ sgnN l = 0 ∧ q.1 = a) ∧ sgnN l + q.2 = (Lib.itoa a).length := by
  intro l q
  rcases Int.lt_or_le a 0 with h0 | h0
  · obtain ⟨u, rfl, hu⟩ : ∃ u : Nat, a = -(u : Int) ∧ 0 < u := ⟨a.natAbs, by omega, by omega⟩
    have hl : l = 45 :: (Lib.decDigits u ++ r) := by show Lib.itoa _ ++ r = _; rw [itoa_of_neg hu]; rfl
    have hs : sgnN l = 1 := by
      unfold sgnN
      rw [if_pos ⟨by rw [hl, List.length_cons]; omega, by rw [nth_zero hl]; rfl⟩]
    have hq : q = ((u : Int), (Lib.decDigits u).length) := by
      show scan 11 0 (l.drop (sgnN l)) = _
      rw [hs, hl]
      exact scan_num (by omega) hr
    rw [hq, hs, itoa_of_neg hu, List.length_cons]
    exact ⟨.inl ⟨rfl, rfl⟩, by dsimp only; omega⟩
  · obtain ⟨u, rfl⟩ := Int.eq_ofNat_of_zero_le h0
    have hl : l = Lib.decDigits u ++ r := by show Lib.itoa _ ++ r = _; rw [itoa_of_nat]
    obtain ⟨x, y, hx, he⟩ := deci_head u
    have hs : sgnN l = 0 := by
      unfold sgnN
      rw [if_neg]
      rintro ⟨_, g⟩
      rw [nth_zero (l := l) (b := dgt x) (r := y ++ r) (by rw [hl, he]; rfl), dgt_nat hx] at g
      omega
    have hq : q = ((u : Int), (Lib.decDigits u).length) := by
      show scan 11 0 (l.drop (sgnN l)) = _
      rw [hs, hl]
      exact scan_num (by omega) hr
    rw [hq, hs, itoa_of_nat]
    exact ⟨.inr ⟨rfl, rfl⟩, by dsimp only; omega⟩
abbrev ReadsTo (l : List UInt8) (n d : Int) (b : Bool) : Prop := (b = true → validF n d = true ∧ txtF n d = l) ∧ (b = false → n = 0 ∧ d = 0 ∧ ∀ a c, validF a c = true → txtF a c ≠ l)
theorem reads_of_C {l : List UInt8} {n d : Int} {C : Prop} [Decidable C] (h1 : C → validF n d = true ∧ txtF n d = l) (h2 : ∀ a c, validF a c = true → txtF a c = l → C) : ReadsTo l (if C then n else 0) (if C then d else 0) (decide C) := by
  by_cases hC : C
  · rw [if_pos hC, if_pos hC, decide_eq_true hC]
    exact ⟨fun _ => h1 hC, fun h => by cases h⟩
  · rw [if_neg hC, if_neg hC, decide_eq_false hC]
    exact ⟨fun h => (by cases h), fun _ => ⟨rfl, rfl, fun a c hv he => hC (h2 a c hv he)⟩⟩
theorem rparse_c {l : List UInt8} (hl : l.length ≤ 300) : ∃ n d b, Cont Tryd.prog 41 [strV l] (.tuple [fracV n d, .bool b].toArray) ∧ ReadsTo l n d b := by
  have hs2 : sgnN l ≤ l.length ∧ (sgnN l = 0 ∨ sgnN l = 1) := by unfold sgnN; split <;> omega
  have q1 := digits3_c (l := l) (i := sgnN l) (by omega) hs2.1
  obtain ⟨b1, b2, b3⟩ := scan_bd 11 0 (l.drop (sgnN l)) 0 (by decide) (by decide)
  rw [List.length_drop] at b3
  have b2' : (scan 11 0 (l.drop (sgnN l))).1 < 1000000000000 := Int.lt_of_lt_of_le b2 (by decide)
  have key : ∀ a c, validF a c = true → txtF a c = l → (sgnN l = 1 ∧ -(scan 11 0 (l.drop (sgnN l))).1 = a ∨ sgnN l = 0 ∧ (scan 11 0 (l.drop (sgnN l))).1 = a) ∧ ∃ r, restOk r ∧ l = Lib.itoa a ++ r ∧ sgnN l + (scan 11 0 (l.drop (sgnN l))).2 = (Lib.itoa a).length ∧ (c = 1 ∧ r = [] ∨ r = 47 :: Lib.itoa c) := fun a c hv he => by
    have bd := validF_bd hv
    have hr : ∃ r, restOk r ∧ l = Lib.itoa a ++ r ∧ (c = 1 ∧ r = [] ∨ r = 47 :: Lib.itoa c) := by
      unfold txtF at he
      split at he
      next h1 => exact ⟨[], .inl rfl, by rw [← he, List.append_nil], .inl ⟨h1, rfl⟩⟩
      next h1 => exact ⟨47 :: Lib.itoa c, .inr ⟨_, rfl⟩, he.symm, .inr rfl⟩
    obtain ⟨r, r1, r2, r3⟩ := hr
    have := sgn_read bd.1 r1
    dsimp only at this
    rw [← r2] at this
    exact ⟨this.1, r, r1, r2, this.2, r3⟩
  generalize hq : scan 11 0 (l.drop (sgnN l)) = q at q1 b1 b2' b3 key
  by_cases hsl : sgnN l + q.2 < l.length ∧ ((nth l ((sgnN l + q.2 : Nat) : Int)).toNat : Int) = 47
  · have q2 := digits3_c (l := l) (i := sgnN l + q.2 + 1) (by omega) (by omega)
    obtain ⟨d1, d2, d3⟩ := scan_bd 11 0 (l.drop (sgnN l + q.2 + 1)) 0 (by decide) (by decide)
    rw [List.length_drop] at d3
    have d2' : (scan 11 0 (l.drop (sgnN l + q.2 + 1))).1 < 1000000000000 := Int.lt_of_lt_of_le d2 (by decide)
    have key2 : ∀ a c, validF a c = true → txtF a c = l → (scan 11 0 (l.drop (sgnN l + q.2 + 1))).1 = c ∧ sgnN l + q.2 + 1 + (scan 11 0 (l.drop (sgnN l + q.2 + 1))).2 = l.length := fun a c hv he => by
      have bd := validF_bd hv
      obtain ⟨_, r, r1, r2, r3, r4⟩ := key a c hv he
      rcases r4 with ⟨_, r4⟩ | r4
      · rw [r4, List.append_nil] at r2
        rw [← r2] at r3
        omega
      · obtain ⟨u, hu⟩ := Int.eq_ofNat_of_zero_le (show 0 ≤ c by omega)
        have e : l.drop (sgnN l + q.2 + 1) = Lib.decDigits u := by
          rw [r3]
          conv => lhs; rw [r2, r4, hu, itoa_of_nat]
          rw [List.drop_append, List.drop_eq_nil_of_le (by omega), show (Lib.itoa a).length + 1 - (Lib.itoa a).length = 1 by omega]; rfl
        have e2 := scan_num (u := u) (r := []) (by omega) (.inl rfl)
        rw [List.append_nil] at e2
        rw [e, e2]
        refine ⟨hu.symm, ?_⟩
        have e3 := congrArg List.length e
        rw [List.length_drop] at e3
        dsimp only
        omega
    generalize scan 11 0 (l.drop (sgnN l + q.2 + 1)) = z at q2 d1 d2' d3 key2
    have q2' : Cont Tryd.prog 57 [strV l, .int .i64 (((sgnN l + q.2 : Nat) : Int) + 1)] (.tuple [.int .i64 z.1, .int .i64 (((sgnN l + q.2 + 1 : Nat) : Int) + z.2)].toArray) := q2
    rcases hs2.2 with h0 | h0
    · have hs : ¬ (0 < (l.length : Int) ∧ ((nth l 0).toNat : Int) = 45) := fun g => by unfold sgnN at h0; rw [if_pos g] at h0; cases h0
      have q1' : Cont Tryd.prog 57 [strV l, .int .i64 0] (.tuple [.int .i64 q.1, .int .i64 ((sgnN l + q.2 : Nat) : Int)].toArray) := by rw [Int.natCast_add]; rw [h0] at q1 ⊢; exact q1
      refine ⟨_, _, _, rp_01 (by omega) hs q1' (by omega) (by omega) hsl.2 (by omega) q2' (valid3_c (by omega)) (rtext_c (by omega)), reads_of_C (fun h => h.2) (fun a c hv he => ?_)⟩
      obtain ⟨k1, k2⟩ := key2 a c hv he
      obtain ⟨k3, _⟩ := key a c hv he
      have : q.1 = a := by omega
      subst k1; subst this
      exact ⟨by omega, hv, he⟩
    · have hs : 0 < l.length ∧ ((nth l 0).toNat : Int) = 45 := by unfold sgnN at h0; split at h0 <;> omega
      have q1' : Cont Tryd.prog 57 [strV l, .int .i64 1] (.tuple [.int .i64 q.1, .int .i64 ((sgnN l + q.2 : Nat) : Int)].toArray) := by rw [Int.natCast_add]; rw [h0] at q1 ⊢; exact q1
      refine ⟨_, _, _, rp_11 (by omega) hs q1' (by omega) (by omega) hsl.2 (by omega) q2' (valid3_c (by omega)) (rtext_c (by omega)), reads_of_C (fun h => h.2) (fun a c hv he => ?_)⟩
      obtain ⟨k1, k2⟩ := key2 a c hv he
      obtain ⟨k3, _⟩ := key a c hv he
      have : -q.1 = a := by omega
      subst k1; subst this
      exact ⟨by omega, hv, he⟩
  · have key2 : ∀ a c, validF a c = true → txtF a c = l → c = 1 ∧ sgnN l + q.2 = l.length := fun a c hv he => by
      obtain ⟨_, r, r1, r2, r3, r4⟩ := key a c hv he
      rcases r4 with ⟨h1, r4⟩ | r4
      · rw [r4, List.append_nil] at r2
        rw [← r2] at r3
        exact ⟨h1, r3⟩
      · exfalso
        apply hsl
        rw [r3]
        refine ⟨by rw [r2, r4, List.length_append, List.length_cons]; omega, ?_⟩
        conv => lhs; rw [r2, r4]
        rw [nth_mid]; rfl
    have hsl' : ¬ (((sgnN l + q.2 : Nat) : Int) < l.length ∧ ((nth l ((sgnN l + q.2 : Nat) : Int)).toNat : Int) = 47) := fun g => hsl ⟨by omega, g.2⟩
    rcases hs2.2 with h0 | h0
    · have hs : ¬ (0 < (l.length : Int) ∧ ((nth l 0).toNat : Int) = 45) := fun g => by unfold sgnN at h0; rw [if_pos g] at h0; cases h0
      have q1' : Cont Tryd.prog 57 [strV l, .int .i64 0] (.tuple [.int .i64 q.1, .int .i64 ((sgnN l + q.2 : Nat) : Int)].toArray) := by rw [Int.natCast_add]; rw [h0] at q1 ⊢; exact q1
      refine ⟨_, _, _, rp_00 (by omega) hs q1' (by omega) (by omega) hsl' (valid3_c (by omega)) (rtext_c (by omega)), reads_of_C (fun h => h.2) (fun a c hv he => ?_)⟩
      obtain ⟨k1, k2⟩ := key2 a c hv he
      obtain ⟨k3, _⟩ := key a c hv he
      have : q.1 = a := by omega
      subst k1; subst this
      exact ⟨by omega, hv, he⟩
    · have hs : 0 < l.length ∧ ((nth l 0).toNat : Int) = 45 := by unfold sgnN at h0; split at h0 <;> omega
      have q1' : Cont Tryd.prog 57 [strV l, .int .i64 1] (.tuple [.int .i64 q.1, .int .i64 ((sgnN l + q.2 : Nat) : Int)].toArray) := by rw [Int.natCast_add]; rw [h0] at q1 ⊢; exact q1
      refine ⟨_, _, _, rp_10 (by omega) hs q1' (by omega) (by omega) hsl' (valid3_c (by omega)) (rtext_c (by omega)), reads_of_C (fun h => h.2) (fun a c hv he => ?_)⟩
      obtain ⟨k1, k2⟩ := key2 a c hv he
      obtain ⟨k3, _⟩ := key a c hv he
      have : -q.1 = a := by omega
      subst k1; subst this
      exact ⟨by omega, hv, he⟩
end Go.Proofs.YtnanempkkeokbaaDoor
