/- Joined texts: RVal, RNw, Mat, RDr, Wrp, RPx, RMk, RLv, RLn, RLo, RCn, RRo. -/
import Derived.Test.YthilhhegchmjeaaGreatWq
import Derived.Test.YthilhhegchmjeaaGreatWp
import Derived.Test.YthilhhegchmjeaaGreatWr
import Derived.Test.YthilhhegchmjeaaGreatWk
/- The reference's Valid of lines. -/
set_option linter.unusedVariables false
set_option maxHeartbeats 8000000
namespace Go.Proofs.YthilhhegchmjeaaGreat
open Go.RowKit
theorem rnear_c {la lo : Int} : Cont Tryz.prog 67 [ptV la lo] (.bool (nearB la lo)) := fun w => by
  have q1 := rvpoint_c la lo
  refine enter0 Tryz.func67 rfl rfl rfl ?_
  repeat' (first
    | (show YK _ _ _ _ _ _ _; first | refine YK.mk (y_callA (q1) ⟨rfl, rfl⟩) ?_)
    | (show YK _ _ _ _ _ _ _; refine YK.ofV vAuto ?_)
    | (show VK _ _ _ _ _ _ _; refine VK.mk vAuto ?_)
    | (show RS _ _ _ _ _ _ _ _; first | (refine nxRS ?_) | (refine nxRS1 fun _ => ?_))
    | (show RM _ _ _ _ _ _ _ _ _ _; first | (refine nxRM ?_) | (refine nxRM1 fun _ => ?_))
    | (show YG _ _ _ _ _ _ _ _; refine YG.mk (fun hb => by (try (have hc := And.left hb; have hb := And.right hb; rw [hc])); (try rw [hb]); first | exact (y_callA (q1) ⟨rfl, rfl⟩) | exact V.y vAuto) ?_)
    | (show VG _ _ _ _ _ _ _ _; refine VG.mk (fun hb => by (try (have hc := And.left hb; have hb := And.right hb; rw [hc])); (try rw [hb]); exact vAuto) ?_)
    | (refine nxX ?_)
    | (refine G.condN rfl (fun hc => ?_) (fun hc => ?_) <;> (try first | exact False.elim hc | (exfalso; omega))))
  refine X.ret (vs := [_]) rfl ⟨rfl, rfl⟩ rfl (fun w hw => ⟨congrArg Ending.returned (congrArg Value.bool ?_), hw.ext⟩)
  rw [Bool.eq_iff_iff]
  simp only [nearB, pointB, Bool.and_eq_true, decide_eq_true_eq]
  omega
theorem rarc_c {a b : Int} : Cont Tryz.prog 68 [arcV a b] (.bool (avalB a b)) := fun w => by
  refine enter0 Tryz.func68 rfl rfl rfl ?_
  repeat' (first
    | (refine nxV ?_)
    | (show RS _ _ _ _ _ _ _ _; first | (refine nxRS ?_) | (refine nxRS1 fun _ => ?_))
    | (show RM _ _ _ _ _ _ _ _ _ _; first | (refine nxRM ?_) | (refine nxRM1 fun _ => ?_))
    | (refine nxG ?_)
    | (refine nxX ?_)
    | (refine G.condN rfl (fun hc => ?_) (fun hc => ?_) <;> (try first | exact False.elim hc | (exfalso; omega))))
  refine X.ret (vs := [_]) rfl ⟨rfl, rfl⟩ rfl (fun w hw => ⟨congrArg Ending.returned (congrArg Value.bool ?_), hw.ext⟩)
  rw [Bool.eq_iff_iff]
  simp only [avalB, fitsB, Bool.and_eq_true, decide_eq_true_eq]
  omega
theorem rfrom_c {a b : Int} : Cont Tryz.prog 70 [arcV a b, .int .i64 600000] (.bool (decide (a ≤ b) && decide (-600000 ≤ a) && decide (b ≤ 600000))) := fun w => by
  refine enter0 Tryz.func70 rfl rfl rfl ?_
  repeat' (first
    | (refine nxV ?_)
    | (show RS _ _ _ _ _ _ _ _; first | (refine nxRS ?_) | (refine nxRS1 fun _ => ?_))
    | (show RM _ _ _ _ _ _ _ _ _ _; first | (refine nxRM ?_) | (refine nxRM1 fun _ => ?_))
    | (refine nxG ?_)
    | (refine nxX ?_)
    | (refine G.condN rfl (fun hc => ?_) (fun hc => ?_) <;> (try first | exact False.elim hc | (exfalso; omega))))
  exact X.ret (vs := [_]) rfl ⟨rfl, rfl⟩ rfl (fun w hw => ⟨rfl, hw.ext⟩)
theorem rwrap_c {n : Int} (hn : -4611686018427387904 ≤ n ∧ n ≤ 4611686018427387904) : Cont Tryz.prog 97 [.int .i64 n] (.int .i64 (TT.turnI n)) := fun w => by
  have ht := tmod_turn n
  have hb : -21600000 < n.tmod 21600000 ∧ n.tmod 21600000 < 21600000 := by omega
  refine enter0 Tryz.func97 rfl rfl rfl ?_
  repeat' (first
    | (refine nxV ?_)
    | (show RS _ _ _ _ _ _ _ _; first | (refine nxRS ?_) | (refine nxRS1 fun _ => ?_))
    | (show RM _ _ _ _ _ _ _ _ _ _; first | (refine nxRM ?_) | (refine nxRM1 fun _ => ?_))
    | (refine nxG ?_)
    | (refine nxX ?_)
    | (refine G.condN rfl (fun hc => ?_) (fun hc => ?_) <;> (try first | exact False.elim hc | (exfalso; omega))))
  all_goals refine X.ret (vs := [_]) rfl ⟨rfl, rfl⟩ rfl (fun w hw => ⟨congrArg Ending.returned (congrArg (Value.int .i64) ?_), hw.ext⟩)
  all_goals (unfold TT.turnI; omega)
def turnE (a b : Int) : Int × Int := if 21600000 ≤ b - a then (0, 21600000) else (TT.turnI a, TT.turnI a + (b - a))
theorem rturn_c {zl zh : Int} (h : -1099511627776 ≤ zl ∧ zl ≤ zh ∧ zh ≤ 1099511627776) : Cont Tryz.prog 69 [arcV zl zh] (arcV (turnE zl zh).1 (turnE zl zh).2) := fun w => by
  have q1 := rwrap_c (n := zl) (by omega)
  obtain ⟨m0, m9⟩ := TT.turnI_bd zl
  unfold turnE
  generalize TT.turnI zl = tv at *
  by_cases hbb : 21600000 ≤ zh - zl
  · rw [if_pos hbb]
    refine enter0 Tryz.func69 rfl rfl rfl ?_
    repeat' (first
    | (show YK _ _ _ _ _ _ _; first | refine YK.mk (y_callA (q1) ⟨rfl, rfl⟩) ?_)
    | (show YK _ _ _ _ _ _ _; refine YK.ofV vAuto ?_)
    | (show VK _ _ _ _ _ _ _; refine VK.mk vAuto ?_)
    | (show RS _ _ _ _ _ _ _ _; first | (refine nxRS ?_) | (refine nxRS1 fun _ => ?_))
    | (show RM _ _ _ _ _ _ _ _ _ _; first | (refine nxRM ?_) | (refine nxRM1 fun _ => ?_))
    | (show YG _ _ _ _ _ _ _ _; refine YG.mk (fun hb => by (try (have hc := And.left hb; have hb := And.right hb; rw [hc])); (try rw [hb]); first | exact (y_callA (q1) ⟨rfl, rfl⟩) | exact V.y vAuto) ?_)
    | (show VG _ _ _ _ _ _ _ _; refine VG.mk (fun hb => by (try (have hc := And.left hb; have hb := And.right hb; rw [hc])); (try rw [hb]); exact vAuto) ?_)
    | (refine nxX ?_)
    | (refine G.condN rfl (fun hc => ?_) (fun hc => ?_) <;> (try first | exact False.elim hc | (exfalso; omega))))
    exact X.ret (vs := [_]) rfl ⟨⟨_, _, _, _, rfl, (by exact memA), (by (repeat (first | exact .nil | apply LenIs.cons))), by decide +kernel, rfl⟩, rfl⟩ rfl (fun w hw => ⟨rfl, hw.ext⟩)
  · rw [if_neg hbb]
    refine enter0 Tryz.func69 rfl rfl rfl ?_
    repeat' (first
    | (show YK _ _ _ _ _ _ _; first | refine YK.mk (y_callA (q1) ⟨rfl, rfl⟩) ?_)
    | (show YK _ _ _ _ _ _ _; refine YK.ofV vAuto ?_)
    | (show VK _ _ _ _ _ _ _; refine VK.mk vAuto ?_)
    | (show RS _ _ _ _ _ _ _ _; first | (refine nxRS ?_) | (refine nxRS1 fun _ => ?_))
    | (show RM _ _ _ _ _ _ _ _ _ _; first | (refine nxRM ?_) | (refine nxRM1 fun _ => ?_))
    | (show YG _ _ _ _ _ _ _ _; refine YG.mk (fun hb => by (try (have hc := And.left hb; have hb := And.right hb; rw [hc])); (try rw [hb]); first | exact (y_callA (q1) ⟨rfl, rfl⟩) | exact V.y vAuto) ?_)
    | (show VG _ _ _ _ _ _ _ _; refine VG.mk (fun hb => by (try (have hc := And.left hb; have hb := And.right hb; rw [hc])); (try rw [hb]); exact vAuto) ?_)
    | (refine nxX ?_)
    | (refine G.condN rfl (fun hc => ?_) (fun hc => ?_) <;> (try first | exact False.elim hc | (exfalso; omega))))
    exact X.ret (vs := [_]) rfl ⟨⟨_, _, _, _, rfl, (by exact memA), (by (repeat (first | exact .nil | apply LenIs.cons))), by decide +kernel, rfl⟩, rfl⟩ rfl (fun w hw => ⟨rfl, hw.ext⟩)
theorem rlval_c {la lo zl zh : Int} : Cont Tryz.prog 32 [lineV la lo zl zh 0 0] (.bool (lvalB la lo zl zh 0 0)) := fun w => by
  have q1 := rnear_c (la := la) (lo := lo)
  have q2 := rarc_c (a := zl) (b := zh)
  have q4 := rfrom_c (a := 0) (b := 0)
  have h0 : (decide ((0 : Int) ≤ 0) && decide ((-600000 : Int) ≤ 0) && decide ((0 : Int) ≤ 600000)) = true := by decide
  rw [h0] at q4
  have e0 : avalB 0 0 = true := by decide
  unfold lvalB
  rw [e0]
  cases hn : nearB la lo with
  | false =>
    rw [hn] at q1
    refine enter0 Tryz.func32 rfl rfl rfl ?_
    repeat' (first
    | (show YK _ _ _ _ _ ⟨_, .load 28 _, _, _, _, _⟩ _; refine YK.ofV (y_loadPart (k := 2) (by rfl) (by exact memA) (by decide +kernel) (by rfl)) ?_)
    | (show VK _ _ _ _ _ ⟨_, .load 28 _, _, _, _, _⟩ _; refine VK.mk (y_loadPart (k := 2) (by rfl) (by exact memA) (by decide +kernel) (by rfl)) ?_)
    | (show VG _ _ _ _ _ _ ⟨_, .load 28 _, _, _, _, _⟩ _; refine VG.mk (fun hb => by (try (have hc := And.left hb; have hb := And.right hb; rw [hc])); (try rw [hb]); exact y_loadPart (k := 2) (by rfl) (by exact memA) (by decide +kernel) (by rfl)) ?_)
    | (show YK _ _ _ _ _ ⟨_, .load 23 _, _, _, _, _⟩ _; refine YK.ofV (y_loadPart (k := 2) (by rfl) (by exact memA) (by decide +kernel) (by rfl)) ?_)
    | (show VK _ _ _ _ _ ⟨_, .load 23 _, _, _, _, _⟩ _; refine VK.mk (y_loadPart (k := 2) (by rfl) (by exact memA) (by decide +kernel) (by rfl)) ?_)
    | (show VG _ _ _ _ _ _ ⟨_, .load 23 _, _, _, _, _⟩ _; refine VG.mk (fun hb => by (try (have hc := And.left hb; have hb := And.right hb; rw [hc])); (try rw [hb]); exact y_loadPart (k := 2) (by rfl) (by exact memA) (by decide +kernel) (by rfl)) ?_)
    | (show YK _ _ _ _ _ _ _; first | refine YK.mk (y_callA (q1) ⟨rfl, rfl⟩) ?_)
    | (show YK _ _ _ _ _ _ _; refine YK.ofV vAuto ?_)
    | (show VK _ _ _ _ _ _ _; refine VK.mk vAuto ?_)
    | (show RS _ _ _ _ _ _ _ _; first | (refine nxRS ?_) | (refine nxRS1 fun _ => ?_))
    | (show RM _ _ _ _ _ _ _ _ _ _; first | (refine nxRM ?_) | (refine nxRM1 fun _ => ?_))
    | (show YG _ _ _ _ _ _ _ _; refine YG.mk (fun hb => by (try (have hc := And.left hb; have hb := And.right hb; rw [hc])); (try rw [hb]); first | exact (y_callA (q1) ⟨rfl, rfl⟩) | exact V.y vAuto) ?_)
    | (show VG _ _ _ _ _ _ _ _; refine VG.mk (fun hb => by (try (have hc := And.left hb; have hb := And.right hb; rw [hc])); (try rw [hb]); exact vAuto) ?_)
    | (refine G.mixedA 1 [.go 0, .go 1, .go 2, .go 3, .go 4, .go 5, .go 6, .go 7, .go 8, .go 9, .go 10, .go 12, .go 13, .go 11, .go 14, .go 15, .go 16, .go 17, .go 18, .go 19, .go 20, .go 21, .go 22, .go 23, .go 24, .go 25, .go 26, .go 27, .go 28, .go 29, .go 30, .go 31] ?_)
    | (refine nxX ?_)
    | (refine G.condN rfl (fun hc => ?_) (fun hc => ?_) <;> (try first | exact False.elim hc | (exfalso; omega))))
    exact X.ret (vs := [_]) rfl ⟨rfl, rfl⟩ rfl (fun w hw => ⟨ret_bool (by simp), hw.ext⟩)
  | true =>
    rw [hn] at q1
    cases hz : avalB zl zh with
    | false =>
      rw [hz] at q2
      refine enter0 Tryz.func32 rfl rfl rfl ?_
      repeat' (first
    | (show YK _ _ _ _ _ ⟨_, .load 28 _, _, _, _, _⟩ _; refine YK.ofV (y_loadPart (k := 2) (by rfl) (by exact memA) (by decide +kernel) (by rfl)) ?_)
    | (show VK _ _ _ _ _ ⟨_, .load 28 _, _, _, _, _⟩ _; refine VK.mk (y_loadPart (k := 2) (by rfl) (by exact memA) (by decide +kernel) (by rfl)) ?_)
    | (show VG _ _ _ _ _ _ ⟨_, .load 28 _, _, _, _, _⟩ _; refine VG.mk (fun hb => by (try (have hc := And.left hb; have hb := And.right hb; rw [hc])); (try rw [hb]); exact y_loadPart (k := 2) (by rfl) (by exact memA) (by decide +kernel) (by rfl)) ?_)
    | (show YK _ _ _ _ _ ⟨_, .load 23 _, _, _, _, _⟩ _; refine YK.ofV (y_loadPart (k := 2) (by rfl) (by exact memA) (by decide +kernel) (by rfl)) ?_)
    | (show VK _ _ _ _ _ ⟨_, .load 23 _, _, _, _, _⟩ _; refine VK.mk (y_loadPart (k := 2) (by rfl) (by exact memA) (by decide +kernel) (by rfl)) ?_)
    | (show VG _ _ _ _ _ _ ⟨_, .load 23 _, _, _, _, _⟩ _; refine VG.mk (fun hb => by (try (have hc := And.left hb; have hb := And.right hb; rw [hc])); (try rw [hb]); exact y_loadPart (k := 2) (by rfl) (by exact memA) (by decide +kernel) (by rfl)) ?_)
    | (show YK _ _ _ _ _ _ _; first | refine YK.mk (y_callA (q1) ⟨rfl, rfl⟩) ?_ | refine YK.mk (y_callA (q2) ⟨rfl, rfl⟩) ?_)
    | (show YK _ _ _ _ _ _ _; refine YK.ofV vAuto ?_)
    | (show VK _ _ _ _ _ _ _; refine VK.mk vAuto ?_)
    | (show RS _ _ _ _ _ _ _ _; first | (refine nxRS ?_) | (refine nxRS1 fun _ => ?_))
    | (show RM _ _ _ _ _ _ _ _ _ _; first | (refine nxRM ?_) | (refine nxRM1 fun _ => ?_))
    | (show YG _ _ _ _ _ _ _ _; refine YG.mk (fun hb => by (try (have hc := And.left hb; have hb := And.right hb; rw [hc])); (try rw [hb]); first | exact (y_callA (q1) ⟨rfl, rfl⟩) | exact (y_callA (q2) ⟨rfl, rfl⟩) | exact V.y vAuto) ?_)
    | (show VG _ _ _ _ _ _ _ _; refine VG.mk (fun hb => by (try (have hc := And.left hb; have hb := And.right hb; rw [hc])); (try rw [hb]); exact vAuto) ?_)
    | (refine G.mixedA 1 [.go 0, .go 1, .go 2, .go 3, .go 4, .go 5, .go 6, .go 7, .go 8, .go 9, .go 10, .go 12, .go 13, .go 11, .go 14, .go 15, .go 16, .go 17, .go 18, .go 19, .go 20, .go 21, .go 22, .go 23, .go 24, .go 25, .go 26, .go 27, .go 28, .go 29, .go 30, .go 31] ?_)
    | (refine nxX ?_)
    | (refine G.condN rfl (fun hc => ?_) (fun hc => ?_) <;> (try first | exact False.elim hc | (exfalso; omega))))
      exact X.ret (vs := [_]) rfl ⟨rfl, rfl⟩ rfl (fun w hw => ⟨ret_bool (by simp), hw.ext⟩)
    | true =>
      rw [hz] at q2
      simp only [avalB, fitsB, Bool.and_eq_true, decide_eq_true_eq] at hz
      have q3 := rturn_c (zl := zl) (zh := zh) (by omega)
      have ht : (turnE zl zh).1 = zl ∧ (turnE zl zh).2 = zh ∧ zh - zl < 10800000 ↔ 0 ≤ zl ∧ zl < 21600000 ∧ zh - zl < 10800000 := by
        have h1 := TT.turnI_bd zl
        unfold turnE
        constructor
        · rintro ⟨a1, a2, a3⟩
          rw [if_neg (by omega)] at a1
          dsimp only at a1
          omega
        · rintro ⟨a1, a2, a3⟩
          rw [if_neg (by omega)]
          have : TT.turnI zl = zl := Int.emod_eq_of_lt a1 a2
          dsimp only
          omega
      generalize turnE zl zh = tt at *
      obtain ⟨t1, t2⟩ := tt
      dsimp only at ht q3
      refine enter0 Tryz.func32 rfl rfl rfl ?_
      repeat' (first
    | (show YK _ _ _ _ _ ⟨_, .load 28 _, _, _, _, _⟩ _; refine YK.ofV (y_loadPart (k := 2) (by rfl) (by exact memA) (by decide +kernel) (by rfl)) ?_)
    | (show VK _ _ _ _ _ ⟨_, .load 28 _, _, _, _, _⟩ _; refine VK.mk (y_loadPart (k := 2) (by rfl) (by exact memA) (by decide +kernel) (by rfl)) ?_)
    | (show VG _ _ _ _ _ _ ⟨_, .load 28 _, _, _, _, _⟩ _; refine VG.mk (fun hb => by (try (have hc := And.left hb; have hb := And.right hb; rw [hc])); (try rw [hb]); exact y_loadPart (k := 2) (by rfl) (by exact memA) (by decide +kernel) (by rfl)) ?_)
    | (show YK _ _ _ _ _ ⟨_, .load 23 _, _, _, _, _⟩ _; refine YK.ofV (y_loadPart (k := 2) (by rfl) (by exact memA) (by decide +kernel) (by rfl)) ?_)
    | (show VK _ _ _ _ _ ⟨_, .load 23 _, _, _, _, _⟩ _; refine VK.mk (y_loadPart (k := 2) (by rfl) (by exact memA) (by decide +kernel) (by rfl)) ?_)
    | (show VG _ _ _ _ _ _ ⟨_, .load 23 _, _, _, _, _⟩ _; refine VG.mk (fun hb => by (try (have hc := And.left hb; have hb := And.right hb; rw [hc])); (try rw [hb]); exact y_loadPart (k := 2) (by rfl) (by exact memA) (by decide +kernel) (by rfl)) ?_)
    | (show YK _ _ _ _ _ _ _; first | refine YK.mk (y_callA (q1) ⟨rfl, rfl⟩) ?_ | refine YK.mk (y_callA (q2) ⟨rfl, rfl⟩) ?_ | refine YK.mk (y_callA (q3) ⟨rfl, rfl⟩) ?_ | refine YK.mk (y_callA (q4) ⟨rfl, rfl, rfl⟩) ?_)
    | (show YK _ _ _ _ _ _ _; refine YK.ofV vAuto ?_)
    | (show VK _ _ _ _ _ _ _; refine VK.mk vAuto ?_)
    | (show RS _ _ _ _ _ _ _ _; first | (refine nxRS ?_) | (refine nxRS1 fun _ => ?_))
    | (show RM _ _ _ _ _ _ _ _ _ _; first | (refine nxRM ?_) | (refine nxRM1 fun _ => ?_))
    | (show YG _ _ _ _ _ _ _ _; refine YG.mk (fun hb => by (try (have hc := And.left hb; have hb := And.right hb; rw [hc])); (try rw [hb]); first | exact (y_callA (q1) ⟨rfl, rfl⟩) | exact (y_callA (q2) ⟨rfl, rfl⟩) | exact (y_callA (q3) ⟨rfl, rfl⟩) | exact (y_callA (q4) ⟨rfl, rfl, rfl⟩) | exact V.y vAuto) ?_)
    | (show VG _ _ _ _ _ _ _ _; refine VG.mk (fun hb => by (try (have hc := And.left hb; have hb := And.right hb; rw [hc])); (try rw [hb]); exact vAuto) ?_)
    | (refine G.mixedA 1 [.go 0, .go 1, .go 2, .go 3, .go 4, .go 5, .go 6, .go 7, .go 8, .go 9, .go 10, .go 12, .go 13, .go 11, .go 14, .go 15, .go 16, .go 17, .go 18, .go 19, .go 20, .go 21, .go 22, .go 23, .go 24, .go 25, .go 26, .go 27, .go 28, .go 29, .go 30, .go 31] ?_)
    | (refine nxX ?_)
    | (refine G.condN rfl (fun hc => ?_) (fun hc => ?_) <;> (try first | exact False.elim hc | (exfalso; omega))))
      refine X.ret (vs := [_]) rfl ⟨rfl, rfl⟩ rfl (fun w hw => ⟨congrArg Ending.returned (congrArg Value.bool ?_), hw.ext⟩)
      rw [Bool.eq_iff_iff]
      simp [eqCells, vEq]
      omega
end Go.Proofs.YthilhhegchmjeaaGreat
/- The reference's new sheet with its rows; its text. -/
set_option linter.unusedVariables false
set_option maxHeartbeats 8000000
namespace Go.Proofs.YthilhhegchmjeaaGreat
open Go.RowKit
/-- The rows of a reference's sheet: slices of the call's own. -/
abbrev rowsR (rs : List (Sl × List Int)) : List Hl := rs.map fun r => Hl.rw r.1.v 5 cB 1 r.2
theorem rowsR_snoc {wd : Nat} {rs : List Sl} {y : Sl} : rowsR (newR wd (rs ++ [y])) = rowsR (newR wd rs) ++ [Hl.rw y.v 5 cB 1 (List.replicate wd 46)] := by
  unfold rowsR newR
  rw [List.map_append, List.map_append]; rfl
theorem perm_nw {y a b c : Hl} {R HR : List Hl} : (y :: a :: b :: c :: (R ++ HR)).Perm (a :: b :: c :: (R ++ [y] ++ HR)) := by
  classical
  refine List.perm_iff_count.2 fun c => ?_
  simp only [List.count_cons, List.count_append, List.count_nil]
  omega
theorem rnewA_ok {la lo u : Int} {wd : Nat} (hp : pointB la lo = true) (hla : -4800000 ≤ la ∧ la ≤ 4800000) (hu : 2 ≤ u ∧ u ≤ 100000) (hw : 11 ≤ wd ∧ wd ≤ 121) (ho : wd % 2 = 1) :
    ContL Tryz.prog (fun _ => True) [] 20 [ptV la lo, .int .i64 u, .int .i64 (wd : Int)] (fun z : Sl × List Sl => z.2.length = 2 * ((wd - 1) / 4) + 1) (fun z => .tuple [rshV la lo u wd z.1.v, .int .i64 0].toArray) (fun z => rwS z.1 z.2 :: rowsR (newR wd z.2)) := fun w0 HR w _ hs => by
  have q1 := rvpoint_c la lo
  rw [hp] at q1
  have hodd : (wd : Int).tmod 2 = 1 := by rw [Int.tmod_eq_emod_of_nonneg (by omega)]; omega
  have hq : ((wd : Int) - 1).tdiv 4 = ((wd : Int) - 1) / 4 := Int.tdiv_eq_ediv_of_nonneg (by omega)
  refine enterU Tryz.func20 rfl rfl rfl (H := HR) hs ?_
  repeat' (first
    | (refine nxN ?_)
    | (show YK _ _ _ _ _ ⟨some 49, .build _ _, _, _, _, _⟩ _; refine YK.ofV (y_build (parts := [(0, .tmp 46), (1, .tmp 47), (2, .tmp 48)]) (vs := [_, _, _]) ⟨rfl, rfl, rfl, rfl⟩ (built_rsh _ _ _ _)) ?_)
    | (show YK _ _ _ _ _ _ _; first | refine YK.mk (y_callA (q1) ⟨rfl, rfl⟩) ?_)
    | (show YK _ _ _ _ _ _ _; refine YK.ofV vAuto ?_)
    | (show VK _ _ _ _ _ _ _; refine VK.mk vAuto ?_)
    | (show RS _ _ _ _ _ _ _ _; first | (refine nxRS ?_) | (refine nxRS1 fun _ => ?_))
    | (show RM _ _ _ _ _ _ _ _ _ _; first | (refine nxRM ?_) | (refine nxRM1 fun _ => ?_))
    | (show YG _ _ _ _ _ _ _ _; refine YG.mk (fun hb => by (try (have hc := And.left hb; have hb := And.right hb; rw [hc])); (try rw [hb]); first | exact (y_callA (q1) ⟨rfl, rfl⟩) | exact V.y vAuto) ?_)
    | (show VG _ _ _ _ _ _ _ _; refine VG.mk (fun hb => by (try (have hc := And.left hb; have hb := And.right hb; rw [hc])); (try rw [hb]); exact vAuto) ?_)
    | (refine nxX ?_)
    | (refine G.condN rfl (fun hc => ?_) (fun hc => ?_) <;> (try first | exact False.elim hc | (exfalso; omega))))
  rename_i b6 _ b
  refine G.loop (ι := Sl × List Sl) (fun z => [(2, .int .i64 (wd : Int)), (6, ptS b6), (8, ptS b), (9, .int .i64 ((z.2.length : Nat) : Int))]) (fun z => rshB b la lo u wd z.1.v :: rwS z.1 z.2 :: Hl.blk b6 38 [.int .i64 0, .int .i64 0, .int .i64 0, .int .i64 0, .slice none 0 0] :: (rowsR (newR wd z.2) ++ HR)) (fun z => z.2.length ≤ 2 * ((wd - 1) / 4) + 1) (fun z => 2 * ((wd - 1) / 4) + 1 - z.2.length) (⟨none, 0, 0⟩, []) (Nat.zero_le _) ⟨rfl, rfl, rfl, rfl, trivial⟩ (fun w' h => by
    have h2 := (St.nilRow 85 cSl 1 h).perm (List.Perm.swap _ _ _)
    exact h2.sub (by repeat (first | exact List.Sublist.refl _ | apply List.Sublist.cons_cons | apply List.Sublist.cons))) ?_
  rintro ⟨z1, rs⟩ mx g1 hmx
  dsimp only at g1 hmx ⊢
  rcases Nat.lt_or_ge rs.length (2 * ((wd - 1) / 4) + 1) with hj | hj
  · repeat' (first
    | (refine nxN ?_)
    | (refine nxV ?_)
    | (show RS _ _ _ _ _ _ _ _; first | (refine nxRS ?_) | (refine nxRS1 fun _ => ?_))
    | (show RM _ _ _ _ _ _ _ _ _ _; first | (refine nxRM ?_) | (refine nxRM1 fun _ => ?_))
    | (refine nxG ?_)
    | (refine nxX ?_)
    | (refine G.condN rfl (fun hc => ?_) (fun hc => ?_) <;> (try first | exact False.elim hc | (exfalso; omega))))
    refine G.loop (ι := Sl × Nat) (fun z => [(2, .int .i64 (wd : Int)), (6, ptS b6), (8, ptS b), (9, .int .i64 ((rs.length : Nat) : Int)), (10, z.1.v), (11, .int .i64 ((z.2 : Nat) : Int))]) (fun z => Hl.rw z.1.v 5 cB 1 (List.replicate z.2 46) :: rshB b la lo u wd z1.v :: rwS z1 rs :: Hl.blk b6 38 [.int .i64 0, .int .i64 0, .int .i64 0, .int .i64 0, .slice none 0 0] :: (rowsR (newR wd rs) ++ HR)) (fun z => z.2 ≤ wd) (fun z => wd - z.2) (⟨none, 0, 0⟩, 0) (Nat.zero_le _) ⟨rfl, rfl, rfl, rfl, rfl, rfl, trivial⟩ (fun w' h => by
      have h2 := St.nilRow 5 cB 1 h
      exact h2.sub (by repeat (first | exact List.Sublist.refl _ | apply List.Sublist.cons_cons | apply List.Sublist.cons))) ?_
    rintro ⟨y, i⟩ mx2 k1 hmx2
    dsimp only at k1 hmx2 ⊢
    have hrl : (List.replicate i (46 : Int)).length = i := List.length_replicate
    rcases Nat.lt_or_ge i wd with hi | hi
    · repeat' (first
    | (refine nxN ?_)
    | (show RS _ _ _ _ _ _ _ (⟨some 65, .buildSlice _ _ _, _, _, _, _⟩ :: _); refine RS.litG (f := cB) (a := (46 : Int)) ?_ (by rfl) rfl rfl rfl; intro y1)
    | (show RS _ _ _ _ _ _ _ (⟨some 66, _, _, _, _, _⟩ :: _); refine RS.appendA (f := cB) (l := List.replicate i 46) (l' := [(46 : Int)]) ?_ (by rfl) (by rfl) (by intro v'; exact updA) (by exact rdA) (by exact fun _ => rfl) (by (rw [hrl]; simp only [List.length_singleton]; omega)) rfl; intro y2)
    | (refine nxV ?_)
    | (show RS _ _ _ _ _ _ _ _; first | (refine nxRS ?_) | (refine nxRS1 fun _ => ?_))
    | (show RM _ _ _ _ _ _ _ _ _ _; first | (refine nxRM ?_) | (refine nxRM1 fun _ => ?_))
    | (refine nxG ?_)
    | (refine nxX ?_)
    | (refine G.condN rfl (fun hc => ?_) (fun hc => ?_) <;> (try first | exact False.elim hc | (exfalso; omega))))
      refine X.again (y2, i + 1) (by dsimp only; omega) (by dsimp only; omega) ⟨rfl, rfl, rfl, rfl, rfl, rfl, trivial⟩ (fun w' h => ?_)
      dsimp only
      rw [List.replicate_succ']
      exact h.sub (by repeat (first | exact List.Sublist.refl _ | apply List.Sublist.cons_cons | apply List.Sublist.cons))
    · repeat' (first
    | (refine nxN ?_)
    | (show RS _ _ _ _ _ _ _ (⟨some 70, .buildSlice _ _ _, _, _, _, _⟩ :: _); refine RS.litG (f := cSl) (a := y) ?_ (by rfl) rfl rfl rfl; intro y1)
    | (show RS _ _ _ _ _ _ _ (⟨some 71, _, _, _, _, _⟩ :: _); refine RS.appendA (f := cSl) (l := rs) (l' := [y]) ?_ (by rfl) (by rfl) (by intro v'; exact updA) (by exact rdA) (by exact fun _ => rfl) (by (simp only [List.length_singleton]; omega)) rfl; intro y2)
    | (refine nxV ?_)
    | (show RS _ _ _ _ _ _ _ _; first | (refine nxRS ?_) | (refine nxRS1 fun _ => ?_))
    | (show RM _ _ _ _ _ _ _ _ _ _; first | (refine nxRM ?_) | (refine nxRM1 fun _ => ?_))
    | (refine nxG ?_)
    | (refine nxX ?_)
    | (refine G.condN rfl (fun hc => ?_) (fun hc => ?_) <;> (try first | exact False.elim hc | (exfalso; omega))))
      obtain rfl : i = wd := by omega
      refine X.again (y2, rs ++ [y]) (by simp only [List.length_append, List.length_singleton]; omega) (by simp only [List.length_append, List.length_singleton]; omega) ⟨rfl, rfl, rfl, congrArg (fun z => some (Value.int .i64 z)) (by simp only [List.length_append, List.length_singleton]; omega), trivial⟩ (fun w' h => ?_)
      dsimp only
      rw [rowsR_snoc]
      exact (St.sub h (List.Sublist.cons _ (List.Sublist.refl _))).perm perm_nw
  · repeat' (first
    | (refine nxN ?_)
    | (show YK _ _ _ _ _ ⟨some 73, _, _, _, _, _⟩ _; refine YK.ofV (y_loadRow (by rfl) (by exact memA) (by (repeat (first | exact .nil | apply LenIs.cons))) (by decide +kernel)) ?_)
    | (refine nxV ?_)
    | (show RS _ _ _ _ _ _ _ _; first | (refine nxRS ?_) | (refine nxRS1 fun _ => ?_))
    | (show RM _ _ _ _ _ _ _ _ _ _; first | (refine nxRM ?_) | (refine nxRM1 fun _ => ?_))
    | (refine nxG ?_)
    | (refine nxX ?_)
    | (refine G.condN rfl (fun hc => ?_) (fun hc => ?_) <;> (try first | exact False.elim hc | (exfalso; omega))))
    exact X.ret (vs := [_, _]) rfl ⟨⟨_, _, _, _, rfl, (by exact memA), (by (repeat (first | exact .nil | apply LenIs.cons))), by decide +kernel, rfl⟩, rfl, rfl⟩ rfl (fun w hw => ⟨(z1, rs), by dsimp only; omega, rfl, St.sub hw (by repeat (first | exact List.Sublist.refl _ | apply List.Sublist.cons_cons | apply List.Sublist.cons))⟩)
/-- A slice that is only read, known to the world at the start. -/
theorem St.addRo {α : Type} {w0 w : World} {H : List Hl} {v : Value} {s : Nat} {f : α → List Value} {l : List α} (h : St w0 H w) (ro : RO w0 v s l.length (l.flatMap f)) : St w0 (Hl.rd v f s l :: H) w := by
  have h0 : Hl.holds w0.heap.size w0 (Hl.rd v f s l) := ⟨ro, fun g => by cases g⟩
  refine ⟨h.ext, fun x hx => ?_, fun z hz b hb hzb => ⟨rfl, ?_⟩, h.apart⟩
  · rcases List.mem_cons.1 hx with rfl | hx
    · exact ⟨ro.stay h.ext, fun g => by cases g⟩
    · exact h.all x hx
  · cases hx : z.excl with
    | false => rfl
    | true =>
      have h1 := Hl.ge (h.all z hz) hx hzb
      have h2 := Hl.lt h0 hb
      omega
theorem G.addRo {P : Program} {α : Type} {Q : Exit → Act → World → Prop} {n : Nat} {L : FL} {w0 : World} {H : List Hl} {c : Code} {v : Value} {s : Nat} {f : α → List Value} {l : List α} (ro : RO w0 v s l.length (l.flatMap f)) (h : G P Q n L w0 (Hl.rd v f s l :: H) c) : G P Q n L w0 H c := by
  unfold G at *
  exact fun a w ha hw => h a w ha (hw.addRo ro)
theorem nth_at {α : Type} [Inhabited α] {l : List α} {i : Nat} (h : i < l.length) : nth l (i : Int) = l[i] := by
  unfold nth
  rw [Int.toNat_natCast, List.getD_eq_getElem?_getD, List.getElem?_eq_getElem h]; rfl
/-- A reference's sheet that can be read. -/
structure RsW (z : Sl) (rs : List (Sl × List Int)) (w : World) : Prop where
  hd : RO w z.v 1 (rs.map Prod.fst).length ((rs.map Prod.fst).flatMap cSl)
  rows : ∀ r ∈ rs, RO w r.1.v 1 r.2.length (r.2.flatMap cB)
theorem RsW.keep {z : Sl} {rs : List (Sl × List Int)} {w w' : World} (h : RsW z rs w) (hw : Below w.heap.size w w') : RsW z rs w' := ⟨h.hd.stay hw, fun r hr => (h.rows r hr).stay hw⟩
theorem lnsS_snoc (ls : List (List UInt8)) (x : List UInt8) : lnsS (ls ++ [x]) = lnsS ls ++ x ++ [10] := by
  unfold lnsS
  rw [List.flatMap_append]; simp
theorem rtext_c {la lo u wd' : Int} {wd : Nat} {z : Sl} {rs : List (Sl × List Int)} (hl : ∀ r ∈ rs, r.2.length = wd) (hw : 1 ≤ wd ∧ wd ≤ 1000) (hn : rs.length ≤ 1000) : ContIn Tryz.prog (RsW z rs) 15 [rshV la lo u wd' z.v] (strV (txtS (rs.map Prod.snd))) := fun w hs => by
  refine enter Tryz.func15 rfl rfl rfl (Hp := [Hl.rd z.v cSl 1 (rs.map Prod.fst)]) (fun h hm => by
    rcases List.mem_singleton.1 hm with rfl
    exact ⟨⟨hs.hd, fun h => by cases h⟩, rfl⟩) ?_
  repeat' (first
    | (show YK _ _ _ _ _ ⟨_, .call { callee := .builtin .len, args := _, argTypes := #[9] }, _, _, _, _⟩ _; refine YK.ofV (y_lenS (by rfl) StrTy.is) ?_)
    | (show VK _ _ _ _ _ ⟨_, .call { callee := .builtin .len, args := _, argTypes := #[9] }, _, _, _, _⟩ _; refine VK.mk (y_lenS (by rfl) StrTy.is) ?_)
    | (show YG _ _ _ _ _ _ ⟨_, .call { callee := .builtin .len, args := _, argTypes := #[9] }, _, _, _, _⟩ _; refine YG.mk (fun hb => by (try (have hc := And.left hb; have hb := And.right hb; rw [hc])); (try rw [hb]); exact V.y (y_lenS (by rfl) StrTy.is)) ?_)
    | (show VG _ _ _ _ _ _ ⟨_, .call { callee := .builtin .len, args := _, argTypes := #[9] }, _, _, _, _⟩ _; refine VG.mk (fun hb => by (try (have hc := And.left hb; have hb := And.right hb; rw [hc])); (try rw [hb]); exact y_lenS (by rfl) StrTy.is) ?_)
    | (refine nxN ?_)
    | (refine nxV ?_)
    | (show RS _ _ _ _ _ _ _ _; first | (refine nxRS ?_) | (refine nxRS1 fun _ => ?_))
    | (show RM _ _ _ _ _ _ _ _ _ _; first | (refine nxRM ?_) | (refine nxRM1 fun _ => ?_))
    | (refine nxG ?_)
    | (refine nxVS ?_)
    | (refine nxGS ?_)
    | (refine nxX ?_)
    | (refine G.condN rfl (fun hc => ?_) (fun hc => ?_) <;> (try first | exact False.elim hc | (exfalso; omega))))
  rename_i b1
  refine G.loop (ι := Nat) (fun i => [(1, .pointer (some ⟨b1, 0, none⟩)), (3, strV (txtS ((rs.take i).map Prod.snd))), (4, .int .i64 (i : Int))]) (fun _ => [Hl.blk b1 38 [.int .i64 la, .int .i64 lo, .int .i64 u, .int .i64 wd', z.v], Hl.rd z.v cSl 1 (rs.map Prod.fst)]) (fun i => i ≤ rs.length) (fun i => rs.length - i) 0 (Nat.zero_le _) ⟨rfl, rfl, rfl, trivial⟩ (by exact fun w h => h.sub (by repeat (first | exact List.Sublist.refl _ | apply List.Sublist.cons_cons | apply List.Sublist.cons))) ?_
  rintro i mx g1 hmx
  (try dsimp only at g1 hmx ⊢)
  have hml : (rs.map Prod.fst).length = rs.length := List.length_map _
  rcases Nat.lt_or_ge i rs.length with hi | hi
  · have hr := hs.rows rs[i] (List.getElem_mem hi)
    have hwl := hl rs[i] (List.getElem_mem hi)
    have hnth : nth (rs.map Prod.fst) (i : Int) = rs[i].1 := by rw [nth_at (by rw [hml]; exact hi), List.getElem_map]
    have e1 : txtS ((rs.take (i + 1)).map Prod.snd) = txtS ((rs.take i).map Prod.snd) ++ (rs[i].2.map fun n => UInt8.ofNat n.toNat) ++ [10] := by
      unfold txtS
      rw [List.take_add_one, List.getElem?_eq_getElem hi, List.map_append, List.map_append]
      exact lnsS_snoc _ _
    have hb1 : (txtS ((rs.take i).map Prod.snd)).length ≤ 1001000 := by
      unfold txtS
      rw [lnsS_len _ (k := wd) (fun x hx => by
        obtain ⟨y, hy, rfl⟩ := List.mem_map.1 hx
        obtain ⟨r, hr2, rfl⟩ := List.mem_map.1 hy
        have := hl r (List.mem_of_mem_take hr2)
        simp [toB]; omega)]
      have h1 : (((rs.take i).map Prod.snd).map toB).length ≤ 1000 := by simp; omega
      exact Nat.mul_le_mul h1 (show wd + 1 ≤ 1001 by omega)
    generalize txtS ((rs.take i).map Prod.snd) = T at *
    generalize rs[i] = r at *
    have hmpl : (r.2.map fun n => UInt8.ofNat n.toNat).length = wd := by rw [List.length_map, hwl]
    have hne : r.2 ≠ [] := fun h => by rw [h] at hwl; simp at hwl; omega
    refine G.addRo (f := cB) (l := r.2) hr ?_
    repeat' (first
    | (show YK _ _ _ _ _ ⟨_, .call { callee := .builtin .len, args := _, argTypes := #[9] }, _, _, _, _⟩ _; refine YK.ofV (y_lenS (by rfl) StrTy.is) ?_)
    | (show VK _ _ _ _ _ ⟨_, .call { callee := .builtin .len, args := _, argTypes := #[9] }, _, _, _, _⟩ _; refine VK.mk (y_lenS (by rfl) StrTy.is) ?_)
    | (show YG _ _ _ _ _ _ ⟨_, .call { callee := .builtin .len, args := _, argTypes := #[9] }, _, _, _, _⟩ _; refine YG.mk (fun hb => by (try (have hc := And.left hb; have hb := And.right hb; rw [hc])); (try rw [hb]); exact V.y (y_lenS (by rfl) StrTy.is)) ?_)
    | (show VG _ _ _ _ _ _ ⟨_, .call { callee := .builtin .len, args := _, argTypes := #[9] }, _, _, _, _⟩ _; refine VG.mk (fun hb => by (try (have hc := And.left hb; have hb := And.right hb; rw [hc])); (try rw [hb]); exact y_lenS (by rfl) StrTy.is) ?_)
    | (refine nxN ?_)
    | (show YK _ _ _ _ _ ⟨_, .load 85 _, _, _, _, _⟩ _; refine YK.ofV (v := r.1.v) (y_loadEl (inst := inferInstance) (v := z.v) (s := 1) (m := (i : Int)) (i := 0) (f := cSl) (l := rs.map Prod.fst) (by rfl) (by exact rdA) (fun _ => rfl) ⟨by omega, by omega⟩ (by rfl) (by rw [hnth]; rfl) (by decide +kernel)) ?_)
    | (show VK _ _ _ _ _ ⟨_, .load 85 _, _, _, _, _⟩ _; refine VK.mk (v := r.1.v) (y_loadEl (inst := inferInstance) (v := z.v) (s := 1) (m := (i : Int)) (i := 0) (f := cSl) (l := rs.map Prod.fst) (by rfl) (by exact rdA) (fun _ => rfl) ⟨by omega, by omega⟩ (by rfl) (by rw [hnth]; rfl) (by decide +kernel)) ?_)
    | (show VK _ _ _ _ _ ⟨some 18, .convert _ _ _, _, _, _, _⟩ _; refine VK.mk (y_strOf (e := 5) (ls := r.2) (by rfl) (by exact rdA) Tryz.underlying85 Tryz.underlying5 Tryz.underlying9 hne) ?_)
    | (show YK _ _ _ _ _ ⟨some 18, .convert _ _ _, _, _, _, _⟩ _; refine YK.ofV (y_strOf (e := 5) (ls := r.2) (by rfl) (by exact rdA) Tryz.underlying85 Tryz.underlying5 Tryz.underlying9 hne) ?_)
    | (refine nxV ?_)
    | (show RS _ _ _ _ _ _ _ _; first | (refine nxRS ?_) | (refine nxRS1 fun _ => ?_))
    | (show RM _ _ _ _ _ _ _ _ _ _; first | (refine nxRM ?_) | (refine nxRM1 fun _ => ?_))
    | (refine nxG ?_)
    | (refine nxVS ?_)
    | (refine nxGS ?_)
    | (refine nxX ?_)
    | (refine G.condN rfl (fun hc => ?_) (fun hc => ?_) <;> (try first | exact False.elim hc | (exfalso; omega))))
    refine X.again (i + 1) (by omega) (by omega) ⟨rfl, (by rw [e1]; rfl), rfl, trivial⟩ (by exact fun w h => h.sub (by repeat (first | exact List.Sublist.refl _ | apply List.Sublist.cons_cons | apply List.Sublist.cons)))
  · obtain rfl : i = rs.length := by omega
    rw [List.take_length]
    repeat' (first
    | (show YK _ _ _ _ _ ⟨_, .call { callee := .builtin .len, args := _, argTypes := #[9] }, _, _, _, _⟩ _; refine YK.ofV (y_lenS (by rfl) StrTy.is) ?_)
    | (show VK _ _ _ _ _ ⟨_, .call { callee := .builtin .len, args := _, argTypes := #[9] }, _, _, _, _⟩ _; refine VK.mk (y_lenS (by rfl) StrTy.is) ?_)
    | (show YG _ _ _ _ _ _ ⟨_, .call { callee := .builtin .len, args := _, argTypes := #[9] }, _, _, _, _⟩ _; refine YG.mk (fun hb => by (try (have hc := And.left hb; have hb := And.right hb; rw [hc])); (try rw [hb]); exact V.y (y_lenS (by rfl) StrTy.is)) ?_)
    | (show VG _ _ _ _ _ _ ⟨_, .call { callee := .builtin .len, args := _, argTypes := #[9] }, _, _, _, _⟩ _; refine VG.mk (fun hb => by (try (have hc := And.left hb; have hb := And.right hb; rw [hc])); (try rw [hb]); exact y_lenS (by rfl) StrTy.is) ?_)
    | (refine nxN ?_)
    | (refine nxV ?_)
    | (show RS _ _ _ _ _ _ _ _; first | (refine nxRS ?_) | (refine nxRS1 fun _ => ?_))
    | (show RM _ _ _ _ _ _ _ _ _ _; first | (refine nxRM ?_) | (refine nxRM1 fun _ => ?_))
    | (refine nxG ?_)
    | (refine nxVS ?_)
    | (refine nxGS ?_)
    | (refine nxX ?_)
    | (refine G.condN rfl (fun hc => ?_) (fun hc => ?_) <;> (try first | exact False.elim hc | (exfalso; omega))))
    all_goals first | (exfalso; omega) | exact X.ret (vs := [_]) rfl ⟨rfl, rfl⟩ rfl (fun w hw => ⟨rfl, hw.ext⟩)
end Go.Proofs.YthilhhegchmjeaaGreat
/- PlotDraws, plain: a sheet's pixels as a matrix, and marks on it. -/
set_option linter.unusedVariables false
set_option maxHeartbeats 4000000
namespace Go.Proofs.YthilhhegchmjeaaGreat
open Go.RowKit
/-- The matrix with the pixels marked that sel chooses. -/
def mkM (sel : Nat → Nat → Bool) (m : Int) : Nat → List (List Int) → List (List Int)
  | _, [] => []
  | a, r :: t => pK (fun i => sel i a) m r.length r :: mkM sel m (a + 1) t
theorem mkM_pR (sel : Nat → Nat → Bool) (m : Int) : ∀ (rs : List (Sl × List Int)) (a : Nat), (pR sel m rs.length a rs).map Prod.snd = mkM sel m a (rs.map Prod.snd)
  | [], _ => rfl
  | r :: t, a => by
    show pK (fun i => sel i a) m r.2.length r.2 :: (pR sel m t.length (a + 1) t).map Prod.snd = _
    rw [mkM_pR sel m t (a + 1)]; rfl
theorem mkM_get (sel : Nat → Nat → Bool) (m : Int) : ∀ (M : List (List Int)) (a j : Nat), (mkM sel m a M)[j]? = (M[j]?).map fun r => pK (fun i => sel i (a + j)) m r.length r
  | [], _, _ => by simp [mkM]
  | r :: t, a, 0 => by simp [mkM]
  | r :: t, a, j + 1 => by
    show (mkM sel m (a + 1) t)[j]? = _
    rw [mkM_get sel m t (a + 1) j, show a + 1 + j = a + (j + 1) by omega]; rfl
theorem mkM_len (sel : Nat → Nat → Bool) (m : Int) : ∀ (M : List (List Int)) (a : Nat), (mkM sel m a M).length = M.length
  | [], _ => rfl
  | r :: t, a => by
    show (mkM sel m (a + 1) t).length + 1 = _
    rw [mkM_len sel m t (a + 1)]; rfl
theorem pK_full {sel sel' : Nat → Bool} {m : Int} {l : List Int} (h : ∀ i, i < l.length → sel i = sel' i) : pK sel m l.length l = pK sel' m l.length l := by
  unfold pK
  refine List.map_congr_left fun i hi => ?_
  have hi' := List.mem_range.1 hi
  rw [h i hi']
theorem pK_none {sel : Nat → Bool} {m : Int} {l : List Int} (h : ∀ i, i < l.length → sel i = false) : pK sel m l.length l = l := by
  refine List.ext_getElem? fun i => ?_
  rcases Nat.lt_or_ge i l.length with hi | hi
  · rw [pK_get hi, h i hi, Bool.and_false, if_neg (by decide), List.getD_eq_getElem?_getD, List.getElem?_eq_getElem hi]; rfl
  · rw [List.getElem?_eq_none (by rw [pK_len]; exact hi), List.getElem?_eq_none hi]
theorem mkM_congr {sel sel' : Nat → Nat → Bool} {m : Int} {M : List (List Int)} {wd : Nat} (hw : ∀ r ∈ M, r.length = wd) (h : ∀ i j, i < wd → j < M.length → sel i j = sel' i j) : mkM sel m 0 M = mkM sel' m 0 M := by
  refine List.ext_getElem? fun j => ?_
  rw [mkM_get, mkM_get]
  rcases Nat.lt_or_ge j M.length with hj | hj
  · rw [List.getElem?_eq_getElem hj]
    show some _ = some _
    refine congrArg some (pK_full fun i hi => ?_)
    rw [hw _ (List.getElem_mem hj)] at hi
    rw [Nat.zero_add]
    exact h i j hi hj
  · rw [List.getElem?_eq_none hj]; rfl
theorem mkM_none {sel : Nat → Nat → Bool} {m : Int} {M : List (List Int)} {wd : Nat} (hw : ∀ r ∈ M, r.length = wd) (h : ∀ i j, i < wd → j < M.length → sel i j = false) : mkM sel m 0 M = M := by
  refine List.ext_getElem? fun j => ?_
  rw [mkM_get]
  rcases Nat.lt_or_ge j M.length with hj | hj
  · rw [List.getElem?_eq_getElem hj]
    show some _ = some _
    refine congrArg some (pK_none fun i hi => ?_)
    rw [hw _ (List.getElem_mem hj)] at hi
    rw [Nat.zero_add]
    exact h i j hi hj
  · rw [List.getElem?_eq_none hj]; rfl
theorem mkM_mem {sel : Nat → Nat → Bool} {m : Int} {M : List (List Int)} {wd : Nat} (hw : ∀ r ∈ M, r.length = wd) : ∀ r ∈ mkM sel m 0 M, r.length = wd := fun r hr => by
  obtain ⟨j, hj, rfl⟩ := List.getElem_of_mem hr
  have h1 := mkM_get sel m M 0 j
  rw [List.getElem?_eq_getElem hj] at h1
  rw [mkM_len] at hj
  rw [List.getElem?_eq_getElem hj] at h1
  have h2 := Option.some.inj h1
  rw [h2, pK_len]
  exact hw _ (List.getElem_mem hj)
theorem mkM_pix {sel : Nat → Nat → Bool} {m : Int} {M : List (List Int)} {p : Int → Prop} (hm : p m) (hp : ∀ r ∈ M, ∀ n ∈ r, p n) : ∀ r ∈ mkM sel m 0 M, ∀ n ∈ r, p n := fun r hr n hn => by
  obtain ⟨j, hj, rfl⟩ := List.getElem_of_mem hr
  have h1 := mkM_get sel m M 0 j
  rw [List.getElem?_eq_getElem hj] at h1
  rw [mkM_len] at hj
  rw [List.getElem?_eq_getElem hj] at h1
  have h2 := Option.some.inj h1
  rw [h2] at hn
  unfold pK at hn
  obtain ⟨i, hi, rfl⟩ := List.mem_map.1 hn
  have hi' := List.mem_range.1 hi
  split
  · exact hm
  · rw [List.getD_eq_getElem?_getD, List.getElem?_eq_getElem hi']
    exact hp _ (List.getElem_mem hj) _ (List.getElem_mem hi')
/-- One pixel more. -/
def setM (M : List (List Int)) (j i : Nat) (m : Int) : List (List Int) := M.set j ((M.getD j []).set i m)
/-- The pixels before (j, i), row by row. -/
def upTo (sel : Nat → Nat → Bool) (j i : Nat) (i' j' : Nat) : Bool := sel i' j' && (decide (j' < j) || (decide (j' = j) && decide (i' < i)))
theorem mkM_step {sel : Nat → Nat → Bool} {m : Int} {M : List (List Int)} {wd i j : Nat} (hw : ∀ r ∈ M, r.length = wd) (hi : i < wd) (hj : j < M.length) (hs : sel i j = true) : setM (mkM (upTo sel j i) m 0 M) j i m = mkM (upTo sel j (i + 1)) m 0 M := by
  unfold setM
  refine List.ext_getElem? fun k => ?_
  have hg := mkM_get (upTo sel j i) m M 0 j
  rw [List.getElem?_eq_getElem hj] at hg
  have hwj := hw _ (List.getElem_mem hj)
  rcases Nat.lt_or_ge k M.length with hk | hk
  · by_cases e : j = k
    · subst e
      rw [List.getElem?_set_self (by rw [mkM_len]; exact hk), mkM_get, List.getElem?_eq_getElem hj, List.getD_eq_getElem?_getD, hg]
      show some ((pK (fun x => upTo sel j i x (0 + j)) m M[j].length M[j]).set i m) = some (pK (fun x => upTo sel j (i + 1) x (0 + j)) m M[j].length M[j])
      refine congrArg some (List.ext_getElem? fun x => ?_)
      rcases Nat.lt_or_ge x M[j].length with hx | hx
      · by_cases ex : i = x
        · subst ex
          rw [List.getElem?_set_self (by rw [pK_len]; exact hx), pK_get hx]
          simp [upTo, hs, hx]
        · rw [List.getElem?_set_ne ex, pK_get hx, pK_get hx]
          have : decide (x < i) = decide (x < i + 1) := decide_eq_decide.2 (by omega)
          simp [upTo, this]
      · rw [List.getElem?_eq_none (by rw [List.length_set, pK_len]; exact hx), List.getElem?_eq_none (by rw [pK_len]; exact hx)]
    · rw [List.getElem?_set_ne e, mkM_get, mkM_get, List.getElem?_eq_getElem hk]
      show some _ = some _
      refine congrArg some (pK_full fun x hx => ?_)
      have h1 : decide (0 + k = j) = false := decide_eq_false (by omega)
      simp only [upTo, h1, Bool.false_and]
  · rw [List.getElem?_eq_none (by rw [List.length_set, mkM_len]; exact hk), List.getElem?_eq_none (by rw [mkM_len]; exact hk)]
theorem mkM_skip {sel : Nat → Nat → Bool} {m : Int} {M : List (List Int)} {wd i j : Nat} (hw : ∀ r ∈ M, r.length = wd) (hs : sel i j = false) : mkM (upTo sel j i) m 0 M = mkM (upTo sel j (i + 1)) m 0 M :=
  mkM_congr hw fun x y _ _ => by
    unfold upTo
    by_cases h : x = i ∧ y = j
    · rw [h.1, h.2, hs, Bool.false_and, Bool.false_and]
    · by_cases hy : y = j
      · have : decide (x < i) = decide (x < i + 1) := decide_eq_decide.2 (by omega)
        rw [this]
      · rw [decide_eq_false hy, Bool.false_and, Bool.false_and]
theorem mkM_row {sel : Nat → Nat → Bool} {m : Int} {M : List (List Int)} {wd j : Nat} (hw : ∀ r ∈ M, r.length = wd) : mkM (upTo sel j wd) m 0 M = mkM (upTo sel (j + 1) 0) m 0 M :=
  mkM_congr hw fun x y hx _ => by
    unfold upTo
    congr 1
    rw [decide_eq_true hx, Bool.and_true, decide_eq_false (Nat.not_lt_zero x), Bool.and_false, Bool.or_false, ← Bool.decide_or]
    exact decide_eq_decide.2 (by omega)
theorem mkM_all {sel : Nat → Nat → Bool} {m : Int} {M : List (List Int)} {wd : Nat} (hw : ∀ r ∈ M, r.length = wd) : mkM (upTo sel M.length 0) m 0 M = mkM sel m 0 M :=
  mkM_congr hw fun x y _ hy => by
    unfold upTo
    rw [decide_eq_true hy, Bool.true_or, Bool.and_true]
theorem mkM_start {sel : Nat → Nat → Bool} {m : Int} {M : List (List Int)} {wd : Nat} (hw : ∀ r ∈ M, r.length = wd) : mkM (upTo sel 0 0) m 0 M = M :=
  mkM_none hw fun x y _ _ => by
    unfold upTo
    rw [decide_eq_false (Nat.not_lt_zero y), decide_eq_false (Nat.not_lt_zero x), Bool.and_false, Bool.or_false, Bool.and_false]
end Go.Proofs.YthilhhegchmjeaaGreat
/- PlotDraws: the reference's sheet with one pixel more. -/
set_option linter.unusedVariables false
set_option maxHeartbeats 8000000
namespace Go.Proofs.YthilhhegchmjeaaGreat
open Go.RowKit
/-- A reference's sheet that comes out of another one: header, rows, and what is new. -/
abbrev ShX := Sl × List (Sl × List Int) × List Hl
structure ShX.Ok (z : Sl) (rs : List (Sl × List Int)) (M : List (List Int)) (x : ShX) : Prop where
  new : ∀ h ∈ x.2.2, h.isNew = true
  rd : ∀ base w, RsW z rs w → (∀ h ∈ x.2.2, h.holds base w) → RsW x.1 x.2.1 w
  mat : x.2.1.map Prod.snd = M
theorem ShX.self (z : Sl) (rs : List (Sl × List Int)) : ShX.Ok z rs (rs.map Prod.snd) (z, rs, []) := ⟨fun h hm => (by cases hm), fun _ _ h _ => h, rfl⟩
theorem ShX.then_ {z : Sl} {rs : List (Sl × List Int)} {M M' : List (List Int)} {x y : ShX} (hx : ShX.Ok z rs M x) (hy : ShX.Ok x.1 x.2.1 M' y) : ShX.Ok z rs M' (y.1, y.2.1, y.2.2 ++ x.2.2) :=
  ⟨fun h hm => (List.mem_append.1 hm).elim (hy.new h) (hx.new h), fun base w h hA => hy.rd base w (hx.rd base w h fun g hg => hA g (List.mem_append_right _ hg)) fun g hg => hA g (List.mem_append_left _ hg), hy.mat⟩
theorem map_set_fst {rs : List (Sl × List Int)} {j : Nat} {r : Sl × List Int} : (rs.set j r).map Prod.fst = (rs.map Prod.fst).set j r.1 := by rw [List.map_set]
theorem rdrawn_c {la lo u wd' m : Int} {wd i j : Nat} {z : Sl} {rs : List (Sl × List Int)} (hl : ∀ r ∈ rs, r.2.length = wd) (hn : rs.length ≤ 1000) (hwd : wd ≤ 1000) (hi : i < wd) (hj : j < rs.length) :
    ContXI Tryz.prog (RsW z rs) 40 [rshV la lo u wd' z.v, .int .i64 (i : Int), .int .i64 (j : Int), .int .u8 m] (ShX.Ok z rs (setM (rs.map Prod.snd) j i m)) (fun x => rshV la lo u wd' x.1.v) (fun x => x.2.2) := fun w hs => by
  have hr := hs.rows rs[j] (List.getElem_mem hj)
  have hwl := hl rs[j] (List.getElem_mem hj)
  have hml : (rs.map Prod.fst).length = rs.length := List.length_map _
  have hnth : nth (rs.map Prod.fst) (j : Int) = rs[j].1 := by rw [nth_at (by rw [hml]; exact hj), List.getElem_map]
  have hset : ∀ y : Sl, nth ((rs.map Prod.fst).set j y) (j : Int) = y := fun y => by rw [nth_at (by rw [List.length_set, hml]; exact hj), List.getElem_set_self]
  refine enter Tryz.func40 rfl rfl rfl (Hp := [Hl.rd z.v cSl 1 (rs.map Prod.fst), Hl.rd rs[j].1.v cB 1 rs[j].2]) (fun h hm => by
    rcases List.mem_cons.1 hm with rfl | hm
    · exact ⟨⟨hs.hd, fun h => by cases h⟩, rfl⟩
    · rcases List.mem_singleton.1 hm with rfl
      exact ⟨⟨hr, fun h => by cases h⟩, rfl⟩) ?_
  have hrow : ∀ (y1 y2 : Sl) (base : Nat) (w : World), RsW z rs w → (∀ h ∈ [Hl.nw y1.v cSl 1 ((rs.map Prod.fst).set j y2), Hl.nw y2.v cB 1 (rs[j].2.set i m)], h.holds base w) → RsW y1 (rs.set j (y2, rs[j].2.set i m)) w := fun y1 y2 base w h hA => by
    refine ⟨?_, fun r hr2 => ?_⟩
    · rw [map_set_fst]
      exact (hA _ List.mem_cons_self).1
    · rcases List.mem_or_eq_of_mem_set hr2 with h2 | rfl
      · exact h.rows r h2
      · exact (hA _ (List.mem_cons_of_mem _ List.mem_cons_self)).1
  have hmat : ∀ y2 : Sl, (rs.set j (y2, rs[j].2.set i m)).map Prod.snd = setM (rs.map Prod.snd) j i m := fun y2 => by
    unfold setM
    rw [List.map_set, List.getD_eq_getElem?_getD, List.getElem?_map, List.getElem?_eq_getElem hj]; rfl
  generalize rs[j] = r at *
  repeat' (first
    | (refine nxN ?_)
    | (show RS _ _ _ _ _ _ _ (⟨some 13, _, _, _, _, _⟩ :: _); refine RS.append0A (f := cSl) (l' := rs.map Prod.fst) ?_ (by rfl) (by rfl) (by exact rdA) (by intro v'; exact updA) (by exact fun _ => rfl) (by (rw [hml]; omega)) rfl; intro y1; dsimp only [List.nil_append])
    | (show YK _ _ _ _ _ ⟨some 20, _, _, _, _, _⟩ _; refine YK.ofV (v := r.1.v) (y_loadEl (inst := inferInstance) (v := y1.v) (s := 1) (m := (j : Int)) (i := 0) (f := cSl) (l := rs.map Prod.fst) (by rfl) (by exact rdA) (fun _ => rfl) ⟨by omega, by omega⟩ (by rfl) (by rw [hnth]; rfl) (by decide +kernel)) ?_)
    | (show VK _ _ _ _ _ ⟨some 20, _, _, _, _, _⟩ _; refine VK.mk (v := r.1.v) (y_loadEl (inst := inferInstance) (v := y1.v) (s := 1) (m := (j : Int)) (i := 0) (f := cSl) (l := rs.map Prod.fst) (by rfl) (by exact rdA) (fun _ => rfl) ⟨by omega, by omega⟩ (by rfl) (by rw [hnth]; rfl) (by decide +kernel)) ?_)
    | (show RS _ _ _ _ _ _ _ (⟨some 21, _, _, _, _, _⟩ :: _); refine RS.append0A (f := cB) (l' := r.2) ?_ (by rfl) (by rfl) (by exact rdA) (by intro v'; exact updA) (by exact fun _ => rfl) (by omega) rfl; intro y2; dsimp only [List.nil_append])
    | (show RS _ _ _ _ _ _ _ (⟨none, .store 85 _ _, _, _, _, _⟩ :: _); refine RS.actX rfl (x_storeEl (f := cSl) (l := rs.map Prod.fst) (m := (j : Int)) (b := y2) (by rfl) (by rfl) rfl (by exact updA) ⟨by omega, by omega⟩ (fun _ => rfl) rfl rfl (by decide +kernel)) fun _ _ => ?_; dsimp only [Int.toNat_natCast])
    | (show YK _ _ _ _ _ ⟨some 26, _, _, _, _, _⟩ _; refine YK.ofV (v := y2.v) (y_loadEl (inst := inferInstance) (v := y1.v) (s := 1) (m := (j : Int)) (i := 0) (f := cSl) (l := (rs.map Prod.fst).set j y2) (by rfl) (by exact rdA) (fun _ => rfl) ⟨by omega, by (rw [List.length_set]; omega)⟩ (by rfl) (by rw [hset]; rfl) (by decide +kernel)) ?_)
    | (show VK _ _ _ _ _ ⟨some 26, _, _, _, _, _⟩ _; refine VK.mk (v := y2.v) (y_loadEl (inst := inferInstance) (v := y1.v) (s := 1) (m := (j : Int)) (i := 0) (f := cSl) (l := (rs.map Prod.fst).set j y2) (by rfl) (by exact rdA) (fun _ => rfl) ⟨by omega, by (rw [List.length_set]; omega)⟩ (by rfl) (by rw [hset]; rfl) (by decide +kernel)) ?_)
    | (show RS _ _ _ _ _ _ _ (⟨none, .store 5 _ _, _, _, _, _⟩ :: _); refine RS.actX rfl (x_storeEl (f := cB) (l := r.2) (m := (i : Int)) (b := m) (by rfl) (by rfl) rfl (by exact updA) ⟨by omega, by omega⟩ (fun _ => rfl) rfl rfl (by decide +kernel)) fun _ _ => ?_; dsimp only [Int.toNat_natCast])
    | (show YK _ _ _ _ _ ⟨some 32, _, _, _, _, _⟩ _; refine YK.ofV (y_loadRow (by rfl) (by exact memA) (by (repeat (first | exact .nil | apply LenIs.cons))) (by decide +kernel)) ?_)
    | (refine nxV ?_)
    | (show RS _ _ _ _ _ _ _ _; first | (refine nxRS ?_) | (refine nxRS1 fun _ => ?_))
    | (show RM _ _ _ _ _ _ _ _ _ _; first | (refine nxRM ?_) | (refine nxRM1 fun _ => ?_))
    | (refine nxG ?_)
    | (refine nxX ?_)
    | (refine G.condN rfl (fun hc => ?_) (fun hc => ?_) <;> (try first | exact False.elim hc | (exfalso; omega))))
  refine X.retN (vs := [_]) ((y1, rs.set j (y2, r.2.set i m), [Hl.nw y1.v cSl 1 ((rs.map Prod.fst).set j y2), Hl.nw y2.v cB 1 (r.2.set i m)]) : ShX) rfl ⟨⟨_, _, _, _, rfl, (by exact memA), (by (repeat (first | exact .nil | apply LenIs.cons))), by decide +kernel, rfl⟩, rfl⟩ rfl ⟨fun h hm => ?_, hrow y1 y2, hmat y2⟩ rfl (NewIn.rw (by exact memA) (NewIn.rw (by exact memA) NewIn.nil))
  rcases List.mem_cons.1 hm with rfl | hm
  · rfl
  · rcases List.mem_singleton.1 hm with rfl
    rfl
end Go.Proofs.YthilhhegchmjeaaGreat
/- PlotPixels: what the reference calls wrapped. -/
set_option linter.unusedVariables false
set_option maxHeartbeats 8000000
namespace Go.Proofs.YthilhhegchmjeaaGreat
open Go.RowKit
section
variable {P : Program} {n : Nat} {L : FL} {w0 : World} {H : List Hl} {d : Option Nat} {ty : TypeId} {pos : String} {af : Array Edge} {g : Option (Nat × Bool)} {x : Operand} {v : Value} {t : TypeId}
/-- Where a field lies that is one cell. -/
def fieldSc (P : Program) (t : TypeId) (f : Nat) : Option Nat :=
  match P.underlying t with
  | some (.struct fs) => match fs[f]? with
    | some fd => if scalarB P fd.type = true then some fd.offset else none
    | none => none
  | _ => none
/-- A field of a struct that lies in a slot: one cell. -/
theorem y_fieldS {vs : Array Value} {fl k : Nat} (hx : evO L x = some (.agg vs)) (hf : fieldSc P t fl = some k) (hv : vs[k]? = some v) : V P n L w0 H ⟨d, .field t x fl, ty, pos, af, g⟩ v := by
  unfold V
  intro a w ha _
  unfold fieldSc at hf
  split at hf
  · rename_i fs hu
    split at hf
    · rename_i fd hfd
      split at hf
      · rename_i hA
        simp only [Option.some.injEq] at hf
        subst hf
        simp [execOp, ha.eval hx, Instr.field, run_underlying hu, hfd, asAgg, part, run_isAgg_false hA, hv]
      · cases hf
    · cases hf
  · cases hf
end
theorem rfloor5_c {n d : Int} (h : (-4611686018427387904 ≤ n ∧ n ≤ 4611686018427387904) ∧ 0 < d) : Cont Tryz.prog 33 [.int .i64 n, .int .i64 d] (.int .i64 (n / d)) := fun w => by
  have e5 := ediv_in (k := 4611686018427387904) h.2 h.1.1 h.1.2
  refine enter0 Tryz.func33 rfl rfl rfl ?_
  repeat' (first
    | (refine nxV ?_)
    | (show RS _ _ _ _ _ _ _ _; first | (refine nxRS ?_) | (refine nxRS1 fun _ => ?_))
    | (show RM _ _ _ _ _ _ _ _ _ _; first | (refine nxRM ?_) | (refine nxRM1 fun _ => ?_))
    | (refine nxG ?_)
    | (refine nxX ?_)
    | (refine G.condN rfl (fun hc => ?_) (fun hc => ?_) <;> (try first | exact False.elim hc | (exfalso; omega))))
  · obtain ⟨g1, g2, g3⟩ := (floor_eq h.2).1 hc
    have g4 := Int.ediv_neg_of_neg_of_pos g3 h.2
    exact X.ret (vs := [_]) rfl ⟨rfl, rfl⟩ rfl (fun w hw => ⟨by rw [IntWalk.i64_in (n.tdiv d) (by omega), IntWalk.i64_in (n.tdiv d - 1) (by omega), g1], hw.ext⟩)
  · obtain ⟨g1, g2⟩ := (floor_eq h.2).2 hc
    exact X.ret (vs := [_]) rfl ⟨rfl, rfl⟩ rfl (fun w hw => ⟨by rw [IntWalk.i64_in (n.tdiv d) (by omega), g1], hw.ext⟩)
theorem east_c {la lo u wd i : Int} {v : Value} (hi : -1000 ≤ i ∧ i ≤ 1000) (hu : 2 ≤ u ∧ u ≤ 100000) (hw : 1 ≤ wd ∧ wd ≤ 1000) : Cont Tryz.prog 37 [rshV la lo u wd v, .int .i64 i] (.int .i64 ((i - (wd - 1) / 2) * u)) := fun w => by
  have hq : (wd - 1).tdiv 2 = (wd - 1) / 2 := Int.tdiv_eq_ediv_of_nonneg (by omega)
  have b1 := TT.abs_mul_le (A := 2000) (u := 100000) (a := i - (wd - 1) / 2) (t := u) (by omega) (by omega)
  refine enter0 Tryz.func37 rfl rfl rfl ?_
  repeat' (first
    | (refine nxN ?_)
    | (refine nxV ?_)
    | (show RS _ _ _ _ _ _ _ _; first | (refine nxRS ?_) | (refine nxRS1 fun _ => ?_))
    | (show RM _ _ _ _ _ _ _ _ _ _; first | (refine nxRM ?_) | (refine nxRM1 fun _ => ?_))
    | (refine nxG ?_)
    | (refine nxX ?_)
    | (refine G.condN rfl (fun hc => ?_) (fun hc => ?_) <;> (try first | exact False.elim hc | (exfalso; omega))))
  exact X.ret (vs := [_]) rfl ⟨rfl, rfl⟩ rfl (fun w hw => ⟨rfl, hw.ext⟩)
/-- The offset of a column, in the circle's units. -/
def offI (wd : Nat) (la u i : Int) : Int := (i - ((wd : Int) - 1) / 2) * u * 1073741824 / (TT.cosE la la).1
end Go.Proofs.YthilhhegchmjeaaGreat
/- The reference's Pixel and Point. -/
set_option linter.unusedVariables false
set_option maxHeartbeats 8000000
namespace Go.Proofs.YthilhhegchmjeaaGreat
open Go.RowKit
theorem rwrap5_c {n : Int} (h : -4611686018427387904 ≤ n ∧ n ≤ 4611686018427387904) : Cont Tryz.prog 97 [.int .i64 n] (.int .i64 (TT.turnI n)) := fun w => by
  have ht := tmod_turn n
  have hb : -21600000 < n.tmod 21600000 ∧ n.tmod 21600000 < 21600000 := by omega
  refine enter0 Tryz.func97 rfl rfl rfl ?_
  repeat' (first
    | (refine nxV ?_)
    | (show RS _ _ _ _ _ _ _ _; first | (refine nxRS ?_) | (refine nxRS1 fun _ => ?_))
    | (show RM _ _ _ _ _ _ _ _ _ _; first | (refine nxRM ?_) | (refine nxRM1 fun _ => ?_))
    | (refine nxG ?_)
    | (refine nxX ?_)
    | (refine G.condN rfl (fun hc => ?_) (fun hc => ?_) <;> (try first | exact False.elim hc | (exfalso; omega))))
  all_goals refine X.ret (vs := [_]) rfl ⟨rfl, rfl⟩ rfl (fun w hw => ⟨congrArg Ending.returned (congrArg (Value.int .i64) ?_), hw.ext⟩)
  all_goals (unfold TT.turnI; omega)
theorem rsigned5_c {n : Int} (h : -4611686018427387904 ≤ n ∧ n ≤ 4611686018427387904) : Cont Tryz.prog 84 [.int .i64 n] (.int .i64 (signI n)) := fun w => by
  have q1 := rwrap5_c h
  have hb := TT.turnI_bd n
  unfold signI
  generalize TT.turnI n = m at *
  by_cases hc : m ≥ 10800000
  · rw [if_pos hc]
    refine enter0 Tryz.func84 rfl rfl rfl ?_
    repeat' (first
    | (show YK _ _ _ _ _ _ _; first | refine YK.mk (y_callA (q1) ⟨rfl, rfl⟩) ?_)
    | (show YK _ _ _ _ _ _ _; refine YK.ofV vAuto ?_)
    | (show VK _ _ _ _ _ _ _; refine VK.mk vAuto ?_)
    | (show RS _ _ _ _ _ _ _ _; first | (refine nxRS ?_) | (refine nxRS1 fun _ => ?_))
    | (show RM _ _ _ _ _ _ _ _ _ _; first | (refine nxRM ?_) | (refine nxRM1 fun _ => ?_))
    | (show YG _ _ _ _ _ _ _ _; refine YG.mk (fun hb => by (try (have hc := And.left hb; have hb := And.right hb; rw [hc])); (try rw [hb]); first | exact (y_callA (q1) ⟨rfl, rfl⟩) | exact V.y vAuto) ?_)
    | (show VG _ _ _ _ _ _ _ _; refine VG.mk (fun hb => by (try (have hc := And.left hb; have hb := And.right hb; rw [hc])); (try rw [hb]); exact vAuto) ?_)
    | (refine nxX ?_)
    | (refine G.condN rfl (fun hc => ?_) (fun hc => ?_) <;> (try first | exact False.elim hc | (exfalso; omega))))
    all_goals first | (exfalso; omega) | exact X.ret (vs := [_]) rfl ⟨rfl, rfl⟩ rfl (fun w hw => ⟨rfl, hw.ext⟩)
  · rw [if_neg hc]
    refine enter0 Tryz.func84 rfl rfl rfl ?_
    repeat' (first
    | (show YK _ _ _ _ _ _ _; first | refine YK.mk (y_callA (q1) ⟨rfl, rfl⟩) ?_)
    | (show YK _ _ _ _ _ _ _; refine YK.ofV vAuto ?_)
    | (show VK _ _ _ _ _ _ _; refine VK.mk vAuto ?_)
    | (show RS _ _ _ _ _ _ _ _; first | (refine nxRS ?_) | (refine nxRS1 fun _ => ?_))
    | (show RM _ _ _ _ _ _ _ _ _ _; first | (refine nxRM ?_) | (refine nxRM1 fun _ => ?_))
    | (show YG _ _ _ _ _ _ _ _; refine YG.mk (fun hb => by (try (have hc := And.left hb; have hb := And.right hb; rw [hc])); (try rw [hb]); first | exact (y_callA (q1) ⟨rfl, rfl⟩) | exact V.y vAuto) ?_)
    | (show VG _ _ _ _ _ _ _ _; refine VG.mk (fun hb => by (try (have hc := And.left hb; have hb := And.right hb; rw [hc])); (try rw [hb]); exact vAuto) ?_)
    | (refine nxX ?_)
    | (refine G.condN rfl (fun hc => ?_) (fun hc => ?_) <;> (try first | exact False.elim hc | (exfalso; omega))))
    all_goals first | (exfalso; omega) | exact X.ret (vs := [_]) rfl ⟨rfl, rfl⟩ rfl (fun w hw => ⟨rfl, hw.ext⟩)
theorem rcosine_c {la lo u wd : Int} {v : Value} (h : -5400000 ≤ la ∧ la ≤ 5400000) : Cont Tryz.prog 83 [rshV la lo u wd v] (.int .i64 (TT.cosE la la).1) := fun w => by
  have q3 := Cos6_c (lo := la) (hi := la) (by omega) (by omega)
  generalize TT.cosE la la = cc at *
  obtain ⟨c1, c2⟩ := cc
  dsimp only at q3 ⊢
  refine enter0 Tryz.func83 rfl rfl rfl ?_
  repeat' (first
    | (refine nxN ?_)
    | (show VK _ _ _ _ _ ⟨some 11, _, _, _, _, _⟩ _; refine VK.mk (y_fieldS (k := 0) (by rfl) (by kernel_rfl) (by rfl)) ?_)
    | (show YK _ _ _ _ _ ⟨some 11, _, _, _, _, _⟩ _; refine YK.ofV (y_fieldS (k := 0) (by rfl) (by kernel_rfl) (by rfl)) ?_)
    | (show YK _ _ _ _ _ _ _; first | refine YK.mk (y_callA (q3) ⟨rfl, rfl⟩) ?_)
    | (show YK _ _ _ _ _ _ _; refine YK.ofV vAuto ?_)
    | (show VK _ _ _ _ _ _ _; refine VK.mk vAuto ?_)
    | (show RS _ _ _ _ _ _ _ _; first | (refine nxRS ?_) | (refine nxRS1 fun _ => ?_))
    | (show RM _ _ _ _ _ _ _ _ _ _; first | (refine nxRM ?_) | (refine nxRM1 fun _ => ?_))
    | (show YG _ _ _ _ _ _ _ _; refine YG.mk (fun hb => by (try (have hc := And.left hb; have hb := And.right hb; rw [hc])); (try rw [hb]); first | exact (y_callA (q3) ⟨rfl, rfl⟩) | exact V.y vAuto) ?_)
    | (show VG _ _ _ _ _ _ _ _; refine VG.mk (fun hb => by (try (have hc := And.left hb; have hb := And.right hb; rw [hc])); (try rw [hb]); exact vAuto) ?_)
    | (refine nxX ?_)
    | (refine G.condN rfl (fun hc => ?_) (fun hc => ?_) <;> (try first | exact False.elim hc | (exfalso; omega))))
  exact X.ret (vs := [_]) rfl ⟨rfl, rfl⟩ rfl (fun w hw => ⟨rfl, hw.ext⟩)
theorem north_c {la lo u wd j : Int} {v : Value} (hj : -1000 ≤ j ∧ j ≤ 1000) (hu : 2 ≤ u ∧ u ≤ 100000) (hw : 1 ≤ wd ∧ wd ≤ 1000) : Cont Tryz.prog 38 [rshV la lo u wd v, .int .i64 j] (.int .i64 (((wd - 1) / 4 - j) * 2 * u)) := fun w => by
  have b2 := TT.abs_mul_le (A := 4000) (u := 100000) (a := ((wd - 1) / 4 - j) * 2) (t := u) (by omega) (by omega)
  refine enter0 Tryz.func38 rfl rfl rfl ?_
  repeat' (first
    | (refine nxN ?_)
    | (refine nxV ?_)
    | (show RS _ _ _ _ _ _ _ _; first | (refine nxRS ?_) | (refine nxRS1 fun _ => ?_))
    | (show RM _ _ _ _ _ _ _ _ _ _; first | (refine nxRM ?_) | (refine nxRM1 fun _ => ?_))
    | (refine nxG ?_)
    | (refine nxX ?_)
    | (refine G.condN rfl (fun hc => ?_) (fun hc => ?_) <;> (try first | exact False.elim hc | (exfalso; omega))))
  exact X.ret (vs := [_]) rfl ⟨rfl, rfl⟩ rfl (fun w hw => ⟨rfl, hw.ext⟩)
theorem rpixel_c {la lo u pla plo : Int} {wd h : Nat} {z : Sl} (hla : -4800000 ≤ la ∧ la ≤ 4800000) (hlo : -10800000 ≤ lo ∧ lo < 10800000) (hu : 2 ≤ u ∧ u ≤ 100000) (hw : 11 ≤ wd ∧ wd ≤ 121) (hh : h = 2 * ((wd - 1) / 4) + 1) (hz : z.n = h) (h1 : -9223372036854775808 ≤ pla ∧ pla ≤ 9223372036854775807) (h2 : -9223372036854775808 ≤ plo ∧ plo ≤ 9223372036854775807) :
    Cont Tryz.prog 48 [rshV la lo u (wd : Int) z.v, ptV pla plo] (.tuple [.int .i64 (pixI wd h la lo u (TT.cosE la la).1 pla plo).1, .int .i64 (pixI wd h la lo u (TT.cosE la la).1 pla plo).2.1, .int .i64 (pixI wd h la lo u (TT.cosE la la).1 pla plo).2.2].toArray) := fun w => by
  have q0 := rvpoint_c pla plo
  have hcl := cos_lo hla
  unfold pixI
  cases hp : pointB pla plo with
  | false =>
    rw [if_neg (by decide)]
    rw [hp] at q0
    refine enter0 Tryz.func48 rfl rfl rfl ?_
    repeat' (first
    | (refine nxN ?_)
    | (show YK _ _ _ _ _ _ _; first | refine YK.mk (y_callA (q0) ⟨rfl, rfl⟩) ?_)
    | (show YK _ _ _ _ _ _ _; refine YK.ofV vAuto ?_)
    | (show VK _ _ _ _ _ _ _; refine VK.mk vAuto ?_)
    | (show RS _ _ _ _ _ _ _ _; first | (refine nxRS ?_) | (refine nxRS1 fun _ => ?_))
    | (show RM _ _ _ _ _ _ _ _ _ _; first | (refine nxRM ?_) | (refine nxRM1 fun _ => ?_))
    | (show YG _ _ _ _ _ _ _ _; refine YG.mk (fun hb => by (try (have hc := And.left hb; have hb := And.right hb; rw [hc])); (try rw [hb]); first | exact (y_callA (q0) ⟨rfl, rfl⟩) | exact V.y vAuto) ?_)
    | (show VG _ _ _ _ _ _ _ _; refine VG.mk (fun hb => by (try (have hc := And.left hb; have hb := And.right hb; rw [hc])); (try rw [hb]); exact vAuto) ?_)
    | (refine G.mixedA 4 [.go 0, .go 1, .go 2, .go 3, .go 4, .go 5, .go 6, .go 9, .go 10, .go 11, .go 13, .go 14, .go 15, .go 16, .go 7, .go 8, .go 12, .go 17, .go 18, .go 19] ?_)
    | (refine G.mixedA 5 [.go 0, .go 1, .go 2, .go 3, .go 4, .go 5, .go 6, .go 7, .go 8, .go 9, .go 10, .go 11, .go 12, .go 13, .go 14, .go 15, .go 16, .go 17, .go 18] ?_)
    | (refine nxX ?_)
    | (refine G.condN rfl (fun hc => ?_) (fun hc => ?_) <;> (try first | exact False.elim hc | (exfalso; omega))))
    all_goals first | (exfalso; simp at hc; done) | exact X.ret (vs := [_, _, _]) rfl ⟨rfl, rfl, rfl, rfl⟩ rfl (fun w hw => ⟨rfl, hw.ext⟩)
  | true =>
    rw [if_pos rfl]
    rw [hp] at q0
    simp only [pointB, Bool.and_eq_true, decide_eq_true_eq] at hp
    have q1 := rcosine_c (la := la) (lo := lo) (u := u) (wd := (wd : Int)) (v := z.v) (by omega)
    generalize (TT.cosE la la).1 = cs at *
    have q2 := rsigned5_c (n := plo - lo) (by omega)
    have hsg := signI_bd (plo - lo)
    have b1 := TT.abs_mul_le (A := 21600000) (u := 1073741824) (a := 2 * signI (plo - lo)) (t := cs) (by omega) (by omega)
    have q3 := rfloor5_c (n := 2 * signI (plo - lo) * cs + u * 1073741824) (d := 2 * u * 1073741824) (by omega)
    have q4 := rfloor5_c (n := pla - la + u) (d := 2 * u) (by omega)
    have e3 := ediv_in (a := 2 * signI (plo - lo) * cs + u * 1073741824) (b := 2 * u * 1073741824) (k := 4611686018427387904) (by omega) (by omega) (by omega)
    have e4 := ediv_in (a := pla - la + u) (b := 2 * u) (k := 4611686018427387904) (by omega) (by omega) (by omega)
    have ec : colI wd lo u cs plo = ((wd : Int) - 1) / 2 + (2 * signI (plo - lo) * cs + u * 1073741824) / (2 * u * 1073741824) := rfl
    have er : rowI h la u pla = ((wd : Int) - 1) / 4 - (pla - la + u) / (2 * u) := by
      unfold rowI
      rw [hh, show (((2 * ((wd - 1) / 4) + 1 : Nat) : Int) - 1) / 2 = ((wd : Int) - 1) / 4 by omega]
    rw [ec, er]
    generalize signI (plo - lo) = sg at *
    generalize (2 * sg * cs + u * 1073741824) / (2 * u * 1073741824) = d1 at *
    generalize (pla - la + u) / (2 * u) = d2 at *
    refine enter0 Tryz.func48 rfl rfl rfl ?_
    repeat' (first
    | (refine nxN ?_)
    | (show VK _ _ _ _ _ ⟨_, .call { callee := .builtin .len, args := _, argTypes := #[36] }, _, _, _, _⟩ _; refine VK.mk (y_lenV (by rfl) (by decide +kernel)) ?_)
    | (show YK _ _ _ _ _ ⟨_, .call { callee := .builtin .len, args := _, argTypes := #[36] }, _, _, _, _⟩ _; refine YK.ofV (y_lenV (by rfl) (by decide +kernel)) ?_)
    | (show VG _ _ _ _ _ _ ⟨_, .call { callee := .builtin .len, args := _, argTypes := #[36] }, _, _, _, _⟩ _; refine VG.mk (fun hb => by (try (have hc := And.left hb; have hb := And.right hb; rw [hc])); (try rw [hb]); exact y_lenV (by rfl) (by decide +kernel)) ?_)
    | (show YG _ _ _ _ _ _ ⟨_, .call { callee := .builtin .len, args := _, argTypes := #[36] }, _, _, _, _⟩ _; refine YG.mk (fun hb => by (try (have hc := And.left hb; have hb := And.right hb; rw [hc])); (try rw [hb]); exact V.y (y_lenV (by rfl) (by decide +kernel))) ?_)
    | (show YK _ _ _ _ _ _ _; first | refine YK.mk (y_callA (q0) ⟨rfl, rfl⟩) ?_ | refine YK.mk (y_callA (q1) ⟨rfl, rfl⟩) ?_ | refine YK.mk (y_callA (q2) ⟨rfl, rfl⟩) ?_ | refine YK.mk (y_callA (q3) ⟨rfl, rfl, rfl⟩) ?_ | refine YK.mk (y_callA (q4) ⟨rfl, rfl, rfl⟩) ?_)
    | (show YK _ _ _ _ _ _ _; refine YK.ofV vAuto ?_)
    | (show VK _ _ _ _ _ _ _; refine VK.mk vAuto ?_)
    | (show RS _ _ _ _ _ _ _ _; first | (refine nxRS ?_) | (refine nxRS1 fun _ => ?_))
    | (show RM _ _ _ _ _ _ _ _ _ _; first | (refine nxRM ?_) | (refine nxRM1 fun _ => ?_))
    | (show YG _ _ _ _ _ _ _ _; refine YG.mk (fun hb => by (try (have hc := And.left hb; have hb := And.right hb; rw [hc])); (try rw [hb]); first | exact (y_callA (q0) ⟨rfl, rfl⟩) | exact (y_callA (q1) ⟨rfl, rfl⟩) | exact (y_callA (q2) ⟨rfl, rfl⟩) | exact (y_callA (q3) ⟨rfl, rfl, rfl⟩) | exact (y_callA (q4) ⟨rfl, rfl, rfl⟩) | exact V.y vAuto) ?_)
    | (show VG _ _ _ _ _ _ _ _; refine VG.mk (fun hb => by (try (have hc := And.left hb; have hb := And.right hb; rw [hc])); (try rw [hb]); exact vAuto) ?_)
    | (refine G.mixedA 4 [.go 0, .go 1, .go 2, .go 3, .go 4, .go 5, .go 6, .go 9, .go 10, .go 11, .go 13, .go 14, .go 15, .go 16, .go 7, .go 8, .go 12, .go 17, .go 18, .go 19] ?_)
    | (refine G.mixedA 5 [.go 0, .go 1, .go 2, .go 3, .go 4, .go 5, .go 6, .go 7, .go 8, .go 9, .go 10, .go 11, .go 12, .go 13, .go 14, .go 15, .go 16, .go 17, .go 18] ?_)
    | (refine nxX ?_)
    | (refine G.condN rfl (fun hc => ?_) (fun hc => ?_) <;> (try first | exact False.elim hc | (exfalso; omega))))
    all_goals first | (exfalso; simp at hc; done) | skip
    · exact X.ret (vs := [_, _, _]) rfl ⟨rfl, rfl, rfl, rfl⟩ rfl (fun w hw => ⟨by rw [if_neg (by simp only [hasI, Bool.and_eq_true, decide_eq_true_eq]; omega)], hw.ext⟩)
    · exact X.ret (vs := [_, _, _]) rfl ⟨rfl, rfl, rfl, rfl⟩ rfl (fun w hw => ⟨by rw [if_pos (by simp only [hasI, Bool.and_eq_true, decide_eq_true_eq]; omega)], hw.ext⟩)
theorem rpoint_c {la lo u i j : Int} {wd h : Nat} {z : Sl} (hla : -4800000 ≤ la ∧ la ≤ 4800000) (hlo : -10800000 ≤ lo ∧ lo < 10800000) (hu : 2 ≤ u ∧ u ≤ 100000) (hw : 11 ≤ wd ∧ wd ≤ 121) (hh : h = 2 * ((wd - 1) / 4) + 1) (hz : z.n = h) (h1 : -9223372036854775808 ≤ i ∧ i ≤ 9223372036854775807) (h2 : -9223372036854775808 ≤ j ∧ j ≤ 9223372036854775807) :
    Cont Tryz.prog 46 [rshV la lo u (wd : Int) z.v, .int .i64 i, .int .i64 j] (.tuple [ptV (pntI wd h la lo u (TT.cosE la la).1 i j).1 (pntI wd h la lo u (TT.cosE la la).1 i j).2.1, .int .i64 (pntI wd h la lo u (TT.cosE la la).1 i j).2.2].toArray) := fun w => by
  have hcl := cos_lo hla
  unfold pntI
  cases hh1 : hasI wd h i j with
  | false =>
    rw [if_neg (by decide)]
    have hno : ¬ (0 ≤ j ∧ j < h ∧ 0 ≤ i ∧ i < wd) := fun g => by
      have : hasI wd h i j = true := by simp only [hasI, Bool.and_eq_true, decide_eq_true_eq]; omega
      rw [hh1] at this; cases this
    refine enter0 Tryz.func46 rfl rfl rfl ?_
    repeat' (first
    | (refine nxN ?_)
    | (show VK _ _ _ _ _ ⟨_, .call { callee := .builtin .len, args := _, argTypes := #[36] }, _, _, _, _⟩ _; refine VK.mk (y_lenV (by rfl) (by decide +kernel)) ?_)
    | (show YK _ _ _ _ _ ⟨_, .call { callee := .builtin .len, args := _, argTypes := #[36] }, _, _, _, _⟩ _; refine YK.ofV (y_lenV (by rfl) (by decide +kernel)) ?_)
    | (show VG _ _ _ _ _ _ ⟨_, .call { callee := .builtin .len, args := _, argTypes := #[36] }, _, _, _, _⟩ _; refine VG.mk (fun hb => by (try (have hc := And.left hb; have hb := And.right hb; rw [hc])); (try rw [hb]); exact y_lenV (by rfl) (by decide +kernel)) ?_)
    | (show YG _ _ _ _ _ _ ⟨_, .call { callee := .builtin .len, args := _, argTypes := #[36] }, _, _, _, _⟩ _; refine YG.mk (fun hb => by (try (have hc := And.left hb; have hb := And.right hb; rw [hc])); (try rw [hb]); exact V.y (y_lenV (by rfl) (by decide +kernel))) ?_)
    | (refine nxV ?_)
    | (show RS _ _ _ _ _ _ _ _; first | (refine nxRS ?_) | (refine nxRS1 fun _ => ?_))
    | (show RM _ _ _ _ _ _ _ _ _ _; first | (refine nxRM ?_) | (refine nxRM1 fun _ => ?_))
    | (refine nxG ?_)
    | (refine G.mixedA 3 [.go 0, .go 1, .go 2, .go 3, .go 4, .go 5, .go 6, .go 7] ?_)
    | (refine G.mixedA 6 [.go 0, .go 1, .go 4, .go 2, .go 3, .go 5, .go 6, .go 7] ?_)
    | (refine nxX ?_)
    | (refine G.condN rfl (fun hc => ?_) (fun hc => ?_) <;> (try first | exact False.elim hc | (exfalso; omega))))
    all_goals first | (exfalso; omega) | exact X.ret (vs := [_, _]) rfl ⟨⟨_, _, _, _, rfl, (by exact memA), (by (repeat (first | exact .nil | apply LenIs.cons))), by decide +kernel, rfl⟩, rfl, rfl⟩ rfl (fun w hw => ⟨rfl, hw.ext⟩)
  | true =>
    rw [if_pos rfl]
    simp only [hasI, Bool.and_eq_true, decide_eq_true_eq] at hh1
    have q1 := rcosine_c (la := la) (lo := lo) (u := u) (wd := (wd : Int)) (v := z.v) (by omega)
    have q2 := north_c (la := la) (lo := lo) (u := u) (wd := (wd : Int)) (v := z.v) (j := j) (by omega) hu (by omega)
    have q3 := east_c (la := la) (lo := lo) (u := u) (wd := (wd : Int)) (v := z.v) (i := i) (by omega) hu (by omega)
    have b1 := TT.abs_mul_le (A := 2000) (u := 100000) (a := i - ((wd : Int) - 1) / 2) (t := u) (by omega) (by omega)
    have b2 := TT.abs_mul_le (A := 4000) (u := 100000) (a := (((wd : Int) - 1) / 4 - j) * 2) (t := u) (by omega) (by omega)
    have el : latI h la u j = la + (((wd : Int) - 1) / 4 - j) * 2 * u := by
      unfold latI
      rw [hh, show (((2 * ((wd - 1) / 4) + 1 : Nat) : Int) - 1) / 2 = ((wd : Int) - 1) / 4 by omega]
    have eo : lonI wd lo u (TT.cosE la la).1 i = signI (lo + (i - ((wd : Int) - 1) / 2) * u * 1073741824 / (TT.cosE la la).1) := rfl
    have hsg := signI_bd (lo + (i - ((wd : Int) - 1) / 2) * u * 1073741824 / (TT.cosE la la).1)
    have hpb : pointB (la + (((wd : Int) - 1) / 4 - j) * 2 * u) (signI (lo + (i - ((wd : Int) - 1) / 2) * u * 1073741824 / (TT.cosE la la).1)) = true ↔ -5400000 ≤ la + (((wd : Int) - 1) / 4 - j) * 2 * u ∧ la + (((wd : Int) - 1) / 4 - j) * 2 * u ≤ 5400000 := by
      simp only [pointB, Bool.and_eq_true, decide_eq_true_eq]; omega
    rw [el, eo]
    generalize pointB (la + (((wd : Int) - 1) / 4 - j) * 2 * u) (signI (lo + (i - ((wd : Int) - 1) / 2) * u * 1073741824 / (TT.cosE la la).1)) = pb at *
    generalize (((wd : Int) - 1) / 4 - j) * 2 * u = nn at *
    generalize (i - ((wd : Int) - 1) / 2) * u = ea at *
    generalize (TT.cosE la la).1 = cs at *
    have q4 := rfloor5_c (n := ea * 1073741824) (d := cs) (by omega)
    have e4 := ediv_in (a := ea * 1073741824) (b := cs) (k := 4611686018427387904 / 2) (by omega) (by omega) (by omega)
    have q5 := rsigned5_c (n := lo + ea * 1073741824 / cs) (by omega)
    generalize ea * 1073741824 / cs = dd at *
    generalize signI (lo + dd) = sg at *
    refine enter0 Tryz.func46 rfl rfl rfl ?_
    repeat' (first
    | (refine nxN ?_)
    | (show VK _ _ _ _ _ ⟨_, .call { callee := .builtin .len, args := _, argTypes := #[36] }, _, _, _, _⟩ _; refine VK.mk (y_lenV (by rfl) (by decide +kernel)) ?_)
    | (show YK _ _ _ _ _ ⟨_, .call { callee := .builtin .len, args := _, argTypes := #[36] }, _, _, _, _⟩ _; refine YK.ofV (y_lenV (by rfl) (by decide +kernel)) ?_)
    | (show VG _ _ _ _ _ _ ⟨_, .call { callee := .builtin .len, args := _, argTypes := #[36] }, _, _, _, _⟩ _; refine VG.mk (fun hb => by (try (have hc := And.left hb; have hb := And.right hb; rw [hc])); (try rw [hb]); exact y_lenV (by rfl) (by decide +kernel)) ?_)
    | (show YG _ _ _ _ _ _ ⟨_, .call { callee := .builtin .len, args := _, argTypes := #[36] }, _, _, _, _⟩ _; refine YG.mk (fun hb => by (try (have hc := And.left hb; have hb := And.right hb; rw [hc])); (try rw [hb]); exact V.y (y_lenV (by rfl) (by decide +kernel))) ?_)
    | (show YK _ _ _ _ _ _ _; first | refine YK.mk (y_callA (q1) ⟨rfl, rfl⟩) ?_ | refine YK.mk (y_callA (q2) ⟨rfl, rfl, rfl⟩) ?_ | refine YK.mk (y_callA (q3) ⟨rfl, rfl, rfl⟩) ?_ | refine YK.mk (y_callA (q4) ⟨rfl, rfl, rfl⟩) ?_ | refine YK.mk (y_callA (q5) ⟨rfl, rfl⟩) ?_)
    | (show YK _ _ _ _ _ _ _; refine YK.ofV vAuto ?_)
    | (show VK _ _ _ _ _ _ _; refine VK.mk vAuto ?_)
    | (show RS _ _ _ _ _ _ _ _; first | (refine nxRS ?_) | (refine nxRS1 fun _ => ?_))
    | (show RM _ _ _ _ _ _ _ _ _ _; first | (refine nxRM ?_) | (refine nxRM1 fun _ => ?_))
    | (show YG _ _ _ _ _ _ _ _; refine YG.mk (fun hb => by (try (have hc := And.left hb; have hb := And.right hb; rw [hc])); (try rw [hb]); first | exact (y_callA (q1) ⟨rfl, rfl⟩) | exact (y_callA (q2) ⟨rfl, rfl, rfl⟩) | exact (y_callA (q3) ⟨rfl, rfl, rfl⟩) | exact (y_callA (q4) ⟨rfl, rfl, rfl⟩) | exact (y_callA (q5) ⟨rfl, rfl⟩) | exact V.y vAuto) ?_)
    | (show VG _ _ _ _ _ _ _ _; refine VG.mk (fun hb => by (try (have hc := And.left hb; have hb := And.right hb; rw [hc])); (try rw [hb]); exact vAuto) ?_)
    | (refine G.mixedA 3 [.go 0, .go 1, .go 2, .go 3, .go 4, .go 5, .go 6, .go 7] ?_)
    | (refine G.mixedA 6 [.go 0, .go 1, .go 4, .go 2, .go 3, .go 5, .go 6, .go 7] ?_)
    | (refine nxX ?_)
    | (refine G.condN rfl (fun hc => ?_) (fun hc => ?_) <;> (try first | exact False.elim hc | (exfalso; omega))))
    all_goals first | (exfalso; omega) | skip
    · exact X.ret (vs := [_, _]) rfl ⟨⟨_, _, _, _, rfl, (by exact memA), (by (repeat (first | exact .nil | apply LenIs.cons))), by decide +kernel, rfl⟩, rfl, rfl⟩ rfl (fun w hw => ⟨by rw [if_neg (by rw [hpb]; omega)], hw.ext⟩)
    · exact X.ret (vs := [_, _]) rfl ⟨⟨_, _, _, _, rfl, (by exact memA), (by (repeat (first | exact .nil | apply LenIs.cons))), by decide +kernel, rfl⟩, rfl, rfl⟩ rfl (fun w hw => ⟨by rw [if_pos (by rw [hpb]; omega)], hw.ext⟩)
end Go.Proofs.YthilhhegchmjeaaGreat
/- PlotDraws: the reference's Mark. -/
set_option linter.unusedVariables false
set_option maxHeartbeats 8000000
namespace Go.Proofs.YthilhhegchmjeaaGreat
open Go.RowKit
theorem RsW.n {z : Sl} {rs : List (Sl × List Int)} {w : World} (h : RsW z rs w) : z.n = rs.length := by
  obtain ⟨_, A, c, h', _⟩ := h.hd
  have h3 : Value.slice z.a z.n z.c = .slice A (rs.map Prod.fst).length c := h'
  simp only [Value.slice.injEq] at h3
  rw [h3.2.1, List.length_map]
theorem NewIn.of_mem {H : List Hl} : ∀ {A : List Hl}, (∀ h ∈ A, h ∈ H) → (∀ h ∈ A, h.isNew = true) → NewIn H A
  | [], _, _ => NewIn.nil
  | x :: r, h1, h2 => ⟨fun _ _ hw => ⟨hw.all _ (h1 x List.mem_cons_self), h2 x List.mem_cons_self⟩, NewIn.of_mem (fun h hm => h1 h (List.mem_cons_of_mem _ hm)) (fun h hm => h2 h (List.mem_cons_of_mem _ hm))⟩
theorem rright_c {m : Int} : Cont Tryz.prog 31 [.int .u8 m] (.bool (decide (33 ≤ m) && decide (m ≤ 126))) := fun w => by
  refine enter0 Tryz.func31 rfl rfl rfl ?_
  repeat' (first
    | (refine nxN ?_)
    | (refine nxV ?_)
    | (show RS _ _ _ _ _ _ _ _; first | (refine nxRS ?_) | (refine nxRS1 fun _ => ?_))
    | (show RM _ _ _ _ _ _ _ _ _ _; first | (refine nxRM ?_) | (refine nxRM1 fun _ => ?_))
    | (refine nxG ?_)
    | (refine nxX ?_)
    | (refine G.condN rfl (fun hc => ?_) (fun hc => ?_) <;> (try first | exact False.elim hc | (exfalso; omega))))
  all_goals first | (exfalso; omega) | exact X.ret (vs := [_]) rfl ⟨rfl, rfl⟩ rfl (fun w hw => ⟨rfl, hw.ext⟩)
theorem rmark_arg {la lo u wd pla plo m : Int} {z : Sl} {rs : List (Sl × List Int)} (hv : (decide (33 ≤ m) && decide (m ≤ 126)) = false) :
    ContXI Tryz.prog (RsW z rs) 13 [rshV la lo u wd z.v, ptV pla plo, .int .u8 m] (ShX.Ok z rs (rs.map Prod.snd)) (fun x => .tuple [rshV la lo u wd x.1.v, .int .i64 1].toArray) (fun x => x.2.2) := fun w hs => by
  have q1 := rright_c (m := m)
  rw [hv] at q1
  refine enter0 Tryz.func13 rfl rfl rfl ?_
  repeat' (first
    | (refine nxN ?_)
    | (show YK _ _ _ _ _ _ _; first | refine YK.mk (y_callA (q1) ⟨rfl, rfl⟩) ?_)
    | (show YK _ _ _ _ _ _ _; refine YK.ofV vAuto ?_)
    | (show VK _ _ _ _ _ _ _; refine VK.mk vAuto ?_)
    | (show RS _ _ _ _ _ _ _ _; first | (refine nxRS ?_) | (refine nxRS1 fun _ => ?_))
    | (show RM _ _ _ _ _ _ _ _ _ _; first | (refine nxRM ?_) | (refine nxRM1 fun _ => ?_))
    | (show YG _ _ _ _ _ _ _ _; refine YG.mk (fun hb => by (try (have hc := And.left hb; have hb := And.right hb; rw [hc])); (try rw [hb]); first | exact (y_callA (q1) ⟨rfl, rfl⟩) | exact V.y vAuto) ?_)
    | (show VG _ _ _ _ _ _ _ _; refine VG.mk (fun hb => by (try (have hc := And.left hb; have hb := And.right hb; rw [hc])); (try rw [hb]); exact vAuto) ?_)
    | (refine nxX ?_)
    | (refine G.condN rfl (fun hc => ?_) (fun hc => ?_) <;> (try first | exact False.elim hc | (exfalso; omega))))
  all_goals first | (exfalso; omega) | exact X.retN (vs := [_, _]) ((z, rs, []) : ShX) rfl ⟨⟨_, _, _, _, rfl, (by exact memA), (by (repeat (first | exact .nil | apply LenIs.cons))), by decide +kernel, rfl⟩, rfl, rfl⟩ rfl (ShX.self z rs) rfl NewIn.nil
theorem rmark_out {la lo u pla plo m i j e : Int} {wd : Nat} {z : Sl} {rs : List (Sl × List Int)} (hv : (decide (33 ≤ m) && decide (m ≤ 126)) = true) (hla : -4800000 ≤ la ∧ la ≤ 4800000) (hlo : -10800000 ≤ lo ∧ lo < 10800000) (hu : 2 ≤ u ∧ u ≤ 100000) (hw : 11 ≤ wd ∧ wd ≤ 121) (hn : rs.length = 2 * ((wd - 1) / 4) + 1) (h1 : -9223372036854775808 ≤ pla ∧ pla ≤ 9223372036854775807) (h2 : -9223372036854775808 ≤ plo ∧ plo ≤ 9223372036854775807)
    (hp : pixI wd rs.length la lo u (TT.cosE la la).1 pla plo = (i, j, e)) (he : e ≠ 0) :
    ContXI Tryz.prog (RsW z rs) 13 [rshV la lo u (wd : Int) z.v, ptV pla plo, .int .u8 m] (ShX.Ok z rs (rs.map Prod.snd)) (fun x => .tuple [rshV la lo u (wd : Int) x.1.v, .int .i64 e].toArray) (fun x => x.2.2) := fun w hs => by
  have q1 := rright_c (m := m)
  rw [hv] at q1
  have q2 := rpixel_c (z := z) (lo := lo) hla hlo hu hw hn hs.n h1 h2
  rw [hp] at q2
  refine enter0 Tryz.func13 rfl rfl rfl ?_
  repeat' (first
    | (refine nxN ?_)
    | (show YK _ _ _ _ _ _ _; first | refine YK.mk (y_callA (q1) ⟨rfl, rfl⟩) ?_ | refine YK.mk (y_callA (q2) ⟨rfl, rfl, rfl⟩) ?_)
    | (show YK _ _ _ _ _ _ _; refine YK.ofV vAuto ?_)
    | (show VK _ _ _ _ _ _ _; refine VK.mk vAuto ?_)
    | (show RS _ _ _ _ _ _ _ _; first | (refine nxRS ?_) | (refine nxRS1 fun _ => ?_))
    | (show RM _ _ _ _ _ _ _ _ _ _; first | (refine nxRM ?_) | (refine nxRM1 fun _ => ?_))
    | (show YG _ _ _ _ _ _ _ _; refine YG.mk (fun hb => by (try (have hc := And.left hb; have hb := And.right hb; rw [hc])); (try rw [hb]); first | exact (y_callA (q1) ⟨rfl, rfl⟩) | exact (y_callA (q2) ⟨rfl, rfl, rfl⟩) | exact V.y vAuto) ?_)
    | (show VG _ _ _ _ _ _ _ _; refine VG.mk (fun hb => by (try (have hc := And.left hb; have hb := And.right hb; rw [hc])); (try rw [hb]); exact vAuto) ?_)
    | (refine nxX ?_)
    | (refine G.condN rfl (fun hc => ?_) (fun hc => ?_) <;> (try first | exact False.elim hc | (exfalso; omega))))
  all_goals first | (exfalso; omega) | exact X.retN (vs := [_, _]) ((z, rs, []) : ShX) rfl ⟨⟨_, _, _, _, rfl, (by exact memA), (by (repeat (first | exact .nil | apply LenIs.cons))), by decide +kernel, rfl⟩, rfl, rfl⟩ rfl (ShX.self z rs) rfl NewIn.nil
theorem rmark_ok {la lo u pla plo m : Int} {wd i j : Nat} {z : Sl} {rs : List (Sl × List Int)} (hv : (decide (33 ≤ m) && decide (m ≤ 126)) = true) (hla : -4800000 ≤ la ∧ la ≤ 4800000) (hlo : -10800000 ≤ lo ∧ lo < 10800000) (hu : 2 ≤ u ∧ u ≤ 100000) (hw : 11 ≤ wd ∧ wd ≤ 121) (hn : rs.length = 2 * ((wd - 1) / 4) + 1) (h1 : -9223372036854775808 ≤ pla ∧ pla ≤ 9223372036854775807) (h2 : -9223372036854775808 ≤ plo ∧ plo ≤ 9223372036854775807) (hl : ∀ r ∈ rs, r.2.length = wd)
    (hp : pixI wd rs.length la lo u (TT.cosE la la).1 pla plo = ((i : Int), (j : Int), 0)) (hi : i < wd) (hj : j < rs.length) :
    ContXI Tryz.prog (RsW z rs) 13 [rshV la lo u (wd : Int) z.v, ptV pla plo, .int .u8 m] (ShX.Ok z rs (setM (rs.map Prod.snd) j i m)) (fun x => .tuple [rshV la lo u (wd : Int) x.1.v, .int .i64 0].toArray) (fun x => x.2.2) := fun w hs => by
  have q1 := rright_c (m := m)
  rw [hv] at q1
  have q2 := rpixel_c (z := z) (lo := lo) hla hlo hu hw hn hs.n h1 h2
  rw [hp] at q2
  have q3 := rdrawn_c (la := la) (lo := lo) (u := u) (wd' := (wd : Int)) (m := m) (z := z) hl (by omega) (by omega) hi hj
  refine enter0 Tryz.func13 rfl rfl rfl ?_
  repeat' (first
    | (refine nxN ?_)
    | (show RS _ _ _ _ _ _ _ (⟨some 30, _, _, _, _, _⟩ :: _); refine RS.callI q3 ⟨rfl, rfl, rfl, rfl, rfl⟩ (fun w' hw' => hs.keep hw'.ext) ?_; rintro x hx; refine RS.permH ?_ List.perm_append_comm; dsimp only [List.cons_append, List.nil_append])
    | (show YK _ _ _ _ _ _ _; first | refine YK.mk (y_callA (q1) ⟨rfl, rfl⟩) ?_ | refine YK.mk (y_callA (q2) ⟨rfl, rfl, rfl⟩) ?_)
    | (show YK _ _ _ _ _ _ _; refine YK.ofV vAuto ?_)
    | (show VK _ _ _ _ _ _ _; refine VK.mk vAuto ?_)
    | (show RS _ _ _ _ _ _ _ _; first | (refine nxRS ?_) | (refine nxRS1 fun _ => ?_))
    | (show RM _ _ _ _ _ _ _ _ _ _; first | (refine nxRM ?_) | (refine nxRM1 fun _ => ?_))
    | (show YG _ _ _ _ _ _ _ _; refine YG.mk (fun hb => by (try (have hc := And.left hb; have hb := And.right hb; rw [hc])); (try rw [hb]); first | exact (y_callA (q1) ⟨rfl, rfl⟩) | exact (y_callA (q2) ⟨rfl, rfl, rfl⟩) | exact V.y vAuto) ?_)
    | (show VG _ _ _ _ _ _ _ _; refine VG.mk (fun hb => by (try (have hc := And.left hb; have hb := And.right hb; rw [hc])); (try rw [hb]); exact vAuto) ?_)
    | (refine nxX ?_)
    | (refine G.condN rfl (fun hc => ?_) (fun hc => ?_) <;> (try first | exact False.elim hc | (exfalso; omega))))
  all_goals first | (exfalso; omega) | exact X.retN (vs := [_, _]) x rfl ⟨⟨_, _, _, _, rfl, (by exact memA), (by (repeat (first | exact .nil | apply LenIs.cons))), by decide +kernel, rfl⟩, rfl, rfl⟩ rfl hx rfl (NewIn.of_mem (fun h hm => .tail _ (.tail _ (.tail _ hm))) hx.new)
end Go.Proofs.YthilhhegchmjeaaGreat
/- PlotDraws: the reference's Valid of a line, coarse, size. -/
set_option linter.unusedVariables false
set_option maxHeartbeats 8000000
namespace Go.Proofs.YthilhhegchmjeaaGreat
open Go.RowKit
theorem rlvalG_c {la lo zl zh il ih : Int} : Cont Tryz.prog 32 [lineV la lo zl zh il ih] (.bool (lvalB la lo zl zh il ih)) := fun w => by
  have q1 := rnear_c (la := la) (lo := lo)
  have q2 := rarc_c (a := zl) (b := zh)
  have q4 := rfrom_c (a := il) (b := ih)
  unfold lvalB
  cases hn : nearB la lo with
  | false =>
    rw [hn] at q1
    refine enter0 Tryz.func32 rfl rfl rfl ?_
    repeat' (first
    | (show YK _ _ _ _ _ ⟨_, .load 28 _, _, _, _, _⟩ _; refine YK.ofV (y_loadPart (k := 2) (by rfl) (by exact memA) (by decide +kernel) (by rfl)) ?_)
    | (show VK _ _ _ _ _ ⟨_, .load 28 _, _, _, _, _⟩ _; refine VK.mk (y_loadPart (k := 2) (by rfl) (by exact memA) (by decide +kernel) (by rfl)) ?_)
    | (show VG _ _ _ _ _ _ ⟨_, .load 28 _, _, _, _, _⟩ _; refine VG.mk (fun hb => by (try (have hc := And.left hb; have hb := And.right hb; rw [hc])); (try rw [hb]); exact y_loadPart (k := 2) (by rfl) (by exact memA) (by decide +kernel) (by rfl)) ?_)
    | (show YK _ _ _ _ _ ⟨_, .load 23 _, _, _, _, _⟩ _; refine YK.ofV (y_loadPart (k := 2) (by rfl) (by exact memA) (by decide +kernel) (by rfl)) ?_)
    | (show VK _ _ _ _ _ ⟨_, .load 23 _, _, _, _, _⟩ _; refine VK.mk (y_loadPart (k := 2) (by rfl) (by exact memA) (by decide +kernel) (by rfl)) ?_)
    | (show VG _ _ _ _ _ _ ⟨_, .load 23 _, _, _, _, _⟩ _; refine VG.mk (fun hb => by (try (have hc := And.left hb; have hb := And.right hb; rw [hc])); (try rw [hb]); exact y_loadPart (k := 2) (by rfl) (by exact memA) (by decide +kernel) (by rfl)) ?_)
    | (show YK _ _ _ _ _ _ _; first | refine YK.mk (y_callA (q1) ⟨rfl, rfl⟩) ?_)
    | (show YK _ _ _ _ _ _ _; refine YK.ofV vAuto ?_)
    | (show VK _ _ _ _ _ _ _; refine VK.mk vAuto ?_)
    | (show RS _ _ _ _ _ _ _ _; first | (refine nxRS ?_) | (refine nxRS1 fun _ => ?_))
    | (show RM _ _ _ _ _ _ _ _ _ _; first | (refine nxRM ?_) | (refine nxRM1 fun _ => ?_))
    | (show YG _ _ _ _ _ _ _ _; refine YG.mk (fun hb => by (try (have hc := And.left hb; have hb := And.right hb; rw [hc])); (try rw [hb]); first | exact (y_callA (q1) ⟨rfl, rfl⟩) | exact V.y vAuto) ?_)
    | (show VG _ _ _ _ _ _ _ _; refine VG.mk (fun hb => by (try (have hc := And.left hb; have hb := And.right hb; rw [hc])); (try rw [hb]); exact vAuto) ?_)
    | (refine G.mixedA 1 [.go 0, .go 1, .go 2, .go 3, .go 4, .go 5, .go 6, .go 7, .go 8, .go 9, .go 10, .go 12, .go 13, .go 11, .go 14, .go 15, .go 16, .go 17, .go 18, .go 19, .go 20, .go 21, .go 22, .go 23, .go 24, .go 25, .go 26, .go 27, .go 28, .go 29, .go 30, .go 31] ?_)
    | (refine nxX ?_)
    | (refine G.condN rfl (fun hc => ?_) (fun hc => ?_) <;> (try first | exact False.elim hc | (exfalso; omega))))
    exact X.ret (vs := [_]) rfl ⟨rfl, rfl⟩ rfl (fun w hw => ⟨ret_bool (by simp), hw.ext⟩)
  | true =>
    rw [hn] at q1
    cases hz : avalB zl zh with
    | false =>
      rw [hz] at q2
      refine enter0 Tryz.func32 rfl rfl rfl ?_
      repeat' (first
    | (show YK _ _ _ _ _ ⟨_, .load 28 _, _, _, _, _⟩ _; refine YK.ofV (y_loadPart (k := 2) (by rfl) (by exact memA) (by decide +kernel) (by rfl)) ?_)
    | (show VK _ _ _ _ _ ⟨_, .load 28 _, _, _, _, _⟩ _; refine VK.mk (y_loadPart (k := 2) (by rfl) (by exact memA) (by decide +kernel) (by rfl)) ?_)
    | (show VG _ _ _ _ _ _ ⟨_, .load 28 _, _, _, _, _⟩ _; refine VG.mk (fun hb => by (try (have hc := And.left hb; have hb := And.right hb; rw [hc])); (try rw [hb]); exact y_loadPart (k := 2) (by rfl) (by exact memA) (by decide +kernel) (by rfl)) ?_)
    | (show YK _ _ _ _ _ ⟨_, .load 23 _, _, _, _, _⟩ _; refine YK.ofV (y_loadPart (k := 2) (by rfl) (by exact memA) (by decide +kernel) (by rfl)) ?_)
    | (show VK _ _ _ _ _ ⟨_, .load 23 _, _, _, _, _⟩ _; refine VK.mk (y_loadPart (k := 2) (by rfl) (by exact memA) (by decide +kernel) (by rfl)) ?_)
    | (show VG _ _ _ _ _ _ ⟨_, .load 23 _, _, _, _, _⟩ _; refine VG.mk (fun hb => by (try (have hc := And.left hb; have hb := And.right hb; rw [hc])); (try rw [hb]); exact y_loadPart (k := 2) (by rfl) (by exact memA) (by decide +kernel) (by rfl)) ?_)
    | (show YK _ _ _ _ _ _ _; first | refine YK.mk (y_callA (q1) ⟨rfl, rfl⟩) ?_ | refine YK.mk (y_callA (q2) ⟨rfl, rfl⟩) ?_)
    | (show YK _ _ _ _ _ _ _; refine YK.ofV vAuto ?_)
    | (show VK _ _ _ _ _ _ _; refine VK.mk vAuto ?_)
    | (show RS _ _ _ _ _ _ _ _; first | (refine nxRS ?_) | (refine nxRS1 fun _ => ?_))
    | (show RM _ _ _ _ _ _ _ _ _ _; first | (refine nxRM ?_) | (refine nxRM1 fun _ => ?_))
    | (show YG _ _ _ _ _ _ _ _; refine YG.mk (fun hb => by (try (have hc := And.left hb; have hb := And.right hb; rw [hc])); (try rw [hb]); first | exact (y_callA (q1) ⟨rfl, rfl⟩) | exact (y_callA (q2) ⟨rfl, rfl⟩) | exact V.y vAuto) ?_)
    | (show VG _ _ _ _ _ _ _ _; refine VG.mk (fun hb => by (try (have hc := And.left hb; have hb := And.right hb; rw [hc])); (try rw [hb]); exact vAuto) ?_)
    | (refine G.mixedA 1 [.go 0, .go 1, .go 2, .go 3, .go 4, .go 5, .go 6, .go 7, .go 8, .go 9, .go 10, .go 12, .go 13, .go 11, .go 14, .go 15, .go 16, .go 17, .go 18, .go 19, .go 20, .go 21, .go 22, .go 23, .go 24, .go 25, .go 26, .go 27, .go 28, .go 29, .go 30, .go 31] ?_)
    | (refine nxX ?_)
    | (refine G.condN rfl (fun hc => ?_) (fun hc => ?_) <;> (try first | exact False.elim hc | (exfalso; omega))))
      exact X.ret (vs := [_]) rfl ⟨rfl, rfl⟩ rfl (fun w hw => ⟨ret_bool (by simp), hw.ext⟩)
    | true =>
      rw [hz] at q2
      have hzz := hz
      simp only [avalB, fitsB, Bool.and_eq_true, decide_eq_true_eq] at hzz
      have q3 := rturn_c (zl := zl) (zh := zh) (by omega)
      have ht : (turnE zl zh).1 = zl ∧ (turnE zl zh).2 = zh ∧ zh - zl < 10800000 ↔ 0 ≤ zl ∧ zl < 21600000 ∧ zh - zl < 10800000 := by
        have h1 := TT.turnI_bd zl
        unfold turnE
        constructor
        · rintro ⟨a1, a2, a3⟩
          rw [if_neg (by omega)] at a1
          dsimp only at a1
          omega
        · rintro ⟨a1, a2, a3⟩
          rw [if_neg (by omega)]
          have : TT.turnI zl = zl := Int.emod_eq_of_lt a1 a2
          dsimp only
          omega
      generalize turnE zl zh = tt at *
      obtain ⟨t1, t2⟩ := tt
      dsimp only at ht q3
      refine enter0 Tryz.func32 rfl rfl rfl ?_
      repeat' (first
    | (show YK _ _ _ _ _ ⟨_, .load 28 _, _, _, _, _⟩ _; refine YK.ofV (y_loadPart (k := 2) (by rfl) (by exact memA) (by decide +kernel) (by rfl)) ?_)
    | (show VK _ _ _ _ _ ⟨_, .load 28 _, _, _, _, _⟩ _; refine VK.mk (y_loadPart (k := 2) (by rfl) (by exact memA) (by decide +kernel) (by rfl)) ?_)
    | (show VG _ _ _ _ _ _ ⟨_, .load 28 _, _, _, _, _⟩ _; refine VG.mk (fun hb => by (try (have hc := And.left hb; have hb := And.right hb; rw [hc])); (try rw [hb]); exact y_loadPart (k := 2) (by rfl) (by exact memA) (by decide +kernel) (by rfl)) ?_)
    | (show YK _ _ _ _ _ ⟨_, .load 23 _, _, _, _, _⟩ _; refine YK.ofV (y_loadPart (k := 2) (by rfl) (by exact memA) (by decide +kernel) (by rfl)) ?_)
    | (show VK _ _ _ _ _ ⟨_, .load 23 _, _, _, _, _⟩ _; refine VK.mk (y_loadPart (k := 2) (by rfl) (by exact memA) (by decide +kernel) (by rfl)) ?_)
    | (show VG _ _ _ _ _ _ ⟨_, .load 23 _, _, _, _, _⟩ _; refine VG.mk (fun hb => by (try (have hc := And.left hb; have hb := And.right hb; rw [hc])); (try rw [hb]); exact y_loadPart (k := 2) (by rfl) (by exact memA) (by decide +kernel) (by rfl)) ?_)
    | (show YK _ _ _ _ _ _ _; first | refine YK.mk (y_callA (q1) ⟨rfl, rfl⟩) ?_ | refine YK.mk (y_callA (q2) ⟨rfl, rfl⟩) ?_ | refine YK.mk (y_callA (q3) ⟨rfl, rfl⟩) ?_ | refine YK.mk (y_callA (q4) ⟨rfl, rfl, rfl⟩) ?_)
    | (show YK _ _ _ _ _ _ _; refine YK.ofV vAuto ?_)
    | (show VK _ _ _ _ _ _ _; refine VK.mk vAuto ?_)
    | (show RS _ _ _ _ _ _ _ _; first | (refine nxRS ?_) | (refine nxRS1 fun _ => ?_))
    | (show RM _ _ _ _ _ _ _ _ _ _; first | (refine nxRM ?_) | (refine nxRM1 fun _ => ?_))
    | (show YG _ _ _ _ _ _ _ _; refine YG.mk (fun hb => by (try (have hc := And.left hb; have hb := And.right hb; rw [hc])); (try rw [hb]); first | exact (y_callA (q1) ⟨rfl, rfl⟩) | exact (y_callA (q2) ⟨rfl, rfl⟩) | exact (y_callA (q3) ⟨rfl, rfl⟩) | exact (y_callA (q4) ⟨rfl, rfl, rfl⟩) | exact V.y vAuto) ?_)
    | (show VG _ _ _ _ _ _ _ _; refine VG.mk (fun hb => by (try (have hc := And.left hb; have hb := And.right hb; rw [hc])); (try rw [hb]); exact vAuto) ?_)
    | (refine G.mixedA 1 [.go 0, .go 1, .go 2, .go 3, .go 4, .go 5, .go 6, .go 7, .go 8, .go 9, .go 10, .go 12, .go 13, .go 11, .go 14, .go 15, .go 16, .go 17, .go 18, .go 19, .go 20, .go 21, .go 22, .go 23, .go 24, .go 25, .go 26, .go 27, .go 28, .go 29, .go 30, .go 31] ?_)
    | (refine nxX ?_)
    | (refine G.condN rfl (fun hc => ?_) (fun hc => ?_) <;> (try first | exact False.elim hc | (exfalso; omega))))
      refine X.ret (vs := [_]) rfl ⟨rfl, rfl⟩ rfl (fun w hw => ⟨congrArg Ending.returned (congrArg Value.bool ?_), hw.ext⟩)
      rw [Bool.eq_iff_iff]
      clear hz
      simp [eqCells, vEq, avalB, fitsB]
      omega
theorem coarse_c {a b : Int} (h : -4611686018427387904 ≤ a ∧ a ≤ 4611686018427387904) : Cont Tryz.prog 34 [arcV a b] (.int .i64 (a / 131072)) := fun w => by
  have q1 := rfloor5_c (n := a) (d := 131072) (by omega)
  refine enter0 Tryz.func34 rfl rfl rfl ?_
  repeat' (first
    | (show YK _ _ _ _ _ _ _; first | refine YK.mk (y_callA (q1) ⟨rfl, rfl, rfl⟩) ?_)
    | (show YK _ _ _ _ _ _ _; refine YK.ofV vAuto ?_)
    | (show VK _ _ _ _ _ _ _; refine VK.mk vAuto ?_)
    | (show RS _ _ _ _ _ _ _ _; first | (refine nxRS ?_) | (refine nxRS1 fun _ => ?_))
    | (show RM _ _ _ _ _ _ _ _ _ _; first | (refine nxRM ?_) | (refine nxRM1 fun _ => ?_))
    | (show YG _ _ _ _ _ _ _ _; refine YG.mk (fun hb => by (try (have hc := And.left hb; have hb := And.right hb; rw [hc])); (try rw [hb]); first | exact (y_callA (q1) ⟨rfl, rfl, rfl⟩) | exact V.y vAuto) ?_)
    | (show VG _ _ _ _ _ _ _ _; refine VG.mk (fun hb => by (try (have hc := And.left hb; have hb := And.right hb; rw [hc])); (try rw [hb]); exact vAuto) ?_)
    | (refine nxX ?_)
    | (refine G.condN rfl (fun hc => ?_) (fun hc => ?_) <;> (try first | exact False.elim hc | (exfalso; omega))))
  exact X.ret (vs := [_]) rfl ⟨rfl, rfl⟩ rfl (fun w hw => ⟨rfl, hw.ext⟩)
theorem rsize_c {n : Int} (h : -4611686018427387904 ≤ n ∧ n ≤ 4611686018427387904) : Cont Tryz.prog 39 [.int .i64 n] (.int .i64 (max n (-n))) := fun w => by
  refine enter0 Tryz.func39 rfl rfl rfl ?_
  repeat' (first
    | (refine nxV ?_)
    | (show RS _ _ _ _ _ _ _ _; first | (refine nxRS ?_) | (refine nxRS1 fun _ => ?_))
    | (show RM _ _ _ _ _ _ _ _ _ _; first | (refine nxRM ?_) | (refine nxRM1 fun _ => ?_))
    | (refine nxG ?_)
    | (refine nxX ?_)
    | (refine G.condN rfl (fun hc => ?_) (fun hc => ?_) <;> (try first | exact False.elim hc | (exfalso; omega))))
  · exact X.ret (vs := [_]) rfl ⟨rfl, rfl⟩ rfl (fun w hw => ⟨congrArg Ending.returned (congrArg (Value.int .i64) (by omega)), hw.ext⟩)
  · exact X.ret (vs := [_]) rfl ⟨rfl, rfl⟩ rfl (fun w hw => ⟨congrArg Ending.returned (congrArg (Value.int .i64) (by omega)), hw.ext⟩)
end Go.Proofs.YthilhhegchmjeaaGreat
/- PlotDraws: the reference's Line that draws nothing. -/
set_option linter.unusedVariables false
set_option maxHeartbeats 8000000
namespace Go.Proofs.YthilhhegchmjeaaGreat
open Go.RowKit
theorem rline_arg {la lo u wd pla plo zl zh il ih m : Int} {z : Sl} {rs : List (Sl × List Int)} (hv : ((decide (33 ≤ m) && decide (m ≤ 126)) && lvalB pla plo zl zh il ih) = false) :
    ContXI Tryz.prog (RsW z rs) 9 [rshV la lo u wd z.v, lineV pla plo zl zh il ih, .int .u8 m] (ShX.Ok z rs (rs.map Prod.snd)) (fun x => .tuple [rshV la lo u wd x.1.v, .int .i64 1].toArray) (fun x => x.2.2) := fun w hs => by
  have q1 := rright_c (m := m)
  have q2 := rlvalG_c (la := pla) (lo := plo) (zl := zl) (zh := zh) (il := il) (ih := ih)
  cases h1 : (decide (33 ≤ m) && decide (m ≤ 126)) <;> cases h2 : lvalB pla plo zl zh il ih <;> rw [h1] at q1 hv <;> rw [h2] at q2 hv <;> first
    | (exfalso; revert hv; decide)
    | (clear hv h1 h2
       refine enter0 Tryz.func9 rfl rfl rfl ?_
       repeat' (first
    | (refine nxN ?_)
    | (show YK _ _ _ _ _ _ _; first | refine YK.mk (y_callA (q1) ⟨rfl, rfl⟩) ?_ | refine YK.mk (y_callA (q2) ⟨rfl, rfl⟩) ?_)
    | (show YK _ _ _ _ _ _ _; refine YK.ofV vAuto ?_)
    | (show VK _ _ _ _ _ _ _; refine VK.mk vAuto ?_)
    | (show RS _ _ _ _ _ _ _ _; first | (refine nxRS ?_) | (refine nxRS1 fun _ => ?_))
    | (show RM _ _ _ _ _ _ _ _ _ _; first | (refine nxRM ?_) | (refine nxRM1 fun _ => ?_))
    | (show YG _ _ _ _ _ _ _ _; refine YG.mk (fun hb => by (try (have hc := And.left hb; have hb := And.right hb; rw [hc])); (try rw [hb]); first | exact (y_callA (q1) ⟨rfl, rfl⟩) | exact (y_callA (q2) ⟨rfl, rfl⟩) | exact V.y vAuto) ?_)
    | (show VG _ _ _ _ _ _ _ _; refine VG.mk (fun hb => by (try (have hc := And.left hb; have hb := And.right hb; rw [hc])); (try rw [hb]); exact vAuto) ?_)
    | (refine G.mixedA 7 [.go 0, .go 3, .go 1, .go 2, .go 4, .go 5, .go 6, .go 7] ?_)
    | (refine G.mixedA 15 [.go 0, .go 1, .go 2, .go 5, .go 6, .go 7, .go 11, .go 12, .go 3, .go 4, .go 8, .go 9, .go 10, .go 13, .go 14] ?_)
    | (refine G.mixedA 16 [.go 0, .go 3, .go 4, .go 5, .go 7, .go 1, .go 2, .go 6, .go 8, .go 9, .go 10, .go 11, .go 12] ?_)
    | (refine nxX ?_)
    | (refine G.condN rfl (fun hc => ?_) (fun hc => ?_) <;> (try first | exact False.elim hc | (exfalso; omega))))
       all_goals first | (exfalso; omega) | exact X.retN (vs := [_, _]) ((z, rs, []) : ShX) rfl ⟨⟨_, _, _, _, rfl, (by exact memA), (by (repeat (first | exact .nil | apply LenIs.cons))), by decide +kernel, rfl⟩, rfl, rfl⟩ rfl (ShX.self z rs) rfl NewIn.nil)
theorem rline_shape {la lo u wd pla plo zl zh il ih m : Int} {z : Sl} {rs : List (Sl × List Int)} (hm : (decide (33 ≤ m) && decide (m ≤ 126)) = true) (hv : lvalB pla plo zl zh il ih = true) (hne : ¬ (pla = la ∧ plo = lo)) :
    ContXI Tryz.prog (RsW z rs) 9 [rshV la lo u wd z.v, lineV pla plo zl zh il ih, .int .u8 m] (ShX.Ok z rs (rs.map Prod.snd)) (fun x => .tuple [rshV la lo u wd x.1.v, .int .i64 26].toArray) (fun x => x.2.2) := fun w hs => by
  have q1 := rright_c (m := m)
  have q2 := rlvalG_c (la := pla) (lo := plo) (zl := zl) (zh := zh) (il := il) (ih := ih)
  rw [hm] at q1
  rw [hv] at q2
  clear hv hm
  refine enter0 Tryz.func9 rfl rfl rfl ?_
  repeat' (first
    | (refine nxN ?_)
    | (show YK _ _ _ _ _ ⟨_, .load 23 _, _, _, _, _⟩ _; refine YK.ofV (y_loadPart (k := 2) (by rfl) (by exact memA) (by decide +kernel) (by rfl)) ?_)
    | (show VK _ _ _ _ _ ⟨_, .load 23 _, _, _, _, _⟩ _; refine VK.mk (y_loadPart (k := 2) (by rfl) (by exact memA) (by decide +kernel) (by rfl)) ?_)
    | (show VG _ _ _ _ _ _ ⟨_, .load 23 _, _, _, _, _⟩ _; refine VG.mk (fun hb => by (try (have hc := And.left hb; have hb := And.right hb; rw [hc])); (try rw [hb]); exact y_loadPart (k := 2) (by rfl) (by exact memA) (by decide +kernel) (by rfl)) ?_)
    | (show YG _ _ _ _ _ _ ⟨_, .load 23 _, _, _, _, _⟩ _; refine YG.mk (fun hb => by (try (have hc := And.left hb; have hb := And.right hb; rw [hc])); (try rw [hb]); exact V.y (y_loadPart (k := 2) (by rfl) (by exact memA) (by decide +kernel) (by rfl))) ?_)
    | (show X _ _ _ _ _ .ret; refine hold_ ?_)
    | (show YK _ _ _ _ _ _ _; first | refine YK.mk (y_callA (q1) ⟨rfl, rfl⟩) ?_ | refine YK.mk (y_callA (q2) ⟨rfl, rfl⟩) ?_)
    | (show YK _ _ _ _ _ _ _; refine YK.ofV vAuto ?_)
    | (show VK _ _ _ _ _ _ _; refine VK.mk vAuto ?_)
    | (show RS _ _ _ _ _ _ _ _; first | (refine nxRS ?_) | (refine nxRS1 fun _ => ?_))
    | (show RM _ _ _ _ _ _ _ _ _ _; first | (refine nxRM ?_) | (refine nxRM1 fun _ => ?_))
    | (show YG _ _ _ _ _ _ _ _; refine YG.mk (fun hb => by (try (have hc := And.left hb; have hb := And.right hb; rw [hc])); (try rw [hb]); first | exact (y_callA (q1) ⟨rfl, rfl⟩) | exact (y_callA (q2) ⟨rfl, rfl⟩) | exact V.y vAuto) ?_)
    | (show VG _ _ _ _ _ _ _ _; refine VG.mk (fun hb => by (try (have hc := And.left hb; have hb := And.right hb; rw [hc])); (try rw [hb]); exact vAuto) ?_)
    | (refine G.mixedA 7 [.go 0, .go 3, .go 1, .go 2, .go 4, .go 5, .go 6, .go 7] ?_)
    | (refine G.mixedA 15 [.go 0, .go 1, .go 2, .go 5, .go 6, .go 7, .go 11, .go 12, .go 3, .go 4, .go 8, .go 9, .go 10, .go 13, .go 14] ?_)
    | (refine G.mixedA 16 [.go 0, .go 3, .go 4, .go 5, .go 7, .go 1, .go 2, .go 6, .go 8, .go 9, .go 10, .go 11, .go 12] ?_)
    | (refine nxX ?_)
    | (refine G.condN rfl (fun hc => ?_) (fun hc => ?_) <;> (try first | exact False.elim hc | (exfalso; omega))))
  all_goals first | (exfalso; omega) | exact X.retN (vs := [_, _]) ((z, rs, []) : ShX) rfl ⟨⟨_, _, _, _, rfl, (by exact memA), (by (repeat (first | exact .nil | apply LenIs.cons))), by decide +kernel, rfl⟩, rfl, rfl⟩ rfl (ShX.self z rs) rfl NewIn.nil | (exact absurd (by simpa [eqCells, vEq] using hc) hne)
end Go.Proofs.YthilhhegchmjeaaGreat
/- PlotDraws: the reference's Line. -/
set_option linter.unusedVariables false
set_option maxHeartbeats 8000000
namespace Go.Proofs.YthilhhegchmjeaaGreat
open Go.RowKit
theorem G.fact {P : Program} {Q : Exit → Act → World → Prop} {n : Nat} {L : FL} {w0 : World} {H : List Hl} {c : Code} {p : Prop} (hp : ∀ w, St w0 H w → p) (h : p → G P Q n L w0 H c) : G P Q n L w0 H c := by
  unfold G at *
  exact fun a w ha hw => h (hp w hw) a w ha hw
theorem ShX.Ok.thenR {z : Sl} {rs : List (Sl × List Int)} {M M' : List (List Int)} {x y : ShX} (hx : ShX.Ok z rs M x) (hy : ShX.Ok x.1 x.2.1 M' y) : ShX.Ok z rs M' (y.1, y.2.1, x.2.2 ++ y.2.2) :=
  ⟨fun h hm => (List.mem_append.1 hm).elim (hx.new h) (hy.new h), fun base w h hA => hy.rd base w (hx.rd base w h fun g hg => hA g (List.mem_append_left _ hg)) fun g hg => hA g (List.mem_append_right _ hg), hy.mat⟩
theorem ShX.Ok.len {z : Sl} {rs : List (Sl × List Int)} {sel : Nat → Nat → Bool} {m : Int} {x : ShX} (hx : ShX.Ok z rs (mkM sel m 0 (rs.map Prod.snd)) x) : x.2.1.length = rs.length := by
  have := congrArg List.length hx.mat
  rwa [List.length_map, mkM_len, List.length_map] at this
theorem ShX.Ok.wd {z : Sl} {rs : List (Sl × List Int)} {sel : Nat → Nat → Bool} {m : Int} {x : ShX} {wd : Nat} (hx : ShX.Ok z rs (mkM sel m 0 (rs.map Prod.snd)) x) (hM : ∀ r ∈ rs.map Prod.snd, r.length = wd) : ∀ r ∈ x.2.1, r.2.length = wd := fun r hr =>
  mkM_mem hM r.2 (hx.mat ▸ List.mem_map_of_mem hr)
theorem rline_ok {la lo u zl zh il ih m : Int} {wd : Nat} {z : Sl} {rs : List (Sl × List Int)} (hm : (decide (33 ≤ m) && decide (m ≤ 126)) = true) (hv : lvalB la lo zl zh il ih = true) (hu : 2 ≤ u ∧ u ≤ 100000) (hw : 11 ≤ wd ∧ wd ≤ 121) (hn : rs.length = 2 * ((wd - 1) / 4) + 1) (hl : ∀ r ∈ rs, r.2.length = wd)
    (hS : -1073741824 ≤ (TT.encl (midI zl zh) (midI zl zh)).1 ∧ (TT.encl (midI zl zh) (midI zl zh)).1 ≤ 1073741824) (hC : -1073741824 ≤ (TT.cosE (midI zl zh) (midI zl zh)).1 ∧ (TT.cosE (midI zl zh) (midI zl zh)).1 ≤ 1073741824) :
    ContXI Tryz.prog (RsW z rs) 9 [rshV la lo u (wd : Int) z.v, lineV la lo zl zh il ih, .int .u8 m] (ShX.Ok z rs (mkM (lineSel wd rs.length u ((TT.encl (midI zl zh) (midI zl zh)).1 / 131072) ((TT.cosE (midI zl zh) (midI zl zh)).1 / 131072) (midI il ih)) m 0 (rs.map Prod.snd))) (fun x => .tuple [rshV la lo u (wd : Int) x.1.v, .int .i64 0].toArray) (fun x => x.2.2) := fun w hs => by
  have q1 := rright_c (m := m)
  have q2 := rlvalG_c (la := la) (lo := lo) (zl := zl) (zh := zh) (il := il) (ih := ih)
  rw [hm] at q1
  rw [hv] at q2
  simp only [lvalB, avalB, fitsB, nearB, Bool.and_eq_true, decide_eq_true_eq] at hv
  have hM : ∀ r ∈ rs.map Prod.snd, r.length = wd := fun r hr => by
    obtain ⟨y, hy, rfl⟩ := List.mem_map.1 hr
    exact hl y hy
  have hMl : (rs.map Prod.snd).length = rs.length := List.length_map _
  have q3 := rfloor5_c (n := zl + zh) (d := 2) (by omega)
  have q5 := Sin6_c (lo := midI zl zh) (hi := midI zl zh) (by unfold midI; omega) (by unfold midI; omega)
  have q6 := Cos6_c (lo := midI zl zh) (hi := midI zl zh) (by unfold midI; omega) (by unfold midI; omega)
  have q7 := coarse_c (a := (TT.encl (midI zl zh) (midI zl zh)).1) (b := (TT.encl (midI zl zh) (midI zl zh)).2) (by omega)
  have q8 := coarse_c (a := (TT.cosE (midI zl zh) (midI zl zh)).1) (b := (TT.cosE (midI zl zh) (midI zl zh)).2) (by omega)
  have q9 := rfloor5_c (n := il + ih) (d := 2) (by omega)
  have hca : -8192 ≤ (TT.encl (midI zl zh) (midI zl zh)).1 / 131072 ∧ (TT.encl (midI zl zh) (midI zl zh)).1 / 131072 ≤ 8192 := by omega
  have hsa : -8192 ≤ (TT.cosE (midI zl zh) (midI zl zh)).1 / 131072 ∧ (TT.cosE (midI zl zh) (midI zl zh)).1 / 131072 ≤ 8192 := by omega
  have hd : -1000000000 ≤ midI il ih ∧ midI il ih ≤ 1000000000 := by unfold midI; omega
  have e1 : (zl + zh) / 2 = midI zl zh := rfl
  have e2 : (il + ih) / 2 = midI il ih := rfl
  rw [e1] at q3
  rw [e2] at q9
  generalize midI zl zh = zm at *
  generalize midI il ih = d at *
  generalize TT.encl zm zm = E1 at *
  generalize TT.cosE zm zm = E2 at *
  obtain ⟨a1, a2⟩ := E1
  obtain ⟨c1, c2⟩ := E2
  dsimp only at *
  generalize a1 / 131072 = ca at *
  generalize c1 / 131072 = sa at *
  refine enter0 Tryz.func9 rfl rfl rfl ?_
  repeat' (first
    | (refine nxN ?_)
    | (show YK _ _ _ _ _ ⟨_, .load 23 _, _, _, _, _⟩ _; refine YK.ofV (y_loadPart (k := 2) (by rfl) (by exact memA) (by decide +kernel) (by rfl)) ?_)
    | (show VK _ _ _ _ _ ⟨_, .load 23 _, _, _, _, _⟩ _; refine VK.mk (y_loadPart (k := 2) (by rfl) (by exact memA) (by decide +kernel) (by rfl)) ?_)
    | (show VG _ _ _ _ _ _ ⟨_, .load 23 _, _, _, _, _⟩ _; refine VG.mk (fun hb => by (try (have hc := And.left hb; have hb := And.right hb; rw [hc])); (try rw [hb]); exact y_loadPart (k := 2) (by rfl) (by exact memA) (by decide +kernel) (by rfl)) ?_)
    | (show YG _ _ _ _ _ _ ⟨_, .load 23 _, _, _, _, _⟩ _; refine YG.mk (fun hb => by (try (have hc := And.left hb; have hb := And.right hb; rw [hc])); (try rw [hb]); exact V.y (y_loadPart (k := 2) (by rfl) (by exact memA) (by decide +kernel) (by rfl))) ?_)
    | (show YK _ _ _ _ _ _ _; first | refine YK.mk (y_callA (q1) ⟨rfl, rfl⟩) ?_ | refine YK.mk (y_callA (q2) ⟨rfl, rfl⟩) ?_ | refine YK.mk (y_callA (q3) ⟨rfl, rfl, rfl⟩) ?_ | refine YK.mk (y_callA (q9) ⟨rfl, rfl, rfl⟩) ?_ | refine YK.mk (y_callA (q5) ⟨rfl, rfl⟩) ?_ | refine YK.mk (y_callA (q6) ⟨rfl, rfl⟩) ?_ | refine YK.mk (y_callA (q7) ⟨rfl, rfl⟩) ?_ | refine YK.mk (y_callA (q8) ⟨rfl, rfl⟩) ?_)
    | (show YK _ _ _ _ _ _ _; refine YK.ofV vAuto ?_)
    | (show VK _ _ _ _ _ _ _; refine VK.mk vAuto ?_)
    | (show RS _ _ _ _ _ _ _ _; first | (refine nxRS ?_) | (refine nxRS1 fun _ => ?_))
    | (show RM _ _ _ _ _ _ _ _ _ _; first | (refine nxRM ?_) | (refine nxRM1 fun _ => ?_))
    | (show YG _ _ _ _ _ _ _ _; refine YG.mk (fun hb => by (try (have hc := And.left hb; have hb := And.right hb; rw [hc])); (try rw [hb]); first | exact (y_callA (q1) ⟨rfl, rfl⟩) | exact (y_callA (q2) ⟨rfl, rfl⟩) | exact (y_callA (q3) ⟨rfl, rfl, rfl⟩) | exact (y_callA (q9) ⟨rfl, rfl, rfl⟩) | exact (y_callA (q5) ⟨rfl, rfl⟩) | exact (y_callA (q6) ⟨rfl, rfl⟩) | exact (y_callA (q7) ⟨rfl, rfl⟩) | exact (y_callA (q8) ⟨rfl, rfl⟩) | exact V.y vAuto) ?_)
    | (show VG _ _ _ _ _ _ _ _; refine VG.mk (fun hb => by (try (have hc := And.left hb; have hb := And.right hb; rw [hc])); (try rw [hb]); exact vAuto) ?_)
    | (refine G.mixedA 7 [.go 0, .go 3, .go 1, .go 2, .go 4, .go 5, .go 6, .go 7] ?_)
    | (refine G.mixedA 15 [.go 0, .go 1, .go 2, .go 5, .go 6, .go 7, .go 11, .go 12, .go 3, .go 4, .go 8, .go 9, .go 10, .go 13, .go 14] ?_)
    | (refine G.mixedA 16 [.go 0, .go 3, .go 4, .go 5, .go 7, .go 1, .go 2, .go 6, .go 8, .go 9, .go 10, .go 11, .go 12] ?_)
    | (refine nxX ?_)
    | (refine G.condN rfl (fun hc => ?_) (fun hc => ?_) <;> (try first | exact False.elim hc | (exfalso; omega))))
  all_goals first | (exfalso; revert hc; simp [eqCells, vEq]; done) | skip
  rename_i b3 b4 b6 _ b9
  refine G.loop (ι := ShX × Nat) (fun y => [(2, .int .u8 m), (3, ptS b3), (6, ptS b6), (10, .int .i64 ca), (11, .int .i64 sa), (12, .int .i64 d), (13, .int .i64 (y.2 : Int))]) (fun y => Hl.blk b6 38 [.int .i64 0, .int .i64 0, .int .i64 0, .int .i64 0, .slice none 0 0] :: rshB b3 la lo u wd y.1.1.v :: y.1.2.2) (fun y => ShX.Ok z rs (mkM (upTo (lineSel wd rs.length u ca sa d) y.2 0) m 0 (rs.map Prod.snd)) y.1 ∧ y.2 ≤ rs.length) (fun y => rs.length - y.2) ((z, rs, []), 0) ⟨by rw [mkM_start hM]; exact ShX.self z rs, Nat.zero_le _⟩ ⟨rfl, rfl, rfl, rfl, rfl, rfl, rfl, trivial⟩ (fun w' h => h.sub (by repeat (first | exact List.Sublist.refl _ | exact List.nil_sublist _ | apply List.Sublist.cons_cons | apply List.Sublist.cons))) ?_
  rintro ⟨x, j⟩ mx ⟨g1, g2⟩ hmx
  dsimp only at g1 g2 hmx ⊢
  refine G.fact (fun w' hw' => (g1.rd _ _ (hs.keep hw'.ext) (fun h hm => hw'.all h (.tail _ (.tail _ hm)))).n) (fun hxn => ?_)
  have hxl := g1.len
  rcases Nat.lt_or_ge j rs.length with hj | hj
  · repeat' (first
    | (refine nxN ?_)
    | (show VK _ _ _ _ _ ⟨_, .call { callee := .builtin .len, args := _, argTypes := #[36] }, _, _, _, _⟩ _; refine VK.mk (y_lenV (by rfl) (by decide +kernel)) ?_)
    | (show YK _ _ _ _ _ ⟨_, .call { callee := .builtin .len, args := _, argTypes := #[36] }, _, _, _, _⟩ _; refine YK.ofV (y_lenV (by rfl) (by decide +kernel)) ?_)
    | (show VG _ _ _ _ _ _ ⟨_, .call { callee := .builtin .len, args := _, argTypes := #[36] }, _, _, _, _⟩ _; refine VG.mk (fun hb => by (try (have hc := And.left hb; have hb := And.right hb; rw [hc])); (try rw [hb]); exact y_lenV (by rfl) (by decide +kernel)) ?_)
    | (show YG _ _ _ _ _ _ ⟨_, .call { callee := .builtin .len, args := _, argTypes := #[36] }, _, _, _, _⟩ _; refine YG.mk (fun hb => by (try (have hc := And.left hb; have hb := And.right hb; rw [hc])); (try rw [hb]); exact V.y (y_lenV (by rfl) (by decide +kernel))) ?_)
    | (refine nxV ?_)
    | (show RS _ _ _ _ _ _ _ _; first | (refine nxRS ?_) | (refine nxRS1 fun _ => ?_))
    | (show RM _ _ _ _ _ _ _ _ _ _; first | (refine nxRM ?_) | (refine nxRM1 fun _ => ?_))
    | (refine nxG ?_)
    | (refine G.mixedA 7 [.go 0, .go 3, .go 1, .go 2, .go 4, .go 5, .go 6, .go 7] ?_)
    | (refine G.mixedA 15 [.go 0, .go 1, .go 2, .go 5, .go 6, .go 7, .go 11, .go 12, .go 3, .go 4, .go 8, .go 9, .go 10, .go 13, .go 14] ?_)
    | (refine G.mixedA 16 [.go 0, .go 3, .go 4, .go 5, .go 7, .go 1, .go 2, .go 6, .go 8, .go 9, .go 10, .go 11, .go 12] ?_)
    | (refine nxX ?_)
    | (refine G.condN rfl (fun hc => ?_) (fun hc => ?_) <;> (try first | exact False.elim hc | (exfalso; omega))))
    all_goals first | (exfalso; omega) | skip
    refine G.loop (ι := ShX × Nat) (fun y => [(2, .int .u8 m), (3, ptS b3), (6, ptS b6), (10, .int .i64 ca), (11, .int .i64 sa), (12, .int .i64 d), (13, .int .i64 (j : Int)), (14, .int .i64 (y.2 : Int))]) (fun y => Hl.blk b6 38 [.int .i64 0, .int .i64 0, .int .i64 0, .int .i64 0, .slice none 0 0] :: rshB b3 la lo u wd y.1.1.v :: y.1.2.2) (fun y => ShX.Ok z rs (mkM (upTo (lineSel wd rs.length u ca sa d) j y.2) m 0 (rs.map Prod.snd)) y.1 ∧ y.2 ≤ wd) (fun y => wd - y.2) (x, 0) ⟨g1, Nat.zero_le _⟩ ⟨rfl, rfl, rfl, rfl, rfl, rfl, rfl, rfl, trivial⟩ (fun w' h => h.sub (by repeat (first | exact List.Sublist.refl _ | exact List.nil_sublist _ | apply List.Sublist.cons_cons | apply List.Sublist.cons))) ?_
    rintro ⟨y, i⟩ mx2 ⟨k1, k2⟩ hmx2
    dsimp only at k1 k2 hmx2 ⊢
    have hyl := k1.len
    rcases Nat.lt_or_ge i wd with hi | hi
    · have qd := rdrawn_c (la := la) (lo := lo) (u := u) (wd' := (wd : Int)) (m := m) (z := y.1) (k1.wd hM) (by omega) (by omega) hi (show j < y.2.1.length by omega)
      rw [k1.mat] at qd
      have qe := east_c (la := la) (lo := lo) (wd := (wd : Int)) (i := (i : Int)) (v := y.1.v) (by omega) hu (by omega)
      have qn := north_c (la := la) (lo := lo) (wd := (wd : Int)) (j := (j : Int)) (v := y.1.v) (by omega) hu (by omega)
      have hse : lineSel wd rs.length u ca sa d i j = lineI u ca sa d (((i : Int) - ((wd : Int) - 1) / 2) * u) ((((wd : Int) - 1) / 4 - (j : Int)) * 2 * u) := by
        unfold lineSel
        rw [show ((rs.length : Int) - 1) / 2 = ((wd : Int) - 1) / 4 by omega]
      have b1 := TT.abs_mul_le (A := 2000) (u := 100000) (a := (i : Int) - ((wd : Int) - 1) / 2) (t := u) (by omega) (by omega)
      have b2 := TT.abs_mul_le (A := 4000) (u := 100000) (a := (((wd : Int) - 1) / 4 - (j : Int)) * 2) (t := u) (by omega) (by omega)
      generalize ((i : Int) - ((wd : Int) - 1) / 2) * u = e at *
      generalize (((wd : Int) - 1) / 4 - (j : Int)) * 2 * u = nn at *
      have b3 := TT.abs_mul_le (A := 8192) (u := 400000000) (a := ca) (t := e) (by omega) (by omega)
      have b4 := TT.abs_mul_le (A := 8192) (u := 400000000) (a := sa) (t := nn) (by omega) (by omega)
      have b5 := TT.abs_mul_le (A := 100000) (u := 24576) (a := u) (t := max ca (-ca) + 2 * max sa (-sa)) (by omega) (by omega)
      have z2 := rsize_c (n := ca * e + sa * nn - 8192 * d) (by omega)
      have z3 := rsize_c (n := ca) (by omega)
      have z4 := rsize_c (n := sa) (by omega)
      unfold lineI at hse
      repeat' (first
    | (refine nxN ?_)
    | (show RS _ _ _ _ _ _ _ (⟨some 100, _, _, _, _, _⟩ :: _); refine RS.callI qd ⟨rfl, rfl, rfl, rfl, rfl⟩ (fun w' hw' => k1.rd _ _ (hs.keep hw'.ext) (fun h hm => hw'.all h (.tail _ (.tail _ hm)))) ?_; rintro x2 hx2; refine RS.permH ?_ List.perm_append_comm; dsimp only [List.cons_append, List.nil_append])
    | (show YK _ _ _ _ _ _ _; first | refine YK.mk (y_callA (qe) ⟨rfl, rfl, rfl⟩) ?_ | refine YK.mk (y_callA (qn) ⟨rfl, rfl, rfl⟩) ?_ | refine YK.mk (y_callA (z2) ⟨rfl, rfl⟩) ?_ | refine YK.mk (y_callA (z3) ⟨rfl, rfl⟩) ?_ | refine YK.mk (y_callA (z4) ⟨rfl, rfl⟩) ?_)
    | (show YK _ _ _ _ _ _ _; refine YK.ofV vAuto ?_)
    | (show VK _ _ _ _ _ _ _; refine VK.mk vAuto ?_)
    | (show RS _ _ _ _ _ _ _ _; first | (refine nxRS ?_) | (refine nxRS1 fun _ => ?_))
    | (show RM _ _ _ _ _ _ _ _ _ _; first | (refine nxRM ?_) | (refine nxRM1 fun _ => ?_))
    | (show YG _ _ _ _ _ _ _ _; refine YG.mk (fun hb => by (try (have hc := And.left hb; have hb := And.right hb; rw [hc])); (try rw [hb]); first | exact (y_callA (qe) ⟨rfl, rfl, rfl⟩) | exact (y_callA (qn) ⟨rfl, rfl, rfl⟩) | exact (y_callA (z2) ⟨rfl, rfl⟩) | exact (y_callA (z3) ⟨rfl, rfl⟩) | exact (y_callA (z4) ⟨rfl, rfl⟩) | exact V.y vAuto) ?_)
    | (show VG _ _ _ _ _ _ _ _; refine VG.mk (fun hb => by (try (have hc := And.left hb; have hb := And.right hb; rw [hc])); (try rw [hb]); exact vAuto) ?_)
    | (refine G.mixedA 7 [.go 0, .go 3, .go 1, .go 2, .go 4, .go 5, .go 6, .go 7] ?_)
    | (refine G.mixedA 15 [.go 0, .go 1, .go 2, .go 5, .go 6, .go 7, .go 11, .go 12, .go 3, .go 4, .go 8, .go 9, .go 10, .go 13, .go 14] ?_)
    | (refine G.mixedA 16 [.go 0, .go 3, .go 4, .go 5, .go 7, .go 1, .go 2, .go 6, .go 8, .go 9, .go 10, .go 11, .go 12] ?_)
    | (refine nxX ?_)
    | (refine G.condN rfl (fun hc => ?_) (fun hc => ?_) <;> (try first | exact False.elim hc | (exfalso; omega))))
      all_goals first | (exfalso; omega) | skip
      · rw [mkM_step hM hi (show j < (rs.map Prod.snd).length by omega) (by rw [hse]; exact decide_eq_true hc)] at hx2
        exact X.again ((x2.1, x2.2.1, y.2.2 ++ x2.2.2), i + 1) ⟨k1.thenR hx2, by dsimp only; omega⟩ (by dsimp only; omega) ⟨rfl, rfl, rfl, rfl, rfl, rfl, rfl, rfl, trivial⟩ (fun w' h => h.sub (by repeat (first | exact List.Sublist.refl _ | exact List.nil_sublist _ | apply List.Sublist.cons_cons | apply List.Sublist.cons)))
      · exact X.again (y, i + 1) ⟨by dsimp only; rw [← mkM_skip hM (by rw [hse]; exact decide_eq_false (Int.not_le.2 hc))]; exact k1, by dsimp only; omega⟩ (by dsimp only; omega) ⟨rfl, rfl, rfl, rfl, rfl, rfl, rfl, rfl, trivial⟩ (fun w' h => h.sub (by repeat (first | exact List.Sublist.refl _ | exact List.nil_sublist _ | apply List.Sublist.cons_cons | apply List.Sublist.cons)))
    · obtain rfl : i = wd := by omega
      repeat' (first
    | (refine nxN ?_)
    | (refine nxV ?_)
    | (show RS _ _ _ _ _ _ _ _; first | (refine nxRS ?_) | (refine nxRS1 fun _ => ?_))
    | (show RM _ _ _ _ _ _ _ _ _ _; first | (refine nxRM ?_) | (refine nxRM1 fun _ => ?_))
    | (refine nxG ?_)
    | (refine G.mixedA 7 [.go 0, .go 3, .go 1, .go 2, .go 4, .go 5, .go 6, .go 7] ?_)
    | (refine G.mixedA 15 [.go 0, .go 1, .go 2, .go 5, .go 6, .go 7, .go 11, .go 12, .go 3, .go 4, .go 8, .go 9, .go 10, .go 13, .go 14] ?_)
    | (refine G.mixedA 16 [.go 0, .go 3, .go 4, .go 5, .go 7, .go 1, .go 2, .go 6, .go 8, .go 9, .go 10, .go 11, .go 12] ?_)
    | (refine nxX ?_)
    | (refine G.condN rfl (fun hc => ?_) (fun hc => ?_) <;> (try first | exact False.elim hc | (exfalso; omega))))
      all_goals first | (exfalso; omega) | exact X.again (y, j + 1) ⟨by dsimp only; rw [← mkM_row hM]; exact k1, by dsimp only; omega⟩ (by dsimp only; omega) ⟨rfl, rfl, rfl, rfl, rfl, rfl, rfl, trivial⟩ (fun w' h => h.sub (by repeat (first | exact List.Sublist.refl _ | exact List.nil_sublist _ | apply List.Sublist.cons_cons | apply List.Sublist.cons)))
  · obtain rfl : j = rs.length := by omega
    have hA := mkM_all (sel := lineSel wd rs.length u ca sa d) (m := m) hM
    rw [hMl] at hA
    rw [hA] at g1
    repeat' (first
    | (refine nxN ?_)
    | (show VK _ _ _ _ _ ⟨_, .call { callee := .builtin .len, args := _, argTypes := #[36] }, _, _, _, _⟩ _; refine VK.mk (y_lenV (by rfl) (by decide +kernel)) ?_)
    | (show YK _ _ _ _ _ ⟨_, .call { callee := .builtin .len, args := _, argTypes := #[36] }, _, _, _, _⟩ _; refine YK.ofV (y_lenV (by rfl) (by decide +kernel)) ?_)
    | (show VG _ _ _ _ _ _ ⟨_, .call { callee := .builtin .len, args := _, argTypes := #[36] }, _, _, _, _⟩ _; refine VG.mk (fun hb => by (try (have hc := And.left hb; have hb := And.right hb; rw [hc])); (try rw [hb]); exact y_lenV (by rfl) (by decide +kernel)) ?_)
    | (show YG _ _ _ _ _ _ ⟨_, .call { callee := .builtin .len, args := _, argTypes := #[36] }, _, _, _, _⟩ _; refine YG.mk (fun hb => by (try (have hc := And.left hb; have hb := And.right hb; rw [hc])); (try rw [hb]); exact V.y (y_lenV (by rfl) (by decide +kernel))) ?_)
    | (refine nxV ?_)
    | (show RS _ _ _ _ _ _ _ _; first | (refine nxRS ?_) | (refine nxRS1 fun _ => ?_))
    | (show RM _ _ _ _ _ _ _ _ _ _; first | (refine nxRM ?_) | (refine nxRM1 fun _ => ?_))
    | (refine nxG ?_)
    | (refine G.mixedA 7 [.go 0, .go 3, .go 1, .go 2, .go 4, .go 5, .go 6, .go 7] ?_)
    | (refine G.mixedA 15 [.go 0, .go 1, .go 2, .go 5, .go 6, .go 7, .go 11, .go 12, .go 3, .go 4, .go 8, .go 9, .go 10, .go 13, .go 14] ?_)
    | (refine G.mixedA 16 [.go 0, .go 3, .go 4, .go 5, .go 7, .go 1, .go 2, .go 6, .go 8, .go 9, .go 10, .go 11, .go 12] ?_)
    | (refine nxX ?_)
    | (refine G.condN rfl (fun hc => ?_) (fun hc => ?_) <;> (try first | exact False.elim hc | (exfalso; omega))))
    all_goals first | (exfalso; omega) | exact X.retN (vs := [_, _]) x rfl ⟨⟨_, _, _, _, rfl, (by exact memA), (by (repeat (first | exact .nil | apply LenIs.cons))), by decide +kernel, rfl⟩, rfl, rfl⟩ rfl g1 rfl (NewIn.of_mem (fun h hm => .tail _ (.tail _ hm)) g1.new)
end Go.Proofs.YthilhhegchmjeaaGreat
/- PlotDraws: the reference's Contains. -/
set_option linter.unusedVariables false
set_option maxHeartbeats 8000000
namespace Go.Proofs.YthilhhegchmjeaaGreat
open Go.RowKit
theorem rbound_c {i lv e : Nat} (hi : i ≤ 200000) (hl : lv ≤ 16) (he : i * 10800000 / 2 ^ lv = e) : Cont Tryz.prog 114 [.int .i64 (i : Int), .int .i64 (lv : Int)] (.int .i64 (e : Int)) := fun w => by
  refine enter0 Tryz.func114 rfl rfl rfl ?_
  repeat' (first
    | (show VK _ _ _ _ _ ⟨_, .binOp .shr _ _ _ _, _, _, _, _⟩ _; refine VK.mk (y_shrA (m := i * 10800000) (j := lv) (by rfl) (by rfl) (by omega) (by omega) he) ?_)
    | (show YK _ _ _ _ _ ⟨_, .binOp .shr _ _ _ _, _, _, _, _⟩ _; refine YK.ofV (y_shrA (m := i * 10800000) (j := lv) (by rfl) (by rfl) (by omega) (by omega) he) ?_)
    | (show VG _ _ _ _ _ _ ⟨_, .binOp .shr _ _ _ _, _, _, _, _⟩ _; refine VG.mk (fun hb => by (try (have hc := And.left hb; have hb := And.right hb; rw [hc])); (try rw [hb]); exact y_shrA (m := i * 10800000) (j := lv) (by rfl) (by rfl) (by omega) (by omega) he) ?_)
    | (show YG _ _ _ _ _ _ ⟨_, .binOp .shr _ _ _ _, _, _, _, _⟩ _; refine YG.mk (fun hb => by (try (have hc := And.left hb; have hb := And.right hb; rw [hc])); (try rw [hb]); exact V.y (y_shrA (m := i * 10800000) (j := lv) (by rfl) (by rfl) (by omega) (by omega) he)) ?_)
    | (refine nxV ?_)
    | (show RS _ _ _ _ _ _ _ _; first | (refine nxRS ?_) | (refine nxRS1 fun _ => ?_))
    | (show RM _ _ _ _ _ _ _ _ _ _; first | (refine nxRM ?_) | (refine nxRM1 fun _ => ?_))
    | (refine nxG ?_)
    | (refine nxX ?_)
    | (refine G.condN rfl (fun hc => ?_) (fun hc => ?_) <;> (try first | exact False.elim hc | (exfalso; omega))))
  exact X.ret (vs := [_]) rfl ⟨rfl, rfl⟩ rfl (fun w hw => ⟨rfl, hw.ext⟩)
theorem rbox_c {x : RR.CellT} (ok : RR.okC x) : Cont Tryz.prog 86 [celV x.lv x.r x.c] (plV (bxA x) (bxB x) (bxC x) (bxD x)) := fun w => by
  have hbd := okC_bd ok
  have hk := box_ok ok
  have q1 := rbound_c (i := x.r) (lv := x.lv) (e := egN x.r x.lv) (by omega) (by omega) rfl
  have q2 := rbound_c (i := x.r + 1) (lv := x.lv) (e := egN (x.r + 1) x.lv) (by omega) (by omega) rfl
  have q3 := rbound_c (i := x.c) (lv := x.lv) (e := egN x.c x.lv) (by omega) (by omega) rfl
  have q4 := rbound_c (i := x.c + 1) (lv := x.lv) (e := egN (x.c + 1) x.lv) (by omega) (by omega) rfl
  obtain ⟨hk1, hk2⟩ := hk
  unfold bxA bxB bxC bxD at *
  generalize egN x.r x.lv = A at *
  generalize egN (x.r + 1) x.lv = B at *
  generalize egN x.c x.lv = C at *
  generalize egN (x.c + 1) x.lv = D at *
  refine enter0 Tryz.func86 rfl rfl rfl ?_
  repeat' (first
    | (refine nxN ?_)
    | (show VK _ _ _ _ _ ⟨some 31, .build _ _, _, _, _, _⟩ _; refine VK.mk (y_build (parts := [(0, .tmp 16), (1, .tmp 30)]) (vs := [_, _]) ⟨rfl, rfl, rfl⟩ (built_pl _ _ _ _)) ?_)
    | (show YK _ _ _ _ _ _ _; first | refine YK.mk (y_callA (q1) ⟨rfl, rfl, rfl⟩) ?_ | refine YK.mk (y_callA (q2) ⟨rfl, rfl, rfl⟩) ?_ | refine YK.mk (y_callA (q3) ⟨rfl, rfl, rfl⟩) ?_ | refine YK.mk (y_callA (q4) ⟨rfl, rfl, rfl⟩) ?_)
    | (show YK _ _ _ _ _ _ _; refine YK.ofV vAuto ?_)
    | (show VK _ _ _ _ _ _ _; refine VK.mk vAuto ?_)
    | (show RS _ _ _ _ _ _ _ _; first | (refine nxRS ?_) | (refine nxRS1 fun _ => ?_))
    | (show RM _ _ _ _ _ _ _ _ _ _; first | (refine nxRM ?_) | (refine nxRM1 fun _ => ?_))
    | (show YG _ _ _ _ _ _ _ _; refine YG.mk (fun hb => by (try (have hc := And.left hb; have hb := And.right hb; rw [hc])); (try rw [hb]); first | exact (y_callA (q1) ⟨rfl, rfl, rfl⟩) | exact (y_callA (q2) ⟨rfl, rfl, rfl⟩) | exact (y_callA (q3) ⟨rfl, rfl, rfl⟩) | exact (y_callA (q4) ⟨rfl, rfl, rfl⟩) | exact V.y vAuto) ?_)
    | (show VG _ _ _ _ _ _ _ _; refine VG.mk (fun hb => by (try (have hc := And.left hb; have hb := And.right hb; rw [hc])); (try rw [hb]); exact vAuto) ?_)
    | (refine G.mixedA 1 [.go 0, .go 1, .go 2, .go 3, .go 6, .go 7, .go 8, .go 9, .go 10, .go 14, .go 15, .go 16, .go 17, .go 20, .go 21, .go 22, .go 23, .go 24, .go 4, .go 5, .go 11, .go 12, .go 13, .go 18, .go 19, .go 25, .go 26, .go 27, .go 28, .go 29] ?_)
    | (refine nxX ?_)
    | (refine G.condN rfl (fun hc => ?_) (fun hc => ?_) <;> (try first | exact False.elim hc | (exfalso; omega))))
  exact X.ret (vs := [_]) rfl ⟨⟨_, _, _, _, rfl, (by exact memA), (by (repeat (first | exact .nil | apply LenIs.cons))), by decide +kernel, rfl⟩, rfl⟩ rfl (fun w hw => ⟨rfl, hw.ext⟩)
theorem roff8_c {n : Int} (hn : -4611686018427387904 ≤ n ∧ n ≤ 4611686018427387904) : Cont Tryz.prog 126 [.int .i64 n] (.int .i64 (TT.turnI n)) := fun w => by
  have ht := tmod_turn n
  have hb : -21600000 < n.tmod 21600000 ∧ n.tmod 21600000 < 21600000 := by omega
  refine enter0 Tryz.func126 rfl rfl rfl ?_
  repeat' (first
    | (refine nxV ?_)
    | (show RS _ _ _ _ _ _ _ _; first | (refine nxRS ?_) | (refine nxRS1 fun _ => ?_))
    | (show RM _ _ _ _ _ _ _ _ _ _; first | (refine nxRM ?_) | (refine nxRM1 fun _ => ?_))
    | (refine nxG ?_)
    | (refine nxX ?_)
    | (refine G.condN rfl (fun hc => ?_) (fun hc => ?_) <;> (try first | exact False.elim hc | (exfalso; omega))))
  all_goals refine X.ret (vs := [_]) rfl ⟨rfl, rfl⟩ rfl (fun w hw => ⟨congrArg Ending.returned (congrArg (Value.int .i64) ?_), hw.ext⟩)
  all_goals (unfold TT.turnI; omega)
theorem rhas8_c {c d n : Int} (h : -10800000 ≤ c ∧ c < 10800000 ∧ c ≤ d ∧ d - c < 21600000) (h2 : -10800000 ≤ n ∧ n ≤ 10800000) : Cont Tryz.prog 113 [arcV c d, .int .i64 n] (.bool (decide (TT.turnI (n - c) ≤ d - c))) := fun w => by
  have q2 := roff8_c (n := n - c) (by omega)
  generalize TT.turnI (n - c) = k at *
  refine enter0 Tryz.func113 rfl rfl rfl ?_
  repeat' (first
    | (refine nxN ?_)
    | (show YK _ _ _ _ _ _ _; first | refine YK.mk (y_callA (q2) ⟨rfl, rfl⟩) ?_)
    | (show YK _ _ _ _ _ _ _; refine YK.ofV vAuto ?_)
    | (show VK _ _ _ _ _ _ _; refine VK.mk vAuto ?_)
    | (show RS _ _ _ _ _ _ _ _; first | (refine nxRS ?_) | (refine nxRS1 fun _ => ?_))
    | (show RM _ _ _ _ _ _ _ _ _ _; first | (refine nxRM ?_) | (refine nxRM1 fun _ => ?_))
    | (show YG _ _ _ _ _ _ _ _; refine YG.mk (fun hb => by (try (have hc := And.left hb; have hb := And.right hb; rw [hc])); (try rw [hb]); first | exact (y_callA (q2) ⟨rfl, rfl⟩) | exact V.y vAuto) ?_)
    | (show VG _ _ _ _ _ _ _ _; refine VG.mk (fun hb => by (try (have hc := And.left hb; have hb := And.right hb; rw [hc])); (try rw [hb]); exact vAuto) ?_)
    | (refine G.mixedA 1 [.go 0, .go 1, .go 2, .go 3, .go 5, .go 6, .go 7, .go 8, .go 9, .go 4, .go 10, .go 11] ?_)
    | (refine nxX ?_)
    | (refine G.condN rfl (fun hc => ?_) (fun hc => ?_) <;> (try first | exact False.elim hc | (exfalso; omega))))
  exact X.ret (vs := [_]) rfl ⟨rfl, rfl⟩ rfl (fun w hw => ⟨ret_bool (by simp), hw.ext⟩)
theorem r8con_c {a b c d la lo : Int} (h : BxOk a b c d) (hp : pointB la lo = true) : Cont Tryz.prog 85 [plV a b c d, ptV la lo] (.bool (inBx a b c d la lo)) := fun w => by
  simp only [pointB, Bool.and_eq_true, decide_eq_true_eq] at hp
  have q3 := rhas8_c (n := lo) h.lon (by omega)
  unfold inBx
  obtain ⟨hA, hO⟩ := h
  generalize TT.turnI (lo - c) = k at *
  refine enter0 Tryz.func85 rfl rfl rfl ?_
  repeat' (first
    | (refine nxN ?_)
    | (show YK _ _ _ _ _ ⟨_, .load 28 _, _, _, _, _⟩ _; refine YK.ofV (y_loadPart (k := 2) (by rfl) (by exact memA) (by decide +kernel) (by rfl)) ?_)
    | (show VK _ _ _ _ _ ⟨_, .load 28 _, _, _, _, _⟩ _; refine VK.mk (y_loadPart (k := 2) (by rfl) (by exact memA) (by decide +kernel) (by rfl)) ?_)
    | (show VG _ _ _ _ _ _ ⟨_, .load 28 _, _, _, _, _⟩ _; refine VG.mk (fun hb => by (try (have hc := And.left hb; have hb := And.right hb; rw [hc])); (try rw [hb]); exact y_loadPart (k := 2) (by rfl) (by exact memA) (by decide +kernel) (by rfl)) ?_)
    | (show YG _ _ _ _ _ _ ⟨_, .load 28 _, _, _, _, _⟩ _; refine YG.mk (fun hb => by (try (have hc := And.left hb; have hb := And.right hb; rw [hc])); (try rw [hb]); exact V.y (y_loadPart (k := 2) (by rfl) (by exact memA) (by decide +kernel) (by rfl))) ?_)
    | (show YK _ _ _ _ _ _ _; first | refine YK.mk (y_callA (q3) ⟨rfl, rfl, rfl⟩) ?_)
    | (show YK _ _ _ _ _ _ _; refine YK.ofV vAuto ?_)
    | (show VK _ _ _ _ _ _ _; refine VK.mk vAuto ?_)
    | (show RS _ _ _ _ _ _ _ _; first | (refine nxRS ?_) | (refine nxRS1 fun _ => ?_))
    | (show RM _ _ _ _ _ _ _ _ _ _; first | (refine nxRM ?_) | (refine nxRM1 fun _ => ?_))
    | (show YG _ _ _ _ _ _ _ _; refine YG.mk (fun hb => by (try (have hc := And.left hb; have hb := And.right hb; rw [hc])); (try rw [hb]); first | exact (y_callA (q3) ⟨rfl, rfl, rfl⟩) | exact V.y vAuto) ?_)
    | (show VG _ _ _ _ _ _ _ _; refine VG.mk (fun hb => by (try (have hc := And.left hb; have hb := And.right hb; rw [hc])); (try rw [hb]); exact vAuto) ?_)
    | (refine nxX ?_)
    | (refine G.condN rfl (fun hc => ?_) (fun hc => ?_) <;> (try first | exact False.elim hc | (exfalso; omega))))
  · exact X.ret (vs := [_]) rfl ⟨rfl, rfl⟩ rfl (fun w hw => ⟨by rw [if_pos (by omega)], hw.ext⟩)
  · refine X.ret (vs := [_]) rfl ⟨rfl, rfl⟩ rfl (fun w hw => ⟨congrArg Ending.returned (congrArg Value.bool ?_), hw.ext⟩)
    rw [if_neg (by omega)]
    cases decide (la = -5400000) <;> cases decide (la = 5400000) <;> rfl
theorem rcon_c (v : Value) (l : List RR.CellT) (ok : ∀ x ∈ l, RR.okC x) (hl : l.length ≤ 4000) {la lo : Int} (hp : pointB la lo = true) : ContR Tryz.prog [Hl.rd v cT 3 l] 47 [v, ptV la lo] (.bool (conB l la lo)) := fun w hw0 => by
  refine enter Tryz.func47 rfl rfl rfl hw0 ?_
  repeat' (first
    | (refine nxN ?_)
    | (refine nxV ?_)
    | (show RS _ _ _ _ _ _ _ _; first | (refine nxRS ?_) | (refine nxRS1 fun _ => ?_))
    | (show RM _ _ _ _ _ _ _ _ _ _; first | (refine nxRM ?_) | (refine nxRM1 fun _ => ?_))
    | (refine nxG ?_)
    | (refine G.mixedA 4 [.go 0, .go 1, .go 2, .go 3, .go 5, .go 4, .go 6] ?_)
    | (refine nxX ?_)
    | (refine G.condN rfl (fun hc => ?_) (fun hc => ?_) <;> (try first | exact False.elim hc | (exfalso; omega))))
  rename_i b3
  refine G.loop (ι := Nat) (fun i => [(0, v), (3, .pointer (some ⟨b3, 0, none⟩)), (5, .int .i64 (i : Int))]) (fun _ => [Hl.blk b3 23 [.int .i64 la, .int .i64 lo], Hl.rd v cT 3 l]) (fun i => i ≤ l.length ∧ conB (l.take i) la lo = false) (fun i => l.length - i) 0 ⟨Nat.zero_le _, rfl⟩ ⟨rfl, rfl, rfl, trivial⟩ (by exact fun w h => h.sub (by repeat (first | exact List.Sublist.refl _ | apply List.Sublist.cons_cons | apply List.Sublist.cons))) ?_
  rintro i mx ⟨g1, g2⟩ hmx
  (try dsimp only at g1 g2 hmx ⊢)
  rcases Nat.lt_or_ge i l.length with hi | hi
  · have hx : nth l (i : Int) ∈ l := by rw [nth_get hi]; exact List.getElem_mem hi
    have q3 := rbox_c (ok _ hx)
    have q4 := r8con_c (box_ok (ok _ hx)) hp
    have e1 : conB (l.take (i + 1)) la lo = (conB (l.take i) la lo || inBx (bxA (nth l (i : Int))) (bxB (nth l (i : Int))) (bxC (nth l (i : Int))) (bxD (nth l (i : Int))) la lo) := by
      unfold conB
      rw [List.take_add_one, List.getElem?_eq_getElem hi, List.any_append, nth_get hi]; simp
    have e2 : inBx (bxA (nth l (i : Int))) (bxB (nth l (i : Int))) (bxC (nth l (i : Int))) (bxD (nth l (i : Int))) la lo = true → conB l la lo = true := fun h => by
      unfold conB
      rw [List.any_eq_true]
      exact ⟨_, hx, h⟩
    rw [g2, Bool.false_or] at e1
    generalize bxA (nth l (i : Int)) = A at *
    generalize bxB (nth l (i : Int)) = B at *
    generalize bxC (nth l (i : Int)) = C at *
    generalize bxD (nth l (i : Int)) = D at *
    cases hin : inBx A B C D la lo <;> rw [hin] at q4
    · repeat' (first
    | (refine nxN ?_)
    | (show YK _ _ _ _ _ _ _; first | refine YK.mk (y_callA (q3) ⟨rfl, rfl⟩) ?_ | refine YK.mk (y_callA (q4) ⟨rfl, rfl, rfl⟩) ?_)
    | (show YK _ _ _ _ _ _ _; refine YK.ofV vAuto ?_)
    | (show VK _ _ _ _ _ _ _; refine VK.mk vAuto ?_)
    | (show RS _ _ _ _ _ _ _ _; first | (refine nxRS ?_) | (refine nxRS1 fun _ => ?_))
    | (show RM _ _ _ _ _ _ _ _ _ _; first | (refine nxRM ?_) | (refine nxRM1 fun _ => ?_))
    | (show YG _ _ _ _ _ _ _ _; refine YG.mk (fun hb => by (try (have hc := And.left hb; have hb := And.right hb; rw [hc])); (try rw [hb]); first | exact (y_callA (q3) ⟨rfl, rfl⟩) | exact (y_callA (q4) ⟨rfl, rfl, rfl⟩) | exact V.y vAuto) ?_)
    | (show VG _ _ _ _ _ _ _ _; refine VG.mk (fun hb => by (try (have hc := And.left hb; have hb := And.right hb; rw [hc])); (try rw [hb]); exact vAuto) ?_)
    | (refine G.mixedA 4 [.go 0, .go 1, .go 2, .go 3, .go 5, .go 4, .go 6] ?_)
    | (refine nxX ?_)
    | (refine G.condN rfl (fun hc => ?_) (fun hc => ?_) <;> (try first | exact False.elim hc | (exfalso; omega))))
      all_goals first | (exfalso; simp at hc; done) | (exfalso; omega) | exact X.again (i + 1) ⟨by omega, by rw [e1, hin]⟩ (by omega) ⟨rfl, rfl, rfl, trivial⟩ (by exact fun w h => h.sub (by repeat (first | exact List.Sublist.refl _ | apply List.Sublist.cons_cons | apply List.Sublist.cons)))
    · repeat' (first
    | (refine nxN ?_)
    | (show YK _ _ _ _ _ _ _; first | refine YK.mk (y_callA (q3) ⟨rfl, rfl⟩) ?_ | refine YK.mk (y_callA (q4) ⟨rfl, rfl, rfl⟩) ?_)
    | (show YK _ _ _ _ _ _ _; refine YK.ofV vAuto ?_)
    | (show VK _ _ _ _ _ _ _; refine VK.mk vAuto ?_)
    | (show RS _ _ _ _ _ _ _ _; first | (refine nxRS ?_) | (refine nxRS1 fun _ => ?_))
    | (show RM _ _ _ _ _ _ _ _ _ _; first | (refine nxRM ?_) | (refine nxRM1 fun _ => ?_))
    | (show YG _ _ _ _ _ _ _ _; refine YG.mk (fun hb => by (try (have hc := And.left hb; have hb := And.right hb; rw [hc])); (try rw [hb]); first | exact (y_callA (q3) ⟨rfl, rfl⟩) | exact (y_callA (q4) ⟨rfl, rfl, rfl⟩) | exact V.y vAuto) ?_)
    | (show VG _ _ _ _ _ _ _ _; refine VG.mk (fun hb => by (try (have hc := And.left hb; have hb := And.right hb; rw [hc])); (try rw [hb]); exact vAuto) ?_)
    | (refine G.mixedA 4 [.go 0, .go 1, .go 2, .go 3, .go 5, .go 4, .go 6] ?_)
    | (refine nxX ?_)
    | (refine G.condN rfl (fun hc => ?_) (fun hc => ?_) <;> (try first | exact False.elim hc | (exfalso; omega))))
      all_goals first | (exfalso; simp at hc; done) | (exfalso; omega) | exact X.ret (vs := [_]) rfl ⟨rfl, rfl⟩ rfl (fun w hw => ⟨by rw [e2 hin], hw.ext⟩)
  · obtain rfl : i = l.length := by omega
    rw [List.take_length] at g2
    repeat' (first
    | (refine nxN ?_)
    | (refine nxV ?_)
    | (show RS _ _ _ _ _ _ _ _; first | (refine nxRS ?_) | (refine nxRS1 fun _ => ?_))
    | (show RM _ _ _ _ _ _ _ _ _ _; first | (refine nxRM ?_) | (refine nxRM1 fun _ => ?_))
    | (refine nxG ?_)
    | (refine G.mixedA 4 [.go 0, .go 1, .go 2, .go 3, .go 5, .go 4, .go 6] ?_)
    | (refine nxX ?_)
    | (refine G.condN rfl (fun hc => ?_) (fun hc => ?_) <;> (try first | exact False.elim hc | (exfalso; omega))))
    all_goals first | (exfalso; omega) | exact X.ret (vs := [_]) rfl ⟨rfl, rfl⟩ rfl (fun w hw => ⟨by rw [g2], hw.ext⟩)
end Go.Proofs.YthilhhegchmjeaaGreat
/- PlotDraws: the reference's Region. -/
set_option linter.unusedVariables false
set_option maxHeartbeats 8000000
namespace Go.Proofs.YthilhhegchmjeaaGreat
open Go.RowKit
theorem rregion_arg {la lo u wd m : Int} {v : Value} {lc : List Cel} {vb : Bool} {z : Sl} {rs : List (Sl × List Int)} (q : ContR Tryz.prog [Hl.rd v cK 3 lc] 45 [v] (.bool vb)) (hv : ((decide (33 ≤ m) && decide (m ≤ 126)) && vb) = false) :
    ContXI Tryz.prog (fun w => RsW z rs w ∧ RO w v 3 lc.length (lc.flatMap cK)) 11 [rshV la lo u wd z.v, v, .int .u8 m] (ShX.Ok z rs (rs.map Prod.snd)) (fun x => .tuple [rshV la lo u wd x.1.v, .int .i64 1].toArray) (fun x => x.2.2) := fun w hs => by
  have q1 := rright_c (m := m)
  cases h1 : (decide (33 ≤ m) && decide (m ≤ 126)) <;> cases vb <;> rw [h1] at q1 hv <;> first
    | (exfalso; revert hv; decide)
    | (clear hv h1
       refine enter Tryz.func11 rfl rfl rfl (Hp := [Hl.rd v cK 3 lc]) (fun h hm => by
         rcases List.mem_singleton.1 hm with rfl
         exact ⟨⟨hs.2, fun h => by cases h⟩, rfl⟩) ?_
       repeat' (first
    | (refine nxN ?_)
    | (show YK _ _ _ _ _ _ _; first | refine YK.mk (y_callA (q1) ⟨rfl, rfl⟩) ?_ | refine YK.mk (y_callRA (q) ⟨rfl, rfl⟩) ?_)
    | (show YK _ _ _ _ _ _ _; refine YK.ofV vAuto ?_)
    | (show VK _ _ _ _ _ _ _; refine VK.mk vAuto ?_)
    | (show RS _ _ _ _ _ _ _ _; first | (refine nxRS ?_) | (refine nxRS1 fun _ => ?_))
    | (show RM _ _ _ _ _ _ _ _ _ _; first | (refine nxRM ?_) | (refine nxRM1 fun _ => ?_))
    | (show YG _ _ _ _ _ _ _ _; refine YG.mk (fun hb => by (try (have hc := And.left hb; have hb := And.right hb; rw [hc])); (try rw [hb]); first | exact (y_callA (q1) ⟨rfl, rfl⟩) | exact (y_callRA (q) ⟨rfl, rfl⟩) | exact V.y vAuto) ?_)
    | (show VG _ _ _ _ _ _ _ _; refine VG.mk (fun hb => by (try (have hc := And.left hb; have hb := And.right hb; rw [hc])); (try rw [hb]); exact vAuto) ?_)
    | (refine nxX ?_)
    | (refine G.condN rfl (fun hc => ?_) (fun hc => ?_) <;> (try first | exact False.elim hc | (exfalso; omega))))
       all_goals first | (exfalso; omega) | exact X.retN (vs := [_, _]) ((z, rs, []) : ShX) rfl ⟨⟨_, _, _, _, rfl, (by exact memA), (by (repeat (first | exact .nil | apply LenIs.cons))), by decide +kernel, rfl⟩, rfl, rfl⟩ rfl (ShX.self z rs) rfl NewIn.nil)
theorem rregion_ok {la lo u m : Int} {wd : Nat} {v : Value} {l : List RR.CellT} {z : Sl} {rs : List (Sl × List Int)} (hm : (decide (33 ≤ m) && decide (m ≤ 126)) = true) (q : ContR Tryz.prog [Hl.rd v cT 3 l] 45 [v] (.bool true)) (okl : ∀ x ∈ l, RR.okC x) (hll : l.length ≤ 4000) (hla : -4800000 ≤ la ∧ la ≤ 4800000) (hlo : -10800000 ≤ lo ∧ lo < 10800000) (hu : 2 ≤ u ∧ u ≤ 100000) (hw : 11 ≤ wd ∧ wd ≤ 121) (hn : rs.length = 2 * ((wd - 1) / 4) + 1) (hl : ∀ r ∈ rs, r.2.length = wd) :
    ContXI Tryz.prog (fun w => RsW z rs w ∧ RO w v 3 l.length (l.flatMap cT)) 11 [rshV la lo u (wd : Int) z.v, v, .int .u8 m] (ShX.Ok z rs (mkM (regSel wd rs.length la lo u (TT.cosE la la).1 l) m 0 (rs.map Prod.snd))) (fun x => .tuple [rshV la lo u (wd : Int) x.1.v, .int .i64 0].toArray) (fun x => x.2.2) := fun w hs2 => by
  obtain ⟨hs, hro⟩ := hs2
  have q1 := rright_c (m := m)
  rw [hm] at q1
  have hM : ∀ r ∈ rs.map Prod.snd, r.length = wd := fun r hr => by
    obtain ⟨y, hy, rfl⟩ := List.mem_map.1 hr
    exact hl y hy
  have hMl : (rs.map Prod.snd).length = rs.length := List.length_map _
  refine enter Tryz.func11 rfl rfl rfl (Hp := [Hl.rd v cT 3 l]) (fun h hm => by
    rcases List.mem_singleton.1 hm with rfl
    exact ⟨⟨hro, fun h => by cases h⟩, rfl⟩) ?_
  repeat' (first
    | (refine nxN ?_)
    | (show YK _ _ _ _ _ _ _; first | refine YK.mk (y_callA (q1) ⟨rfl, rfl⟩) ?_ | refine YK.mk (y_callRA (q) ⟨rfl, rfl⟩) ?_)
    | (show YK _ _ _ _ _ _ _; refine YK.ofV vAuto ?_)
    | (show VK _ _ _ _ _ _ _; refine VK.mk vAuto ?_)
    | (show RS _ _ _ _ _ _ _ _; first | (refine nxRS ?_) | (refine nxRS1 fun _ => ?_))
    | (show RM _ _ _ _ _ _ _ _ _ _; first | (refine nxRM ?_) | (refine nxRM1 fun _ => ?_))
    | (show YG _ _ _ _ _ _ _ _; refine YG.mk (fun hb => by (try (have hc := And.left hb; have hb := And.right hb; rw [hc])); (try rw [hb]); first | exact (y_callA (q1) ⟨rfl, rfl⟩) | exact (y_callRA (q) ⟨rfl, rfl⟩) | exact V.y vAuto) ?_)
    | (show VG _ _ _ _ _ _ _ _; refine VG.mk (fun hb => by (try (have hc := And.left hb; have hb := And.right hb; rw [hc])); (try rw [hb]); exact vAuto) ?_)
    | (refine nxX ?_)
    | (refine G.condN rfl (fun hc => ?_) (fun hc => ?_) <;> (try first | exact False.elim hc | (exfalso; omega))))
  all_goals first | (exfalso; revert hc; simp; done) | skip
  rename_i b3 b6
  refine G.loop (ι := ShX × Nat) (fun y => [(1, v), (2, .int .u8 m), (3, ptS b3), (6, ptS b6), (8, .int .i64 (y.2 : Int))]) (fun y => Hl.blk b6 38 [.int .i64 0, .int .i64 0, .int .i64 0, .int .i64 0, .slice none 0 0] :: rshB b3 la lo u wd y.1.1.v :: Hl.rd v cT 3 l :: y.1.2.2) (fun y => ShX.Ok z rs (mkM (upTo (regSel wd rs.length la lo u (TT.cosE la la).1 l) y.2 0) m 0 (rs.map Prod.snd)) y.1 ∧ y.2 ≤ rs.length) (fun y => rs.length - y.2) ((z, rs, []), 0) ⟨by rw [mkM_start hM]; exact ShX.self z rs, Nat.zero_le _⟩ ⟨rfl, rfl, rfl, rfl, rfl, trivial⟩ (fun w' h => h.sub (by repeat (first | exact List.Sublist.refl _ | exact List.nil_sublist _ | apply List.Sublist.cons_cons | apply List.Sublist.cons))) ?_
  rintro ⟨x, j⟩ mx ⟨g1, g2⟩ hmx
  dsimp only at g1 g2 hmx ⊢
  refine G.fact (fun w' hw' => (g1.rd _ _ (hs.keep hw'.ext) (fun h hm => hw'.all h (.tail _ (.tail _ (.tail _ hm))))).n) (fun hxn => ?_)
  have hxl := g1.len
  rcases Nat.lt_or_ge j rs.length with hj | hj
  · repeat' (first
    | (refine nxN ?_)
    | (show VK _ _ _ _ _ ⟨_, .call { callee := .builtin .len, args := _, argTypes := #[36] }, _, _, _, _⟩ _; refine VK.mk (y_lenV (by rfl) (by decide +kernel)) ?_)
    | (show YK _ _ _ _ _ ⟨_, .call { callee := .builtin .len, args := _, argTypes := #[36] }, _, _, _, _⟩ _; refine YK.ofV (y_lenV (by rfl) (by decide +kernel)) ?_)
    | (show VG _ _ _ _ _ _ ⟨_, .call { callee := .builtin .len, args := _, argTypes := #[36] }, _, _, _, _⟩ _; refine VG.mk (fun hb => by (try (have hc := And.left hb; have hb := And.right hb; rw [hc])); (try rw [hb]); exact y_lenV (by rfl) (by decide +kernel)) ?_)
    | (show YG _ _ _ _ _ _ ⟨_, .call { callee := .builtin .len, args := _, argTypes := #[36] }, _, _, _, _⟩ _; refine YG.mk (fun hb => by (try (have hc := And.left hb; have hb := And.right hb; rw [hc])); (try rw [hb]); exact V.y (y_lenV (by rfl) (by decide +kernel))) ?_)
    | (refine nxV ?_)
    | (show RS _ _ _ _ _ _ _ _; first | (refine nxRS ?_) | (refine nxRS1 fun _ => ?_))
    | (show RM _ _ _ _ _ _ _ _ _ _; first | (refine nxRM ?_) | (refine nxRM1 fun _ => ?_))
    | (refine nxG ?_)
    | (refine nxX ?_)
    | (refine G.condN rfl (fun hc => ?_) (fun hc => ?_) <;> (try first | exact False.elim hc | (exfalso; omega))))
    all_goals first | (exfalso; omega) | skip
    refine G.loop (ι := ShX × Nat) (fun y => [(1, v), (2, .int .u8 m), (3, ptS b3), (6, ptS b6), (8, .int .i64 (j : Int)), (9, .int .i64 (y.2 : Int))]) (fun y => Hl.blk b6 38 [.int .i64 0, .int .i64 0, .int .i64 0, .int .i64 0, .slice none 0 0] :: rshB b3 la lo u wd y.1.1.v :: Hl.rd v cT 3 l :: y.1.2.2) (fun y => ShX.Ok z rs (mkM (upTo (regSel wd rs.length la lo u (TT.cosE la la).1 l) j y.2) m 0 (rs.map Prod.snd)) y.1 ∧ y.2 ≤ wd) (fun y => wd - y.2) (x, 0) ⟨g1, Nat.zero_le _⟩ ⟨rfl, rfl, rfl, rfl, rfl, rfl, trivial⟩ (fun w' h => h.sub (by repeat (first | exact List.Sublist.refl _ | exact List.nil_sublist _ | apply List.Sublist.cons_cons | apply List.Sublist.cons))) ?_
    rintro ⟨y, i⟩ mx2 ⟨k1, k2⟩ hmx2
    dsimp only at k1 k2 hmx2 ⊢
    have hyl := k1.len
    rcases Nat.lt_or_ge i wd with hi | hi
    · refine G.fact (fun w' hw' => (k1.rd _ _ (hs.keep hw'.ext) (fun h hm => hw'.all h (.tail _ (.tail _ (.tail _ hm))))).n) (fun hyn => ?_)
      have qd := rdrawn_c (la := la) (lo := lo) (u := u) (wd' := (wd : Int)) (m := m) (z := y.1) (k1.wd hM) (by omega) (by omega) hi (show j < y.2.1.length by omega)
      rw [k1.mat] at qd
      have qp := rpoint_c (z := y.1) (lo := lo) (i := (i : Int)) (j := (j : Int)) hla hlo hu hw hn (hyn.trans hyl) (by omega) (by omega)
      have hpo := pnt_ok (wd := wd) (h := rs.length) (la := la) (lo := lo) (u := u) (cs := (TT.cosE la la).1) (i := (i : Int)) (j := (j : Int))
      have hse : regSel wd rs.length la lo u (TT.cosE la la).1 l i j = (decide ((pntI wd rs.length la lo u (TT.cosE la la).1 i j).2.2 = 0) && conB l (pntI wd rs.length la lo u (TT.cosE la la).1 i j).1 (pntI wd rs.length la lo u (TT.cosE la la).1 i j).2.1) := rfl
      generalize pntI wd rs.length la lo u (TT.cosE la la).1 i j = T at *
      obtain ⟨t1, t2, t3⟩ := T
      dsimp only at qp hpo hse
      by_cases h0 : t3 = 0
      · have qc := rcon_c v l okl hll (hpo h0)
        subst h0
        cases hcn : conB l t1 t2 <;> rw [hcn] at qc hse
        · repeat' (first
    | (refine nxN ?_)
    | (show YK _ _ _ _ _ _ _; first | refine YK.mk (y_callA (qp) ⟨rfl, rfl, rfl, rfl⟩) ?_ | refine YK.mk (y_callRA (qc) ⟨rfl, rfl, rfl⟩) ?_)
    | (show YK _ _ _ _ _ _ _; refine YK.ofV vAuto ?_)
    | (show VK _ _ _ _ _ _ _; refine VK.mk vAuto ?_)
    | (show RS _ _ _ _ _ _ _ _; first | (refine nxRS ?_) | (refine nxRS1 fun _ => ?_))
    | (show RM _ _ _ _ _ _ _ _ _ _; first | (refine nxRM ?_) | (refine nxRM1 fun _ => ?_))
    | (show YG _ _ _ _ _ _ _ _; refine YG.mk (fun hb => by (try (have hc := And.left hb; have hb := And.right hb; rw [hc])); (try rw [hb]); first | exact (y_callA (qp) ⟨rfl, rfl, rfl, rfl⟩) | exact (y_callRA (qc) ⟨rfl, rfl, rfl⟩) | exact V.y vAuto) ?_)
    | (show VG _ _ _ _ _ _ _ _; refine VG.mk (fun hb => by (try (have hc := And.left hb; have hb := And.right hb; rw [hc])); (try rw [hb]); exact vAuto) ?_)
    | (refine nxX ?_)
    | (refine G.condN rfl (fun hc => ?_) (fun hc => ?_) <;> (try first | exact False.elim hc | (exfalso; omega))))
          all_goals first | (exfalso; simp at hc; done) | (exfalso; omega) | exact X.again (y, i + 1) ⟨by dsimp only; rw [← mkM_skip hM (by rw [hse]; simp)]; exact k1, by dsimp only; omega⟩ (by dsimp only; omega) ⟨rfl, rfl, rfl, rfl, rfl, rfl, trivial⟩ (fun w' h => h.sub (by repeat (first | exact List.Sublist.refl _ | exact List.nil_sublist _ | apply List.Sublist.cons_cons | apply List.Sublist.cons)))
        · repeat' (first
    | (refine nxN ?_)
    | (show RS _ _ _ _ _ _ _ (⟨some 52, _, _, _, _, _⟩ :: _); refine RS.callI qd ⟨rfl, rfl, rfl, rfl, rfl⟩ (fun w' hw' => k1.rd _ _ (hs.keep hw'.ext) (fun h hm => hw'.all h (.tail _ (.tail _ (.tail _ (.tail _ hm)))))) ?_; rintro x2 hx2; refine RS.permH ?_ List.perm_append_comm; dsimp only [List.cons_append, List.nil_append])
    | (show YK _ _ _ _ _ _ _; first | refine YK.mk (y_callA (qp) ⟨rfl, rfl, rfl, rfl⟩) ?_ | refine YK.mk (y_callRA (qc) ⟨rfl, rfl, rfl⟩) ?_)
    | (show YK _ _ _ _ _ _ _; refine YK.ofV vAuto ?_)
    | (show VK _ _ _ _ _ _ _; refine VK.mk vAuto ?_)
    | (show RS _ _ _ _ _ _ _ _; first | (refine nxRS ?_) | (refine nxRS1 fun _ => ?_))
    | (show RM _ _ _ _ _ _ _ _ _ _; first | (refine nxRM ?_) | (refine nxRM1 fun _ => ?_))
    | (show YG _ _ _ _ _ _ _ _; refine YG.mk (fun hb => by (try (have hc := And.left hb; have hb := And.right hb; rw [hc])); (try rw [hb]); first | exact (y_callA (qp) ⟨rfl, rfl, rfl, rfl⟩) | exact (y_callRA (qc) ⟨rfl, rfl, rfl⟩) | exact V.y vAuto) ?_)
    | (show VG _ _ _ _ _ _ _ _; refine VG.mk (fun hb => by (try (have hc := And.left hb; have hb := And.right hb; rw [hc])); (try rw [hb]); exact vAuto) ?_)
    | (refine nxX ?_)
    | (refine G.condN rfl (fun hc => ?_) (fun hc => ?_) <;> (try first | exact False.elim hc | (exfalso; omega))))
          all_goals first | (exfalso; simp at hc; done) | (exfalso; omega) | skip
          all_goals first | (rw [mkM_step hM hi (show j < (rs.map Prod.snd).length by omega) (by rw [hse]; simp)] at hx2
                             exact X.again ((x2.1, x2.2.1, y.2.2 ++ x2.2.2), i + 1) ⟨k1.thenR hx2, by dsimp only; omega⟩ (by dsimp only; omega) ⟨rfl, rfl, rfl, rfl, rfl, rfl, trivial⟩ (fun w' h => h.sub (by repeat (first | exact List.Sublist.refl _ | exact List.nil_sublist _ | apply List.Sublist.cons_cons | apply List.Sublist.cons))))
      · repeat' (first
    | (refine nxN ?_)
    | (show YG _ _ _ _ _ _ ⟨some 46, _, _, _, _, _⟩ _; refine YG.mk (v := .bool false) (fun hb => absurd (of_decide_eq_true hb) h0) ?_)
    | (show YK _ _ _ _ _ _ _; first | refine YK.mk (y_callA (qp) ⟨rfl, rfl, rfl, rfl⟩) ?_)
    | (show YK _ _ _ _ _ _ _; refine YK.ofV vAuto ?_)
    | (show VK _ _ _ _ _ _ _; refine VK.mk vAuto ?_)
    | (show RS _ _ _ _ _ _ _ _; first | (refine nxRS ?_) | (refine nxRS1 fun _ => ?_))
    | (show RM _ _ _ _ _ _ _ _ _ _; first | (refine nxRM ?_) | (refine nxRM1 fun _ => ?_))
    | (show YG _ _ _ _ _ _ _ _; refine YG.mk (fun hb => by (try (have hc := And.left hb; have hb := And.right hb; rw [hc])); (try rw [hb]); first | exact (y_callA (qp) ⟨rfl, rfl, rfl, rfl⟩) | exact V.y vAuto) ?_)
    | (show VG _ _ _ _ _ _ _ _; refine VG.mk (fun hb => by (try (have hc := And.left hb; have hb := And.right hb; rw [hc])); (try rw [hb]); exact vAuto) ?_)
    | (refine nxX ?_)
    | (refine G.condN rfl (fun hc => ?_) (fun hc => ?_) <;> (try first | exact False.elim hc | (exfalso; omega))))
        all_goals first | (exfalso; simp at hc; done) | (exfalso; omega) | exact X.again (y, i + 1) ⟨by dsimp only; rw [← mkM_skip hM (by rw [hse]; simp [h0])]; exact k1, by dsimp only; omega⟩ (by dsimp only; omega) ⟨rfl, rfl, rfl, rfl, rfl, rfl, trivial⟩ (fun w' h => h.sub (by repeat (first | exact List.Sublist.refl _ | exact List.nil_sublist _ | apply List.Sublist.cons_cons | apply List.Sublist.cons)))
    · obtain rfl : i = wd := by omega
      repeat' (first
    | (refine nxN ?_)
    | (refine nxV ?_)
    | (show RS _ _ _ _ _ _ _ _; first | (refine nxRS ?_) | (refine nxRS1 fun _ => ?_))
    | (show RM _ _ _ _ _ _ _ _ _ _; first | (refine nxRM ?_) | (refine nxRM1 fun _ => ?_))
    | (refine nxG ?_)
    | (refine nxX ?_)
    | (refine G.condN rfl (fun hc => ?_) (fun hc => ?_) <;> (try first | exact False.elim hc | (exfalso; omega))))
      all_goals first | (exfalso; omega) | exact X.again (y, j + 1) ⟨by dsimp only; rw [← mkM_row hM]; exact k1, by dsimp only; omega⟩ (by dsimp only; omega) ⟨rfl, rfl, rfl, rfl, rfl, trivial⟩ (fun w' h => h.sub (by repeat (first | exact List.Sublist.refl _ | exact List.nil_sublist _ | apply List.Sublist.cons_cons | apply List.Sublist.cons)))
  · obtain rfl : j = rs.length := by omega
    have hA := mkM_all (sel := (regSel wd rs.length la lo u (TT.cosE la la).1 l)) (m := m) hM
    rw [hMl] at hA
    rw [hA] at g1
    repeat' (first
    | (refine nxN ?_)
    | (show VK _ _ _ _ _ ⟨_, .call { callee := .builtin .len, args := _, argTypes := #[36] }, _, _, _, _⟩ _; refine VK.mk (y_lenV (by rfl) (by decide +kernel)) ?_)
    | (show YK _ _ _ _ _ ⟨_, .call { callee := .builtin .len, args := _, argTypes := #[36] }, _, _, _, _⟩ _; refine YK.ofV (y_lenV (by rfl) (by decide +kernel)) ?_)
    | (show VG _ _ _ _ _ _ ⟨_, .call { callee := .builtin .len, args := _, argTypes := #[36] }, _, _, _, _⟩ _; refine VG.mk (fun hb => by (try (have hc := And.left hb; have hb := And.right hb; rw [hc])); (try rw [hb]); exact y_lenV (by rfl) (by decide +kernel)) ?_)
    | (show YG _ _ _ _ _ _ ⟨_, .call { callee := .builtin .len, args := _, argTypes := #[36] }, _, _, _, _⟩ _; refine YG.mk (fun hb => by (try (have hc := And.left hb; have hb := And.right hb; rw [hc])); (try rw [hb]); exact V.y (y_lenV (by rfl) (by decide +kernel))) ?_)
    | (refine nxV ?_)
    | (show RS _ _ _ _ _ _ _ _; first | (refine nxRS ?_) | (refine nxRS1 fun _ => ?_))
    | (show RM _ _ _ _ _ _ _ _ _ _; first | (refine nxRM ?_) | (refine nxRM1 fun _ => ?_))
    | (refine nxG ?_)
    | (refine nxX ?_)
    | (refine G.condN rfl (fun hc => ?_) (fun hc => ?_) <;> (try first | exact False.elim hc | (exfalso; omega))))
    all_goals first | (exfalso; omega) | exact X.retN (vs := [_, _]) x rfl ⟨⟨_, _, _, _, rfl, (by exact memA), (by (repeat (first | exact .nil | apply LenIs.cons))), by decide +kernel, rfl⟩, rfl, rfl⟩ rfl g1 rfl (NewIn.of_mem (fun h hm => .tail _ (.tail _ (.tail _ hm))) g1.new)
end Go.Proofs.YthilhhegchmjeaaGreat
