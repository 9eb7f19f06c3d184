/- Joined texts: Made, Mad2, AwkP, Awk49. -/
import Derived.Test.YthilhhegchmjeaaGreatWp
import Derived.Test.YthilhhegchmjeaaGreatWg
/- Sheets refused; the reference's sheet; law 49's made. -/
set_option linter.unusedVariables false
set_option maxHeartbeats 8000000
namespace Go.Proofs.YthilhhegchmjeaaGreat
open Go.RowKit
theorem cos_lo {la : Int} (h : -4800000 ≤ la ∧ la ≤ 4800000) : 1 ≤ (TT.cosE la la).1 ∧ (TT.cosE la la).1 ≤ 1073741824 := by
  have hb := TT.cosE_bd (lo := la) (hi := la) (Int.le_refl _) (by omega)
  refine ⟨?_, by omega⟩
  have k : 1 ≤ (TT.bnd 600000).1 := by decide +kernel
  have e : (TT.cosE la la).1 = (TT.bnd (la + 5400000)).1 := by
    unfold TT.cosE TT.encl
    have hm : TT.meetsI (la + 5400000) (la + 5400000) 16200000 = false := by
      unfold TT.meetsI
      apply decide_eq_false
      have : TT.turnI (16200000 - (la + 5400000)) = 16200000 - (la + 5400000) := Int.emod_eq_of_lt (by omega) (by omega)
      rw [this]; omega
    dsimp only
    rw [hm, if_neg (by decide)]
    omega
  rw [e]
  by_cases hl : la ≤ 0
  · have := (TT.bnd_mono (n := 600000) (m := la + 5400000) (by omega) (by omega) (by omega)).2
    omega
  · rw [TT.bnd_half (n := la + 5400000) (by omega) (by omega)]
    have := (TT.bnd_mono (n := 600000) (m := 10800000 - (la + 5400000)) (by omega) (by omega) (by omega)).2
    omega
/-- Is there a sheet, and what is the error? -/
def newE (la lo u wd : Int) : Int := if (pointB la lo && decide (-4800000 ≤ la) && decide (la ≤ 4800000)) = true then (if 2 ≤ u ∧ u ≤ 100000 ∧ 11 ≤ wd ∧ wd ≤ 121 ∧ wd % 2 = 1 then 0 else 2) else 1
theorem new_no {la lo u wd e : Int} (he : newE la lo u wd = e) (h0 : e ≠ 0) : Cont Tryz.prog 16 [ptV la lo, .int .i64 u, .int .i64 wd] (.tuple [.pointer none, .int .i64 e].toArray) := fun w => by
  have q1 := vpoint_c la lo
  unfold newE at he
  cases hp : pointB la lo with
  | false =>
    rw [hp] at q1
    have he' : e = 1 := by rw [← he, hp]; rfl
    subst he'
    refine enter0 Tryz.func16 rfl rfl rfl ?_
    repeat' (first
    | (refine nxN ?_)
    | (show YG _ _ _ _ _ _ ⟨some 18, _, _, _, _, _⟩ _; refine YG.mk (fun hb => by cases hb) ?_)
    | (show YK _ _ _ _ _ _ _; first | refine YK.mk (y_callA (q1) ⟨rfl, rfl⟩) ?_)
    | (show YK _ _ _ _ _ _ _; refine YK.ofV vAuto ?_)
    | (show VK _ _ _ _ _ _ _; refine VK.mk vAuto ?_)
    | (show RS _ _ _ _ _ _ _ _; first | (refine nxRS ?_) | (refine nxRS1 fun _ => ?_))
    | (show RM _ _ _ _ _ _ _ _ _ _; first | (refine nxRM ?_) | (refine nxRM1 fun _ => ?_))
    | (show YG _ _ _ _ _ _ _ _; refine YG.mk (fun hb => by (try (have hc := And.left hb; have hb := And.right hb; rw [hc])); (try rw [hb]); first | exact (y_callA (q1) ⟨rfl, rfl⟩) | exact V.y vAuto) ?_)
    | (show VG _ _ _ _ _ _ _ _; refine VG.mk (fun hb => by (try (have hc := And.left hb; have hb := And.right hb; rw [hc])); (try rw [hb]); exact vAuto) ?_)
    | (refine G.mixedA 11 [.go 0, .go 1, .go 2, .go 3, .go 4, .go 6, .go 5, .go 7, .go 8, .go 9, .go 10, .go 11, .go 12] ?_)
    | (refine nxX ?_)
    | (refine G.condN rfl (fun hc => ?_) (fun hc => ?_) <;> (try first | exact False.elim hc | (exfalso; omega))))
    all_goals first | exact X.ret (vs := [_, _]) rfl ⟨rfl, rfl, rfl⟩ rfl (fun w hw => ⟨rfl, hw.ext⟩)
  | true =>
    rw [hp] at q1
    have hp2 : -5400000 ≤ la ∧ la ≤ 5400000 := by
      unfold pointB at hp
      simp only [Bool.and_eq_true, decide_eq_true_eq] at hp
      omega
    have q2 := psize_c (a := la) (by omega)
    by_cases hl : -4800000 ≤ la ∧ la ≤ 4800000
    · rw [hp, decide_eq_true hl.1, decide_eq_true hl.2, if_pos (by decide)] at he
      have hc : ¬ (2 ≤ u ∧ u ≤ 100000 ∧ 11 ≤ wd ∧ wd ≤ 121 ∧ wd % 2 = 1) := fun g => h0 (by rw [← he, if_pos g])
      rw [if_neg hc] at he
      subst he
      refine enter0 Tryz.func16 rfl rfl rfl ?_
      repeat' (first
    | (refine nxN ?_)
    | (show YK _ _ _ _ _ _ _; first | refine YK.mk (y_callA (q1) ⟨rfl, rfl⟩) ?_ | refine YK.mk (y_callA (q2) ⟨rfl, rfl⟩) ?_)
    | (show YK _ _ _ _ _ _ _; refine YK.ofV vAuto ?_)
    | (show VK _ _ _ _ _ _ _; refine VK.mk vAuto ?_)
    | (show RS _ _ _ _ _ _ _ _; first | (refine nxRS ?_) | (refine nxRS1 fun _ => ?_))
    | (show RM _ _ _ _ _ _ _ _ _ _; first | (refine nxRM ?_) | (refine nxRM1 fun _ => ?_))
    | (show YG _ _ _ _ _ _ _ _; refine YG.mk (fun hb => by (try (have hc := And.left hb; have hb := And.right hb; rw [hc])); (try rw [hb]); first | exact (y_callA (q1) ⟨rfl, rfl⟩) | exact (y_callA (q2) ⟨rfl, rfl⟩) | exact V.y vAuto) ?_)
    | (show VG _ _ _ _ _ _ _ _; refine VG.mk (fun hb => by (try (have hc := And.left hb; have hb := And.right hb; rw [hc])); (try rw [hb]); exact vAuto) ?_)
    | (refine G.mixedA 11 [.go 0, .go 1, .go 2, .go 3, .go 4, .go 6, .go 5, .go 7, .go 8, .go 9, .go 10, .go 11, .go 12] ?_)
    | (refine nxX ?_)
    | (refine G.condN rfl (fun hc => ?_) (fun hc => ?_) <;> (try first | exact False.elim hc | (exfalso; omega))))
      all_goals first | (exfalso; omega) | exact X.ret (vs := [_, _]) rfl ⟨rfl, rfl, rfl⟩ rfl (fun w hw => ⟨rfl, hw.ext⟩)
    · have he' : e = 1 := by
        rw [← he, hp, if_neg]
        simp only [Bool.true_and, Bool.and_eq_true, decide_eq_true_eq]
        exact hl
      subst he'
      refine enter0 Tryz.func16 rfl rfl rfl ?_
      repeat' (first
    | (refine nxN ?_)
    | (show YK _ _ _ _ _ _ _; first | refine YK.mk (y_callA (q1) ⟨rfl, rfl⟩) ?_ | refine YK.mk (y_callA (q2) ⟨rfl, rfl⟩) ?_)
    | (show YK _ _ _ _ _ _ _; refine YK.ofV vAuto ?_)
    | (show VK _ _ _ _ _ _ _; refine VK.mk vAuto ?_)
    | (show RS _ _ _ _ _ _ _ _; first | (refine nxRS ?_) | (refine nxRS1 fun _ => ?_))
    | (show RM _ _ _ _ _ _ _ _ _ _; first | (refine nxRM ?_) | (refine nxRM1 fun _ => ?_))
    | (show YG _ _ _ _ _ _ _ _; refine YG.mk (fun hb => by (try (have hc := And.left hb; have hb := And.right hb; rw [hc])); (try rw [hb]); first | exact (y_callA (q1) ⟨rfl, rfl⟩) | exact (y_callA (q2) ⟨rfl, rfl⟩) | exact V.y vAuto) ?_)
    | (show VG _ _ _ _ _ _ _ _; refine VG.mk (fun hb => by (try (have hc := And.left hb; have hb := And.right hb; rw [hc])); (try rw [hb]); exact vAuto) ?_)
    | (refine G.mixedA 11 [.go 0, .go 1, .go 2, .go 3, .go 4, .go 6, .go 5, .go 7, .go 8, .go 9, .go 10, .go 11, .go 12] ?_)
    | (refine nxX ?_)
    | (refine G.condN rfl (fun hc => ?_) (fun hc => ?_) <;> (try first | exact False.elim hc | (exfalso; omega))))
      all_goals first | (exfalso; omega) | exact X.ret (vs := [_, _]) rfl ⟨rfl, rfl, rfl⟩ rfl (fun w hw => ⟨rfl, hw.ext⟩)
theorem rvpoint_c (la lo : Int) : Cont Tryz.prog 61 [ptV la lo] (.bool (pointB la lo)) := fun w => by
  refine enter0 Tryz.func61 rfl rfl rfl ?_
  repeat' (first
    | (refine nxV ?_)
    | (show RS _ _ _ _ _ _ _ _; first | (refine nxRS ?_) | (refine nxRS1 fun _ => ?_))
    | (show RM _ _ _ _ _ _ _ _ _ _; first | (refine nxRM ?_) | (refine nxRM1 fun _ => ?_))
    | (refine nxG ?_)
    | (refine nxX ?_)
    | (refine G.condN rfl (fun hc => ?_) (fun hc => ?_) <;> (try first | exact False.elim hc | (exfalso; omega))))
  exact X.ret (vs := [_]) rfl ⟨rfl, rfl⟩ rfl (fun w hw => ⟨rfl, hw.ext⟩)
abbrev rshV (la lo u wd : Int) (z : Value) : Value := .agg [.int .i64 la, .int .i64 lo, .int .i64 u, .int .i64 wd, z].toArray
theorem rnew_no {la lo u wd e : Int} (he : newE la lo u wd = e) (h0 : e ≠ 0) : Cont Tryz.prog 20 [ptV la lo, .int .i64 u, .int .i64 wd] (.tuple [rshV 0 0 0 0 (.slice none 0 0), .int .i64 e].toArray) := fun w => by
  have q1 := rvpoint_c la lo
  unfold newE at he
  cases hp : pointB la lo with
  | false =>
    rw [hp] at q1
    have he' : e = 1 := by rw [← he, hp]; rfl
    subst he'
    refine enter0 Tryz.func20 rfl rfl rfl ?_
    repeat' (first
    | (refine nxN ?_)
    | (show YK _ _ _ _ _ ⟨_, .build 38 #[], _, _, _, _⟩ _; refine YK.ofV (y_build0 (cs := [.int .i64 0, .int .i64 0, .int .i64 0, .int .i64 0, .slice none 0 0]) (by kernel_rfl) (by kernel_rfl)) ?_)
    | (show YK _ _ _ _ _ _ _; first | refine YK.mk (y_callA (q1) ⟨rfl, rfl⟩) ?_)
    | (show YK _ _ _ _ _ _ _; refine YK.ofV vAuto ?_)
    | (show VK _ _ _ _ _ _ _; refine VK.mk vAuto ?_)
    | (show RS _ _ _ _ _ _ _ _; first | (refine nxRS ?_) | (refine nxRS1 fun _ => ?_))
    | (show RM _ _ _ _ _ _ _ _ _ _; first | (refine nxRM ?_) | (refine nxRM1 fun _ => ?_))
    | (show YG _ _ _ _ _ _ _ _; refine YG.mk (fun hb => by (try (have hc := And.left hb; have hb := And.right hb; rw [hc])); (try rw [hb]); first | exact (y_callA (q1) ⟨rfl, rfl⟩) | exact V.y vAuto) ?_)
    | (show VG _ _ _ _ _ _ _ _; refine VG.mk (fun hb => by (try (have hc := And.left hb; have hb := And.right hb; rw [hc])); (try rw [hb]); exact vAuto) ?_)
    | (refine nxX ?_)
    | (refine G.condN rfl (fun hc => ?_) (fun hc => ?_) <;> (try first | exact False.elim hc | (exfalso; omega))))
    all_goals exact X.ret (vs := [_, _]) rfl ⟨⟨_, _, _, _, rfl, (by exact memA), (by (repeat (first | exact .nil | apply LenIs.cons))), by decide +kernel, rfl⟩, rfl, rfl⟩ rfl (fun w hw => ⟨rfl, hw.ext⟩)
  | true =>
    rw [hp] at q1
    by_cases hl : -4800000 ≤ la ∧ la ≤ 4800000
    · rw [hp, decide_eq_true hl.1, decide_eq_true hl.2, if_pos (by decide)] at he
      have hc : ¬ (2 ≤ u ∧ u ≤ 100000 ∧ 11 ≤ wd ∧ wd ≤ 121 ∧ wd % 2 = 1) := fun g => h0 (by rw [← he, if_pos g])
      rw [if_neg hc] at he
      subst he
      refine enter0 Tryz.func20 rfl rfl rfl ?_
      repeat' (first
    | (refine nxN ?_)
    | (show YK _ _ _ _ _ ⟨_, .build 38 #[], _, _, _, _⟩ _; refine YK.ofV (y_build0 (cs := [.int .i64 0, .int .i64 0, .int .i64 0, .int .i64 0, .slice none 0 0]) (by kernel_rfl) (by kernel_rfl)) ?_)
    | (show YK _ _ _ _ _ _ _; first | refine YK.mk (y_callA (q1) ⟨rfl, rfl⟩) ?_)
    | (show YK _ _ _ _ _ _ _; refine YK.ofV vAuto ?_)
    | (show VK _ _ _ _ _ _ _; refine VK.mk vAuto ?_)
    | (show RS _ _ _ _ _ _ _ _; first | (refine nxRS ?_) | (refine nxRS1 fun _ => ?_))
    | (show RM _ _ _ _ _ _ _ _ _ _; first | (refine nxRM ?_) | (refine nxRM1 fun _ => ?_))
    | (show YG _ _ _ _ _ _ _ _; refine YG.mk (fun hb => by (try (have hc := And.left hb; have hb := And.right hb; rw [hc])); (try rw [hb]); first | exact (y_callA (q1) ⟨rfl, rfl⟩) | exact V.y vAuto) ?_)
    | (show VG _ _ _ _ _ _ _ _; refine VG.mk (fun hb => by (try (have hc := And.left hb; have hb := And.right hb; rw [hc])); (try rw [hb]); exact vAuto) ?_)
    | (refine nxX ?_)
    | (refine G.condN rfl (fun hc => ?_) (fun hc => ?_) <;> (try first | exact False.elim hc | (exfalso; omega))))
      all_goals first | (exfalso; omega) | exact X.ret (vs := [_, _]) rfl ⟨⟨_, _, _, _, rfl, (by exact memA), (by (repeat (first | exact .nil | apply LenIs.cons))), by decide +kernel, rfl⟩, rfl, rfl⟩ rfl (fun w hw => ⟨rfl, hw.ext⟩)
    · have he' : e = 1 := by
        rw [← he, hp, if_neg]
        simp only [Bool.true_and, Bool.and_eq_true, decide_eq_true_eq]
        exact hl
      subst he'
      refine enter0 Tryz.func20 rfl rfl rfl ?_
      repeat' (first
    | (refine nxN ?_)
    | (show YK _ _ _ _ _ ⟨_, .build 38 #[], _, _, _, _⟩ _; refine YK.ofV (y_build0 (cs := [.int .i64 0, .int .i64 0, .int .i64 0, .int .i64 0, .slice none 0 0]) (by kernel_rfl) (by kernel_rfl)) ?_)
    | (show YK _ _ _ _ _ _ _; first | refine YK.mk (y_callA (q1) ⟨rfl, rfl⟩) ?_)
    | (show YK _ _ _ _ _ _ _; refine YK.ofV vAuto ?_)
    | (show VK _ _ _ _ _ _ _; refine VK.mk vAuto ?_)
    | (show RS _ _ _ _ _ _ _ _; first | (refine nxRS ?_) | (refine nxRS1 fun _ => ?_))
    | (show RM _ _ _ _ _ _ _ _ _ _; first | (refine nxRM ?_) | (refine nxRM1 fun _ => ?_))
    | (show YG _ _ _ _ _ _ _ _; refine YG.mk (fun hb => by (try (have hc := And.left hb; have hb := And.right hb; rw [hc])); (try rw [hb]); first | exact (y_callA (q1) ⟨rfl, rfl⟩) | exact V.y vAuto) ?_)
    | (show VG _ _ _ _ _ _ _ _; refine VG.mk (fun hb => by (try (have hc := And.left hb; have hb := And.right hb; rw [hc])); (try rw [hb]); exact vAuto) ?_)
    | (refine nxX ?_)
    | (refine G.condN rfl (fun hc => ?_) (fun hc => ?_) <;> (try first | exact False.elim hc | (exfalso; omega))))
      all_goals first | (exfalso; omega) | exact X.ret (vs := [_, _]) rfl ⟨⟨_, _, _, _, rfl, (by exact memA), (by (repeat (first | exact .nil | apply LenIs.cons))), by decide +kernel, rfl⟩, rfl, rfl⟩ rfl (fun w hw => ⟨rfl, hw.ext⟩)
theorem built_rsh (la lo u wd : Int) : Tryz.prog.built 38 [(0, .agg [.int .i64 la, .int .i64 lo].toArray), (1, .int .i64 u), (2, .int .i64 wd)] = some [.int .i64 la, .int .i64 lo, .int .i64 u, .int .i64 wd, .slice none 0 0].toArray := by kernel_rfl
abbrev rshB (b : Nat) (la lo u wd : Int) (z : Value) : Hl := Hl.blk b 38 [.int .i64 la, .int .i64 lo, .int .i64 u, .int .i64 wd, z]
theorem rnew_ok {la lo u : Int} {wd : Nat} (hp : pointB la lo = true) (hla : -4800000 ≤ la ∧ la ≤ 4800000) (hu : 2 ≤ u ∧ u ≤ 100000) (hw : 11 ≤ wd ∧ wd ≤ 121) (ho : wd % 2 = 1) :
    ContX Tryz.prog [] 20 [ptV la lo, .int .i64 u, .int .i64 (wd : Int)] (fun _ : Sl => True) (fun z => .tuple [rshV la lo u wd z.v, .int .i64 0].toArray) (fun _ => []) := fun w hw0 => by
  have q1 := rvpoint_c la lo
  rw [hp] at q1
  have hodd : (wd : Int).tmod 2 = 1 := by rw [Int.tmod_eq_emod_of_nonneg (by omega)]; omega
  have hq : ((wd : Int) - 1).tdiv 4 = ((wd : Int) - 1) / 4 := Int.tdiv_eq_ediv_of_nonneg (by omega)
  refine enter Tryz.func20 rfl rfl rfl hw0 ?_
  repeat' (first
    | (refine nxN ?_)
    | (show YK _ _ _ _ _ ⟨some 49, .build _ _, _, _, _, _⟩ _; refine YK.ofV (y_build (parts := [(0, .tmp 46), (1, .tmp 47), (2, .tmp 48)]) (vs := [_, _, _]) ⟨rfl, rfl, rfl, rfl⟩ (built_rsh _ _ _ _)) ?_)
    | (show YK _ _ _ _ _ _ _; first | refine YK.mk (y_callA (q1) ⟨rfl, rfl⟩) ?_)
    | (show YK _ _ _ _ _ _ _; refine YK.ofV vAuto ?_)
    | (show VK _ _ _ _ _ _ _; refine VK.mk vAuto ?_)
    | (show RS _ _ _ _ _ _ _ _; first | (refine nxRS ?_) | (refine nxRS1 fun _ => ?_))
    | (show RM _ _ _ _ _ _ _ _ _ _; first | (refine nxRM ?_) | (refine nxRM1 fun _ => ?_))
    | (show YG _ _ _ _ _ _ _ _; refine YG.mk (fun hb => by (try (have hc := And.left hb; have hb := And.right hb; rw [hc])); (try rw [hb]); first | exact (y_callA (q1) ⟨rfl, rfl⟩) | exact V.y vAuto) ?_)
    | (show VG _ _ _ _ _ _ _ _; refine VG.mk (fun hb => by (try (have hc := And.left hb; have hb := And.right hb; rw [hc])); (try rw [hb]); exact vAuto) ?_)
    | (refine nxX ?_)
    | (refine G.condN rfl (fun hc => ?_) (fun hc => ?_) <;> (try first | exact False.elim hc | (exfalso; omega))))
  rename_i b6 _ b
  refine G.loop (ι := Sl × List Sl) (fun z => [(2, .int .i64 (wd : Int)), (6, ptS b6), (8, ptS b), (9, .int .i64 ((z.2.length : Nat) : Int))]) (fun z => [rshB b la lo u wd z.1.v, rwS z.1 z.2, Hl.blk b6 38 [.int .i64 0, .int .i64 0, .int .i64 0, .int .i64 0, .slice none 0 0]]) (fun z => z.2.length ≤ 2 * ((wd - 1) / 4) + 1) (fun z => 2 * ((wd - 1) / 4) + 1 - z.2.length) (⟨none, 0, 0⟩, []) (Nat.zero_le _) ⟨rfl, rfl, rfl, rfl, trivial⟩ (fun w' h => by
    have h2 := (St.nilRow 85 cSl 1 h).perm (List.Perm.swap _ _ _)
    exact h2.sub (by repeat (first | exact List.Sublist.refl _ | apply List.Sublist.cons_cons | apply List.Sublist.cons))) ?_
  rintro ⟨z1, rs⟩ mx g1 hmx
  dsimp only at g1 hmx ⊢
  rcases Nat.lt_or_ge rs.length (2 * ((wd - 1) / 4) + 1) with hj | hj
  · repeat' (first
    | (refine nxN ?_)
    | (refine nxV ?_)
    | (show RS _ _ _ _ _ _ _ _; first | (refine nxRS ?_) | (refine nxRS1 fun _ => ?_))
    | (show RM _ _ _ _ _ _ _ _ _ _; first | (refine nxRM ?_) | (refine nxRM1 fun _ => ?_))
    | (refine nxG ?_)
    | (refine nxX ?_)
    | (refine G.condN rfl (fun hc => ?_) (fun hc => ?_) <;> (try first | exact False.elim hc | (exfalso; omega))))
    refine G.loop (ι := Sl × Nat) (fun z => [(2, .int .i64 (wd : Int)), (6, ptS b6), (8, ptS b), (9, .int .i64 ((rs.length : Nat) : Int)), (10, z.1.v), (11, .int .i64 ((z.2 : Nat) : Int))]) (fun z => [Hl.rw z.1.v 5 cB 1 (List.replicate z.2 46), rshB b la lo u wd z1.v, rwS z1 rs, Hl.blk b6 38 [.int .i64 0, .int .i64 0, .int .i64 0, .int .i64 0, .slice none 0 0]]) (fun z => z.2 ≤ wd) (fun z => wd - z.2) (⟨none, 0, 0⟩, 0) (Nat.zero_le _) ⟨rfl, rfl, rfl, rfl, rfl, rfl, trivial⟩ (fun w' h => by
      have h2 := St.nilRow 5 cB 1 h
      exact h2.sub (by repeat (first | exact List.Sublist.refl _ | apply List.Sublist.cons_cons | apply List.Sublist.cons))) ?_
    rintro ⟨y, i⟩ mx2 k1 hmx2
    dsimp only at k1 hmx2 ⊢
    have hrl : (List.replicate i (46 : Int)).length = i := List.length_replicate
    rcases Nat.lt_or_ge i wd with hi | hi
    · repeat' (first
    | (refine nxN ?_)
    | (show RS _ _ _ _ _ _ _ (⟨some 65, .buildSlice _ _ _, _, _, _, _⟩ :: _); refine RS.litG (f := cB) (a := (46 : Int)) ?_ (by rfl) rfl rfl rfl; intro y1)
    | (show RS _ _ _ _ _ _ _ (⟨some 66, _, _, _, _, _⟩ :: _); refine RS.appendA (f := cB) (l := List.replicate i 46) (l' := [(46 : Int)]) ?_ (by rfl) (by rfl) (by intro v'; exact updA) (by exact rdA) (by exact fun _ => rfl) (by (rw [hrl]; simp only [List.length_singleton]; omega)) rfl; intro y2)
    | (refine nxV ?_)
    | (show RS _ _ _ _ _ _ _ _; first | (refine nxRS ?_) | (refine nxRS1 fun _ => ?_))
    | (show RM _ _ _ _ _ _ _ _ _ _; first | (refine nxRM ?_) | (refine nxRM1 fun _ => ?_))
    | (refine nxG ?_)
    | (refine nxX ?_)
    | (refine G.condN rfl (fun hc => ?_) (fun hc => ?_) <;> (try first | exact False.elim hc | (exfalso; omega))))
      refine X.again (y2, i + 1) (by dsimp only; omega) (by dsimp only; omega) ⟨rfl, rfl, rfl, rfl, rfl, rfl, trivial⟩ (fun w' h => ?_)
      dsimp only
      rw [List.replicate_succ']
      exact h.sub (by repeat (first | exact List.Sublist.refl _ | apply List.Sublist.cons_cons | apply List.Sublist.cons))
    · repeat' (first
    | (refine nxN ?_)
    | (show RS _ _ _ _ _ _ _ (⟨some 70, .buildSlice _ _ _, _, _, _, _⟩ :: _); refine RS.litG (f := cSl) (a := y) ?_ (by rfl) rfl rfl rfl; intro y1)
    | (show RS _ _ _ _ _ _ _ (⟨some 71, _, _, _, _, _⟩ :: _); refine RS.appendA (f := cSl) (l := rs) (l' := [y]) ?_ (by rfl) (by rfl) (by intro v'; exact updA) (by exact rdA) (by exact fun _ => rfl) (by (simp only [List.length_singleton]; omega)) rfl; intro y2)
    | (refine nxV ?_)
    | (show RS _ _ _ _ _ _ _ _; first | (refine nxRS ?_) | (refine nxRS1 fun _ => ?_))
    | (show RM _ _ _ _ _ _ _ _ _ _; first | (refine nxRM ?_) | (refine nxRM1 fun _ => ?_))
    | (refine nxG ?_)
    | (refine nxX ?_)
    | (refine G.condN rfl (fun hc => ?_) (fun hc => ?_) <;> (try first | exact False.elim hc | (exfalso; omega))))
      refine X.again (y2, rs ++ [y]) (by simp only [List.length_append, List.length_singleton]; omega) (by simp only [List.length_append, List.length_singleton]; omega) ⟨rfl, rfl, rfl, congrArg (fun z => some (Value.int .i64 z)) (by simp only [List.length_append, List.length_singleton]; omega), trivial⟩ (fun w' h => ?_)
      exact h.sub (by repeat (first | exact List.Sublist.refl _ | apply List.Sublist.cons_cons | apply List.Sublist.cons))
  · repeat' (first
    | (refine nxN ?_)
    | (show YK _ _ _ _ _ ⟨some 73, _, _, _, _, _⟩ _; refine YK.ofV (y_loadRow (by rfl) (by exact memA) (by (repeat (first | exact .nil | apply LenIs.cons))) (by decide +kernel)) ?_)
    | (refine nxV ?_)
    | (show RS _ _ _ _ _ _ _ _; first | (refine nxRS ?_) | (refine nxRS1 fun _ => ?_))
    | (show RM _ _ _ _ _ _ _ _ _ _; first | (refine nxRM ?_) | (refine nxRM1 fun _ => ?_))
    | (refine nxG ?_)
    | (refine nxX ?_)
    | (refine G.condN rfl (fun hc => ?_) (fun hc => ?_) <;> (try first | exact False.elim hc | (exfalso; omega))))
    trace_state
    exact X.retN (vs := [_, _]) z1 rfl ⟨⟨_, _, _, _, rfl, (by exact memA), (by (repeat (first | exact .nil | apply LenIs.cons))), by decide +kernel, rfl⟩, rfl, rfl⟩ rfl trivial rfl NewIn.nil
end Go.Proofs.YthilhhegchmjeaaGreat
/- law 49's made. -/
set_option linter.unusedVariables false
set_option maxHeartbeats 8000000
namespace Go.Proofs.YthilhhegchmjeaaGreat
open Go.RowKit
theorem RS.permH {P : Program} {n : Nat} {L : FL} {w0 : World} {H H' : List Hl} {Q : Exit → Act → World → Prop} {ops : Array Oper} {rest : List Oper} (h : RS P ops Q n L w0 H' rest) (hp : H.Perm H') : RS P ops Q n L w0 H rest := by
  unfold RS at *
  exact fun a w ha hw => h a w ha (hw.perm hp)
theorem perm_n2 {a b x y : Hl} {A HR : List Hl} : (a :: b :: (A ++ (x :: y :: HR))).Perm (x :: y :: a :: b :: (A ++ HR)) := by
  classical
  refine List.perm_iff_count.2 fun c => ?_
  simp only [List.count_cons, List.count_append]
  omega
theorem made_no {la lo u wd e : Int} (he : newE la lo u wd = e) (h0 : e = 1 ∨ e = 2) : Cont Tryz.prog 7 [ptV la lo, .int .i64 u, .int .i64 wd] (.tuple [.pointer none, rshV 0 0 0 0 (.slice none 0 0), .bool true].toArray) := fun w => by
  have q1 := new_no he (by omega)
  have q2 := rnew_no he (by omega)
  rcases h0 with rfl | rfl <;> (
    refine enter0 Tryz.func7 rfl rfl rfl ?_
    repeat' (first
    | (refine nxN ?_)
    | (show YG _ _ _ _ _ _ ⟨some 34, _, _, _, _, _⟩ _; refine YG.mk (fun hb => (y_eqNil0 rfl rfl sh_ptr).y) ?_)
    | (show VG _ _ _ _ _ _ ⟨some 34, _, _, _, _, _⟩ _; refine VG.mk (fun hb => y_eqNil0 rfl rfl sh_ptr) ?_)
    | (refine G.mixedM 3 [.go 0, .go 1, .go 2, .go 3, .go 4, .go 5, .go 6, .go 7, .go 8, .go 9, .go 10, .go 11, .go 12, .go 13, .go 14] [true, false, true] ?_; dsimp only [maskH])
    | (show YK _ _ _ _ _ _ _; first | refine YK.mk (y_callA (q1) ⟨rfl, rfl, rfl, rfl⟩) ?_ | refine YK.mk (y_callA (q2) ⟨rfl, rfl, rfl, rfl⟩) ?_)
    | (show YK _ _ _ _ _ _ _; refine YK.ofV vAuto ?_)
    | (show VK _ _ _ _ _ _ _; refine VK.mk vAuto ?_)
    | (show RS _ _ _ _ _ _ _ _; first | (refine nxRS ?_) | (refine nxRS1 fun _ => ?_))
    | (show RM _ _ _ _ _ _ _ _ _ _; first | (refine nxRM ?_) | (refine nxRM1 fun _ => ?_))
    | (show YG _ _ _ _ _ _ _ _; refine YG.mk (fun hb => by (try (have hc := And.left hb; have hb := And.right hb; rw [hc])); (try rw [hb]); first | exact (y_callA (q1) ⟨rfl, rfl, rfl, rfl⟩) | exact (y_callA (q2) ⟨rfl, rfl, rfl, rfl⟩) | exact V.y vAuto) ?_)
    | (show VG _ _ _ _ _ _ _ _; refine VG.mk (fun hb => by (try (have hc := And.left hb; have hb := And.right hb; rw [hc])); (try rw [hb]); exact vAuto) ?_)
    | (refine nxX ?_)
    | (refine G.condN rfl (fun hc => ?_) (fun hc => ?_) <;> (try first | exact False.elim hc | (exfalso; omega))))
    exact X.ret (vs := [_, _, _]) rfl ⟨rfl, ⟨_, _, _, _, rfl, (by exact memA), (by (repeat (first | exact .nil | apply LenIs.cons))), by decide +kernel, rfl⟩, rfl, rfl⟩ rfl (fun w hw => ⟨rfl, hw.ext⟩))
theorem made_ok {la lo u : Int} {wd : Nat} (hp : pointB la lo = true) (hla : -4800000 ≤ la ∧ la ≤ 4800000) (hu : 2 ≤ u ∧ u ≤ 100000) (hw : 11 ≤ wd ∧ wd ≤ 121) (ho : wd % 2 = 1) :
    ContL Tryz.prog (fun _ => True) [] 7 [ptV la lo, .int .i64 u, .int .i64 (wd : Int)] (fun z : (Nat × Sl × List Sl × (Nat → List Value)) × Sl => NewP wd z.1) (fun z => .tuple [ptS z.1.1, rshV la lo u wd z.2.v, .bool true].toArray) (fun z => shB z.1.1 la lo u (TT.cosE la la).1 z.1.2.1.v :: rwS z.1.2.1 z.1.2.2.1 :: rowsH z.1.2.2.2 (newR wd z.1.2.2.1)) := fun w0 HR w _ hs => by
  have q1 := new_ok hp hla hu hw ho
  have q2 := rnew_ok hp hla hu hw ho
  refine enterU Tryz.func7 rfl rfl rfl (H := HR) hs ?_
  repeat' (first
    | (refine nxN ?_)
    | (show RS _ _ _ _ _ _ _ (⟨some 17, _, _, _, _, _⟩ :: _); refine RS.callL q1 trivial ?_; rintro ⟨b, z, rs, xt⟩ hz; dsimp only [List.cons_append, List.nil_append]; refine RS.permH ?_ perm_n2)
    | (show RS _ _ _ _ _ _ _ (⟨some 24, _, _, _, _, _⟩ :: _); refine RS.callX q2 ⟨rfl, rfl, rfl, rfl⟩ ?_; rintro y -; dsimp only [List.nil_append])
    | (show YG _ _ _ _ _ _ ⟨some 34, _, _, _, _, _⟩ _; refine YG.mk (fun hb => (y_eqNil1 rfl rfl sh_ptr).y) ?_)
    | (show VG _ _ _ _ _ _ ⟨some 34, _, _, _, _, _⟩ _; refine VG.mk (fun hb => y_eqNil1 rfl rfl sh_ptr) ?_)
    | (refine G.mixedM 3 [.go 0, .go 1, .go 2, .go 3, .go 4, .go 5, .go 6, .go 7, .go 8, .go 9, .go 10, .go 11, .go 12, .go 13, .go 14] [true, false, true, true] ?_; dsimp only [maskH])
    | (refine nxV ?_)
    | (show RS _ _ _ _ _ _ _ _; first | (refine nxRS ?_) | (refine nxRS1 fun _ => ?_))
    | (show RM _ _ _ _ _ _ _ _ _ _; first | (refine nxRM ?_) | (refine nxRM1 fun _ => ?_))
    | (refine nxG ?_)
    | (refine nxX ?_)
    | (refine G.condN rfl (fun hc => ?_) (fun hc => ?_) <;> (try first | exact False.elim hc | (exfalso; omega))))
  exact X.ret (vs := [_, _, _]) rfl ⟨rfl, ⟨_, _, _, _, rfl, (by exact memA), (by (repeat (first | exact .nil | apply LenIs.cons))), by decide +kernel, rfl⟩, rfl, rfl⟩ rfl (fun w hw => ⟨((b, z, rs, xt), y), hz, rfl, St.sub hw (by repeat (first | exact List.Sublist.refl _ | apply List.Sublist.cons_cons | apply List.Sublist.cons))⟩)
end Go.Proofs.YthilhhegchmjeaaGreat
/- The example of chapter 49. -/
set_option linter.unusedVariables false
set_option maxHeartbeats 8000000
namespace Go.Proofs.YthilhhegchmjeaaGreat
open Go.RowKit
/-- A new sheet's pixels when a choice of them is marked. -/
def pixL (sel : Nat → Nat → Bool) (m : Int) (wd h : Nat) : List (List Int) := (List.range h).map fun j => pK (fun i => sel i j) m wd (List.replicate wd 46)
theorem pR_newA (sel : Nat → Nat → Bool) (m : Int) (wd : Nat) : ∀ (rs : List Sl) (a : Nat), (pR sel m rs.length a (newR wd rs)).map Prod.snd = (List.range rs.length).map fun j => pK (fun i => sel i (a + j)) m wd (List.replicate wd 46)
  | [], a => rfl
  | s :: r, a => by
    have ih := pR_newA sel m wd r (a + 1)
    show pK (fun i => sel i a) m (List.replicate wd (46 : Int)).length (List.replicate wd 46) :: (pR sel m r.length (a + 1) (newR wd r)).map Prod.snd = _
    rw [ih, List.length_replicate, List.length_cons, List.range_succ_eq_map, List.map_cons, List.map_map]
    congr 1
    refine List.map_congr_left fun j _ => ?_
    show _ = pK (fun i => sel i (a + (j + 1))) m wd (List.replicate wd 46)
    rw [show a + 1 + j = a + (j + 1) by omega]
theorem pR_new (sel : Nat → Nat → Bool) (m : Int) (wd : Nat) (rs : List Sl) : (pR sel m rs.length 0 (newR wd rs)).map Prod.snd = pixL sel m wd rs.length := by
  rw [pR_newA]
  unfold pixL
  refine List.map_congr_left fun j _ => ?_
  rw [Nat.zero_add]
theorem pixL_mem {sel : Nat → Nat → Bool} {m : Int} {wd h : Nat} {l : List Int} (hl : l ∈ pixL sel m wd h) (hm : 11 ≤ m ∧ m ≤ 255) : l.length = wd ∧ ∀ n ∈ l, 11 ≤ n ∧ n ≤ 255 := by
  obtain ⟨j, _, rfl⟩ := List.mem_map.1 hl
  refine ⟨by rw [pK_len, List.length_replicate], fun n hn => ?_⟩
  unfold pK at hn
  obtain ⟨i, hi, rfl⟩ := List.mem_map.1 hn
  rw [List.length_replicate] at hi
  have hi' := List.mem_range.1 hi
  split
  · exact hm
  · rw [List.getD_eq_getElem?_getD, List.getElem?_replicate, if_pos hi']
    exact ⟨by decide, by decide⟩
theorem TxW.ofSt {w0 w : World} {H : List Hl} {b : Nat} {la lo u cs : Int} {z : Sl} {rs : List (Sl × List Int)} {wd : Nat} {xt : Nat → List Value} (hw : St w0 H w) (h1 : shB b la lo u cs z.v ∈ H) (h2 : rwS z (rs.map Prod.fst) ∈ H) (h3 : ∀ h ∈ rowsH xt rs, h ∈ H) (hd : ∀ r ∈ rs, r.2.length = wd ∧ hdOk wd r.1) (hn : 1 ≤ rs.length) : TxW b la lo u cs z rs wd w := by
  refine ⟨ShR.ofSt hw h1 h2, ?_, fun r hr => ?_⟩
  · have h := hw.all _ h2
    rcases h.2 with ⟨_, h'⟩ | ⟨g, cap, cur, h', _⟩
    · rw [List.length_map] at h'; omega
    · simp only [Value.slice.injEq] at h'
      exact ⟨g, h'.1⟩
  · have hm : pxH xt r.1 r.2 ∈ H := h3 _ (List.mem_map.2 ⟨r, hr, rfl⟩)
    exact RdT.px hm (hd r hr).2 (hd r hr).1 w0 w hw
theorem newR_ok {wd : Nat} {rs : List Sl} (h : ∀ s ∈ rs, hdOk wd s) : ∀ r ∈ newR wd rs, r.2.length = wd ∧ hdOk wd r.1 := fun r hr => by
  obtain ⟨s, hs, rfl⟩ := List.mem_map.1 hr
  exact ⟨List.length_replicate, h s hs⟩
theorem pR_ok {sel : Nat → Nat → Bool} {m : Int} {wd : Nat} : ∀ {rs : List (Sl × List Int)} {j a : Nat}, (∀ r ∈ rs, r.2.length = wd ∧ hdOk wd r.1) → ∀ r ∈ pR sel m j a rs, r.2.length = wd ∧ hdOk wd r.1
  | [], 0, _, _, r, hr => by cases hr
  | [], j + 1, _, _, r, hr => by cases hr
  | x :: rs, 0, _, h, r, hr => h r hr
  | x :: rs, j + 1, a, h, r, hr => by
    rcases List.mem_cons.1 hr with rfl | hr
    · exact ⟨by rw [pK_len]; exact (h x List.mem_cons_self).1, (h x List.mem_cons_self).2⟩
    · exact pR_ok (fun y hy => h y (List.mem_cons_of_mem _ hy)) r hr
theorem pR_len {sel : Nat → Nat → Bool} {m : Int} : ∀ {rs : List (Sl × List Int)} {j a : Nat}, (pR sel m j a rs).length = rs.length := fun {rs j a} => by
  have := congrArg List.length (pR_fst sel m rs j a)
  simpa using this
theorem shok_new {la lo u : Int} {wd : Nat} {rs : List Sl} (hp : pointB la lo = true) (hla : -4800000 ≤ la ∧ la ≤ 4800000) (hu : 2 ≤ u ∧ u ≤ 100000) (hw : 11 ≤ wd ∧ wd ≤ 121) (hl : rs.length = 2 * ((wd - 1) / 4) + 1) (hr : ∀ s ∈ rs, hdOk wd s) : ShOk la lo u (TT.cosE la la).1 rs wd := by
  have hc := cos_lo hla
  unfold pointB at hp
  simp only [Bool.and_eq_true, decide_eq_true_eq] at hp
  refine ⟨by omega, ?_, by omega, by omega, by omega, hu, hc⟩
  cases rs with
  | nil => simp at hl
  | cons s r => exact (hr s List.mem_cons_self).1
theorem wake_px : pixI 11 5 0 0 1000 1073741824 2000 3000 = (8, 1, 0) := by decide +kernel
theorem wake_cs : (TT.cosE 0 0).1 = 1073741824 := by decide +kernel
abbrev wakeS : Nat → Nat → Bool := lineSel 11 5 1000 ((TT.encl (midI 0 0) (midI 0 0)).1 / 131072) ((TT.cosE (midI 0 0) (midI 0 0)).1 / 131072) (midI 2000 2000)
theorem wake_tx : txtS (pixL wakeS 35 11 5) = Lib.repeatL [46] 11 ++ [10] ++ Lib.repeatL [35] 11 ++ [10] ++ (Lib.repeatL [46] 11 ++ [10]) ++ (Lib.repeatL [46] 11 ++ [10]) ++ (Lib.repeatL [46] 11 ++ [10]) := by decide +kernel
theorem built_ln : Tryz.prog.built 30 [(2, .agg [.int .i64 2000, .int .i64 2000].toArray)] = some [.int .i64 0, .int .i64 0, .int .i64 0, .int .i64 0, .int .i64 2000, .int .i64 2000].toArray := by kernel_rfl
end Go.Proofs.YthilhhegchmjeaaGreat
/- law 49's awake. -/
set_option linter.unusedVariables false
set_option maxHeartbeats 8000000
namespace Go.Proofs.YthilhhegchmjeaaGreat
open Go.RowKit
theorem wake_ln {b : Nat} {z : Sl} {rs : List Sl} {xt : Nat → List Value} (hz : NewP 11 (b, z, rs, xt)) : ContL Tryz.prog (fun _ => True) (shB b 0 0 1000 1073741824 z.v :: rwS z rs :: rowsH xt (newR 11 rs)) 8 [ptS b, lineV 0 0 0 0 2000 2000, .int .u8 35] (fun _ : Unit => True) (fun _ => .int .i64 0) (fun _ => shB b 0 0 1000 1073741824 z.v :: rwS z rs :: rowsH xt (pR wakeS 35 5 0 (newR 11 rs))) := by
  have hl : rs.length = 5 := hz.len
  have hok := shok_new (la := 0) (lo := 0) (u := 1000) (wd := 11) (rs := rs) (by decide) (by omega) (by omega) (by omega) hz.len hz.ok
  rw [wake_cs] at hok
  have e1 := TT.encl_le (midI 0 0) (midI 0 0) (Int.le_refl _) (by omega)
  have e2 := TT.cosE_bd (lo := midI 0 0) (hi := midI 0 0) (Int.le_refl _) (by omega)
  have q := line_ok (b := b) (z := z) (xt := xt) (rs := newR 11 rs) (m := 35) (zl := 0) (zh := 0) (il := 2000) (ih := 2000) (by rw [newR_fst]; exact hok) (newR_ok hz.ok) (by omega) (by decide) ⟨e1.1, by omega⟩ ⟨e2.1, by omega⟩
  rw [newR_fst, show (newR 11 rs).length = 5 by rw [← hl]; exact List.length_map _] at q
  exact q
theorem wake_tc {b : Nat} {z : Sl} {rs : List Sl} {xt : Nat → List Value} (hz : NewP 11 (b, z, rs, xt)) : ContIn Tryz.prog (TxW b 0 0 1000 1073741824 z (pR wakeS 35 5 0 (newR 11 rs)) 11) 14 [ptS b] (strV (Lib.repeatL [46] 11 ++ [10] ++ Lib.repeatL [35] 11 ++ [10] ++ (Lib.repeatL [46] 11 ++ [10]) ++ (Lib.repeatL [46] 11 ++ [10]) ++ (Lib.repeatL [46] 11 ++ [10]))) := by
  have hl : rs.length = 5 := hz.len
  have hs : (pR wakeS 35 5 0 (newR 11 rs)).map Prod.snd = pixL wakeS 35 11 5 := by
    have := pR_new wakeS 35 11 rs
    rw [hl] at this
    exact this
  have q := text_c (b := b) (la := 0) (lo := 0) (u := 1000) (cs := 1073741824) (z := z) (rs := pR wakeS 35 5 0 (newR 11 rs)) (wd := 11) (fun r hr => by
    have hm : r.2 ∈ pixL wakeS 35 11 5 := by rw [← hs]; exact List.mem_map.2 ⟨r, hr, rfl⟩
    exact pixL_mem hm (by omega)) (by rw [pR_len, List.length_map, hl]; omega) (by omega)
  rw [hs, wake_tx] at q
  exact q
theorem awake49_c : Cont Tryz.prog 4 [] (.bool true) := fun w => by
  have q1 := new_ok (la := 0) (lo := 0) (u := 1000) (wd := 11) (by decide) (by omega) (by omega) (by omega) rfl
  rw [wake_cs] at q1
  have qr1 := repeat_c [46] (m := 11) (by omega) (by decide)
  have qr2 := repeat_c [35] (m := 11) (by omega) (by decide)
  rw [show (11 : Int).toNat = 11 from rfl] at qr1 qr2
  have l1 : (Lib.repeatL [46] 11).length = 11 := by decide
  have l2 : (Lib.repeatL [35] 11).length = 11 := by decide
  refine enter0 Tryz.func4 rfl rfl rfl ?_
  generalize hd1 : Lib.repeatL [46] 11 = s1 at *
  generalize hd2 : Lib.repeatL [35] 11 = s2 at *
  repeat' (first
    | (show YK _ _ _ _ _ ⟨_, .call { callee := .builtin .len, args := _, argTypes := #[9] }, _, _, _, _⟩ _; refine YK.ofV (y_lenS (by rfl) StrTy.is) ?_)
    | (show VK _ _ _ _ _ ⟨_, .call { callee := .builtin .len, args := _, argTypes := #[9] }, _, _, _, _⟩ _; refine VK.mk (y_lenS (by rfl) StrTy.is) ?_)
    | (show YG _ _ _ _ _ _ ⟨_, .call { callee := .builtin .len, args := _, argTypes := #[9] }, _, _, _, _⟩ _; refine YG.mk (fun hb => by (try (have hc := And.left hb; have hb := And.right hb; rw [hc])); (try rw [hb]); exact V.y (y_lenS (by rfl) StrTy.is)) ?_)
    | (show VG _ _ _ _ _ _ ⟨_, .call { callee := .builtin .len, args := _, argTypes := #[9] }, _, _, _, _⟩ _; refine VG.mk (fun hb => by (try (have hc := And.left hb; have hb := And.right hb; rw [hc])); (try rw [hb]); exact y_lenS (by rfl) StrTy.is) ?_)
    | (refine nxN ?_)
    | (show RS _ _ _ _ _ _ _ (⟨some 10, _, _, _, _, _⟩ :: _); refine RS.callL q1 trivial ?_ ⟨rfl, rfl, rfl, rfl⟩; rintro ⟨b, z, rs, xt⟩ hz; dsimp only [List.cons_append, List.nil_append]; have hl : rs.length = 5 := hz.len; have hok := shok_new (la := 0) (lo := 0) (u := 1000) (wd := 11) (rs := rs) (by decide) (by omega) (by omega) (by omega) hz.len hz.ok; rw [wake_cs] at hok; have q2 := pixel_c (b := b) (z := z) hok (pla := 2000) (plo := 3000) (by omega) (by omega); rw [hl, wake_px] at q2; have q3 := wake_ln hz; have q4 := wake_tc hz; rw [hd1, hd2] at q4)
    | (show YG _ _ _ _ _ _ ⟨some 17, _, _, _, _, _⟩ _; refine YG.mk (fun hb => (y_eqNil1 rfl rfl sh_ptr).y) ?_)
    | (show VG _ _ _ _ _ _ ⟨some 17, _, _, _, _, _⟩ _; refine VG.mk (fun hb => y_eqNil1 rfl rfl sh_ptr) ?_)
    | (show YK _ _ _ _ _ ⟨_, .call { callee := .value (.func 17), args := _, argTypes := _ }, _, _, _, _⟩ _; refine YK.mk (y_callIn (q2) (fun w' hw' => ShR.ofSt hw' (by exact memA) (by exact memA)) ⟨rfl, rfl, rfl⟩ (by decide +kernel)) ?_)
    | (show YG _ _ _ _ _ _ ⟨_, .call { callee := .value (.func 17), args := _, argTypes := _ }, _, _, _, _⟩ _; refine YG.mk (fun hb => by (try (have hc := And.left hb; have hb := And.right hb; rw [hc])); (try rw [hb]); exact y_callIn (q2) (fun w' hw' => ShR.ofSt hw' (by exact memA) (by exact memA)) ⟨rfl, rfl, rfl⟩ (by decide +kernel)) ?_)
    | (show YK _ _ _ _ _ ⟨some 28, _, _, _, _, _⟩ _; refine YK.ofV (y_build (parts := [(2, .tmp 27)]) (vs := [_]) ⟨rfl, rfl⟩ built_ln) ?_)
    | (show RS _ _ _ _ _ _ _ (⟨some 29, _, _, _, _, _⟩ :: _); refine RS.callPm q3 trivial (List.Perm.refl _) ?_ ⟨rfl, rfl, rfl, rfl⟩; rintro ⟨⟩ -; dsimp only [List.cons_append, List.nil_append])
    | (show YK _ _ _ _ _ ⟨_, .call { callee := .value (.func 14), args := _, argTypes := _ }, _, _, _, _⟩ _; refine YK.mk (y_callIn (q4) (fun w' hw' => TxW.ofSt (xt := xt) hw' (by exact memA) (by (rw [pR_fst, newR_fst]; exact memA)) (fun h hm => .tail _ (.tail _ (List.mem_append_left _ hm))) (pR_ok (newR_ok hz.ok)) (by (rw [pR_len, List.length_map, hl]; omega))) ⟨rfl, rfl⟩ (by decide +kernel)) ?_)
    | (show YG _ _ _ _ _ _ ⟨_, .call { callee := .value (.func 14), args := _, argTypes := _ }, _, _, _, _⟩ _; refine YG.mk (fun hb => by (try (have hc := And.left hb; have hb := And.right hb; rw [hc])); (try rw [hb]); exact y_callIn (q4) (fun w' hw' => TxW.ofSt (xt := xt) hw' (by exact memA) (by (rw [pR_fst, newR_fst]; exact memA)) (fun h hm => .tail _ (.tail _ (List.mem_append_left _ hm))) (pR_ok (newR_ok hz.ok)) (by (rw [pR_len, List.length_map, hl]; omega))) ⟨rfl, rfl⟩ (by decide +kernel)) ?_)
    | (show YK _ _ _ _ _ _ _; first | refine YK.mk (y_callA (qr1) ⟨rfl, rfl, rfl⟩) ?_ | refine YK.mk (y_callA (qr2) ⟨rfl, rfl, rfl⟩) ?_)
    | (show YK _ _ _ _ _ _ _; refine YK.ofV vAuto ?_)
    | (show VK _ _ _ _ _ _ _; refine VK.mk vAuto ?_)
    | (show RS _ _ _ _ _ _ _ _; first | (refine nxRS ?_) | (refine nxRS1 fun _ => ?_))
    | (show RM _ _ _ _ _ _ _ _ _ _; first | (refine nxRM ?_) | (refine nxRM1 fun _ => ?_))
    | (show YG _ _ _ _ _ _ _ _; refine YG.mk (fun hb => by (try (have hc := And.left hb; have hb := And.right hb; rw [hc])); (try rw [hb]); first | exact (y_callA (qr1) ⟨rfl, rfl, rfl⟩) | exact (y_callA (qr2) ⟨rfl, rfl, rfl⟩) | exact V.y vAuto) ?_)
    | (show VG _ _ _ _ _ _ _ _; refine VG.mk (fun hb => by (try (have hc := And.left hb; have hb := And.right hb; rw [hc])); (try rw [hb]); exact vAuto) ?_)
    | (refine nxVS ?_)
    | (refine nxGS ?_)
    | (refine nxX ?_)
    | (refine G.condN rfl (fun hc => ?_) (fun hc => ?_) <;> (try first | exact False.elim hc | (exfalso; omega))))
  exact X.ret (vs := [_]) rfl ⟨rfl, rfl⟩ rfl (fun w hw => ⟨ret_bool (by simp), hw.ext⟩)
end Go.Proofs.YthilhhegchmjeaaGreat
