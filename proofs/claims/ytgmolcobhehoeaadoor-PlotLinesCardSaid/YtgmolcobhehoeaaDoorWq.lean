/- Joined texts: Made, Mad2, AwkP, Awk49, RVal, LinP, LawLi. -/
import Derived.Test.YtgmolcobhehoeaaDoorWp
import Derived.Test.YtgmolcobhehoeaaDoorWg
/- Sheets refused; the reference's sheet; law 49's made. -/
set_option linter.unusedVariables false
set_option maxHeartbeats 8000000
namespace Go.Proofs.YtgmolcobhehoeaaDoor
open Go.RowKit
theorem cos_lo {la : Int} (h : -4800000 ≤ la ∧ la ≤ 4800000) : 1 ≤ (TT.cosE la la).1 ∧ (TT.cosE la la).1 ≤ 1073741824 := by
  have hb := TT.cosE_bd (lo := la) (hi := la) (Int.le_refl _) (by omega)
  refine ⟨?_, by omega⟩
  have k : 1 ≤ (TT.bnd 600000).1 := by decide +kernel
  have e : (TT.cosE la la).1 = (TT.bnd (la + 5400000)).1 := by
    unfold TT.cosE TT.encl
    have hm : TT.meetsI (la + 5400000) (la + 5400000) 16200000 = false := by
      unfold TT.meetsI
      apply decide_eq_false
      have : TT.turnI (16200000 - (la + 5400000)) = 16200000 - (la + 5400000) := Int.emod_eq_of_lt (by omega) (by omega)
      rw [this]; omega
    dsimp only
    rw [hm, if_neg (by decide)]
    omega
  rw [e]
  by_cases hl : la ≤ 0
  · have := (TT.bnd_mono (n := 600000) (m := la + 5400000) (by omega) (by omega) (by omega)).2
    omega
  · rw [TT.bnd_half (n := la + 5400000) (by omega) (by omega)]
    have := (TT.bnd_mono (n := 600000) (m := 10800000 - (la + 5400000)) (by omega) (by omega) (by omega)).2
    omega
/-- Is there a sheet, and what is the error? -/
def newE (la lo u wd : Int) : Int := if (pointB la lo && decide (-4800000 ≤ la) && decide (la ≤ 4800000)) = true then (if 2 ≤ u ∧ u ≤ 100000 ∧ 11 ≤ wd ∧ wd ≤ 121 ∧ wd % 2 = 1 then 0 else 2) else 1
theorem new_no {la lo u wd e : Int} (he : newE la lo u wd = e) (h0 : e ≠ 0) : Cont Tryd.prog 15 [ptV la lo, .int .i64 u, .int .i64 wd] (.tuple [.pointer none, .int .i64 e].toArray) := fun w => by
  have q1 := vpoint_c la lo
  unfold newE at he
  cases hp : pointB la lo with
  | false =>
    rw [hp] at q1
    have he' : e = 1 := by rw [← he, hp]; rfl
    subst he'
    refine enter0 Tryd.func15 rfl rfl rfl ?_
    repeat' (first
    | (refine nxN ?_)
    | (show YG _ _ _ _ _ _ ⟨some 18, _, _, _, _, _⟩ _; refine YG.mk (fun hb => by cases hb) ?_)
    | (show YK _ _ _ _ _ _ _; first | refine YK.mk (y_callA (q1) ⟨rfl, rfl⟩) ?_)
    | (show YK _ _ _ _ _ _ _; refine YK.ofV vAuto ?_)
    | (show VK _ _ _ _ _ _ _; refine VK.mk vAuto ?_)
    | (show RS _ _ _ _ _ _ _ _; first | (refine nxRS ?_) | (refine nxRS1 fun _ => ?_))
    | (show RM _ _ _ _ _ _ _ _ _ _; first | (refine nxRM ?_) | (refine nxRM1 fun _ => ?_))
    | (show YG _ _ _ _ _ _ _ _; refine YG.mk (fun hb => by (try (have hc := And.left hb; have hb := And.right hb; rw [hc])); (try rw [hb]); first | exact (y_callA (q1) ⟨rfl, rfl⟩) | exact V.y vAuto) ?_)
    | (show VG _ _ _ _ _ _ _ _; refine VG.mk (fun hb => by (try (have hc := And.left hb; have hb := And.right hb; rw [hc])); (try rw [hb]); exact vAuto) ?_)
    | (refine G.mixedA 11 [.go 0, .go 1, .go 2, .go 3, .go 4, .go 6, .go 5, .go 7, .go 8, .go 9, .go 10, .go 11, .go 12] ?_)
    | (refine nxX ?_)
    | (refine G.condN rfl (fun hc => ?_) (fun hc => ?_) <;> (try first | exact False.elim hc | (exfalso; omega))))
    all_goals first | exact X.ret (vs := [_, _]) rfl ⟨rfl, rfl, rfl⟩ rfl (fun w hw => ⟨rfl, hw.ext⟩)
  | true =>
    rw [hp] at q1
    have hp2 : -5400000 ≤ la ∧ la ≤ 5400000 := by
      unfold pointB at hp
      simp only [Bool.and_eq_true, decide_eq_true_eq] at hp
      omega
    have q2 := psize_c (a := la) (by omega)
    by_cases hl : -4800000 ≤ la ∧ la ≤ 4800000
    · rw [hp, decide_eq_true hl.1, decide_eq_true hl.2, if_pos (by decide)] at he
      have hc : ¬ (2 ≤ u ∧ u ≤ 100000 ∧ 11 ≤ wd ∧ wd ≤ 121 ∧ wd % 2 = 1) := fun g => h0 (by rw [← he, if_pos g])
      rw [if_neg hc] at he
      subst he
      refine enter0 Tryd.func15 rfl rfl rfl ?_
      repeat' (first
    | (refine nxN ?_)
    | (show YK _ _ _ _ _ _ _; first | refine YK.mk (y_callA (q1) ⟨rfl, rfl⟩) ?_ | refine YK.mk (y_callA (q2) ⟨rfl, rfl⟩) ?_)
    | (show YK _ _ _ _ _ _ _; refine YK.ofV vAuto ?_)
    | (show VK _ _ _ _ _ _ _; refine VK.mk vAuto ?_)
    | (show RS _ _ _ _ _ _ _ _; first | (refine nxRS ?_) | (refine nxRS1 fun _ => ?_))
    | (show RM _ _ _ _ _ _ _ _ _ _; first | (refine nxRM ?_) | (refine nxRM1 fun _ => ?_))
    | (show YG _ _ _ _ _ _ _ _; refine YG.mk (fun hb => by (try (have hc := And.left hb; have hb := And.right hb; rw [hc])); (try rw [hb]); first | exact (y_callA (q1) ⟨rfl, rfl⟩) | exact (y_callA (q2) ⟨rfl, rfl⟩) | exact V.y vAuto) ?_)
    | (show VG _ _ _ _ _ _ _ _; refine VG.mk (fun hb => by (try (have hc := And.left hb; have hb := And.right hb; rw [hc])); (try rw [hb]); exact vAuto) ?_)
    | (refine G.mixedA 11 [.go 0, .go 1, .go 2, .go 3, .go 4, .go 6, .go 5, .go 7, .go 8, .go 9, .go 10, .go 11, .go 12] ?_)
    | (refine nxX ?_)
    | (refine G.condN rfl (fun hc => ?_) (fun hc => ?_) <;> (try first | exact False.elim hc | (exfalso; omega))))
      all_goals first | (exfalso; omega) | exact X.ret (vs := [_, _]) rfl ⟨rfl, rfl, rfl⟩ rfl (fun w hw => ⟨rfl, hw.ext⟩)
    · have he' : e = 1 := by
        rw [← he, hp, if_neg]
        simp only [Bool.true_and, Bool.and_eq_true, decide_eq_true_eq]
        exact hl
      subst he'
      refine enter0 Tryd.func15 rfl rfl rfl ?_
      repeat' (first
    | (refine nxN ?_)
    | (show YK _ _ _ _ _ _ _; first | refine YK.mk (y_callA (q1) ⟨rfl, rfl⟩) ?_ | refine YK.mk (y_callA (q2) ⟨rfl, rfl⟩) ?_)
    | (show YK _ _ _ _ _ _ _; refine YK.ofV vAuto ?_)
    | (show VK _ _ _ _ _ _ _; refine VK.mk vAuto ?_)
    | (show RS _ _ _ _ _ _ _ _; first | (refine nxRS ?_) | (refine nxRS1 fun _ => ?_))
    | (show RM _ _ _ _ _ _ _ _ _ _; first | (refine nxRM ?_) | (refine nxRM1 fun _ => ?_))
    | (show YG _ _ _ _ _ _ _ _; refine YG.mk (fun hb => by (try (have hc := And.left hb; have hb := And.right hb; rw [hc])); (try rw [hb]); first | exact (y_callA (q1) ⟨rfl, rfl⟩) | exact (y_callA (q2) ⟨rfl, rfl⟩) | exact V.y vAuto) ?_)
    | (show VG _ _ _ _ _ _ _ _; refine VG.mk (fun hb => by (try (have hc := And.left hb; have hb := And.right hb; rw [hc])); (try rw [hb]); exact vAuto) ?_)
    | (refine G.mixedA 11 [.go 0, .go 1, .go 2, .go 3, .go 4, .go 6, .go 5, .go 7, .go 8, .go 9, .go 10, .go 11, .go 12] ?_)
    | (refine nxX ?_)
    | (refine G.condN rfl (fun hc => ?_) (fun hc => ?_) <;> (try first | exact False.elim hc | (exfalso; omega))))
      all_goals first | (exfalso; omega) | exact X.ret (vs := [_, _]) rfl ⟨rfl, rfl, rfl⟩ rfl (fun w hw => ⟨rfl, hw.ext⟩)
theorem rvpoint_c (la lo : Int) : Cont Tryd.prog 53 [ptV la lo] (.bool (pointB la lo)) := fun w => by
  refine enter0 Tryd.func53 rfl rfl rfl ?_
  repeat' (first
    | (refine nxV ?_)
    | (show RS _ _ _ _ _ _ _ _; first | (refine nxRS ?_) | (refine nxRS1 fun _ => ?_))
    | (show RM _ _ _ _ _ _ _ _ _ _; first | (refine nxRM ?_) | (refine nxRM1 fun _ => ?_))
    | (refine nxG ?_)
    | (refine nxX ?_)
    | (refine G.condN rfl (fun hc => ?_) (fun hc => ?_) <;> (try first | exact False.elim hc | (exfalso; omega))))
  exact X.ret (vs := [_]) rfl ⟨rfl, rfl⟩ rfl (fun w hw => ⟨rfl, hw.ext⟩)
abbrev rshV (la lo u wd : Int) (z : Value) : Value := .agg [.int .i64 la, .int .i64 lo, .int .i64 u, .int .i64 wd, z].toArray
theorem rnew_no {la lo u wd e : Int} (he : newE la lo u wd = e) (h0 : e ≠ 0) : Cont Tryd.prog 17 [ptV la lo, .int .i64 u, .int .i64 wd] (.tuple [rshV 0 0 0 0 (.slice none 0 0), .int .i64 e].toArray) := fun w => by
  have q1 := rvpoint_c la lo
  unfold newE at he
  cases hp : pointB la lo with
  | false =>
    rw [hp] at q1
    have he' : e = 1 := by rw [← he, hp]; rfl
    subst he'
    refine enter0 Tryd.func17 rfl rfl rfl ?_
    repeat' (first
    | (refine nxN ?_)
    | (show YK _ _ _ _ _ ⟨_, .build 30 #[], _, _, _, _⟩ _; refine YK.ofV (y_build0 (cs := [.int .i64 0, .int .i64 0, .int .i64 0, .int .i64 0, .slice none 0 0]) (by kernel_rfl) (by kernel_rfl)) ?_)
    | (show YK _ _ _ _ _ _ _; first | refine YK.mk (y_callA (q1) ⟨rfl, rfl⟩) ?_)
    | (show YK _ _ _ _ _ _ _; refine YK.ofV vAuto ?_)
    | (show VK _ _ _ _ _ _ _; refine VK.mk vAuto ?_)
    | (show RS _ _ _ _ _ _ _ _; first | (refine nxRS ?_) | (refine nxRS1 fun _ => ?_))
    | (show RM _ _ _ _ _ _ _ _ _ _; first | (refine nxRM ?_) | (refine nxRM1 fun _ => ?_))
    | (show YG _ _ _ _ _ _ _ _; refine YG.mk (fun hb => by (try (have hc := And.left hb; have hb := And.right hb; rw [hc])); (try rw [hb]); first | exact (y_callA (q1) ⟨rfl, rfl⟩) | exact V.y vAuto) ?_)
    | (show VG _ _ _ _ _ _ _ _; refine VG.mk (fun hb => by (try (have hc := And.left hb; have hb := And.right hb; rw [hc])); (try rw [hb]); exact vAuto) ?_)
    | (refine nxX ?_)
    | (refine G.condN rfl (fun hc => ?_) (fun hc => ?_) <;> (try first | exact False.elim hc | (exfalso; omega))))
    all_goals exact X.ret (vs := [_, _]) rfl ⟨⟨_, _, _, _, rfl, (by exact memA), (by (repeat (first | exact .nil | apply LenIs.cons))), by decide +kernel, rfl⟩, rfl, rfl⟩ rfl (fun w hw => ⟨rfl, hw.ext⟩)
  | true =>
    rw [hp] at q1
    by_cases hl : -4800000 ≤ la ∧ la ≤ 4800000
    · rw [hp, decide_eq_true hl.1, decide_eq_true hl.2, if_pos (by decide)] at he
      have hc : ¬ (2 ≤ u ∧ u ≤ 100000 ∧ 11 ≤ wd ∧ wd ≤ 121 ∧ wd % 2 = 1) := fun g => h0 (by rw [← he, if_pos g])
      rw [if_neg hc] at he
      subst he
      refine enter0 Tryd.func17 rfl rfl rfl ?_
      repeat' (first
    | (refine nxN ?_)
    | (show YK _ _ _ _ _ ⟨_, .build 30 #[], _, _, _, _⟩ _; refine YK.ofV (y_build0 (cs := [.int .i64 0, .int .i64 0, .int .i64 0, .int .i64 0, .slice none 0 0]) (by kernel_rfl) (by kernel_rfl)) ?_)
    | (show YK _ _ _ _ _ _ _; first | refine YK.mk (y_callA (q1) ⟨rfl, rfl⟩) ?_)
    | (show YK _ _ _ _ _ _ _; refine YK.ofV vAuto ?_)
    | (show VK _ _ _ _ _ _ _; refine VK.mk vAuto ?_)
    | (show RS _ _ _ _ _ _ _ _; first | (refine nxRS ?_) | (refine nxRS1 fun _ => ?_))
    | (show RM _ _ _ _ _ _ _ _ _ _; first | (refine nxRM ?_) | (refine nxRM1 fun _ => ?_))
    | (show YG _ _ _ _ _ _ _ _; refine YG.mk (fun hb => by (try (have hc := And.left hb; have hb := And.right hb; rw [hc])); (try rw [hb]); first | exact (y_callA (q1) ⟨rfl, rfl⟩) | exact V.y vAuto) ?_)
    | (show VG _ _ _ _ _ _ _ _; refine VG.mk (fun hb => by (try (have hc := And.left hb; have hb := And.right hb; rw [hc])); (try rw [hb]); exact vAuto) ?_)
    | (refine nxX ?_)
    | (refine G.condN rfl (fun hc => ?_) (fun hc => ?_) <;> (try first | exact False.elim hc | (exfalso; omega))))
      all_goals first | (exfalso; omega) | exact X.ret (vs := [_, _]) rfl ⟨⟨_, _, _, _, rfl, (by exact memA), (by (repeat (first | exact .nil | apply LenIs.cons))), by decide +kernel, rfl⟩, rfl, rfl⟩ rfl (fun w hw => ⟨rfl, hw.ext⟩)
    · have he' : e = 1 := by
        rw [← he, hp, if_neg]
        simp only [Bool.true_and, Bool.and_eq_true, decide_eq_true_eq]
        exact hl
      subst he'
      refine enter0 Tryd.func17 rfl rfl rfl ?_
      repeat' (first
    | (refine nxN ?_)
    | (show YK _ _ _ _ _ ⟨_, .build 30 #[], _, _, _, _⟩ _; refine YK.ofV (y_build0 (cs := [.int .i64 0, .int .i64 0, .int .i64 0, .int .i64 0, .slice none 0 0]) (by kernel_rfl) (by kernel_rfl)) ?_)
    | (show YK _ _ _ _ _ _ _; first | refine YK.mk (y_callA (q1) ⟨rfl, rfl⟩) ?_)
    | (show YK _ _ _ _ _ _ _; refine YK.ofV vAuto ?_)
    | (show VK _ _ _ _ _ _ _; refine VK.mk vAuto ?_)
    | (show RS _ _ _ _ _ _ _ _; first | (refine nxRS ?_) | (refine nxRS1 fun _ => ?_))
    | (show RM _ _ _ _ _ _ _ _ _ _; first | (refine nxRM ?_) | (refine nxRM1 fun _ => ?_))
    | (show YG _ _ _ _ _ _ _ _; refine YG.mk (fun hb => by (try (have hc := And.left hb; have hb := And.right hb; rw [hc])); (try rw [hb]); first | exact (y_callA (q1) ⟨rfl, rfl⟩) | exact V.y vAuto) ?_)
    | (show VG _ _ _ _ _ _ _ _; refine VG.mk (fun hb => by (try (have hc := And.left hb; have hb := And.right hb; rw [hc])); (try rw [hb]); exact vAuto) ?_)
    | (refine nxX ?_)
    | (refine G.condN rfl (fun hc => ?_) (fun hc => ?_) <;> (try first | exact False.elim hc | (exfalso; omega))))
      all_goals first | (exfalso; omega) | exact X.ret (vs := [_, _]) rfl ⟨⟨_, _, _, _, rfl, (by exact memA), (by (repeat (first | exact .nil | apply LenIs.cons))), by decide +kernel, rfl⟩, rfl, rfl⟩ rfl (fun w hw => ⟨rfl, hw.ext⟩)
theorem built_rsh (la lo u wd : Int) : Tryd.prog.built 30 [(0, .agg [.int .i64 la, .int .i64 lo].toArray), (1, .int .i64 u), (2, .int .i64 wd)] = some [.int .i64 la, .int .i64 lo, .int .i64 u, .int .i64 wd, .slice none 0 0].toArray := by kernel_rfl
abbrev rshB (b : Nat) (la lo u wd : Int) (z : Value) : Hl := Hl.blk b 30 [.int .i64 la, .int .i64 lo, .int .i64 u, .int .i64 wd, z]
theorem rnew_ok {la lo u : Int} {wd : Nat} (hp : pointB la lo = true) (hla : -4800000 ≤ la ∧ la ≤ 4800000) (hu : 2 ≤ u ∧ u ≤ 100000) (hw : 11 ≤ wd ∧ wd ≤ 121) (ho : wd % 2 = 1) :
    ContX Tryd.prog [] 17 [ptV la lo, .int .i64 u, .int .i64 (wd : Int)] (fun _ : Sl => True) (fun z => .tuple [rshV la lo u wd z.v, .int .i64 0].toArray) (fun _ => []) := fun w hw0 => by
  have q1 := rvpoint_c la lo
  rw [hp] at q1
  have hodd : (wd : Int).tmod 2 = 1 := by rw [Int.tmod_eq_emod_of_nonneg (by omega)]; omega
  have hq : ((wd : Int) - 1).tdiv 4 = ((wd : Int) - 1) / 4 := Int.tdiv_eq_ediv_of_nonneg (by omega)
  refine enter Tryd.func17 rfl rfl rfl hw0 ?_
  repeat' (first
    | (refine nxN ?_)
    | (show YK _ _ _ _ _ ⟨some 49, .build _ _, _, _, _, _⟩ _; refine YK.ofV (y_build (parts := [(0, .tmp 46), (1, .tmp 47), (2, .tmp 48)]) (vs := [_, _, _]) ⟨rfl, rfl, rfl, rfl⟩ (built_rsh _ _ _ _)) ?_)
    | (show YK _ _ _ _ _ _ _; first | refine YK.mk (y_callA (q1) ⟨rfl, rfl⟩) ?_)
    | (show YK _ _ _ _ _ _ _; refine YK.ofV vAuto ?_)
    | (show VK _ _ _ _ _ _ _; refine VK.mk vAuto ?_)
    | (show RS _ _ _ _ _ _ _ _; first | (refine nxRS ?_) | (refine nxRS1 fun _ => ?_))
    | (show RM _ _ _ _ _ _ _ _ _ _; first | (refine nxRM ?_) | (refine nxRM1 fun _ => ?_))
    | (show YG _ _ _ _ _ _ _ _; refine YG.mk (fun hb => by (try (have hc := And.left hb; have hb := And.right hb; rw [hc])); (try rw [hb]); first | exact (y_callA (q1) ⟨rfl, rfl⟩) | exact V.y vAuto) ?_)
    | (show VG _ _ _ _ _ _ _ _; refine VG.mk (fun hb => by (try (have hc := And.left hb; have hb := And.right hb; rw [hc])); (try rw [hb]); exact vAuto) ?_)
    | (refine nxX ?_)
    | (refine G.condN rfl (fun hc => ?_) (fun hc => ?_) <;> (try first | exact False.elim hc | (exfalso; omega))))
  rename_i b6 _ b
  refine G.loop (ι := Sl × List Sl) (fun z => [(2, .int .i64 (wd : Int)), (6, ptS b6), (8, ptS b), (9, .int .i64 ((z.2.length : Nat) : Int))]) (fun z => [rshB b la lo u wd z.1.v, rwS z.1 z.2, Hl.blk b6 30 [.int .i64 0, .int .i64 0, .int .i64 0, .int .i64 0, .slice none 0 0]]) (fun z => z.2.length ≤ 2 * ((wd - 1) / 4) + 1) (fun z => 2 * ((wd - 1) / 4) + 1 - z.2.length) (⟨none, 0, 0⟩, []) (Nat.zero_le _) ⟨rfl, rfl, rfl, rfl, trivial⟩ (fun w' h => by
    have h2 := (St.nilRow 70 cSl 1 h).perm (List.Perm.swap _ _ _)
    exact h2.sub (by repeat (first | exact List.Sublist.refl _ | apply List.Sublist.cons_cons | apply List.Sublist.cons))) ?_
  rintro ⟨z1, rs⟩ mx g1 hmx
  dsimp only at g1 hmx ⊢
  rcases Nat.lt_or_ge rs.length (2 * ((wd - 1) / 4) + 1) with hj | hj
  · repeat' (first
    | (refine nxN ?_)
    | (refine nxV ?_)
    | (show RS _ _ _ _ _ _ _ _; first | (refine nxRS ?_) | (refine nxRS1 fun _ => ?_))
    | (show RM _ _ _ _ _ _ _ _ _ _; first | (refine nxRM ?_) | (refine nxRM1 fun _ => ?_))
    | (refine nxG ?_)
    | (refine nxX ?_)
    | (refine G.condN rfl (fun hc => ?_) (fun hc => ?_) <;> (try first | exact False.elim hc | (exfalso; omega))))
    refine G.loop (ι := Sl × Nat) (fun z => [(2, .int .i64 (wd : Int)), (6, ptS b6), (8, ptS b), (9, .int .i64 ((rs.length : Nat) : Int)), (10, z.1.v), (11, .int .i64 ((z.2 : Nat) : Int))]) (fun z => [Hl.rw z.1.v 5 cB 1 (List.replicate z.2 46), rshB b la lo u wd z1.v, rwS z1 rs, Hl.blk b6 30 [.int .i64 0, .int .i64 0, .int .i64 0, .int .i64 0, .slice none 0 0]]) (fun z => z.2 ≤ wd) (fun z => wd - z.2) (⟨none, 0, 0⟩, 0) (Nat.zero_le _) ⟨rfl, rfl, rfl, rfl, rfl, rfl, trivial⟩ (fun w' h => by
      have h2 := St.nilRow 5 cB 1 h
      exact h2.sub (by repeat (first | exact List.Sublist.refl _ | apply List.Sublist.cons_cons | apply List.Sublist.cons))) ?_
    rintro ⟨y, i⟩ mx2 k1 hmx2
    dsimp only at k1 hmx2 ⊢
    have hrl : (List.replicate i (46 : Int)).length = i := List.length_replicate
    rcases Nat.lt_or_ge i wd with hi | hi
    · repeat' (first
    | (refine nxN ?_)
    | (show RS _ _ _ _ _ _ _ (⟨some 65, .buildSlice _ _ _, _, _, _, _⟩ :: _); refine RS.litG (f := cB) (a := (46 : Int)) ?_ (by rfl) rfl rfl rfl; intro y1)
    | (show RS _ _ _ _ _ _ _ (⟨some 66, _, _, _, _, _⟩ :: _); refine RS.appendA (f := cB) (l := List.replicate i 46) (l' := [(46 : Int)]) ?_ (by rfl) (by rfl) (by intro v'; exact updA) (by exact rdA) (by exact fun _ => rfl) (by (rw [hrl]; simp only [List.length_singleton]; omega)) rfl; intro y2)
    | (refine nxV ?_)
    | (show RS _ _ _ _ _ _ _ _; first | (refine nxRS ?_) | (refine nxRS1 fun _ => ?_))
    | (show RM _ _ _ _ _ _ _ _ _ _; first | (refine nxRM ?_) | (refine nxRM1 fun _ => ?_))
    | (refine nxG ?_)
    | (refine nxX ?_)
    | (refine G.condN rfl (fun hc => ?_) (fun hc => ?_) <;> (try first | exact False.elim hc | (exfalso; omega))))
      refine X.again (y2, i + 1) (by dsimp only; omega) (by dsimp only; omega) ⟨rfl, rfl, rfl, rfl, rfl, rfl, trivial⟩ (fun w' h => ?_)
      dsimp only
      rw [List.replicate_succ']
      exact h.sub (by repeat (first | exact List.Sublist.refl _ | apply List.Sublist.cons_cons | apply List.Sublist.cons))
    · repeat' (first
    | (refine nxN ?_)
    | (show RS _ _ _ _ _ _ _ (⟨some 70, .buildSlice _ _ _, _, _, _, _⟩ :: _); refine RS.litG (f := cSl) (a := y) ?_ (by rfl) rfl rfl rfl; intro y1)
    | (show RS _ _ _ _ _ _ _ (⟨some 71, _, _, _, _, _⟩ :: _); refine RS.appendA (f := cSl) (l := rs) (l' := [y]) ?_ (by rfl) (by rfl) (by intro v'; exact updA) (by exact rdA) (by exact fun _ => rfl) (by (simp only [List.length_singleton]; omega)) rfl; intro y2)
    | (refine nxV ?_)
    | (show RS _ _ _ _ _ _ _ _; first | (refine nxRS ?_) | (refine nxRS1 fun _ => ?_))
    | (show RM _ _ _ _ _ _ _ _ _ _; first | (refine nxRM ?_) | (refine nxRM1 fun _ => ?_))
    | (refine nxG ?_)
    | (refine nxX ?_)
    | (refine G.condN rfl (fun hc => ?_) (fun hc => ?_) <;> (try first | exact False.elim hc | (exfalso; omega))))
      refine X.again (y2, rs ++ [y]) (by simp only [List.length_append, List.length_singleton]; omega) (by simp only [List.length_append, List.length_singleton]; omega) ⟨rfl, rfl, rfl, congrArg (fun z => some (Value.int .i64 z)) (by simp only [List.length_append, List.length_singleton]; omega), trivial⟩ (fun w' h => ?_)
      exact h.sub (by repeat (first | exact List.Sublist.refl _ | apply List.Sublist.cons_cons | apply List.Sublist.cons))
  · repeat' (first
    | (refine nxN ?_)
    | (show YK _ _ _ _ _ ⟨some 73, _, _, _, _, _⟩ _; refine YK.ofV (y_loadRow (by rfl) (by exact memA) (by (repeat (first | exact .nil | apply LenIs.cons))) (by decide +kernel)) ?_)
    | (refine nxV ?_)
    | (show RS _ _ _ _ _ _ _ _; first | (refine nxRS ?_) | (refine nxRS1 fun _ => ?_))
    | (show RM _ _ _ _ _ _ _ _ _ _; first | (refine nxRM ?_) | (refine nxRM1 fun _ => ?_))
    | (refine nxG ?_)
    | (refine nxX ?_)
    | (refine G.condN rfl (fun hc => ?_) (fun hc => ?_) <;> (try first | exact False.elim hc | (exfalso; omega))))
    trace_state
    exact X.retN (vs := [_, _]) z1 rfl ⟨⟨_, _, _, _, rfl, (by exact memA), (by (repeat (first | exact .nil | apply LenIs.cons))), by decide +kernel, rfl⟩, rfl, rfl⟩ rfl trivial rfl NewIn.nil
end Go.Proofs.YtgmolcobhehoeaaDoor
/- law 49's made. -/
set_option linter.unusedVariables false
set_option maxHeartbeats 8000000
namespace Go.Proofs.YtgmolcobhehoeaaDoor
open Go.RowKit
theorem RS.permH {P : Program} {n : Nat} {L : FL} {w0 : World} {H H' : List Hl} {Q : Exit → Act → World → Prop} {ops : Array Oper} {rest : List Oper} (h : RS P ops Q n L w0 H' rest) (hp : H.Perm H') : RS P ops Q n L w0 H rest := by
  unfold RS at *
  exact fun a w ha hw => h a w ha (hw.perm hp)
theorem perm_n2 {a b x y : Hl} {A HR : List Hl} : (a :: b :: (A ++ (x :: y :: HR))).Perm (x :: y :: a :: b :: (A ++ HR)) := by
  classical
  refine List.perm_iff_count.2 fun c => ?_
  simp only [List.count_cons, List.count_append]
  omega
theorem made_no {la lo u wd e : Int} (he : newE la lo u wd = e) (h0 : e = 1 ∨ e = 2) : Cont Tryd.prog 6 [ptV la lo, .int .i64 u, .int .i64 wd] (.tuple [.pointer none, rshV 0 0 0 0 (.slice none 0 0), .bool true].toArray) := fun w => by
  have q1 := new_no he (by omega)
  have q2 := rnew_no he (by omega)
  rcases h0 with rfl | rfl <;> (
    refine enter0 Tryd.func6 rfl rfl rfl ?_
    repeat' (first
    | (refine nxN ?_)
    | (show YG _ _ _ _ _ _ ⟨some 34, _, _, _, _, _⟩ _; refine YG.mk (fun hb => (y_eqNil0 rfl rfl sh_ptr).y) ?_)
    | (show VG _ _ _ _ _ _ ⟨some 34, _, _, _, _, _⟩ _; refine VG.mk (fun hb => y_eqNil0 rfl rfl sh_ptr) ?_)
    | (refine G.mixedM 3 [.go 0, .go 1, .go 2, .go 3, .go 4, .go 5, .go 6, .go 7, .go 8, .go 9, .go 10, .go 11, .go 12, .go 13, .go 14] [true, false, true] ?_; dsimp only [maskH])
    | (show YK _ _ _ _ _ _ _; first | refine YK.mk (y_callA (q1) ⟨rfl, rfl, rfl, rfl⟩) ?_ | refine YK.mk (y_callA (q2) ⟨rfl, rfl, rfl, rfl⟩) ?_)
    | (show YK _ _ _ _ _ _ _; refine YK.ofV vAuto ?_)
    | (show VK _ _ _ _ _ _ _; refine VK.mk vAuto ?_)
    | (show RS _ _ _ _ _ _ _ _; first | (refine nxRS ?_) | (refine nxRS1 fun _ => ?_))
    | (show RM _ _ _ _ _ _ _ _ _ _; first | (refine nxRM ?_) | (refine nxRM1 fun _ => ?_))
    | (show YG _ _ _ _ _ _ _ _; refine YG.mk (fun hb => by (try (have hc := And.left hb; have hb := And.right hb; rw [hc])); (try rw [hb]); first | exact (y_callA (q1) ⟨rfl, rfl, rfl, rfl⟩) | exact (y_callA (q2) ⟨rfl, rfl, rfl, rfl⟩) | exact V.y vAuto) ?_)
    | (show VG _ _ _ _ _ _ _ _; refine VG.mk (fun hb => by (try (have hc := And.left hb; have hb := And.right hb; rw [hc])); (try rw [hb]); exact vAuto) ?_)
    | (refine nxX ?_)
    | (refine G.condN rfl (fun hc => ?_) (fun hc => ?_) <;> (try first | exact False.elim hc | (exfalso; omega))))
    exact X.ret (vs := [_, _, _]) rfl ⟨rfl, ⟨_, _, _, _, rfl, (by exact memA), (by (repeat (first | exact .nil | apply LenIs.cons))), by decide +kernel, rfl⟩, rfl, rfl⟩ rfl (fun w hw => ⟨rfl, hw.ext⟩))
theorem made_ok {la lo u : Int} {wd : Nat} (hp : pointB la lo = true) (hla : -4800000 ≤ la ∧ la ≤ 4800000) (hu : 2 ≤ u ∧ u ≤ 100000) (hw : 11 ≤ wd ∧ wd ≤ 121) (ho : wd % 2 = 1) :
    ContL Tryd.prog (fun _ => True) [] 6 [ptV la lo, .int .i64 u, .int .i64 (wd : Int)] (fun z : (Nat × Sl × List Sl × (Nat → List Value)) × Sl => NewP wd z.1) (fun z => .tuple [ptS z.1.1, rshV la lo u wd z.2.v, .bool true].toArray) (fun z => shB z.1.1 la lo u (TT.cosE la la).1 z.1.2.1.v :: rwS z.1.2.1 z.1.2.2.1 :: rowsH z.1.2.2.2 (newR wd z.1.2.2.1)) := fun w0 HR w _ hs => by
  have q1 := new_ok hp hla hu hw ho
  have q2 := rnew_ok hp hla hu hw ho
  refine enterU Tryd.func6 rfl rfl rfl (H := HR) hs ?_
  repeat' (first
    | (refine nxN ?_)
    | (show RS _ _ _ _ _ _ _ (⟨some 17, _, _, _, _, _⟩ :: _); refine RS.callL q1 trivial ?_; rintro ⟨b, z, rs, xt⟩ hz; dsimp only [List.cons_append, List.nil_append]; refine RS.permH ?_ perm_n2)
    | (show RS _ _ _ _ _ _ _ (⟨some 24, _, _, _, _, _⟩ :: _); refine RS.callX q2 ⟨rfl, rfl, rfl, rfl⟩ ?_; rintro y -; dsimp only [List.nil_append])
    | (show YG _ _ _ _ _ _ ⟨some 34, _, _, _, _, _⟩ _; refine YG.mk (fun hb => (y_eqNil1 rfl rfl sh_ptr).y) ?_)
    | (show VG _ _ _ _ _ _ ⟨some 34, _, _, _, _, _⟩ _; refine VG.mk (fun hb => y_eqNil1 rfl rfl sh_ptr) ?_)
    | (refine G.mixedM 3 [.go 0, .go 1, .go 2, .go 3, .go 4, .go 5, .go 6, .go 7, .go 8, .go 9, .go 10, .go 11, .go 12, .go 13, .go 14] [true, false, true, true] ?_; dsimp only [maskH])
    | (refine nxV ?_)
    | (show RS _ _ _ _ _ _ _ _; first | (refine nxRS ?_) | (refine nxRS1 fun _ => ?_))
    | (show RM _ _ _ _ _ _ _ _ _ _; first | (refine nxRM ?_) | (refine nxRM1 fun _ => ?_))
    | (refine nxG ?_)
    | (refine nxX ?_)
    | (refine G.condN rfl (fun hc => ?_) (fun hc => ?_) <;> (try first | exact False.elim hc | (exfalso; omega))))
  exact X.ret (vs := [_, _, _]) rfl ⟨rfl, ⟨_, _, _, _, rfl, (by exact memA), (by (repeat (first | exact .nil | apply LenIs.cons))), by decide +kernel, rfl⟩, rfl, rfl⟩ rfl (fun w hw => ⟨((b, z, rs, xt), y), hz, rfl, St.sub hw (by repeat (first | exact List.Sublist.refl _ | apply List.Sublist.cons_cons | apply List.Sublist.cons))⟩)
end Go.Proofs.YtgmolcobhehoeaaDoor
/- The example of chapter 49. -/
set_option linter.unusedVariables false
set_option maxHeartbeats 8000000
namespace Go.Proofs.YtgmolcobhehoeaaDoor
open Go.RowKit
/-- A new sheet's pixels when a choice of them is marked. -/
def pixL (sel : Nat → Nat → Bool) (m : Int) (wd h : Nat) : List (List Int) := (List.range h).map fun j => pK (fun i => sel i j) m wd (List.replicate wd 46)
theorem pR_newA (sel : Nat → Nat → Bool) (m : Int) (wd : Nat) : ∀ (rs : List Sl) (a : Nat), (pR sel m rs.length a (newR wd rs)).map Prod.snd = (List.range rs.length).map fun j => pK (fun i => sel i (a + j)) m wd (List.replicate wd 46)
  | [], a => rfl
  | s :: r, a => by
    have ih := pR_newA sel m wd r (a + 1)
    show pK (fun i => sel i a) m (List.replicate wd (46 : Int)).length (List.replicate wd 46) :: (pR sel m r.length (a + 1) (newR wd r)).map Prod.snd = _
    rw [ih, List.length_replicate, List.length_cons, List.range_succ_eq_map, List.map_cons, List.map_map]
    congr 1
    refine List.map_congr_left fun j _ => ?_
    show _ = pK (fun i => sel i (a + (j + 1))) m wd (List.replicate wd 46)
    rw [show a + 1 + j = a + (j + 1) by omega]
theorem pR_new (sel : Nat → Nat → Bool) (m : Int) (wd : Nat) (rs : List Sl) : (pR sel m rs.length 0 (newR wd rs)).map Prod.snd = pixL sel m wd rs.length := by
  rw [pR_newA]
  unfold pixL
  refine List.map_congr_left fun j _ => ?_
  rw [Nat.zero_add]
theorem pixL_mem {sel : Nat → Nat → Bool} {m : Int} {wd h : Nat} {l : List Int} (hl : l ∈ pixL sel m wd h) (hm : 11 ≤ m ∧ m ≤ 255) : l.length = wd ∧ ∀ n ∈ l, 11 ≤ n ∧ n ≤ 255 := by
  obtain ⟨j, _, rfl⟩ := List.mem_map.1 hl
  refine ⟨by rw [pK_len, List.length_replicate], fun n hn => ?_⟩
  unfold pK at hn
  obtain ⟨i, hi, rfl⟩ := List.mem_map.1 hn
  rw [List.length_replicate] at hi
  have hi' := List.mem_range.1 hi
  split
  · exact hm
  · rw [List.getD_eq_getElem?_getD, List.getElem?_replicate, if_pos hi']
    exact ⟨by decide, by decide⟩
theorem TxW.ofSt {w0 w : World} {H : List Hl} {b : Nat} {la lo u cs : Int} {z : Sl} {rs : List (Sl × List Int)} {wd : Nat} {xt : Nat → List Value} (hw : St w0 H w) (h1 : shB b la lo u cs z.v ∈ H) (h2 : rwS z (rs.map Prod.fst) ∈ H) (h3 : ∀ h ∈ rowsH xt rs, h ∈ H) (hd : ∀ r ∈ rs, r.2.length = wd ∧ hdOk wd r.1) (hn : 1 ≤ rs.length) : TxW b la lo u cs z rs wd w := by
  refine ⟨ShR.ofSt hw h1 h2, ?_, fun r hr => ?_⟩
  · have h := hw.all _ h2
    rcases h.2 with ⟨_, h'⟩ | ⟨g, cap, cur, h', _⟩
    · rw [List.length_map] at h'; omega
    · simp only [Value.slice.injEq] at h'
      exact ⟨g, h'.1⟩
  · have hm : pxH xt r.1 r.2 ∈ H := h3 _ (List.mem_map.2 ⟨r, hr, rfl⟩)
    exact RdT.px hm (hd r hr).2 (hd r hr).1 w0 w hw
theorem newR_ok {wd : Nat} {rs : List Sl} (h : ∀ s ∈ rs, hdOk wd s) : ∀ r ∈ newR wd rs, r.2.length = wd ∧ hdOk wd r.1 := fun r hr => by
  obtain ⟨s, hs, rfl⟩ := List.mem_map.1 hr
  exact ⟨List.length_replicate, h s hs⟩
theorem pR_ok {sel : Nat → Nat → Bool} {m : Int} {wd : Nat} : ∀ {rs : List (Sl × List Int)} {j a : Nat}, (∀ r ∈ rs, r.2.length = wd ∧ hdOk wd r.1) → ∀ r ∈ pR sel m j a rs, r.2.length = wd ∧ hdOk wd r.1
  | [], 0, _, _, r, hr => by cases hr
  | [], j + 1, _, _, r, hr => by cases hr
  | x :: rs, 0, _, h, r, hr => h r hr
  | x :: rs, j + 1, a, h, r, hr => by
    rcases List.mem_cons.1 hr with rfl | hr
    · exact ⟨by rw [pK_len]; exact (h x List.mem_cons_self).1, (h x List.mem_cons_self).2⟩
    · exact pR_ok (fun y hy => h y (List.mem_cons_of_mem _ hy)) r hr
theorem pR_len {sel : Nat → Nat → Bool} {m : Int} : ∀ {rs : List (Sl × List Int)} {j a : Nat}, (pR sel m j a rs).length = rs.length := fun {rs j a} => by
  have := congrArg List.length (pR_fst sel m rs j a)
  simpa using this
theorem shok_new {la lo u : Int} {wd : Nat} {rs : List Sl} (hp : pointB la lo = true) (hla : -4800000 ≤ la ∧ la ≤ 4800000) (hu : 2 ≤ u ∧ u ≤ 100000) (hw : 11 ≤ wd ∧ wd ≤ 121) (hl : rs.length = 2 * ((wd - 1) / 4) + 1) (hr : ∀ s ∈ rs, hdOk wd s) : ShOk la lo u (TT.cosE la la).1 rs wd := by
  have hc := cos_lo hla
  unfold pointB at hp
  simp only [Bool.and_eq_true, decide_eq_true_eq] at hp
  refine ⟨by omega, ?_, by omega, by omega, by omega, hu, hc⟩
  cases rs with
  | nil => simp at hl
  | cons s r => exact (hr s List.mem_cons_self).1
theorem wake_px : pixI 11 5 0 0 1000 1073741824 2000 3000 = (8, 1, 0) := by decide +kernel
theorem wake_cs : (TT.cosE 0 0).1 = 1073741824 := by decide +kernel
abbrev wakeS : Nat → Nat → Bool := lineSel 11 5 1000 ((TT.encl (midI 0 0) (midI 0 0)).1 / 131072) ((TT.cosE (midI 0 0) (midI 0 0)).1 / 131072) (midI 2000 2000)
theorem wake_tx : txtS (pixL wakeS 35 11 5) = Lib.repeatL [46] 11 ++ [10] ++ Lib.repeatL [35] 11 ++ [10] ++ (Lib.repeatL [46] 11 ++ [10]) ++ (Lib.repeatL [46] 11 ++ [10]) ++ (Lib.repeatL [46] 11 ++ [10]) := by decide +kernel
theorem built_ln : Tryd.prog.built 36 [(2, .agg [.int .i64 2000, .int .i64 2000].toArray)] = some [.int .i64 0, .int .i64 0, .int .i64 0, .int .i64 0, .int .i64 2000, .int .i64 2000].toArray := by kernel_rfl
end Go.Proofs.YtgmolcobhehoeaaDoor
/- law 49's awake. -/
set_option linter.unusedVariables false
set_option maxHeartbeats 8000000
namespace Go.Proofs.YtgmolcobhehoeaaDoor
open Go.RowKit
theorem wake_ln {b : Nat} {z : Sl} {rs : List Sl} {xt : Nat → List Value} (hz : NewP 11 (b, z, rs, xt)) : ContL Tryd.prog (fun _ => True) (shB b 0 0 1000 1073741824 z.v :: rwS z rs :: rowsH xt (newR 11 rs)) 7 [ptS b, lineV 0 0 0 0 2000 2000, .int .u8 35] (fun _ : Unit => True) (fun _ => .int .i64 0) (fun _ => shB b 0 0 1000 1073741824 z.v :: rwS z rs :: rowsH xt (pR wakeS 35 5 0 (newR 11 rs))) := by
  have hl : rs.length = 5 := hz.len
  have hok := shok_new (la := 0) (lo := 0) (u := 1000) (wd := 11) (rs := rs) (by decide) (by omega) (by omega) (by omega) hz.len hz.ok
  rw [wake_cs] at hok
  have e1 := TT.encl_le (midI 0 0) (midI 0 0) (Int.le_refl _) (by omega)
  have e2 := TT.cosE_bd (lo := midI 0 0) (hi := midI 0 0) (Int.le_refl _) (by omega)
  have q := line_ok (b := b) (z := z) (xt := xt) (rs := newR 11 rs) (m := 35) (zl := 0) (zh := 0) (il := 2000) (ih := 2000) (by rw [newR_fst]; exact hok) (newR_ok hz.ok) (by omega) (by decide) ⟨e1.1, by omega⟩ ⟨e2.1, by omega⟩
  rw [newR_fst, show (newR 11 rs).length = 5 by rw [← hl]; exact List.length_map _] at q
  exact q
theorem wake_tc {b : Nat} {z : Sl} {rs : List Sl} {xt : Nat → List Value} (hz : NewP 11 (b, z, rs, xt)) : ContIn Tryd.prog (TxW b 0 0 1000 1073741824 z (pR wakeS 35 5 0 (newR 11 rs)) 11) 8 [ptS b] (strV (Lib.repeatL [46] 11 ++ [10] ++ Lib.repeatL [35] 11 ++ [10] ++ (Lib.repeatL [46] 11 ++ [10]) ++ (Lib.repeatL [46] 11 ++ [10]) ++ (Lib.repeatL [46] 11 ++ [10]))) := by
  have hl : rs.length = 5 := hz.len
  have hs : (pR wakeS 35 5 0 (newR 11 rs)).map Prod.snd = pixL wakeS 35 11 5 := by
    have := pR_new wakeS 35 11 rs
    rw [hl] at this
    exact this
  have q := text_c (b := b) (la := 0) (lo := 0) (u := 1000) (cs := 1073741824) (z := z) (rs := pR wakeS 35 5 0 (newR 11 rs)) (wd := 11) (fun r hr => by
    have hm : r.2 ∈ pixL wakeS 35 11 5 := by rw [← hs]; exact List.mem_map.2 ⟨r, hr, rfl⟩
    exact pixL_mem hm (by omega)) (by rw [pR_len, List.length_map, hl]; omega) (by omega)
  rw [hs, wake_tx] at q
  exact q
theorem awake49_c : Cont Tryd.prog 5 [] (.bool true) := fun w => by
  have q1 := new_ok (la := 0) (lo := 0) (u := 1000) (wd := 11) (by decide) (by omega) (by omega) (by omega) rfl
  rw [wake_cs] at q1
  have qr1 := repeat_c [46] (m := 11) (by omega) (by decide)
  have qr2 := repeat_c [35] (m := 11) (by omega) (by decide)
  rw [show (11 : Int).toNat = 11 from rfl] at qr1 qr2
  have l1 : (Lib.repeatL [46] 11).length = 11 := by decide
  have l2 : (Lib.repeatL [35] 11).length = 11 := by decide
  refine enter0 Tryd.func5 rfl rfl rfl ?_
  generalize hd1 : Lib.repeatL [46] 11 = s1 at *
  generalize hd2 : Lib.repeatL [35] 11 = s2 at *
  repeat' (first
    | (show YK _ _ _ _ _ ⟨_, .call { callee := .builtin .len, args := _, argTypes := #[9] }, _, _, _, _⟩ _; refine YK.ofV (y_lenS (by rfl) StrTy.is) ?_)
    | (show VK _ _ _ _ _ ⟨_, .call { callee := .builtin .len, args := _, argTypes := #[9] }, _, _, _, _⟩ _; refine VK.mk (y_lenS (by rfl) StrTy.is) ?_)
    | (show YG _ _ _ _ _ _ ⟨_, .call { callee := .builtin .len, args := _, argTypes := #[9] }, _, _, _, _⟩ _; refine YG.mk (fun hb => by (try (have hc := And.left hb; have hb := And.right hb; rw [hc])); (try rw [hb]); exact V.y (y_lenS (by rfl) StrTy.is)) ?_)
    | (show VG _ _ _ _ _ _ ⟨_, .call { callee := .builtin .len, args := _, argTypes := #[9] }, _, _, _, _⟩ _; refine VG.mk (fun hb => by (try (have hc := And.left hb; have hb := And.right hb; rw [hc])); (try rw [hb]); exact y_lenS (by rfl) StrTy.is) ?_)
    | (refine nxN ?_)
    | (show RS _ _ _ _ _ _ _ (⟨some 10, _, _, _, _, _⟩ :: _); refine RS.callL q1 trivial ?_ ⟨rfl, rfl, rfl, rfl⟩; rintro ⟨b, z, rs, xt⟩ hz; dsimp only [List.cons_append, List.nil_append]; have hl : rs.length = 5 := hz.len; have hok := shok_new (la := 0) (lo := 0) (u := 1000) (wd := 11) (rs := rs) (by decide) (by omega) (by omega) (by omega) hz.len hz.ok; rw [wake_cs] at hok; have q2 := pixel_c (b := b) (z := z) hok (pla := 2000) (plo := 3000) (by omega) (by omega); rw [hl, wake_px] at q2; have q3 := wake_ln hz; have q4 := wake_tc hz; rw [hd1, hd2] at q4)
    | (show YG _ _ _ _ _ _ ⟨some 17, _, _, _, _, _⟩ _; refine YG.mk (fun hb => (y_eqNil1 rfl rfl sh_ptr).y) ?_)
    | (show VG _ _ _ _ _ _ ⟨some 17, _, _, _, _, _⟩ _; refine VG.mk (fun hb => y_eqNil1 rfl rfl sh_ptr) ?_)
    | (show YK _ _ _ _ _ ⟨_, .call { callee := .value (.func 16), args := _, argTypes := _ }, _, _, _, _⟩ _; refine YK.mk (y_callIn (q2) (fun w' hw' => ShR.ofSt hw' (by exact memA) (by exact memA)) ⟨rfl, rfl, rfl⟩ (by decide +kernel)) ?_)
    | (show YG _ _ _ _ _ _ ⟨_, .call { callee := .value (.func 16), args := _, argTypes := _ }, _, _, _, _⟩ _; refine YG.mk (fun hb => by (try (have hc := And.left hb; have hb := And.right hb; rw [hc])); (try rw [hb]); exact y_callIn (q2) (fun w' hw' => ShR.ofSt hw' (by exact memA) (by exact memA)) ⟨rfl, rfl, rfl⟩ (by decide +kernel)) ?_)
    | (show YK _ _ _ _ _ ⟨some 28, _, _, _, _, _⟩ _; refine YK.ofV (y_build (parts := [(2, .tmp 27)]) (vs := [_]) ⟨rfl, rfl⟩ built_ln) ?_)
    | (show RS _ _ _ _ _ _ _ (⟨some 29, _, _, _, _, _⟩ :: _); refine RS.callPm q3 trivial (List.Perm.refl _) ?_ ⟨rfl, rfl, rfl, rfl⟩; rintro ⟨⟩ -; dsimp only [List.cons_append, List.nil_append])
    | (show YK _ _ _ _ _ ⟨_, .call { callee := .value (.func 8), args := _, argTypes := _ }, _, _, _, _⟩ _; refine YK.mk (y_callIn (q4) (fun w' hw' => TxW.ofSt (xt := xt) hw' (by exact memA) (by (rw [pR_fst, newR_fst]; exact memA)) (fun h hm => .tail _ (.tail _ (List.mem_append_left _ hm))) (pR_ok (newR_ok hz.ok)) (by (rw [pR_len, List.length_map, hl]; omega))) ⟨rfl, rfl⟩ (by decide +kernel)) ?_)
    | (show YG _ _ _ _ _ _ ⟨_, .call { callee := .value (.func 8), args := _, argTypes := _ }, _, _, _, _⟩ _; refine YG.mk (fun hb => by (try (have hc := And.left hb; have hb := And.right hb; rw [hc])); (try rw [hb]); exact y_callIn (q4) (fun w' hw' => TxW.ofSt (xt := xt) hw' (by exact memA) (by (rw [pR_fst, newR_fst]; exact memA)) (fun h hm => .tail _ (.tail _ (List.mem_append_left _ hm))) (pR_ok (newR_ok hz.ok)) (by (rw [pR_len, List.length_map, hl]; omega))) ⟨rfl, rfl⟩ (by decide +kernel)) ?_)
    | (show YK _ _ _ _ _ _ _; first | refine YK.mk (y_callA (qr1) ⟨rfl, rfl, rfl⟩) ?_ | refine YK.mk (y_callA (qr2) ⟨rfl, rfl, rfl⟩) ?_)
    | (show YK _ _ _ _ _ _ _; refine YK.ofV vAuto ?_)
    | (show VK _ _ _ _ _ _ _; refine VK.mk vAuto ?_)
    | (show RS _ _ _ _ _ _ _ _; first | (refine nxRS ?_) | (refine nxRS1 fun _ => ?_))
    | (show RM _ _ _ _ _ _ _ _ _ _; first | (refine nxRM ?_) | (refine nxRM1 fun _ => ?_))
    | (show YG _ _ _ _ _ _ _ _; refine YG.mk (fun hb => by (try (have hc := And.left hb; have hb := And.right hb; rw [hc])); (try rw [hb]); first | exact (y_callA (qr1) ⟨rfl, rfl, rfl⟩) | exact (y_callA (qr2) ⟨rfl, rfl, rfl⟩) | exact V.y vAuto) ?_)
    | (show VG _ _ _ _ _ _ _ _; refine VG.mk (fun hb => by (try (have hc := And.left hb; have hb := And.right hb; rw [hc])); (try rw [hb]); exact vAuto) ?_)
    | (refine nxVS ?_)
    | (refine nxGS ?_)
    | (refine nxX ?_)
    | (refine G.condN rfl (fun hc => ?_) (fun hc => ?_) <;> (try first | exact False.elim hc | (exfalso; omega))))
  exact X.ret (vs := [_]) rfl ⟨rfl, rfl⟩ rfl (fun w hw => ⟨ret_bool (by simp), hw.ext⟩)
end Go.Proofs.YtgmolcobhehoeaaDoor
/- The reference's Valid of lines. -/
set_option linter.unusedVariables false
set_option maxHeartbeats 8000000
namespace Go.Proofs.YtgmolcobhehoeaaDoor
open Go.RowKit
theorem rnear_c {la lo : Int} : Cont Tryd.prog 38 [ptV la lo] (.bool (nearB la lo)) := fun w => by
  have q1 := rvpoint_c la lo
  refine enter0 Tryd.func38 rfl rfl rfl ?_
  repeat' (first
    | (show YK _ _ _ _ _ _ _; first | refine YK.mk (y_callA (q1) ⟨rfl, rfl⟩) ?_)
    | (show YK _ _ _ _ _ _ _; refine YK.ofV vAuto ?_)
    | (show VK _ _ _ _ _ _ _; refine VK.mk vAuto ?_)
    | (show RS _ _ _ _ _ _ _ _; first | (refine nxRS ?_) | (refine nxRS1 fun _ => ?_))
    | (show RM _ _ _ _ _ _ _ _ _ _; first | (refine nxRM ?_) | (refine nxRM1 fun _ => ?_))
    | (show YG _ _ _ _ _ _ _ _; refine YG.mk (fun hb => by (try (have hc := And.left hb; have hb := And.right hb; rw [hc])); (try rw [hb]); first | exact (y_callA (q1) ⟨rfl, rfl⟩) | exact V.y vAuto) ?_)
    | (show VG _ _ _ _ _ _ _ _; refine VG.mk (fun hb => by (try (have hc := And.left hb; have hb := And.right hb; rw [hc])); (try rw [hb]); exact vAuto) ?_)
    | (refine nxX ?_)
    | (refine G.condN rfl (fun hc => ?_) (fun hc => ?_) <;> (try first | exact False.elim hc | (exfalso; omega))))
  refine X.ret (vs := [_]) rfl ⟨rfl, rfl⟩ rfl (fun w hw => ⟨congrArg Ending.returned (congrArg Value.bool ?_), hw.ext⟩)
  rw [Bool.eq_iff_iff]
  simp only [nearB, pointB, Bool.and_eq_true, decide_eq_true_eq]
  omega
theorem rarc_c {a b : Int} : Cont Tryd.prog 39 [arcV a b] (.bool (avalB a b)) := fun w => by
  refine enter0 Tryd.func39 rfl rfl rfl ?_
  repeat' (first
    | (refine nxV ?_)
    | (show RS _ _ _ _ _ _ _ _; first | (refine nxRS ?_) | (refine nxRS1 fun _ => ?_))
    | (show RM _ _ _ _ _ _ _ _ _ _; first | (refine nxRM ?_) | (refine nxRM1 fun _ => ?_))
    | (refine nxG ?_)
    | (refine nxX ?_)
    | (refine G.condN rfl (fun hc => ?_) (fun hc => ?_) <;> (try first | exact False.elim hc | (exfalso; omega))))
  refine X.ret (vs := [_]) rfl ⟨rfl, rfl⟩ rfl (fun w hw => ⟨congrArg Ending.returned (congrArg Value.bool ?_), hw.ext⟩)
  rw [Bool.eq_iff_iff]
  simp only [avalB, fitsB, Bool.and_eq_true, decide_eq_true_eq]
  omega
theorem rfrom_c {a b : Int} : Cont Tryd.prog 41 [arcV a b, .int .i64 600000] (.bool (decide (a ≤ b) && decide (-600000 ≤ a) && decide (b ≤ 600000))) := fun w => by
  refine enter0 Tryd.func41 rfl rfl rfl ?_
  repeat' (first
    | (refine nxV ?_)
    | (show RS _ _ _ _ _ _ _ _; first | (refine nxRS ?_) | (refine nxRS1 fun _ => ?_))
    | (show RM _ _ _ _ _ _ _ _ _ _; first | (refine nxRM ?_) | (refine nxRM1 fun _ => ?_))
    | (refine nxG ?_)
    | (refine nxX ?_)
    | (refine G.condN rfl (fun hc => ?_) (fun hc => ?_) <;> (try first | exact False.elim hc | (exfalso; omega))))
  exact X.ret (vs := [_]) rfl ⟨rfl, rfl⟩ rfl (fun w hw => ⟨rfl, hw.ext⟩)
theorem rwrap_c {n : Int} (hn : -4611686018427387904 ≤ n ∧ n ≤ 4611686018427387904) : Cont Tryd.prog 67 [.int .i64 n] (.int .i64 (TT.turnI n)) := fun w => by
  have ht := tmod_turn n
  have hb : -21600000 < n.tmod 21600000 ∧ n.tmod 21600000 < 21600000 := by omega
  refine enter0 Tryd.func67 rfl rfl rfl ?_
  repeat' (first
    | (refine nxV ?_)
    | (show RS _ _ _ _ _ _ _ _; first | (refine nxRS ?_) | (refine nxRS1 fun _ => ?_))
    | (show RM _ _ _ _ _ _ _ _ _ _; first | (refine nxRM ?_) | (refine nxRM1 fun _ => ?_))
    | (refine nxG ?_)
    | (refine nxX ?_)
    | (refine G.condN rfl (fun hc => ?_) (fun hc => ?_) <;> (try first | exact False.elim hc | (exfalso; omega))))
  all_goals refine X.ret (vs := [_]) rfl ⟨rfl, rfl⟩ rfl (fun w hw => ⟨congrArg Ending.returned (congrArg (Value.int .i64) ?_), hw.ext⟩)
  all_goals (unfold TT.turnI; omega)
def turnE (a b : Int) : Int × Int := if 21600000 ≤ b - a then (0, 21600000) else (TT.turnI a, TT.turnI a + (b - a))
theorem rturn_c {zl zh : Int} (h : -1099511627776 ≤ zl ∧ zl ≤ zh ∧ zh ≤ 1099511627776) : Cont Tryd.prog 40 [arcV zl zh] (arcV (turnE zl zh).1 (turnE zl zh).2) := fun w => by
  have q1 := rwrap_c (n := zl) (by omega)
  obtain ⟨m0, m9⟩ := TT.turnI_bd zl
  unfold turnE
  generalize TT.turnI zl = tv at *
  by_cases hbb : 21600000 ≤ zh - zl
  · rw [if_pos hbb]
    refine enter0 Tryd.func40 rfl rfl rfl ?_
    repeat' (first
    | (show YK _ _ _ _ _ _ _; first | refine YK.mk (y_callA (q1) ⟨rfl, rfl⟩) ?_)
    | (show YK _ _ _ _ _ _ _; refine YK.ofV vAuto ?_)
    | (show VK _ _ _ _ _ _ _; refine VK.mk vAuto ?_)
    | (show RS _ _ _ _ _ _ _ _; first | (refine nxRS ?_) | (refine nxRS1 fun _ => ?_))
    | (show RM _ _ _ _ _ _ _ _ _ _; first | (refine nxRM ?_) | (refine nxRM1 fun _ => ?_))
    | (show YG _ _ _ _ _ _ _ _; refine YG.mk (fun hb => by (try (have hc := And.left hb; have hb := And.right hb; rw [hc])); (try rw [hb]); first | exact (y_callA (q1) ⟨rfl, rfl⟩) | exact V.y vAuto) ?_)
    | (show VG _ _ _ _ _ _ _ _; refine VG.mk (fun hb => by (try (have hc := And.left hb; have hb := And.right hb; rw [hc])); (try rw [hb]); exact vAuto) ?_)
    | (refine nxX ?_)
    | (refine G.condN rfl (fun hc => ?_) (fun hc => ?_) <;> (try first | exact False.elim hc | (exfalso; omega))))
    exact X.ret (vs := [_]) rfl ⟨⟨_, _, _, _, rfl, (by exact memA), (by (repeat (first | exact .nil | apply LenIs.cons))), by decide +kernel, rfl⟩, rfl⟩ rfl (fun w hw => ⟨rfl, hw.ext⟩)
  · rw [if_neg hbb]
    refine enter0 Tryd.func40 rfl rfl rfl ?_
    repeat' (first
    | (show YK _ _ _ _ _ _ _; first | refine YK.mk (y_callA (q1) ⟨rfl, rfl⟩) ?_)
    | (show YK _ _ _ _ _ _ _; refine YK.ofV vAuto ?_)
    | (show VK _ _ _ _ _ _ _; refine VK.mk vAuto ?_)
    | (show RS _ _ _ _ _ _ _ _; first | (refine nxRS ?_) | (refine nxRS1 fun _ => ?_))
    | (show RM _ _ _ _ _ _ _ _ _ _; first | (refine nxRM ?_) | (refine nxRM1 fun _ => ?_))
    | (show YG _ _ _ _ _ _ _ _; refine YG.mk (fun hb => by (try (have hc := And.left hb; have hb := And.right hb; rw [hc])); (try rw [hb]); first | exact (y_callA (q1) ⟨rfl, rfl⟩) | exact V.y vAuto) ?_)
    | (show VG _ _ _ _ _ _ _ _; refine VG.mk (fun hb => by (try (have hc := And.left hb; have hb := And.right hb; rw [hc])); (try rw [hb]); exact vAuto) ?_)
    | (refine nxX ?_)
    | (refine G.condN rfl (fun hc => ?_) (fun hc => ?_) <;> (try first | exact False.elim hc | (exfalso; omega))))
    exact X.ret (vs := [_]) rfl ⟨⟨_, _, _, _, rfl, (by exact memA), (by (repeat (first | exact .nil | apply LenIs.cons))), by decide +kernel, rfl⟩, rfl⟩ rfl (fun w hw => ⟨rfl, hw.ext⟩)
theorem rlval_c {la lo zl zh : Int} : Cont Tryd.prog 11 [lineV la lo zl zh 0 0] (.bool (lvalB la lo zl zh 0 0)) := fun w => by
  have q1 := rnear_c (la := la) (lo := lo)
  have q2 := rarc_c (a := zl) (b := zh)
  have q4 := rfrom_c (a := 0) (b := 0)
  have h0 : (decide ((0 : Int) ≤ 0) && decide ((-600000 : Int) ≤ 0) && decide ((0 : Int) ≤ 600000)) = true := by decide
  rw [h0] at q4
  have e0 : avalB 0 0 = true := by decide
  unfold lvalB
  rw [e0]
  cases hn : nearB la lo with
  | false =>
    rw [hn] at q1
    refine enter0 Tryd.func11 rfl rfl rfl ?_
    repeat' (first
    | (show YK _ _ _ _ _ ⟨_, .load 25 _, _, _, _, _⟩ _; refine YK.ofV (y_loadPart (k := 2) (by rfl) (by exact memA) (by decide +kernel) (by rfl)) ?_)
    | (show VK _ _ _ _ _ ⟨_, .load 25 _, _, _, _, _⟩ _; refine VK.mk (y_loadPart (k := 2) (by rfl) (by exact memA) (by decide +kernel) (by rfl)) ?_)
    | (show VG _ _ _ _ _ _ ⟨_, .load 25 _, _, _, _, _⟩ _; refine VG.mk (fun hb => by (try (have hc := And.left hb; have hb := And.right hb; rw [hc])); (try rw [hb]); exact y_loadPart (k := 2) (by rfl) (by exact memA) (by decide +kernel) (by rfl)) ?_)
    | (show YK _ _ _ _ _ ⟨_, .load 23 _, _, _, _, _⟩ _; refine YK.ofV (y_loadPart (k := 2) (by rfl) (by exact memA) (by decide +kernel) (by rfl)) ?_)
    | (show VK _ _ _ _ _ ⟨_, .load 23 _, _, _, _, _⟩ _; refine VK.mk (y_loadPart (k := 2) (by rfl) (by exact memA) (by decide +kernel) (by rfl)) ?_)
    | (show VG _ _ _ _ _ _ ⟨_, .load 23 _, _, _, _, _⟩ _; refine VG.mk (fun hb => by (try (have hc := And.left hb; have hb := And.right hb; rw [hc])); (try rw [hb]); exact y_loadPart (k := 2) (by rfl) (by exact memA) (by decide +kernel) (by rfl)) ?_)
    | (show YK _ _ _ _ _ _ _; first | refine YK.mk (y_callA (q1) ⟨rfl, rfl⟩) ?_)
    | (show YK _ _ _ _ _ _ _; refine YK.ofV vAuto ?_)
    | (show VK _ _ _ _ _ _ _; refine VK.mk vAuto ?_)
    | (show RS _ _ _ _ _ _ _ _; first | (refine nxRS ?_) | (refine nxRS1 fun _ => ?_))
    | (show RM _ _ _ _ _ _ _ _ _ _; first | (refine nxRM ?_) | (refine nxRM1 fun _ => ?_))
    | (show YG _ _ _ _ _ _ _ _; refine YG.mk (fun hb => by (try (have hc := And.left hb; have hb := And.right hb; rw [hc])); (try rw [hb]); first | exact (y_callA (q1) ⟨rfl, rfl⟩) | exact V.y vAuto) ?_)
    | (show VG _ _ _ _ _ _ _ _; refine VG.mk (fun hb => by (try (have hc := And.left hb; have hb := And.right hb; rw [hc])); (try rw [hb]); exact vAuto) ?_)
    | (refine G.mixedA 1 [.go 0, .go 1, .go 2, .go 3, .go 4, .go 5, .go 6, .go 7, .go 8, .go 9, .go 10, .go 12, .go 13, .go 11, .go 14, .go 15, .go 16, .go 17, .go 18, .go 19, .go 20, .go 21, .go 22, .go 23, .go 24, .go 25, .go 26, .go 27, .go 28, .go 29, .go 30, .go 31] ?_)
    | (refine nxX ?_)
    | (refine G.condN rfl (fun hc => ?_) (fun hc => ?_) <;> (try first | exact False.elim hc | (exfalso; omega))))
    exact X.ret (vs := [_]) rfl ⟨rfl, rfl⟩ rfl (fun w hw => ⟨ret_bool (by simp), hw.ext⟩)
  | true =>
    rw [hn] at q1
    cases hz : avalB zl zh with
    | false =>
      rw [hz] at q2
      refine enter0 Tryd.func11 rfl rfl rfl ?_
      repeat' (first
    | (show YK _ _ _ _ _ ⟨_, .load 25 _, _, _, _, _⟩ _; refine YK.ofV (y_loadPart (k := 2) (by rfl) (by exact memA) (by decide +kernel) (by rfl)) ?_)
    | (show VK _ _ _ _ _ ⟨_, .load 25 _, _, _, _, _⟩ _; refine VK.mk (y_loadPart (k := 2) (by rfl) (by exact memA) (by decide +kernel) (by rfl)) ?_)
    | (show VG _ _ _ _ _ _ ⟨_, .load 25 _, _, _, _, _⟩ _; refine VG.mk (fun hb => by (try (have hc := And.left hb; have hb := And.right hb; rw [hc])); (try rw [hb]); exact y_loadPart (k := 2) (by rfl) (by exact memA) (by decide +kernel) (by rfl)) ?_)
    | (show YK _ _ _ _ _ ⟨_, .load 23 _, _, _, _, _⟩ _; refine YK.ofV (y_loadPart (k := 2) (by rfl) (by exact memA) (by decide +kernel) (by rfl)) ?_)
    | (show VK _ _ _ _ _ ⟨_, .load 23 _, _, _, _, _⟩ _; refine VK.mk (y_loadPart (k := 2) (by rfl) (by exact memA) (by decide +kernel) (by rfl)) ?_)
    | (show VG _ _ _ _ _ _ ⟨_, .load 23 _, _, _, _, _⟩ _; refine VG.mk (fun hb => by (try (have hc := And.left hb; have hb := And.right hb; rw [hc])); (try rw [hb]); exact y_loadPart (k := 2) (by rfl) (by exact memA) (by decide +kernel) (by rfl)) ?_)
    | (show YK _ _ _ _ _ _ _; first | refine YK.mk (y_callA (q1) ⟨rfl, rfl⟩) ?_ | refine YK.mk (y_callA (q2) ⟨rfl, rfl⟩) ?_)
    | (show YK _ _ _ _ _ _ _; refine YK.ofV vAuto ?_)
    | (show VK _ _ _ _ _ _ _; refine VK.mk vAuto ?_)
    | (show RS _ _ _ _ _ _ _ _; first | (refine nxRS ?_) | (refine nxRS1 fun _ => ?_))
    | (show RM _ _ _ _ _ _ _ _ _ _; first | (refine nxRM ?_) | (refine nxRM1 fun _ => ?_))
    | (show YG _ _ _ _ _ _ _ _; refine YG.mk (fun hb => by (try (have hc := And.left hb; have hb := And.right hb; rw [hc])); (try rw [hb]); first | exact (y_callA (q1) ⟨rfl, rfl⟩) | exact (y_callA (q2) ⟨rfl, rfl⟩) | exact V.y vAuto) ?_)
    | (show VG _ _ _ _ _ _ _ _; refine VG.mk (fun hb => by (try (have hc := And.left hb; have hb := And.right hb; rw [hc])); (try rw [hb]); exact vAuto) ?_)
    | (refine G.mixedA 1 [.go 0, .go 1, .go 2, .go 3, .go 4, .go 5, .go 6, .go 7, .go 8, .go 9, .go 10, .go 12, .go 13, .go 11, .go 14, .go 15, .go 16, .go 17, .go 18, .go 19, .go 20, .go 21, .go 22, .go 23, .go 24, .go 25, .go 26, .go 27, .go 28, .go 29, .go 30, .go 31] ?_)
    | (refine nxX ?_)
    | (refine G.condN rfl (fun hc => ?_) (fun hc => ?_) <;> (try first | exact False.elim hc | (exfalso; omega))))
      exact X.ret (vs := [_]) rfl ⟨rfl, rfl⟩ rfl (fun w hw => ⟨ret_bool (by simp), hw.ext⟩)
    | true =>
      rw [hz] at q2
      simp only [avalB, fitsB, Bool.and_eq_true, decide_eq_true_eq] at hz
      have q3 := rturn_c (zl := zl) (zh := zh) (by omega)
      have ht : (turnE zl zh).1 = zl ∧ (turnE zl zh).2 = zh ∧ zh - zl < 10800000 ↔ 0 ≤ zl ∧ zl < 21600000 ∧ zh - zl < 10800000 := by
        have h1 := TT.turnI_bd zl
        unfold turnE
        constructor
        · rintro ⟨a1, a2, a3⟩
          rw [if_neg (by omega)] at a1
          dsimp only at a1
          omega
        · rintro ⟨a1, a2, a3⟩
          rw [if_neg (by omega)]
          have : TT.turnI zl = zl := Int.emod_eq_of_lt a1 a2
          dsimp only
          omega
      generalize turnE zl zh = tt at *
      obtain ⟨t1, t2⟩ := tt
      dsimp only at ht q3
      refine enter0 Tryd.func11 rfl rfl rfl ?_
      repeat' (first
    | (show YK _ _ _ _ _ ⟨_, .load 25 _, _, _, _, _⟩ _; refine YK.ofV (y_loadPart (k := 2) (by rfl) (by exact memA) (by decide +kernel) (by rfl)) ?_)
    | (show VK _ _ _ _ _ ⟨_, .load 25 _, _, _, _, _⟩ _; refine VK.mk (y_loadPart (k := 2) (by rfl) (by exact memA) (by decide +kernel) (by rfl)) ?_)
    | (show VG _ _ _ _ _ _ ⟨_, .load 25 _, _, _, _, _⟩ _; refine VG.mk (fun hb => by (try (have hc := And.left hb; have hb := And.right hb; rw [hc])); (try rw [hb]); exact y_loadPart (k := 2) (by rfl) (by exact memA) (by decide +kernel) (by rfl)) ?_)
    | (show YK _ _ _ _ _ ⟨_, .load 23 _, _, _, _, _⟩ _; refine YK.ofV (y_loadPart (k := 2) (by rfl) (by exact memA) (by decide +kernel) (by rfl)) ?_)
    | (show VK _ _ _ _ _ ⟨_, .load 23 _, _, _, _, _⟩ _; refine VK.mk (y_loadPart (k := 2) (by rfl) (by exact memA) (by decide +kernel) (by rfl)) ?_)
    | (show VG _ _ _ _ _ _ ⟨_, .load 23 _, _, _, _, _⟩ _; refine VG.mk (fun hb => by (try (have hc := And.left hb; have hb := And.right hb; rw [hc])); (try rw [hb]); exact y_loadPart (k := 2) (by rfl) (by exact memA) (by decide +kernel) (by rfl)) ?_)
    | (show YK _ _ _ _ _ _ _; first | refine YK.mk (y_callA (q1) ⟨rfl, rfl⟩) ?_ | refine YK.mk (y_callA (q2) ⟨rfl, rfl⟩) ?_ | refine YK.mk (y_callA (q3) ⟨rfl, rfl⟩) ?_ | refine YK.mk (y_callA (q4) ⟨rfl, rfl, rfl⟩) ?_)
    | (show YK _ _ _ _ _ _ _; refine YK.ofV vAuto ?_)
    | (show VK _ _ _ _ _ _ _; refine VK.mk vAuto ?_)
    | (show RS _ _ _ _ _ _ _ _; first | (refine nxRS ?_) | (refine nxRS1 fun _ => ?_))
    | (show RM _ _ _ _ _ _ _ _ _ _; first | (refine nxRM ?_) | (refine nxRM1 fun _ => ?_))
    | (show YG _ _ _ _ _ _ _ _; refine YG.mk (fun hb => by (try (have hc := And.left hb; have hb := And.right hb; rw [hc])); (try rw [hb]); first | exact (y_callA (q1) ⟨rfl, rfl⟩) | exact (y_callA (q2) ⟨rfl, rfl⟩) | exact (y_callA (q3) ⟨rfl, rfl⟩) | exact (y_callA (q4) ⟨rfl, rfl, rfl⟩) | exact V.y vAuto) ?_)
    | (show VG _ _ _ _ _ _ _ _; refine VG.mk (fun hb => by (try (have hc := And.left hb; have hb := And.right hb; rw [hc])); (try rw [hb]); exact vAuto) ?_)
    | (refine G.mixedA 1 [.go 0, .go 1, .go 2, .go 3, .go 4, .go 5, .go 6, .go 7, .go 8, .go 9, .go 10, .go 12, .go 13, .go 11, .go 14, .go 15, .go 16, .go 17, .go 18, .go 19, .go 20, .go 21, .go 22, .go 23, .go 24, .go 25, .go 26, .go 27, .go 28, .go 29, .go 30, .go 31] ?_)
    | (refine nxX ?_)
    | (refine G.condN rfl (fun hc => ?_) (fun hc => ?_) <;> (try first | exact False.elim hc | (exfalso; omega))))
      refine X.ret (vs := [_]) rfl ⟨rfl, rfl⟩ rfl (fun w hw => ⟨congrArg Ending.returned (congrArg Value.bool ?_), hw.ext⟩)
      rw [Bool.eq_iff_iff]
      simp [eqCells, vEq]
      omega
end Go.Proofs.YtgmolcobhehoeaaDoor
/- Lines turned around: plain; a new sheet's line and text. -/
set_option linter.unusedVariables false
set_option maxHeartbeats 8000000
namespace Go.Proofs.YtgmolcobhehoeaaDoor
open Go.RowKit
def lnS (zl zh : Int) : Int := (TT.encl (midI zl zh) (midI zl zh)).1 / 131072
def lnC (zl zh : Int) : Int := (TT.cosE (midI zl zh) (midI zl zh)).1 / 131072
abbrev lnSel (wd : Nat) (u zl zh il ih : Int) : Nat → Nat → Bool := lineSel wd (2 * ((wd - 1) / 4) + 1) u (lnS zl zh) (lnC zl zh) (midI il ih)
theorem ln_new {la lo u zl zh il ih : Int} {wd b : Nat} {z : Sl} {rs : List Sl} {xt : Nat → List Value} (hp : pointB la lo = true) (hla : -4800000 ≤ la ∧ la ≤ 4800000) (hu : 2 ≤ u ∧ u ≤ 100000) (hw : 11 ≤ wd ∧ wd ≤ 121) (hz : NewP wd (b, z, rs, xt)) (hv : lvalB la lo zl zh il ih = true) :
    ContL Tryd.prog (fun _ => True) (shB b la lo u (TT.cosE la la).1 z.v :: rwS z rs :: rowsH xt (newR wd rs)) 7 [ptS b, lineV la lo zl zh il ih, .int .u8 35] (fun _ : Unit => True) (fun _ => .int .i64 0) (fun _ => shB b la lo u (TT.cosE la la).1 z.v :: rwS z rs :: rowsH xt (pR (lnSel wd u zl zh il ih) 35 rs.length 0 (newR wd rs))) := by
  have hl : rs.length = 2 * ((wd - 1) / 4) + 1 := hz.len
  have hok := shok_new hp hla hu hw hz.len hz.ok
  have e1 := TT.encl_le (midI zl zh) (midI zl zh) (Int.le_refl _) (by omega)
  have e2 := TT.cosE_bd (lo := midI zl zh) (hi := midI zl zh) (Int.le_refl _) (by omega)
  have q := line_ok (b := b) (z := z) (xt := xt) (rs := newR wd rs) (m := 35) (zl := zl) (zh := zh) (il := il) (ih := ih) (by rw [newR_fst]; exact hok) (newR_ok hz.ok) (by omega) hv ⟨e1.1, by omega⟩ ⟨e2.1, by omega⟩
  rw [newR_fst, show (newR wd rs).length = rs.length from List.length_map _] at q
  rw [show lnSel wd u zl zh il ih = lineSel wd rs.length u (lnS zl zh) (lnC zl zh) (midI il ih) by rw [hl]]
  exact q
theorem ln_bad {la lo u zl zh il ih : Int} {wd b : Nat} {z : Sl} {rs : List Sl} {xt : Nat → List Value} (hv : lvalB la lo zl zh il ih = false) :
    ContL Tryd.prog (fun _ => True) (shB b la lo u (TT.cosE la la).1 z.v :: rwS z rs :: rowsH xt (newR wd rs)) 7 [ptS b, lineV la lo zl zh il ih, .int .u8 35] (fun _ : Unit => True) (fun _ => .int .i64 1) (fun _ => shB b la lo u (TT.cosE la la).1 z.v :: rwS z rs :: rowsH xt (newR wd rs)) := by
  have q := line_arg (b := b) (la := la) (lo := lo) (u := u) (cs := (TT.cosE la la).1) (z := z) (xt := xt) (rs := newR wd rs) (m := 35) (pla := la) (plo := lo) (zl := zl) (zh := zh) (il := il) (ih := ih) (by omega) (by rw [hv]; rfl)
  rw [newR_fst] at q
  exact q
theorem tx_new {la lo u : Int} {wd b : Nat} {z : Sl} {rs : List Sl} {xt : Nat → List Value} {sel : Nat → Nat → Bool} {cs : Int} (hw : 11 ≤ wd ∧ wd ≤ 121) (hz : NewP wd (b, z, rs, xt)) : ContIn Tryd.prog (TxW b la lo u cs z (pR sel 35 rs.length 0 (newR wd rs)) wd) 8 [ptS b] (strV (lnsS ((pixL sel 35 wd (2 * ((wd - 1) / 4) + 1)).map toB))) := by
  have hl : rs.length = 2 * ((wd - 1) / 4) + 1 := hz.len
  have hs := pR_new sel 35 wd rs
  have q := text_c (b := b) (la := la) (lo := lo) (u := u) (cs := cs) (z := z) (rs := pR sel 35 rs.length 0 (newR wd rs)) (wd := wd) (fun r hr => by
    have hm : r.2 ∈ pixL sel 35 wd rs.length := by rw [← hs]; exact List.mem_map.2 ⟨r, hr, rfl⟩
    exact pixL_mem hm (by omega)) (by rw [pR_len, List.length_map]; omega) (by omega)
  rw [hs] at q
  rw [← hl]
  exact q
theorem pix_rows {sel : Nat → Nat → Bool} {wd h : Nat} : ∀ s ∈ (pixL sel 35 wd h).map toB, s.length = wd ∧ (10 : UInt8) ∉ s := fun s hs => by
  obtain ⟨l, hl, rfl⟩ := List.mem_map.1 hs
  obtain ⟨h1, h2⟩ := pixL_mem hl (by omega)
  refine ⟨by simp [toB, h1], fun hm => ?_⟩
  obtain ⟨i, hi⟩ := List.getElem?_of_mem hm
  have := toB_get h2 hi
  have := h2 _ (List.mem_of_getElem? this)
  simp at this
theorem rw_new {sel : Nat → Nat → Bool} {wd : Nat} (hw : 11 ≤ wd ∧ wd ≤ 121) : ContXI Tryd.prog LaidM 9 [strV (lnsS ((pixL sel 35 wd (2 * ((wd - 1) / 4) + 1)).map toB)), .int .i64 (wd : Int)] (fun _ : Sl => True) (fun z => .tuple [z.v, .bool true].toArray) (fun z => [Hl.nw z.v cS 1 ((pixL sel 35 wd (2 * ((wd - 1) / 4) + 1)).map toB)]) :=
  rows_c (by omega) pix_rows (by simp [pixL])
/-! ### the four quarters -/
theorem q_vals : (lnS 0 0, lnC 0 0) = (0, 8192) ∧ (lnS 5400000 5400000, lnC 5400000 5400000) = (8192, 0) ∧ (lnS 10800000 10800000, lnC 10800000 10800000) = (0, -8192) ∧ (lnS 16200000 16200000, lnC 16200000 16200000) = (-8192, 0) := by decide +kernel
theorem lineI_neg (u ca sa d e n : Int) : lineI u (-ca) (-sa) (-d) e n = lineI u ca sa d e n := by
  unfold lineI
  rw [Int.neg_mul, Int.neg_mul, Int.neg_neg, Int.neg_neg]
  have h1 : max (-(ca * e) + -(sa * n) - 8192 * -d) (-(-(ca * e) + -(sa * n) - 8192 * -d)) = max (ca * e + sa * n - 8192 * d) (-(ca * e + sa * n - 8192 * d)) := by omega
  have h2 : max (-ca) ca = max ca (-ca) := by omega
  have h3 : max (-sa) sa = max sa (-sa) := by omega
  rw [h1, h2, h3]
theorem mid_one (p : Int) : midI p p = p := by unfold midI; omega
/-- The opposite line with the opposite intercept marks the same pixels. -/
theorem sel_back {wd : Nat} {u z zb p : Int} (hS : lnS zb zb = -lnS z z) (hC : lnC zb zb = -lnC z z) : lnSel wd u zb zb (-p) (-p) = lnSel wd u z z p p := by
  funext i j
  show lineI u (lnS zb zb) (lnC zb zb) (midI (-p) (-p)) _ _ = lineI u (lnS z z) (lnC z z) (midI p p) _ _
  rw [hS, hC, mid_one, mid_one, lineI_neg]
theorem sel_rows {wd : Nat} {u z p : Int} (hS : lnS z z = 0) (i i' j : Nat) : lnSel wd u z z p p i j = lnSel wd u z z p p i' j := by
  show lineI u (lnS z z) (lnC z z) (midI p p) _ _ = lineI u (lnS z z) (lnC z z) (midI p p) _ _
  rw [hS]
  unfold lineI
  rw [Int.zero_mul, Int.zero_mul]
theorem sel_cols {wd : Nat} {u z p : Int} (hC : lnC z z = 0) (i j j' : Nat) : lnSel wd u z z p p i j = lnSel wd u z z p p i j' := by
  show lineI u (lnS z z) (lnC z z) (midI p p) _ _ = lineI u (lnS z z) (lnC z z) (midI p p) _ _
  rw [hC]
  unfold lineI
  rw [Int.zero_mul, Int.zero_mul]
theorem sel_mid {wd : Nat} {u zl zh : Int} (hu : 2 ≤ u) (hw : 11 ≤ wd ∧ wd ≤ 121) (ho : wd % 2 = 1) : lnSel wd u zl zh 0 0 ((wd - 1) / 2) ((wd - 1) / 4) = true := by
  show lineI u (lnS zl zh) (lnC zl zh) (midI 0 0) _ _ = true
  have e1 : ((((wd - 1) / 2 : Nat) : Int) - ((wd : Int) - 1) / 2) = 0 := by omega
  have e2 : ((((2 * ((wd - 1) / 4) + 1 : Nat) : Int) - 1) / 2 - (((wd - 1) / 4 : Nat) : Int)) = 0 := by omega
  rw [e1, e2, mid_one]
  unfold lineI
  have h := Int.mul_nonneg (show 0 ≤ u by omega) (show 0 ≤ max (lnS zl zh) (-lnS zl zh) + 2 * max (lnC zl zh) (-lnC zl zh) by omega)
  generalize u * (max (lnS zl zh) (-lnS zl zh) + 2 * max (lnC zl zh) (-lnC zl zh)) = r at *
  apply decide_eq_true
  rw [Int.zero_mul, Int.mul_zero, Int.mul_assoc, Int.zero_mul, Int.mul_zero]
  omega
theorem rep_one (c : UInt8) : ∀ k : Nat, Lib.repeatL [c] k = List.replicate k c
  | 0 => rfl
  | k + 1 => by
    show [c] ++ Lib.repeatL [c] k = _
    rw [rep_one c k]; rfl
theorem pK_rep {sel : Nat → Bool} {wd : Nat} {s : Bool} (h : ∀ i, sel i = s) : toB (pK sel 35 wd (List.replicate wd 46)) = Lib.repeatL [if s = true then 35 else 46] wd := by
  rw [rep_one]
  refine List.ext_getElem? fun i => ?_
  unfold toB
  rw [List.getElem?_map]
  rcases Nat.lt_or_ge i wd with hi | hi
  · rw [pK_get (by simpa using hi), List.getElem?_replicate, if_pos hi, h i, List.getD_eq_getElem?_getD, List.getElem?_replicate, if_pos hi]
    cases s
    · simp
    · simp [hi]
  · rw [List.getElem?_eq_none (by rw [pK_len]; simpa using hi), List.getElem?_eq_none (by simpa using hi)]; rfl
theorem rows_even {wd : Nat} {u z p : Int} (hS : lnS z z = 0) : ∀ x ∈ (pixL (lnSel wd u z z p p) 35 wd (2 * ((wd - 1) / 4) + 1)).map toB, x = Lib.repeatL [46] wd ∨ x = Lib.repeatL [35] wd := fun x hx => by
  obtain ⟨l, hl, rfl⟩ := List.mem_map.1 hx
  obtain ⟨j, _, rfl⟩ := List.mem_map.1 hl
  have h := pK_rep (sel := fun i => lnSel wd u z z p p i j) (wd := wd) (s := lnSel wd u z z p p 0 j) fun i => sel_rows hS i 0 j
  rw [h]
  cases lnSel wd u z z p p 0 j
  · exact .inl rfl
  · exact .inr rfl
theorem rows_odd {wd : Nat} {u z p : Int} (hC : lnC z z = 0) : ∀ x ∈ (pixL (lnSel wd u z z p p) 35 wd (2 * ((wd - 1) / 4) + 1)).map toB, x = nth ((pixL (lnSel wd u z z p p) 35 wd (2 * ((wd - 1) / 4) + 1)).map toB) 0 := fun x hx => by
  obtain ⟨l, hl, rfl⟩ := List.mem_map.1 hx
  obtain ⟨j, _, rfl⟩ := List.mem_map.1 hl
  have e : ∀ j', (fun i => lnSel wd u z z p p i j) = fun i => lnSel wd u z z p p i j' := fun j' => funext fun i => sel_cols hC i j j'
  have e0 : nth ((pixL (lnSel wd u z z p p) 35 wd (2 * ((wd - 1) / 4) + 1)).map toB) 0 = toB (pK (fun i => lnSel wd u z z p p i 0) 35 wd (List.replicate wd 46)) := by
    unfold nth pixL
    rw [List.getD_eq_getElem?_getD]
    simp
  rw [e0, e 0]
theorem mid_px {wd : Nat} {u zl zh : Int} (hu : 2 ≤ u) (hw : 11 ≤ wd ∧ wd ≤ 121) (ho : wd % 2 = 1) : nth (nth ((pixL (lnSel wd u zl zh 0 0) 35 wd (2 * ((wd - 1) / 4) + 1)).map toB) ((((wd - 1) / 4 : Nat) : Nat) : Int)) ((((wd - 1) / 2 : Nat) : Nat) : Int) = 35 := by
  have h := sel_mid (zl := zl) (zh := zh) hu hw ho
  have e0 : nth ((pixL (lnSel wd u zl zh 0 0) 35 wd (2 * ((wd - 1) / 4) + 1)).map toB) ((((wd - 1) / 4 : Nat) : Nat) : Int) = toB (pK (fun i => lnSel wd u zl zh 0 0 i ((wd - 1) / 4)) 35 wd (List.replicate wd 46)) := by
    unfold nth pixL
    rw [Int.toNat_natCast, List.getD_eq_getElem?_getD, List.getElem?_map, List.getElem?_map, List.getElem?_range (by omega)]; rfl
  rw [e0]
  unfold nth toB
  rw [Int.toNat_natCast, List.getD_eq_getElem?_getD, List.getElem?_map, pK_get (by simp; omega), h, show decide ((wd - 1) / 2 < wd) = true from decide_eq_true (by omega)]
  rfl
end Go.Proofs.YtgmolcobhehoeaaDoor
/- PlotLines: the walk of the law. -/
set_option linter.unusedVariables false
set_option maxHeartbeats 8000000
namespace Go.Proofs.YtgmolcobhehoeaaDoor
open Go.RowKit
section
variable {P : Program} {C : World → Prop} {n : Nat} {L : FL} {w0 : World} {H Xs R : List Hl} {Q : Exit → Act → World → Prop} {ops : Array Oper} {rest : List Oper} {dd : Nat} {ty : TypeId} {pos : String} {af : Array Edge} {ι : Type} {f : FuncId} {xs : List Operand} {vs : List Value} {tys : Array TypeId} {post : ι → Prop} {v : ι → Value} {Y : ι → List Hl} {j gg : Nat} {want bb : Bool}
theorem RS.callPmT (hc : ContL P C Xs f vs post v Y) (hC : C w0) (hp : H.Perm (Xs ++ R)) (h : ∀ z, post z → RS P ops Q n ((dd, v z) :: L) w0 (Y z ++ R) rest) (hj : (ops[j]?).bind (·.dst) = some gg) (hl : lk L gg = some (.bool bb)) (hb : bb = want) (ha : AE L xs vs) (hg : isGo P f = true) (hd : Nat.blt dd n = true) :
    RS P ops Q n L w0 H (⟨some dd, .call { callee := .value (.func f), args := xs.toArray, argTypes := tys }, ty, pos, af, some (j, want)⟩ :: rest) := by
  refine RS.actXT (post := post) (L' := fun z => (dd, v z) :: L) (H' := fun z => Y z ++ R) hj hl hb (fun a w hfr hw K Q hK => ?_) h
  unfold Oper.wp
  rw [run_call hfr ha hg]
  refine (hc w0 R w hC (hw.perm hp)).mono ?_
  rintro e w' ⟨z, hz, rfl, hs⟩
  exact hK _ _ ⟨z, hz, hfr.put (by simpa [Nat.blt_eq] using hd), hs⟩
end
theorem li_no {la lo u wd q p al ah : Int} (hq : 0 ≤ q ∧ q ≤ 255) (hno : 41 < wd ∧ wd ≤ 121 ∨ p < -600000 ∨ 600000 < p) : Cont Tryd.prog 3 [ptV la lo, .int .i64 u, .int .i64 wd, .int .u8 q, .int .i64 p, arcV al ah] (.bool true) := fun w => by
  refine enter0 Tryd.func3 rfl rfl rfl ?_
  repeat' (first
    | (show YK _ _ _ _ _ _ _; first | refine YK.mk (y_callA (awake49_c) rfl) ?_)
    | (show YK _ _ _ _ _ _ _; refine YK.ofV vAuto ?_)
    | (show VK _ _ _ _ _ _ _; refine VK.mk vAuto ?_)
    | (show RS _ _ _ _ _ _ _ _; first | (refine nxRS ?_) | (refine nxRS1 fun _ => ?_))
    | (show RM _ _ _ _ _ _ _ _ _ _; first | (refine nxRM ?_) | (refine nxRM1 fun _ => ?_))
    | (show YG _ _ _ _ _ _ _ _; refine YG.mk (fun hb => by (try (have hc := And.left hb; have hb := And.right hb; rw [hc])); (try rw [hb]); first | exact (y_callA (awake49_c) rfl) | exact V.y vAuto) ?_)
    | (show VG _ _ _ _ _ _ _ _; refine VG.mk (fun hb => by (try (have hc := And.left hb; have hb := And.right hb; rw [hc])); (try rw [hb]); exact vAuto) ?_)
    | (refine nxX ?_)
    | (refine G.condN rfl (fun hc => ?_) (fun hc => ?_) <;> (try first | exact False.elim hc | (exfalso; omega))))
  all_goals first | (exfalso; omega) | exact X.ret (vs := [_]) rfl ⟨rfl, rfl⟩ rfl (fun w hw => ⟨rfl, hw.ext⟩)
theorem li_ref {la lo u wd q p al ah e : Int} (hq : 0 ≤ q ∧ q ≤ 255) (hin : ¬ (41 < wd ∧ wd ≤ 121 ∨ p < -600000 ∨ 600000 < p)) (he : newE la lo u wd = e) (h0 : e = 1 ∨ e = 2) : Cont Tryd.prog 3 [ptV la lo, .int .i64 u, .int .i64 wd, .int .u8 q, .int .i64 p, arcV al ah] (.bool true) := fun w => by
  have q1 := made_no he h0
  refine enter0 Tryd.func3 rfl rfl rfl ?_
  repeat' (first
    | (show YK _ _ _ _ _ ⟨some 59, _, _, _, _, _⟩ _; refine YK.ofV (y_eqNil0 rfl rfl sh_ptr) ?_)
    | (show YG _ _ _ _ _ _ ⟨some 59, _, _, _, _, _⟩ _; refine YG.mk (fun hb => (y_eqNil0 rfl rfl sh_ptr).y) ?_)
    | (show VG _ _ _ _ _ _ ⟨some 59, _, _, _, _, _⟩ _; refine VG.mk (fun hb => y_eqNil0 rfl rfl sh_ptr) ?_)
    | (show YK _ _ _ _ _ _ _; first | refine YK.mk (y_callA (awake49_c) rfl) ?_ | refine YK.mk (y_callA (q1) ⟨rfl, rfl, rfl, rfl⟩) ?_)
    | (show YK _ _ _ _ _ _ _; refine YK.ofV vAuto ?_)
    | (show VK _ _ _ _ _ _ _; refine VK.mk vAuto ?_)
    | (show RS _ _ _ _ _ _ _ _; first | (refine nxRS ?_) | (refine nxRS1 fun _ => ?_))
    | (show RM _ _ _ _ _ _ _ _ _ _; first | (refine nxRM ?_) | (refine nxRM1 fun _ => ?_))
    | (show YG _ _ _ _ _ _ _ _; refine YG.mk (fun hb => by (try (have hc := And.left hb; have hb := And.right hb; rw [hc])); (try rw [hb]); first | exact (y_callA (awake49_c) rfl) | exact (y_callA (q1) ⟨rfl, rfl, rfl, rfl⟩) | exact V.y vAuto) ?_)
    | (show VG _ _ _ _ _ _ _ _; refine VG.mk (fun hb => by (try (have hc := And.left hb; have hb := And.right hb; rw [hc])); (try rw [hb]); exact vAuto) ?_)
    | (refine nxX ?_)
    | (refine G.condN rfl (fun hc => ?_) (fun hc => ?_) <;> (try first | exact False.elim hc | (exfalso; omega))))
  all_goals first | (exfalso; omega) | exact X.ret (vs := [_]) rfl ⟨rfl, rfl⟩ rfl (fun w hw => ⟨rfl, hw.ext⟩)
section
variable {x0 x1 x2 x3 x4 a1 a2 b1 b2 c1 c2 : Hl} {RA RB RC : List Hl}
theorem perm_m2 : (b1 :: b2 :: (RB ++ (x2 :: x3 :: x4 :: a1 :: a2 :: (RA ++ [])))).Perm (x2 :: x3 :: x4 :: a1 :: a2 :: b1 :: b2 :: (RA ++ RB)) := by
  classical
  refine List.perm_iff_count.2 fun c => ?_
  simp only [List.count_cons, List.count_append, List.count_nil]
  omega
theorem perm_m3 : (c1 :: c2 :: (RC ++ (x1 :: x2 :: x3 :: x4 :: a1 :: a2 :: b1 :: b2 :: (RA ++ RB)))).Perm (x1 :: x2 :: x3 :: x4 :: a1 :: a2 :: b1 :: b2 :: c1 :: c2 :: (RA ++ (RB ++ RC))) := by
  classical
  refine List.perm_iff_count.2 fun c => ?_
  simp only [List.count_cons, List.count_append, List.count_nil]
  omega
theorem perm_la : (x0 :: x1 :: x2 :: x3 :: x4 :: a1 :: a2 :: b1 :: b2 :: c1 :: c2 :: (RA ++ (RB ++ RC))).Perm ((a1 :: a2 :: RA) ++ (x0 :: x1 :: x2 :: x3 :: x4 :: b1 :: b2 :: c1 :: c2 :: (RB ++ RC))) := by
  classical
  refine List.perm_iff_count.2 fun c => ?_
  simp only [List.count_cons, List.count_append, List.count_nil]
  omega
theorem perm_lc : (x0 :: x1 :: x2 :: x3 :: c1 :: c2 :: RC).Perm ((c1 :: c2 :: RC) ++ [x0, x1, x2, x3]) := by
  classical
  refine List.perm_iff_count.2 fun c => ?_
  simp only [List.count_cons, List.count_append, List.count_nil]
  omega
theorem perm_lb : (x0 :: x1 :: x2 :: x3 :: x4 :: a1 :: a2 :: b1 :: b2 :: c1 :: c2 :: (RA ++ (RB ++ RC))).Perm ((b1 :: b2 :: RB) ++ (x0 :: x1 :: x2 :: x3 :: x4 :: a1 :: a2 :: c1 :: c2 :: (RA ++ RC))) := by
  classical
  refine List.perm_iff_count.2 fun c => ?_
  simp only [List.count_cons, List.count_append, List.count_nil]
  omega
end
theorem built_ln3 (la lo zl zh il ih : Int) : Tryd.prog.built 36 [(0, .agg [.int .i64 la, .int .i64 lo].toArray), (1, .agg [.int .i64 zl, .int .i64 zh].toArray), (2, .agg [.int .i64 il, .int .i64 ih].toArray)] = some [.int .i64 la, .int .i64 lo, .int .i64 zl, .int .i64 zh, .int .i64 il, .int .i64 ih].toArray := by kernel_rfl
theorem built_ln2 (la lo zl zh : Int) : Tryd.prog.built 36 [(0, .agg [.int .i64 la, .int .i64 lo].toArray), (1, .agg [.int .i64 zl, .int .i64 zh].toArray)] = some [.int .i64 la, .int .i64 lo, .int .i64 zl, .int .i64 zh, .int .i64 0, .int .i64 0].toArray := by kernel_rfl
theorem ln_newB {la lo u zl zh il ih : Int} {wd b : Nat} {z : Sl} {rs : List Sl} {xt : Nat → List Value} {sel : Nat → Nat → Bool} (hp : pointB la lo = true) (hla : -4800000 ≤ la ∧ la ≤ 4800000) (hu : 2 ≤ u ∧ u ≤ 100000) (hw : 11 ≤ wd ∧ wd ≤ 121) (hz : NewP wd (b, z, rs, xt)) (hv : lvalB la lo zl zh il ih = true) (hs : lnSel wd u zl zh il ih = sel) :
    ContL Tryd.prog (fun _ => True) (shB b la lo u (TT.cosE la la).1 z.v :: rwS z rs :: rowsH xt (newR wd rs)) 7 [ptS b, lineV la lo zl zh il ih, .int .u8 35] (fun _ : Unit => True) (fun _ => .int .i64 0) (fun _ => shB b la lo u (TT.cosE la la).1 z.v :: rwS z rs :: rowsH xt (pR sel 35 rs.length 0 (newR wd rs))) := by
  have q := ln_new (b := b) (z := z) (xt := xt) hp hla hu hw hz hv
  rw [hs] at q
  exact q
/-- The heaplets of a sheet behind its marks. -/
abbrev shHd (b : Nat) (la lo u : Int) (z : Sl) (rs : List Sl) : List Hl := [shB b la lo u (TT.cosE la la).1 z.v, rwS z rs]
theorem li_main {la lo u q p al ah k bk r : Int} {wd : Nat} (hp : pointB la lo = true) (hla : -4800000 ≤ la ∧ la ≤ 4800000) (hu : 2 ≤ u ∧ u ≤ 100000) (hw : 11 ≤ wd ∧ wd ≤ 41) (ho : wd % 2 = 1) (hq : 0 ≤ q ∧ q ≤ 255) (hpp : -600000 ≤ p ∧ p ≤ 600000)
    (hk : q.tmod 4 = k) (hk4 : 0 ≤ k ∧ k ≤ 3) (hbk : (k * 5400000 + 10800000).tmod 21600000 = bk) (hr : (k * 5400000).tmod 10800000 = r)
    (hv1 : lvalB la lo (k * 5400000) (k * 5400000) p p = true) (hv2 : lvalB la lo bk bk (-p) (-p) = true) {SA : Nat → Nat → Bool} (hA : lnSel wd u (k * 5400000) (k * 5400000) p p = SA) (hsel : lnSel wd u bk bk (-p) (-p) = SA)
    (hE : r = 0 → ∀ x ∈ (pixL SA 35 wd (2 * ((wd - 1) / 4) + 1)).map toB, x = Lib.repeatL [46] wd ∨ x = Lib.repeatL [35] wd) (hO : r ≠ 0 → ∀ x ∈ (pixL SA 35 wd (2 * ((wd - 1) / 4) + 1)).map toB, x = nth ((pixL SA 35 wd (2 * ((wd - 1) / 4) + 1)).map toB) 0) :
    ContIn Tryd.prog LaidM 3 [ptV la lo, .int .i64 u, .int .i64 (wd : Int), .int .u8 q, .int .i64 p, arcV al ah] (.bool true) := fun w hI => by
  have qm := made_ok hp hla hu (by omega : 11 ≤ wd ∧ wd ≤ 121) ho
  refine enter0 Tryd.func3 rfl rfl rfl ?_
  repeat' (first
    | (show YK _ _ _ _ _ ⟨_, .call { callee := .builtin .len, args := _, argTypes := #[9] }, _, _, _, _⟩ _; refine YK.ofV (y_lenS (by rfl) StrTy.is) ?_)
    | (show VK _ _ _ _ _ ⟨_, .call { callee := .builtin .len, args := _, argTypes := #[9] }, _, _, _, _⟩ _; refine VK.mk (y_lenS (by rfl) StrTy.is) ?_)
    | (show YG _ _ _ _ _ _ ⟨_, .call { callee := .builtin .len, args := _, argTypes := #[9] }, _, _, _, _⟩ _; refine YG.mk (fun hb => by (try (have hc := And.left hb; have hb := And.right hb; rw [hc])); (try rw [hb]); exact V.y (y_lenS (by rfl) StrTy.is)) ?_)
    | (show VG _ _ _ _ _ _ ⟨_, .call { callee := .builtin .len, args := _, argTypes := #[9] }, _, _, _, _⟩ _; refine VG.mk (fun hb => by (try (have hc := And.left hb; have hb := And.right hb; rw [hc])); (try rw [hb]); exact y_lenS (by rfl) StrTy.is) ?_)
    | (show RS _ _ _ _ _ _ _ (⟨some 51, _, _, _, _, _⟩ :: _); refine RS.callL qm trivial ?_ ⟨rfl, rfl, rfl, rfl⟩; rintro ⟨⟨ba, za, ra, xa⟩, y1⟩ ha; dsimp only [List.cons_append, List.nil_append]; refine RS.permH ?_ perm_n2)
    | (show RS _ _ _ _ _ _ _ (⟨some 66, _, _, _, _, _⟩ :: _); refine RS.callL qm trivial ?_ ⟨rfl, rfl, rfl, rfl⟩; rintro ⟨⟨bb, zb, rb, xb⟩, y2⟩ hb2; dsimp only [List.cons_append, List.nil_append]; refine RS.permH ?_ perm_m2)
    | (show RS _ _ _ _ _ _ _ (⟨some 74, _, _, _, _, _⟩ :: _); refine RS.callL qm trivial ?_ ⟨rfl, rfl, rfl, rfl⟩; rintro ⟨⟨bc, zc, rc, xc⟩, y3⟩ hc2; dsimp only [List.cons_append, List.nil_append]; refine RS.permH ?_ perm_m3)
    | (show YK _ _ _ _ _ ⟨_, .binOp .eql _ _ (.const (.pointer none)) _, _, _, _, _⟩ _; refine YK.ofV (y_eqNil1 rfl rfl sh_ptr) ?_)
    | (show YK _ _ _ _ _ ⟨some 86, _, _, _, _, _⟩ _; refine YK.ofV (y_remN (by rfl) (by rfl) hk (by decide)) ?_)
    | (show YK _ _ _ _ _ ⟨some 90, _, _, _, _, _⟩ _; refine YK.ofV (y_remN (by rfl) (by rfl) hbk (by decide)) ?_)
    | (show YK _ _ _ _ _ ⟨some 99, _, _, _, _, _⟩ _; refine YK.ofV (y_build (parts := [(0, .tmp 92), (1, .tmp 95), (2, .tmp 98)]) (vs := [_, _, _]) ⟨rfl, rfl, rfl, rfl⟩ (built_ln3 _ _ _ _ _ _)) ?_)
    | (show YK _ _ _ _ _ ⟨some 113, _, _, _, _, _⟩ _; refine YK.ofV (y_build (parts := [(0, .tmp 104), (1, .tmp 107), (2, .tmp 112)]) (vs := [_, _, _]) ⟨rfl, rfl, rfl, rfl⟩ (built_ln3 _ _ _ _ _ _)) ?_)
    | (show RS _ _ _ _ _ _ _ (⟨some 100, _, _, _, _, _⟩ :: _); refine RS.callPm (ln_newB (b := ba) (z := za) (rs := ra) (xt := xa) hp hla hu (by omega) ha hv1 hA) trivial perm_la ?_ ⟨rfl, rfl, rfl, rfl⟩; rintro ⟨⟩ -; refine RS.permH ?_ perm_la.symm)
    | (show RS _ _ _ _ _ _ _ (⟨some 114, _, _, _, _, _⟩ :: _); refine RS.callPmT (ln_newB (b := bb) (z := zb) (rs := rb) (xt := xb) hp hla hu (by omega) hb2 hv2 hsel) trivial perm_lb ?_ (by rfl) (by rfl) (by rfl) ⟨rfl, rfl, rfl, rfl⟩ (by decide +kernel) rfl; rintro ⟨⟩ -; refine RS.permH ?_ perm_lb.symm)
    | (show YG _ _ _ _ _ _ ⟨some 113, _, _, _, _, _⟩ _; refine YG.mk (fun hb => (y_build (parts := [(0, .tmp 104), (1, .tmp 107), (2, .tmp 112)]) (vs := [_, _, _]) ⟨by rfl, by rfl, by rfl, rfl⟩ (built_ln3 la lo bk bk (-p) (-p))).y) ?_)
    | (show YK _ _ _ _ _ ⟨some 119, .call { callee := .value (.func 8), args := _, argTypes := _ }, _, _, _, _⟩ _; refine YK.mk (y_callIn (tx_new (by omega) ha) (fun w' hw' => TxW.ofSt (xt := xa) hw' (by exact memA) (by (rw [pR_fst, newR_fst]; exact memA)) (fun h hm => .tail _ (.tail _ (.tail _ (.tail _ (.tail _ (.tail _ (.tail _ (.tail _ (.tail _ (.tail _ (.tail _ (List.mem_append_left _ hm)))))))))))) (pR_ok (newR_ok ha.ok)) (by (rw [pR_len, List.length_map]; have hxl := ha.len; dsimp only at hxl; omega))) ⟨rfl, rfl⟩ (by decide +kernel)) ?_)
    | (show YG _ _ _ _ _ _ ⟨some 119, .call { callee := .value (.func 8), args := _, argTypes := _ }, _, _, _, _⟩ _; refine YG.mk (fun hb => by (try (have hc := And.left hb; have hb := And.right hb; rw [hc])); (try rw [hb]); exact y_callIn (tx_new (by omega) ha) (fun w' hw' => TxW.ofSt (xt := xa) hw' (by exact memA) (by (rw [pR_fst, newR_fst]; exact memA)) (fun h hm => .tail _ (.tail _ (.tail _ (.tail _ (.tail _ (.tail _ (.tail _ (.tail _ (.tail _ (.tail _ (.tail _ (List.mem_append_left _ hm)))))))))))) (pR_ok (newR_ok ha.ok)) (by (rw [pR_len, List.length_map]; have hxl := ha.len; dsimp only at hxl; omega))) ⟨rfl, rfl⟩ (by decide +kernel)) ?_)
    | (show YK _ _ _ _ _ ⟨some 126, .call { callee := .value (.func 8), args := _, argTypes := _ }, _, _, _, _⟩ _; refine YK.mk (y_callIn (tx_new (by omega) ha) (fun w' hw' => TxW.ofSt (xt := xa) hw' (by exact memA) (by (rw [pR_fst, newR_fst]; exact memA)) (fun h hm => .tail _ (.tail _ (.tail _ (.tail _ (.tail _ (.tail _ (.tail _ (.tail _ (.tail _ (.tail _ (.tail _ (List.mem_append_left _ hm)))))))))))) (pR_ok (newR_ok ha.ok)) (by (rw [pR_len, List.length_map]; have hxl := ha.len; dsimp only at hxl; omega))) ⟨rfl, rfl⟩ (by decide +kernel)) ?_)
    | (show YG _ _ _ _ _ _ ⟨some 126, .call { callee := .value (.func 8), args := _, argTypes := _ }, _, _, _, _⟩ _; refine YG.mk (fun hb => by (try (have hc := And.left hb; have hb := And.right hb; rw [hc])); (try rw [hb]); exact y_callIn (tx_new (by omega) ha) (fun w' hw' => TxW.ofSt (xt := xa) hw' (by exact memA) (by (rw [pR_fst, newR_fst]; exact memA)) (fun h hm => .tail _ (.tail _ (.tail _ (.tail _ (.tail _ (.tail _ (.tail _ (.tail _ (.tail _ (.tail _ (.tail _ (List.mem_append_left _ hm)))))))))))) (pR_ok (newR_ok ha.ok)) (by (rw [pR_len, List.length_map]; have hxl := ha.len; dsimp only at hxl; omega))) ⟨rfl, rfl⟩ (by decide +kernel)) ?_)
    | (show YK _ _ _ _ _ ⟨some 121, .call { callee := .value (.func 8), args := _, argTypes := _ }, _, _, _, _⟩ _; refine YK.mk (y_callIn (tx_new (by omega) hb2) (fun w' hw' => TxW.ofSt (xt := xb) hw' (by exact memA) (by (rw [pR_fst, newR_fst]; exact memA)) (fun h hm => .tail _ (.tail _ (.tail _ (.tail _ (.tail _ (.tail _ (.tail _ (.tail _ (.tail _ (.tail _ (.tail _ (List.mem_append_right _ (List.mem_append_left _ hm))))))))))))) (pR_ok (newR_ok hb2.ok)) (by (rw [pR_len, List.length_map]; have hxl := hb2.len; dsimp only at hxl; omega))) ⟨rfl, rfl⟩ (by decide +kernel)) ?_)
    | (show YG _ _ _ _ _ _ ⟨some 121, .call { callee := .value (.func 8), args := _, argTypes := _ }, _, _, _, _⟩ _; refine YG.mk (fun hb => by (try (have hc := And.left hb; have hb := And.right hb; rw [hc])); (try rw [hb]); exact y_callIn (tx_new (by omega) hb2) (fun w' hw' => TxW.ofSt (xt := xb) hw' (by exact memA) (by (rw [pR_fst, newR_fst]; exact memA)) (fun h hm => .tail _ (.tail _ (.tail _ (.tail _ (.tail _ (.tail _ (.tail _ (.tail _ (.tail _ (.tail _ (.tail _ (List.mem_append_right _ (List.mem_append_left _ hm))))))))))))) (pR_ok (newR_ok hb2.ok)) (by (rw [pR_len, List.length_map]; have hxl := hb2.len; dsimp only at hxl; omega))) ⟨rfl, rfl⟩ (by decide +kernel)) ?_)
    | (show RS _ _ _ _ _ _ _ (⟨some 128, _, _, _, _, _⟩ :: _); refine RS.callI (rw_new (by omega)) ⟨rfl, rfl, rfl⟩ (fun w' hw' => hI.keep hw'.ext) ?_; rintro z1 -; dsimp only [List.cons_append, List.nil_append])
    | (show YK _ _ _ _ _ _ _; first | refine YK.mk (y_callA (awake49_c) rfl) ?_)
    | (show YK _ _ _ _ _ _ _; refine YK.ofV vAuto ?_)
    | (show VK _ _ _ _ _ _ _; refine VK.mk vAuto ?_)
    | (show RS _ _ _ _ _ _ _ _; first | (refine nxRS ?_) | (refine nxRS1 fun _ => ?_))
    | (show RM _ _ _ _ _ _ _ _ _ _; first | (refine nxRM ?_) | (refine nxRM1 fun _ => ?_))
    | (show YG _ _ _ _ _ _ _ _; refine YG.mk (fun hb => by (try (have hc := And.left hb; have hb := And.right hb; rw [hc])); (try rw [hb]); first | exact (y_callA (awake49_c) rfl) | exact V.y vAuto) ?_)
    | (show VG _ _ _ _ _ _ _ _; refine VG.mk (fun hb => by (try (have hc := And.left hb; have hb := And.right hb; rw [hc])); (try rw [hb]); exact vAuto) ?_)
    | (refine nxVS ?_)
    | (refine nxGS ?_)
    | (refine nxX ?_)
    | (refine G.condN rfl (fun hc => ?_) (fun hc => ?_) <;> (try first | exact False.elim hc | (exfalso; omega))))
  rename_i b6 b11 _ _ _ _ _ _ _ _
  have qr1 := repeat_c [46] (m := (wd : Int)) (by omega) (by decide)
  have qr2 := repeat_c [35] (m := (wd : Int)) (by omega) (by decide)
  rw [Int.toNat_natCast] at qr1 qr2
  have hLAl : ((pixL SA 35 wd (2 * ((wd - 1) / 4) + 1)).map toB).length ≤ 1000 := by simp [pixL]; omega
  generalize (pixL SA 35 wd (2 * ((wd - 1) / 4) + 1)).map toB = LA at *
  refine G.loop (ι := Nat) (fun j => [(2, .int .i64 (wd : Int)), (6, ptS b6), (11, ptS b11), (19, ptS bc), (22, .int .i64 (k * 5400000)), (24, z1.v), (133, z1.v), (134, .int .i64 ((LA.length : Nat) : Int)), (135, .int .i64 (j : Int))]) (fun _ => Hl.nw z1.v cS 1 LA :: Hl.blk b11 25 [.int .i64 al, .int .i64 ah] :: Hl.blk b6 23 [.int .i64 la, .int .i64 lo] :: shB bc la lo u (TT.cosE la la).1 zc.v :: rwS zc rc :: rowsH xc (newR wd rc)) (fun j => j ≤ LA.length) (fun j => LA.length - j) 0 (Nat.zero_le _) ⟨rfl, rfl, rfl, rfl, rfl, rfl, rfl, rfl, rfl, trivial⟩ (fun w' h => h.sub (.cons_cons _ (.cons _ (.cons _ (.cons _ (.cons_cons _ (.cons_cons _ (.cons _ (.cons _ (.cons _ (.cons _ (.cons_cons _ (.cons_cons _ ((List.sublist_append_right _ _).trans (List.sublist_append_right _ _))))))))))))))) ?_
  rintro j mx g1 hmx
  (try dsimp only at g1 hmx ⊢)
  clear qm hA hsel hv1 hv2 hbk hk
  have hrm : k * 5400000 % 10800000 = r := by rw [← hr, Int.tmod_eq_emod_of_nonneg (by omega)]
  rcases Nat.lt_or_ge j LA.length with hj | hj
  · have hx : nth LA (j : Int) ∈ LA := by
      unfold nth
      rw [Int.toNat_natCast, List.getD_eq_getElem?_getD, List.getElem?_eq_getElem hj]
      exact List.getElem_mem hj
    have hE' : r = 0 → nth LA (j : Int) = Lib.repeatL [46] wd ∨ nth LA (j : Int) = Lib.repeatL [35] wd := fun h => hE h _ hx
    have hO' : r ≠ 0 → nth LA (j : Int) = nth LA 0 := fun h => hO h _ hx
    clear hE hO hx
    generalize Lib.repeatL [46] wd = s46 at *
    generalize Lib.repeatL [35] wd = s35 at *
    by_cases hr0 : r = 0
    · have hE2 := hE' hr0
      subst hr0
      repeat' (first
    | (show YK _ _ _ _ _ ⟨_, .call { callee := .builtin .len, args := _, argTypes := #[9] }, _, _, _, _⟩ _; refine YK.ofV (y_lenS (by rfl) StrTy.is) ?_)
    | (show VK _ _ _ _ _ ⟨_, .call { callee := .builtin .len, args := _, argTypes := #[9] }, _, _, _, _⟩ _; refine VK.mk (y_lenS (by rfl) StrTy.is) ?_)
    | (show YG _ _ _ _ _ _ ⟨_, .call { callee := .builtin .len, args := _, argTypes := #[9] }, _, _, _, _⟩ _; refine YG.mk (fun hb => by (try (have hc := And.left hb; have hb := And.right hb; rw [hc])); (try rw [hb]); exact V.y (y_lenS (by rfl) StrTy.is)) ?_)
    | (show VG _ _ _ _ _ _ ⟨_, .call { callee := .builtin .len, args := _, argTypes := #[9] }, _, _, _, _⟩ _; refine VG.mk (fun hb => by (try (have hc := And.left hb; have hb := And.right hb; rw [hc])); (try rw [hb]); exact y_lenS (by rfl) StrTy.is) ?_)
    | (show YK _ _ _ _ _ ⟨some 141, _, _, _, _, _⟩ _; refine YK.ofV (y_remN (by rfl) (by rfl) hr (by decide)) ?_)
    | (show YG _ _ _ _ _ _ ⟨some 157, _, _, _, _, _⟩ _; refine YG.mk (fun hb => (y_remN (by rfl) (by rfl) hr (by decide)).y) ?_)
    | (show VG _ _ _ _ _ _ ⟨some 157, _, _, _, _, _⟩ _; refine VG.mk (fun hb => y_remN (by rfl) (by rfl) hr (by decide)) ?_)
    | (show YK _ _ _ _ _ _ _; first | refine YK.mk (y_callA (qr1) ⟨rfl, rfl, rfl⟩) ?_ | refine YK.mk (y_callA (qr2) ⟨rfl, rfl, rfl⟩) ?_)
    | (show YK _ _ _ _ _ _ _; refine YK.ofV vAuto ?_)
    | (show VK _ _ _ _ _ _ _; refine VK.mk vAuto ?_)
    | (show RS _ _ _ _ _ _ _ _; first | (refine nxRS ?_) | (refine nxRS1 fun _ => ?_))
    | (show RM _ _ _ _ _ _ _ _ _ _; first | (refine nxRM ?_) | (refine nxRM1 fun _ => ?_))
    | (show YG _ _ _ _ _ _ _ _; refine YG.mk (fun hb => by (try (have hc := And.left hb; have hb := And.right hb; rw [hc])); (try rw [hb]); first | exact (y_callA (qr1) ⟨rfl, rfl, rfl⟩) | exact (y_callA (qr2) ⟨rfl, rfl, rfl⟩) | exact V.y vAuto) ?_)
    | (show VG _ _ _ _ _ _ _ _; refine VG.mk (fun hb => by (try (have hc := And.left hb; have hb := And.right hb; rw [hc])); (try rw [hb]); exact vAuto) ?_)
    | (refine nxVS ?_)
    | (refine nxGS ?_)
    | (refine nxX ?_)
    | (refine G.condN rfl (fun hc => ?_) (fun hc => ?_) <;> (try first | exact False.elim hc | (exfalso; omega))))
      · exfalso
        rcases hc with ⟨h1, h2⟩ | ⟨⟨h1, _⟩, _⟩
        · rcases hE2 with h | h
          · exact h1 h
          · exact h2 h
        · exact h1 hrm
      · exact X.again (j + 1) (by omega) (by omega) ⟨rfl, rfl, rfl, rfl, rfl, rfl, rfl, rfl, rfl, trivial⟩ (by exact fun w h => h.sub (by repeat (first | exact List.Sublist.refl _ | apply List.Sublist.cons_cons | apply List.Sublist.cons)))
    · have hO2 := hO' hr0
      repeat' (first
    | (show YK _ _ _ _ _ ⟨_, .call { callee := .builtin .len, args := _, argTypes := #[9] }, _, _, _, _⟩ _; refine YK.ofV (y_lenS (by rfl) StrTy.is) ?_)
    | (show VK _ _ _ _ _ ⟨_, .call { callee := .builtin .len, args := _, argTypes := #[9] }, _, _, _, _⟩ _; refine VK.mk (y_lenS (by rfl) StrTy.is) ?_)
    | (show YG _ _ _ _ _ _ ⟨_, .call { callee := .builtin .len, args := _, argTypes := #[9] }, _, _, _, _⟩ _; refine YG.mk (fun hb => by (try (have hc := And.left hb; have hb := And.right hb; rw [hc])); (try rw [hb]); exact V.y (y_lenS (by rfl) StrTy.is)) ?_)
    | (show VG _ _ _ _ _ _ ⟨_, .call { callee := .builtin .len, args := _, argTypes := #[9] }, _, _, _, _⟩ _; refine VG.mk (fun hb => by (try (have hc := And.left hb; have hb := And.right hb; rw [hc])); (try rw [hb]); exact y_lenS (by rfl) StrTy.is) ?_)
    | (show YK _ _ _ _ _ ⟨some 141, _, _, _, _, _⟩ _; refine YK.ofV (y_remN (by rfl) (by rfl) hr (by decide)) ?_)
    | (show YG _ _ _ _ _ _ ⟨some 157, _, _, _, _, _⟩ _; refine YG.mk (fun hb => (y_remN (by rfl) (by rfl) hr (by decide)).y) ?_)
    | (show VG _ _ _ _ _ _ ⟨some 157, _, _, _, _, _⟩ _; refine VG.mk (fun hb => y_remN (by rfl) (by rfl) hr (by decide)) ?_)
    | (show YK _ _ _ _ _ _ _; first | refine YK.mk (y_callA (qr1) ⟨rfl, rfl, rfl⟩) ?_ | refine YK.mk (y_callA (qr2) ⟨rfl, rfl, rfl⟩) ?_)
    | (show YK _ _ _ _ _ _ _; refine YK.ofV vAuto ?_)
    | (show VK _ _ _ _ _ _ _; refine VK.mk vAuto ?_)
    | (show RS _ _ _ _ _ _ _ _; first | (refine nxRS ?_) | (refine nxRS1 fun _ => ?_))
    | (show RM _ _ _ _ _ _ _ _ _ _; first | (refine nxRM ?_) | (refine nxRM1 fun _ => ?_))
    | (show YG _ _ _ _ _ _ _ _; refine YG.mk (fun hb => by (try (have hc := And.left hb; have hb := And.right hb; rw [hc])); (try rw [hb]); first | exact (y_callA (qr1) ⟨rfl, rfl, rfl⟩) | exact (y_callA (qr2) ⟨rfl, rfl, rfl⟩) | exact V.y vAuto) ?_)
    | (show VG _ _ _ _ _ _ _ _; refine VG.mk (fun hb => by (try (have hc := And.left hb; have hb := And.right hb; rw [hc])); (try rw [hb]); exact vAuto) ?_)
    | (refine nxVS ?_)
    | (refine nxGS ?_)
    | (refine nxX ?_)
    | (refine G.condN rfl (fun hc => ?_) (fun hc => ?_) <;> (try first | exact False.elim hc | (exfalso; omega))))
      · exfalso
        rcases hc with ⟨⟨h, _⟩, _⟩ | ⟨_, h⟩
        · exact hr0 h
        · exact h hO2
      · exact X.again (j + 1) (by omega) (by omega) ⟨rfl, rfl, rfl, rfl, rfl, rfl, rfl, rfl, rfl, trivial⟩ (by exact fun w h => h.sub (by repeat (first | exact List.Sublist.refl _ | apply List.Sublist.cons_cons | apply List.Sublist.cons)))
  · obtain rfl : j = LA.length := by omega
    clear hE hO
    cases hL : lvalB la lo al ah 0 0 with
    | false =>
      have qv := rlval_c (la := la) (lo := lo) (zl := al) (zh := ah)
      rw [hL] at qv
      repeat' (first
    | (refine nxN ?_)
    | (show YK _ _ _ _ _ ⟨some 174, _, _, _, _, _⟩ _; refine YK.ofV (y_build (parts := [(0, .tmp 172), (1, .tmp 173)]) (vs := [_, _]) ⟨rfl, rfl, rfl⟩ (built_ln2 _ _ _ _)) ?_)
    | (show YK _ _ _ _ _ ⟨_, .load 36 _, _, _, _, _⟩ _; refine YK.ofV (y_loadPart (k := 6) (by rfl) (by exact memA) (by decide +kernel) (by rfl)) ?_)
    | (show RS _ _ _ _ _ _ _ (⟨some 177, _, _, _, _, _⟩ :: _); refine RS.callPm (ln_bad (b := bc) (z := zc) (rs := rc) (xt := xc) hL) trivial perm_lc ?_ ⟨rfl, rfl, rfl, rfl⟩; rintro ⟨⟩ -; refine RS.permH ?_ perm_lc.symm)
    | (show YK _ _ _ _ _ _ _; first | refine YK.mk (y_callA (qv) ⟨rfl, rfl⟩) ?_)
    | (show YK _ _ _ _ _ _ _; refine YK.ofV vAuto ?_)
    | (show VK _ _ _ _ _ _ _; refine VK.mk vAuto ?_)
    | (show RS _ _ _ _ _ _ _ _; first | (refine nxRS ?_) | (refine nxRS1 fun _ => ?_))
    | (show RM _ _ _ _ _ _ _ _ _ _; first | (refine nxRM ?_) | (refine nxRM1 fun _ => ?_))
    | (show YG _ _ _ _ _ _ _ _; refine YG.mk (fun hb => by (try (have hc := And.left hb; have hb := And.right hb; rw [hc])); (try rw [hb]); first | exact (y_callA (qv) ⟨rfl, rfl⟩) | exact V.y vAuto) ?_)
    | (show VG _ _ _ _ _ _ _ _; refine VG.mk (fun hb => by (try (have hc := And.left hb; have hb := And.right hb; rw [hc])); (try rw [hb]); exact vAuto) ?_)
    | (refine nxX ?_)
    | (refine G.condN rfl (fun hc => ?_) (fun hc => ?_) <;> (try first | exact False.elim hc | (exfalso; omega))))
      exact X.ret (vs := [_]) rfl ⟨rfl, rfl⟩ rfl (fun w hw => ⟨ret_bool (by simp), hw.ext⟩)
    | true =>
      have qv := rlval_c (la := la) (lo := lo) (zl := al) (zh := ah)
      rw [hL] at qv
      obtain ⟨SC, hSC⟩ : ∃ SC, lnSel wd u al ah 0 0 = SC := ⟨_, rfl⟩
      have hm := mid_px (zl := al) (zh := ah) hu.1 (by omega : 11 ≤ wd ∧ wd ≤ 121) ho
      rw [hSC] at hm
      have hrw := pix_rows (sel := SC) (wd := wd) (h := 2 * ((wd - 1) / 4) + 1)
      have hLl : ((pixL SC 35 wd (2 * ((wd - 1) / 4) + 1)).map toB).length = 2 * ((wd - 1) / 4) + 1 := by simp [pixL]
      rw [show ((((wd - 1) / 4 : Nat) : Nat) : Int) = ((wd : Int) - 1) / 4 by omega, show ((((wd - 1) / 2 : Nat) : Nat) : Int) = ((wd : Int) - 1) / 2 by omega] at hm
      have hlen : (nth ((pixL SC 35 wd (2 * ((wd - 1) / 4) + 1)).map toB) (((wd : Int) - 1) / 4)).length = wd := by
        have hmem : nth ((pixL SC 35 wd (2 * ((wd - 1) / 4) + 1)).map toB) (((wd : Int) - 1) / 4) ∈ (pixL SC 35 wd (2 * ((wd - 1) / 4) + 1)).map toB := by
          unfold nth
          rw [List.getD_eq_getElem?_getD, List.getElem?_eq_getElem (by omega)]
          exact List.getElem_mem _
        exact (hrw _ hmem).1
      repeat' (first
    | (show YK _ _ _ _ _ ⟨_, .call { callee := .builtin .len, args := _, argTypes := #[9] }, _, _, _, _⟩ _; refine YK.ofV (y_lenS (by rfl) StrTy.is) ?_)
    | (show VK _ _ _ _ _ ⟨_, .call { callee := .builtin .len, args := _, argTypes := #[9] }, _, _, _, _⟩ _; refine VK.mk (y_lenS (by rfl) StrTy.is) ?_)
    | (show YG _ _ _ _ _ _ ⟨_, .call { callee := .builtin .len, args := _, argTypes := #[9] }, _, _, _, _⟩ _; refine YG.mk (fun hb => by (try (have hc := And.left hb; have hb := And.right hb; rw [hc])); (try rw [hb]); exact V.y (y_lenS (by rfl) StrTy.is)) ?_)
    | (show VG _ _ _ _ _ _ ⟨_, .call { callee := .builtin .len, args := _, argTypes := #[9] }, _, _, _, _⟩ _; refine VG.mk (fun hb => by (try (have hc := And.left hb; have hb := And.right hb; rw [hc])); (try rw [hb]); exact y_lenS (by rfl) StrTy.is) ?_)
    | (refine nxN ?_)
    | (show YK _ _ _ _ _ ⟨some 174, _, _, _, _, _⟩ _; refine YK.ofV (y_build (parts := [(0, .tmp 172), (1, .tmp 173)]) (vs := [_, _]) ⟨rfl, rfl, rfl⟩ (built_ln2 _ _ _ _)) ?_)
    | (show YK _ _ _ _ _ ⟨_, .load 36 _, _, _, _, _⟩ _; refine YK.ofV (y_loadPart (k := 6) (by rfl) (by exact memA) (by decide +kernel) (by rfl)) ?_)
    | (show RS _ _ _ _ _ _ _ (⟨some 177, _, _, _, _, _⟩ :: _); refine RS.callPm (ln_newB (b := bc) (z := zc) (rs := rc) (xt := xc) hp hla hu (by omega) hc2 hL hSC) trivial perm_lc ?_ ⟨rfl, rfl, rfl, rfl⟩; rintro ⟨⟩ -; refine RS.permH ?_ perm_lc.symm)
    | (show YK _ _ _ _ _ ⟨some 185, .call { callee := .value (.func 8), args := _, argTypes := _ }, _, _, _, _⟩ _; refine YK.mk (y_callIn (tx_new (by omega) hc2) (fun w' hw' => TxW.ofSt (xt := xc) hw' (by exact memA) (by (rw [pR_fst, newR_fst]; exact memA)) (fun h hm => .tail _ (.tail _ (.tail _ (.tail _ (.tail _ (.tail _ hm)))))) (pR_ok (newR_ok hc2.ok)) (by (rw [pR_len, List.length_map]; have hxl := hc2.len; dsimp only at hxl; omega))) ⟨rfl, rfl⟩ (by decide +kernel)) ?_)
    | (show YG _ _ _ _ _ _ ⟨some 185, .call { callee := .value (.func 8), args := _, argTypes := _ }, _, _, _, _⟩ _; refine YG.mk (fun hb => by (try (have hc := And.left hb; have hb := And.right hb; rw [hc])); (try rw [hb]); exact y_callIn (tx_new (by omega) hc2) (fun w' hw' => TxW.ofSt (xt := xc) hw' (by exact memA) (by (rw [pR_fst, newR_fst]; exact memA)) (fun h hm => .tail _ (.tail _ (.tail _ (.tail _ (.tail _ (.tail _ hm)))))) (pR_ok (newR_ok hc2.ok)) (by (rw [pR_len, List.length_map]; have hxl := hc2.len; dsimp only at hxl; omega))) ⟨rfl, rfl⟩ (by decide +kernel)) ?_)
    | (show RS _ _ _ _ _ _ _ (⟨some 187, _, _, _, _, _⟩ :: _); refine RS.callI (rw_new (by omega)) ⟨rfl, rfl, rfl⟩ (fun w' hw' => hI.keep hw'.ext) ?_; rintro z2 -; dsimp only [List.cons_append, List.nil_append]; generalize (pixL SC 35 wd (2 * ((wd - 1) / 4) + 1)).map toB = LC at *)
    | (show YK _ _ _ _ _ _ _; first | refine YK.mk (y_callA (qv) ⟨rfl, rfl⟩) ?_)
    | (show YK _ _ _ _ _ _ _; refine YK.ofV vAuto ?_)
    | (show VK _ _ _ _ _ _ _; refine VK.mk vAuto ?_)
    | (show RS _ _ _ _ _ _ _ _; first | (refine nxRS ?_) | (refine nxRS1 fun _ => ?_))
    | (show RM _ _ _ _ _ _ _ _ _ _; first | (refine nxRM ?_) | (refine nxRM1 fun _ => ?_))
    | (show YG _ _ _ _ _ _ _ _; refine YG.mk (fun hb => by (try (have hc := And.left hb; have hb := And.right hb; rw [hc])); (try rw [hb]); first | exact (y_callA (qv) ⟨rfl, rfl⟩) | exact V.y vAuto) ?_)
    | (show VG _ _ _ _ _ _ _ _; refine VG.mk (fun hb => by (try (have hc := And.left hb; have hb := And.right hb; rw [hc])); (try rw [hb]); exact vAuto) ?_)
    | (refine nxVS ?_)
    | (refine nxGS ?_)
    | (refine nxX ?_)
    | (refine G.condN rfl (fun hc => ?_) (fun hc => ?_) <;> (try first | exact False.elim hc | (exfalso; omega))))
      exact X.ret (vs := [_]) rfl ⟨rfl, rfl⟩ rfl (fun w hw => ⟨ret_bool (by rw [hm]; rfl), hw.ext⟩)
theorem li_q {la lo u q p al ah k bk r : Int} {wd : Nat} (hp : pointB la lo = true) (hla : -4800000 ≤ la ∧ la ≤ 4800000) (hu : 2 ≤ u ∧ u ≤ 100000) (hw : 11 ≤ wd ∧ wd ≤ 41) (ho : wd % 2 = 1) (hq : 0 ≤ q ∧ q ≤ 255) (hpp : -600000 ≤ p ∧ p ≤ 600000)
    (hk : q.tmod 4 = k) (hk4 : 0 ≤ k ∧ k ≤ 3) (hbk : (k * 5400000 + 10800000).tmod 21600000 = bk) (hb : 0 ≤ bk ∧ bk < 21600000) (hr : (k * 5400000).tmod 10800000 = r) (hS : lnS bk bk = -lnS (k * 5400000) (k * 5400000)) (hC : lnC bk bk = -lnC (k * 5400000) (k * 5400000)) (h0 : r = 0 → lnS (k * 5400000) (k * 5400000) = 0) (h1 : r ≠ 0 → lnC (k * 5400000) (k * 5400000) = 0) :
    ContIn Tryd.prog LaidM 3 [ptV la lo, .int .i64 u, .int .i64 (wd : Int), .int .u8 q, .int .i64 p, arcV al ah] (.bool true) := by
  have hp2 := hp
  unfold pointB at hp2
  simp only [Bool.and_eq_true, decide_eq_true_eq] at hp2
  exact li_main hp hla hu hw ho hq hpp hk hk4 hbk hr (by simp only [lvalB, nearB, avalB, fitsB, Bool.and_eq_true, decide_eq_true_eq]; omega) (by simp only [lvalB, nearB, avalB, fitsB, Bool.and_eq_true, decide_eq_true_eq]; omega) rfl (sel_back hS hC) (fun h => rows_even (h0 h)) (fun h => rows_odd (h1 h))
/-- PlotLines answers true. -/
theorem lines_law {la lo u wd q p al ah : Int} (hq : 0 ≤ q ∧ q ≤ 255) : ContIn Tryd.prog LaidM 3 [ptV la lo, .int .i64 u, .int .i64 wd, .int .u8 q, .int .i64 p, arcV al ah] (.bool true) := by
  by_cases hno : 41 < wd ∧ wd ≤ 121 ∨ p < -600000 ∨ 600000 < p
  · exact (li_no hq hno).in_
  · by_cases he : newE la lo u wd = 0
    · unfold newE at he
      split at he
      · rename_i hb
        split at he
        · rename_i hg
          simp only [Bool.and_eq_true, decide_eq_true_eq] at hb
          obtain ⟨wn, rfl⟩ := Int.eq_ofNat_of_zero_le (show 0 ≤ wd by omega)
          have ht : q.tmod 4 = q % 4 := Int.tmod_eq_emod_of_nonneg hq.1
          obtain ⟨⟨v0, v1⟩, ⟨v2, v3⟩, ⟨v4, v5⟩, ⟨v6, v7⟩⟩ : (lnS 0 0 = 0 ∧ lnC 0 0 = 8192) ∧ (lnS 5400000 5400000 = 8192 ∧ lnC 5400000 5400000 = 0) ∧ (lnS 10800000 10800000 = 0 ∧ lnC 10800000 10800000 = -8192) ∧ (lnS 16200000 16200000 = -8192 ∧ lnC 16200000 16200000 = 0) := by
            obtain ⟨a, b, c, d⟩ := q_vals
            exact ⟨Prod.mk.inj a, Prod.mk.inj b, Prod.mk.inj c, Prod.mk.inj d⟩
          have hk : q % 4 = 0 ∨ q % 4 = 1 ∨ q % 4 = 2 ∨ q % 4 = 3 := by omega
          rcases hk with hk | hk | hk | hk
          · exact li_q (k := 0) (bk := 10800000) (r := 0) hb.1.1 (by omega) (by omega) (by omega) (by omega) hq (by omega) (by rw [ht, hk]) (by omega) (by decide) (by omega) (by decide) (by show lnS 10800000 10800000 = -lnS 0 0; rw [v0, v4]; rfl) (by show lnC 10800000 10800000 = -lnC 0 0; rw [v1, v5]) (fun _ => v0) (fun h => absurd rfl h)
          · exact li_q (k := 1) (bk := 16200000) (r := 5400000) hb.1.1 (by omega) (by omega) (by omega) (by omega) hq (by omega) (by rw [ht, hk]) (by omega) (by decide) (by omega) (by decide) (by show lnS 16200000 16200000 = -lnS 5400000 5400000; rw [v2, v6]) (by show lnC 16200000 16200000 = -lnC 5400000 5400000; rw [v3, v7]; rfl) (fun h => absurd h (by decide)) (fun _ => v3)
          · exact li_q (k := 2) (bk := 0) (r := 0) hb.1.1 (by omega) (by omega) (by omega) (by omega) hq (by omega) (by rw [ht, hk]) (by omega) (by decide) (by omega) (by decide) (by show lnS 0 0 = -lnS 10800000 10800000; rw [v0, v4]; rfl) (by show lnC 0 0 = -lnC 10800000 10800000; rw [v1, v5]; rfl) (fun _ => v4) (fun h => absurd rfl h)
          · exact li_q (k := 3) (bk := 5400000) (r := 5400000) hb.1.1 (by omega) (by omega) (by omega) (by omega) hq (by omega) (by rw [ht, hk]) (by omega) (by decide) (by omega) (by decide) (by show lnS 5400000 5400000 = -lnS 16200000 16200000; rw [v2, v6]; rfl) (by show lnC 5400000 5400000 = -lnC 16200000 16200000; rw [v3, v7]; rfl) (fun h => absurd h (by decide)) (fun _ => v7)
        · exact absurd he (by decide)
      · exact absurd he (by decide)
    · refine (li_ref hq hno rfl ?_).in_
      unfold newE at he ⊢
      split
      · split
        · rename_i h1 h2
          rw [if_pos h1, if_pos h2] at he
          exact absurd rfl he
        · exact .inr rfl
      · exact .inl rfl
end Go.Proofs.YtgmolcobhehoeaaDoor
