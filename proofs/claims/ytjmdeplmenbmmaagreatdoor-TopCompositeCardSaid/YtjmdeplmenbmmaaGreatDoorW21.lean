/- Joined texts: Hlp, Tcp, Tcm. -/
import Derived.Test.YtjmdeplmenbmmaaGreatDoorW20
set_option linter.unusedVariables false
set_option maxHeartbeats 8000000
namespace Go.Proofs.YtjmdeplmenbmmaaGreatDoor
open Go.RowKit
theorem obsp_c {n : Int} : Cont Tryz.prog 11 [.int .i64 n] (arcV n n) := fun w => by
  refine enter0 Tryz.func11 rfl rfl rfl ?_
  repeat' (first
    | (refine nxV ?_)
    | (refine nxRS ?_) | (refine nxRS1 fun _ => ?_)
    | (refine nxRM ?_) | (refine nxRM1 fun _ => ?_)
    | (refine nxG ?_)
    | (refine nxX ?_)
    | (refine G.condN rfl (fun hc => ?_) (fun hc => ?_) <;> (try first | exact False.elim hc | (exfalso; omega))))
  all_goals exact X.ret (vs := [_]) rfl ⟨⟨_, _, _, _, rfl, (by exact memA), (by (repeat (first | exact .nil | apply LenIs.cons))), by decide +kernel, rfl⟩, rfl⟩ rfl (fun w hw => ⟨rfl, hw.ext⟩)
theorem rwrap_c {n : Int} (h : -4611686018427387904 ≤ n ∧ n ≤ 4611686018427387904) : Cont Tryz.prog 99 [.int .i64 n] (.int .i64 (TT.turnI n)) := fun w => by
  have ht := tmod_turn n
  have hb : -21600000 < n.tmod 21600000 ∧ n.tmod 21600000 < 21600000 := by omega
  refine enter0 Tryz.func99 rfl rfl rfl ?_
  repeat' (first
    | (refine nxV ?_)
    | (refine nxRS ?_) | (refine nxRS1 fun _ => ?_)
    | (refine nxRM ?_) | (refine nxRM1 fun _ => ?_)
    | (refine nxG ?_)
    | (refine nxX ?_)
    | (refine G.condN rfl (fun hc => ?_) (fun hc => ?_) <;> (try first | exact False.elim hc | (exfalso; omega))))
  all_goals refine X.ret (vs := [_]) rfl ⟨rfl, rfl⟩ rfl (fun w hw => ⟨congrArg Ending.returned (congrArg (Value.int .i64) ?_), hw.ext⟩)
  all_goals (unfold TT.turnI; omega)
theorem rsigned_c {n : Int} (h : -4611686018427387904 ≤ n ∧ n ≤ 4611686018427387904) : Cont Tryz.prog 45 [.int .i64 n] (.int .i64 (signI n)) := fun w => by
  have q1 := rwrap_c h
  have hb := TT.turnI_bd n
  unfold signI
  generalize TT.turnI n = m at *
  by_cases hc : m ≥ 10800000
  · rw [if_pos hc]
    refine enter0 Tryz.func45 rfl rfl rfl ?_
    repeat' (first
    | (show YK _ _ _ _ _ _ _; first | refine YK.mk (y_callA (q1) ⟨rfl, rfl⟩) ?_)
    | (refine nxV ?_)
    | (refine nxRS ?_) | (refine nxRS1 fun _ => ?_)
    | (refine nxRM ?_) | (refine nxRM1 fun _ => ?_)
    | (show YG _ _ _ _ _ _ _ _; refine YG.mk (fun hb => by (try (have hc := And.left hb; have hb := And.right hb; rw [hc])); (try rw [hb]); first | exact (y_callA (q1) ⟨rfl, rfl⟩) | exact V.y vAuto) ?_)
    | (refine nxG ?_)
    | (refine nxX ?_)
    | (refine G.condN rfl (fun hc => ?_) (fun hc => ?_) <;> (try first | exact False.elim hc | (exfalso; omega))))
    exact X.ret (vs := [_]) rfl ⟨rfl, rfl⟩ rfl (fun w hw => ⟨rfl, hw.ext⟩)
  · rw [if_neg hc]
    refine enter0 Tryz.func45 rfl rfl rfl ?_
    repeat' (first
    | (show YK _ _ _ _ _ _ _; first | refine YK.mk (y_callA (q1) ⟨rfl, rfl⟩) ?_)
    | (refine nxV ?_)
    | (refine nxRS ?_) | (refine nxRS1 fun _ => ?_)
    | (refine nxRM ?_) | (refine nxRM1 fun _ => ?_)
    | (show YG _ _ _ _ _ _ _ _; refine YG.mk (fun hb => by (try (have hc := And.left hb; have hb := And.right hb; rw [hc])); (try rw [hb]); first | exact (y_callA (q1) ⟨rfl, rfl⟩) | exact V.y vAuto) ?_)
    | (refine nxG ?_)
    | (refine nxX ?_)
    | (refine G.condN rfl (fun hc => ?_) (fun hc => ?_) <;> (try first | exact False.elim hc | (exfalso; omega))))
    exact X.ret (vs := [_]) rfl ⟨rfl, rfl⟩ rfl (fun w hw => ⟨rfl, hw.ext⟩)
theorem rall_c : Cont Tryz.prog 44 [] (arcV (-10800000) 10800000) := fun w => by
  refine enter0 Tryz.func44 rfl rfl rfl ?_
  repeat' (first
    | (refine nxN ?_)
    | (refine nxV ?_)
    | (refine nxRS ?_) | (refine nxRS1 fun _ => ?_)
    | (refine nxRM ?_) | (refine nxRM1 fun _ => ?_)
    | (refine nxG ?_)
    | (refine nxX ?_)
    | (refine G.condN rfl (fun hc => ?_) (fun hc => ?_) <;> (try first | exact False.elim hc | (exfalso; omega))))
  all_goals exact X.ret (vs := [_]) rfl ⟨⟨_, _, _, _, rfl, (by exact memA), (by (repeat (first | exact .nil | apply LenIs.cons))), by decide +kernel, rfl⟩, rfl⟩ rfl (fun w hw => ⟨rfl, hw.ext⟩)
theorem rlons_c {k : Int × Int} (h : -4398046511104 ≤ k.1 ∧ k.1 ≤ k.2 ∧ k.2 ≤ 4398046511104) : Cont Tryz.prog 12 [arcV k.1 k.2] (arcV (lonsI k).1 (lonsI k).2) := fun w => by
  obtain ⟨k1, k2⟩ := k
  unfold lonsI
  dsimp only at *
  have q1 := rsigned_c (n := k1) (by omega)
  have q2 := rall_c
  have hs := signI_bd k1
  generalize signI k1 = s at *
  refine enter0 Tryz.func12 rfl rfl rfl ?_
  repeat' (first
    | (refine nxN ?_)
    | (show YK _ _ _ _ _ _ _; first | refine YK.mk (y_callA (q1) ⟨rfl, rfl⟩) ?_ | refine YK.mk (y_callA (q2) rfl) ?_)
    | (refine nxV ?_)
    | (refine nxRS ?_) | (refine nxRS1 fun _ => ?_)
    | (refine nxRM ?_) | (refine nxRM1 fun _ => ?_)
    | (show YG _ _ _ _ _ _ _ _; refine YG.mk (fun hb => by (try (have hc := And.left hb; have hb := And.right hb; rw [hc])); (try rw [hb]); first | exact (y_callA (q1) ⟨rfl, rfl⟩) | exact (y_callA (q2) rfl) | exact V.y vAuto) ?_)
    | (refine nxG ?_)
    | (refine nxX ?_)
    | (refine G.condN rfl (fun hc => ?_) (fun hc => ?_) <;> (try first | exact False.elim hc | (exfalso; omega))))
  all_goals first
    | (rw [if_pos (by omega)]; exact X.ret (vs := [_]) rfl ⟨⟨_, _, _, _, rfl, (by exact memA), (by (repeat (first | exact .nil | apply LenIs.cons))), by decide +kernel, rfl⟩, rfl⟩ rfl (fun w hw => ⟨rfl, hw.ext⟩))
    | (rw [if_neg (by omega)]; exact X.ret (vs := [_]) rfl ⟨⟨_, _, _, _, rfl, (by exact memA), (by (repeat (first | exact .nil | apply LenIs.cons))), by decide +kernel, rfl⟩, rfl⟩ rfl (fun w hw => ⟨rfl, hw.ext⟩))
theorem rpoint_c (la lo : Int) : Cont Tryz.prog 17 [ptV la lo] (.bool (pointB la lo)) := fun w => by
  refine enter0 Tryz.func17 rfl rfl rfl ?_
  repeat' (first
    | (refine nxV ?_)
    | (refine nxRS ?_) | (refine nxRS1 fun _ => ?_)
    | (refine nxRM ?_) | (refine nxRM1 fun _ => ?_)
    | (refine nxG ?_)
    | (refine nxX ?_)
    | (refine G.condN rfl (fun hc => ?_) (fun hc => ?_) <;> (try first | exact False.elim hc | (exfalso; omega))))
  exact X.ret (vs := [_]) rfl ⟨rfl, rfl⟩ rfl (fun w hw => ⟨ret_bool rfl, hw.ext⟩)
abbrev Int64B (n : Int) : Prop := -9223372036854775808 ≤ n ∧ n ≤ 9223372036854775807
def givI (pa pb : Bool) (a b : PtT) (lim : Int) : Int := if pa = false ∨ pb = false then 1 else if lim < 1 ∨ 5399999 < lim then 2 else if a.1 > lim ∨ a.1 < -lim ∨ b.1 > lim ∨ b.1 < -lim then 2 else 0
theorem given_c {v : Value} {a b : PtT} {lim : Int} (ha : Int64B a.1) (hb : Int64B b.1) (hl : Int64B lim) : ContR Tryz.prog [Hl.rd v cPt 2 [a, b]] 6 [v, .int .i64 lim] (.int .i64 (givI (pointB a.1 a.2) (pointB b.1 b.2) a b lim)) := fun w hw0 => by
  have q1 := rpoint_c a.1 a.2
  have q2 := rpoint_c b.1 b.2
  have n0 : (nth [a, b] 0).fst = a.fst := rfl
  have n1 : (nth [a, b] (0 + 1)).fst = b.fst := rfl
  have l2 : (([a, b].length : Nat) : Int) = 2 := rfl
  unfold givI Int64B at *
  cases hpa : pointB a.1 a.2 with
  | false =>
    rw [hpa] at q1
    rw [if_pos (Or.inl rfl)]
    refine enter Tryz.func6 rfl rfl rfl hw0 ?_
    repeat' (first
    | (refine nxN ?_)
    | (show G _ _ _ _ _ _ (.loop _); refine G.loopN 3 (GR.step ?_))
    | (show X (Exit.then (Code.rounds _ _ _ _) _) _ _ _ _ .normal; refine X.round (GR.step ?_))
    | (show YK _ _ _ _ _ _ _; first | refine YK.mk (y_callA (q1) ⟨rfl, rfl⟩) ?_)
    | (refine nxV ?_)
    | (refine nxRS ?_) | (refine nxRS1 fun _ => ?_)
    | (refine nxRM ?_) | (refine nxRM1 fun _ => ?_)
    | (show YG _ _ _ _ _ _ _ _; refine YG.mk (fun hb => by (try (have hc := And.left hb; have hb := And.right hb; rw [hc])); (try rw [hb]); first | exact (y_callA (q1) ⟨rfl, rfl⟩) | exact V.y vAuto) ?_)
    | (refine nxG ?_)
    | (refine nxX ?_)
    | (refine G.condN rfl (fun hc => ?_) (fun hc => ?_) <;> (try first | exact False.elim hc | (exfalso; omega))))
    all_goals first
      | (exfalso; omega)
      | exact X.ret (vs := [_]) rfl ⟨rfl, rfl⟩ rfl (fun w hw => ⟨rfl, hw.ext⟩)
  | true =>
    rw [hpa] at q1
    cases hpb : pointB b.1 b.2 with
    | false =>
      rw [hpb] at q2
      rw [if_pos (Or.inr rfl)]
      refine enter Tryz.func6 rfl rfl rfl hw0 ?_
      repeat' (first
    | (refine nxN ?_)
    | (show G _ _ _ _ _ _ (.loop _); refine G.loopN 3 (GR.step ?_))
    | (show X (Exit.then (Code.rounds _ _ _ _) _) _ _ _ _ .normal; refine X.round (GR.step ?_))
    | (show YK _ _ _ _ _ _ _; first | refine YK.mk (y_callA (q1) ⟨rfl, rfl⟩) ?_ | refine YK.mk (y_callA (q2) ⟨rfl, rfl⟩) ?_)
    | (refine nxV ?_)
    | (refine nxRS ?_) | (refine nxRS1 fun _ => ?_)
    | (refine nxRM ?_) | (refine nxRM1 fun _ => ?_)
    | (show YG _ _ _ _ _ _ _ _; refine YG.mk (fun hb => by (try (have hc := And.left hb; have hb := And.right hb; rw [hc])); (try rw [hb]); first | exact (y_callA (q1) ⟨rfl, rfl⟩) | exact (y_callA (q2) ⟨rfl, rfl⟩) | exact V.y vAuto) ?_)
    | (refine nxG ?_)
    | (refine nxX ?_)
    | (refine G.condN rfl (fun hc => ?_) (fun hc => ?_) <;> (try first | exact False.elim hc | (exfalso; omega))))
      all_goals first
        | (exfalso; omega)
        | exact X.ret (vs := [_]) rfl ⟨rfl, rfl⟩ rfl (fun w hw => ⟨rfl, hw.ext⟩)
    | true =>
      rw [hpb] at q2
      rw [if_neg (by simp)]
      refine enter Tryz.func6 rfl rfl rfl hw0 ?_
      repeat' (first
    | (refine nxN ?_)
    | (show G _ _ _ _ _ _ (.loop _); refine G.loopN 3 (GR.step ?_))
    | (show X (Exit.then (Code.rounds _ _ _ _) _) _ _ _ _ .normal; refine X.round (GR.step ?_))
    | (show YK _ _ _ _ _ _ _; first | refine YK.mk (y_callA (q1) ⟨rfl, rfl⟩) ?_ | refine YK.mk (y_callA (q2) ⟨rfl, rfl⟩) ?_)
    | (refine nxV ?_)
    | (refine nxRS ?_) | (refine nxRS1 fun _ => ?_)
    | (refine nxRM ?_) | (refine nxRM1 fun _ => ?_)
    | (show YG _ _ _ _ _ _ _ _; refine YG.mk (fun hb => by (try (have hc := And.left hb; have hb := And.right hb; rw [hc])); (try rw [hb]); first | exact (y_callA (q1) ⟨rfl, rfl⟩) | exact (y_callA (q2) ⟨rfl, rfl⟩) | exact V.y vAuto) ?_)
    | (refine nxG ?_)
    | (refine nxX ?_)
    | (refine G.condN rfl (fun hc => ?_) (fun hc => ?_) <;> (try first | exact False.elim hc | (exfalso; omega))))
      all_goals first
        | (exfalso; omega)
        | (rw [if_pos (by omega)]; exact X.ret (vs := [_]) rfl ⟨rfl, rfl⟩ rfl (fun w hw => ⟨rfl, hw.ext⟩))
        | (rw [if_neg (by omega), if_pos (by omega)]; exact X.ret (vs := [_]) rfl ⟨rfl, rfl⟩ rfl (fun w hw => ⟨rfl, hw.ext⟩))
        | (rw [if_neg (by omega), if_neg (by omega)]; exact X.ret (vs := [_]) rfl ⟨rfl, rfl⟩ rfl (fun w hw => ⟨rfl, hw.ext⟩))
end Go.Proofs.YtjmdeplmenbmmaaGreatDoor
set_option maxHeartbeats 8000000
namespace Go.Proofs.YtjmdeplmenbmmaaGreatDoor
open Go.RowKit
theorem lons_in {k1 k2 x : Int} (h : k1 ≤ k2) (hx : ∃ j : Int, k1 ≤ x + 21600000 * j ∧ x + 21600000 * j ≤ k2) (hb : -10800000 ≤ x ∧ x < 10800000) : lonOk (lonsI (k1, k2)).1 (lonsI (k1, k2)).2 ∧ TT.turnI (x - (lonsI (k1, k2)).1) ≤ (lonsI (k1, k2)).2 - (lonsI (k1, k2)).1 := by
  unfold lonsI lonOk
  dsimp only
  by_cases hT : 21600000 ≤ k2 - k1
  · rw [if_pos hT]
    refine ⟨Or.inl ⟨rfl, rfl⟩, ?_⟩
    unfold TT.turnI
    omega
  · rw [if_neg hT]
    have hs1 := signI_bd k1
    have hsE : ∃ i : Int, signI k1 = k1 + 21600000 * i := ⟨-((k1 + 10800000) / 21600000), by unfold signI TT.turnI; split <;> omega⟩
    obtain ⟨i, hi⟩ := hsE
    obtain ⟨j, hj⟩ := hx
    generalize signI k1 = s1 at *
    refine ⟨Or.inr (by dsimp only; omega), ?_⟩
    unfold TT.turnI
    omega
theorem par_mid {c1 c2 : Int} {N n1 n2 : Nat} (hc : 1 ≤ c1 ∧ c1 ≤ c2) (h1 : (n1 : Int) = c1 * N / 1073741824) (h2 : (n2 : Int) = -(-(c2 * N) / 1073741824)) : ((1073741824 * n1 : Nat) : Int) / c2 ≤ N ∧ (N : Int) ≤ -(-((1073741824 * n2 : Nat) : Int) / c1) := by
  have hm : c1 * (N : Int) ≤ c2 * N := Int.mul_le_mul_of_nonneg_right hc.2 (Int.natCast_nonneg _)
  have a1 : ((1073741824 * n1 : Nat) : Int) ≤ c1 * N := by omega
  have a2 : c2 * (N : Int) ≤ ((1073741824 * n2 : Nat) : Int) := by omega
  constructor
  · refine Int.ediv_le_of_le_mul (by omega) ?_
    rw [Int.mul_comm]; omega
  · have : -((1073741824 * n2 : Nat) : Int) / c1 ≤ -(N : Int) := by
      refine Int.ediv_le_of_le_mul (by omega) ?_
      rw [Int.neg_mul, Int.mul_comm]
      omega
    omega
theorem par_law {p q : PtT} {d : Int × Int} {n1 n2 : Nat} (hp : lat8I p.1 ∧ lon8I p.2) (hq : lat8I q.1 ∧ lon8I q.2) (hlat : p.1 = q.1) (hc : 1 ≤ (TT.cosE p.1 p.1).1)
    (h1 : (n1 : Int) = (legD (TT.cosE p.1 p.1) (signI (q.2 - p.2)).natAbs).1) (h2 : (n2 : Int) = (legD (TT.cosE p.1 p.1) (signI (q.2 - p.2)).natAbs).2)
    (hd : d = (((1073741824 * n1 : Nat) : Int) / (TT.cosE p.1 p.1).2, -(-((1073741824 * n2 : Nat) : Int) / (TT.cosE p.1 p.1).1))) (hdo : d.1 ≤ d.2) :
    (signI (q.2 - p.2) < 0 → lonOk (lonsI (p.2 + -d.2, p.2 + -d.1)).1 (lonsI (p.2 + -d.2, p.2 + -d.1)).2 ∧ inBx p.1 p.1 (lonsI (p.2 + -d.2, p.2 + -d.1)).1 (lonsI (p.2 + -d.2, p.2 + -d.1)).2 q.1 q.2 = true) ∧
    (0 ≤ signI (q.2 - p.2) → lonOk (lonsI (p.2 + d.1, p.2 + d.2)).1 (lonsI (p.2 + d.1, p.2 + d.2)).2 ∧ inBx p.1 p.1 (lonsI (p.2 + d.1, p.2 + d.2)).1 (lonsI (p.2 + d.1, p.2 + d.2)).2 q.1 q.2 = true) := by
  have ho := TT.cosE_ord (Int.le_refl p.1)
  have hm := par_mid (c1 := (TT.cosE p.1 p.1).1) (c2 := (TT.cosE p.1 p.1).2) (N := (signI (q.2 - p.2)).natAbs) ⟨hc, ho.2.1⟩ h1 h2
  have hwE : ∃ j : Int, signI (q.2 - p.2) = q.2 - p.2 + 21600000 * j := ⟨-((q.2 - p.2 + 10800000) / 21600000), by unfold signI TT.turnI; split <;> omega⟩
  obtain ⟨j, hj⟩ := hwE
  have hd1 := congrArg Prod.fst hd
  have hd2 := congrArg Prod.snd hd
  dsimp only at hd1 hd2
  rw [← hd1, ← hd2] at hm
  clear hd hd1 hd2 h1 h2
  unfold inBx
  constructor
  · intro hn
    obtain ⟨a, b⟩ := lons_in (k1 := p.2 + -d.2) (k2 := p.2 + -d.1) (x := q.2) (by omega) ⟨j, by omega, by omega⟩ (by omega)
    refine ⟨a, ?_⟩
    rw [if_neg (by omega)]
    simp only [Bool.or_eq_true, decide_eq_true_eq]
    exact Or.inr b
  · intro hn
    obtain ⟨a, b⟩ := lons_in (k1 := p.2 + d.1) (k2 := p.2 + d.2) (x := q.2) (by omega) ⟨j, by omega, by omega⟩ (by omega)
    refine ⟨a, ?_⟩
    rw [if_neg (by omega)]
    simp only [Bool.or_eq_true, decide_eq_true_eq]
    exact Or.inr b
end Go.Proofs.YtjmdeplmenbmmaaGreatDoor
set_option maxHeartbeats 16000000
namespace Go.Proofs.YtjmdeplmenbmmaaGreatDoor
open Go.RowKit
theorem giv_0 {a b : PtT} {lim : Int} (h : givI (pointB a.1 a.2) (pointB b.1 b.2) a b lim = 0) : (1 ≤ lim ∧ lim < 5400000) ∧ okPt lim a ∧ okPt lim b := by
  unfold givI at h
  split at h
  · omega
  · rename_i h1
    split at h
    · omega
    · rename_i h2
      split at h
      · omega
      · rename_i h3
        have ha : pointB a.1 a.2 = true := by cases hq : pointB a.1 a.2 with
          | true => rfl
          | false => exact absurd (Or.inl hq) h1
        have hb : pointB b.1 b.2 = true := by cases hq : pointB b.1 b.2 with
          | true => rfl
          | false => exact absurd (Or.inr hq) h1
        simp only [pointB, Bool.and_eq_true, decide_eq_true_eq] at ha hb
        exact ⟨by omega, ⟨by omega, by omega, by omega⟩, by omega, by omega, by omega⟩
theorem plan_len {lim : Int} {a b : PtT} {l : List PtT} (h : PlanOk lim a b l) : 1 ≤ l.length ∧ l.length ≤ 6 := ⟨by
  cases hn : l with
  | nil => rw [hn] at h; exact absurd h.hd (by simp)
  | cons _ _ => simp, h.len⟩
theorem nth_memP {l : List PtT} {k : Nat} (hk : k < l.length) : nth l (k : Int) ∈ l := by
  unfold nth
  rw [Int.toNat_natCast, List.getD_eq_getElem?_getD, List.getElem?_eq_getElem hk]
  exact List.getElem_mem hk
theorem legNat {c : Int × Int} {N : Nat} (hc : 1 ≤ c.1 ∧ c.1 ≤ c.2 ∧ c.2 ≤ 1073741824) (hN : N ≤ 10800000) : ∃ n1 n2 : Nat, (n1 : Int) = (legD c N).1 ∧ (n2 : Int) = (legD c N).2 ∧ n1 ≤ n2 ∧ n2 ≤ 100000000 := by
  have h1 : 0 ≤ c.1 * (N : Int) := Int.mul_nonneg (by omega) (Int.natCast_nonneg _)
  have h2 : c.1 * (N : Int) ≤ c.2 * N := Int.mul_le_mul_of_nonneg_right hc.2.1 (Int.natCast_nonneg _)
  have h3 : c.2 * (N : Int) ≤ 1073741824 * 10800000 := Int.mul_le_mul hc.2.2 (by omega) (Int.natCast_nonneg _) (by omega)
  unfold legD
  dsimp only
  exact ⟨(c.1 * N / 1073741824).toNat, (-(-(c.2 * N) / 1073741824)).toNat, by omega, by omega, by omega, by omega⟩
theorem comp_c {C : World → Prop} (hkeep : ∀ w w', C w → Below w.heap.size w w' → C w') {a b : PtT} {lim : Int} (ha : Int64B a.1 ∧ Int64B a.2) (hb : Int64B b.1 ∧ Int64B b.2) (hl : Int64B lim) (hA : ContIn Tryz.prog C 5 [] (.bool true)) :
    ContIn Tryz.prog C 3 [ptV a.1 a.2, ptV b.1 b.2, .int .i64 lim] (.bool true) := fun w hC => by
  have q1 := fun v => given_c (v := v) ha.1 hb.1 hl
  generalize hgg : givI (pointB a.1 a.2) (pointB b.1 b.2) a b lim = gg at *
  by_cases hg : gg = 0
  · rw [hg] at hgg q1
    obtain ⟨hlim, oka, okb⟩ := giv_0 hgg
    have q2 := plan_c hlim oka okb
    have q3 := fun (v : Value) (l : List PtT) (h : PlanOk lim a b l) => legs_c (v := v) (l := l) (lim := lim) hlim h.ok ⟨by
      cases hn : l with
      | nil => rw [hn] at h; exact absurd h.hd (by simp)
      | cons _ _ => simp, h.len⟩
    have q4 := pof_c oka.1
    refine enter0 Tryz.func3 rfl rfl rfl ?_
    repeat' (first
    | (refine nxN ?_)
    | (show YK _ _ _ _ _ ⟨_, .call { callee := .value (.func 5), args := _, argTypes := _ }, _, _, _, _⟩ _; refine YK.mk (y_callIn (hA) (fun w' hw' => hkeep _ _ hC hw'.ext) rfl (by decide +kernel)) ?_)
    | (show YG _ _ _ _ _ _ ⟨_, .call { callee := .value (.func 5), args := _, argTypes := _ }, _, _, _, _⟩ _; refine YG.mk (fun hb => by (try (have hc := And.left hb; have hb := And.right hb; rw [hc])); (try rw [hb]); exact y_callIn (hA) (fun w' hw' => hkeep _ _ hC hw'.ext) rfl (by decide +kernel)) ?_)
    | (show RS _ _ _ _ _ _ _ (⟨some _, .buildSlice 26 2 _, _, _, _, _⟩ :: _); refine RS.lit2Pt (a := a) (b := b) (fun v' => ?_) rfl rfl)
    | (show RS _ _ _ _ _ _ _ (⟨some 37, _, _, _, _, _⟩ :: _); refine RS.callX q2 ⟨rfl, rfl, rfl, rfl⟩ ?_; rintro ⟨pv, pts⟩ hpts; dsimp only at hpts; have hpl : 1 ≤ pts.length ∧ pts.length ≤ 6 := plan_len hpts; dsimp only [List.cons_append, List.nil_append])
    | (show RS _ _ _ _ _ _ _ (⟨some 43, _, _, _, _, _⟩ :: _); refine RS.callX (q3 _ _ hpts) ⟨rfl, rfl, rfl⟩ ?_; rintro ⟨lv, legs⟩ hlegs; have hll : legs.length + 1 = pts.length := hlegs.1; have hlk : LegsOk lim pts legs := hlegs.2; dsimp only [List.cons_append, List.nil_append])
    | (show YK _ _ _ _ _ _ _; first | refine YK.mk (y_callRA (q1 _) ⟨rfl, rfl, rfl⟩) ?_ | refine YK.mk (y_callA (q4) ⟨rfl, rfl⟩) ?_)
    | (refine nxV ?_)
    | (refine nxRS ?_) | (refine nxRS1 fun _ => ?_)
    | (refine nxRM ?_) | (refine nxRM1 fun _ => ?_)
    | (show YG _ _ _ _ _ _ _ _; refine YG.mk (fun hb => by (try (have hc := And.left hb; have hb := And.right hb; rw [hc])); (try rw [hb]); first | exact (y_callRA (q1 _) ⟨rfl, rfl, rfl⟩) | exact (y_callA (q4) ⟨rfl, rfl⟩) | exact V.y vAuto) ?_)
    | (refine nxG ?_)
    | (refine G.mixedA 13 [.go 0, .go 1, .go 2, .go 3, .go 4, .go 5, .go 6, .go 7, .go 8, .pend 9, .pend 10, .done, .done, .go 11, .go 12] ?_)
    | (refine G.mixedA 16 [.go 0, .go 1, .go 3, .go 4, .pend 9, .go 2, .go 5, .go 6, .go 7, .go 8, .done, .go 10, .go 11] ?_)
    | (refine G.mixedA 23 [.go 0, .go 1, .go 2, .go 3, .go 4, .go 5, .go 6, .go 7, .go 8, .go 9, .go 10, .go 11, .go 12, .go 13, .go 14, .go 15] ?_)
    | (refine nxX ?_)
    | (refine G.condN rfl (fun hc => ?_) (fun hc => ?_) <;> (try first | exact False.elim hc | (exfalso; omega))))
    all_goals (try (exfalso; omega))
    rename_i b3 b4 hd1 hd2 b11
    have hp0 : nth pts ((0 : Nat) : Int) = a := by
      have := hpts.hd
      cases hn : pts with
      | nil => rw [hn] at this; cases this
      | cons x r => rw [hn] at this; cases this; rfl
    refine G.loop (ι := Nat × PtT) (fun y => [(2, .int .i64 lim), (3, bxP b3), (4, bxP b4), (7, pv), (9, lv.v), (11, bxP b11), (74, lv.v), (75, .int .i64 (legs.length : Nat)), (76, .int .i64 (y.1 : Int))])
      (fun y => [Hl.blk b11 36 [.int .i64 y.2.1, .int .i64 y.2.1, .int .i64 y.2.2, .int .i64 y.2.2], Hl.nw lv.v cLg 4 legs, Hl.nw pv cPt 2 pts, Hl.blk b4 23 [.int .i64 b.1, .int .i64 b.2], Hl.blk b3 23 [.int .i64 a.1, .int .i64 a.2]])
      (fun y => y.1 ≤ legs.length ∧ y.2 = nth pts (y.1 : Int)) (fun y => legs.length - y.1) (0, a) ⟨Nat.zero_le _, hp0.symm⟩ ⟨rfl, rfl, rfl, rfl, rfl, rfl, rfl, rfl, rfl, trivial⟩ (by exact fun w h => h.sub (by repeat (first | exact List.Sublist.refl _ | apply List.Sublist.cons_cons | apply List.Sublist.cons))) ?_
    rintro ⟨i, p⟩ mx ⟨g1, g2⟩ hmx
    (try dsimp only at g1 g2 hmx ⊢)
    rcases Nat.lt_or_ge i legs.length with hi | hi
    · subst g2
      have o1 := hpts.ok _ (nth_memP (l := pts) (k := i) (by omega))
      have o2 := hpts.ok _ (nth_memP (l := pts) (k := i + 1) (by omega))
      have nm1 := nth_opt (l := pts) (i := i) (by omega)
      have nm2 := nth_opt (l := pts) (i := i + 1) (by omega)
      have hadj := hpts.adj i _ _ nm1 nm2
      rw [Int.natCast_add, show ((1 : Nat) : Int) = 1 from rfl] at o2 hadj
      have hleg := hlk i (nth legs (i : Int)) (by have := nth_some (l := legs) (m := (i : Int)) (by omega) (by omega); simpa using this)
      clear nm1 nm2
      have q9 := pof_c o2.1
      have q10 := pof_c o1.1
      have q11 := obsp_c (n := (nth pts (i : Int)).1)
      have hcl := cos_low (x := (nth pts (i : Int)).1) (by have := o1.2; omega)
      have hb1 := o1.1
      have hb2 := o2.1
      have hz1 := o1.2
      have hz2 := o2.2
      by_cases hpar : parB lim (nth pts (i : Int)) (nth pts ((i : Int) + 1))
      · obtain ⟨hK, hD⟩ := hleg.1 hpar
        have hpar1 := hpar.1
        have hpar2 := hpar.2
        obtain ⟨n1, n2, e1, e2, e3, e4⟩ := legNat (c := TT.cosE (nth pts (i : Int)).1 (nth pts (i : Int)).1) (N := (signI ((nth pts ((i : Int) + 1)).2 - (nth pts (i : Int)).2)).natAbs) ⟨hcl, (TT.cosE_ord (Int.le_refl (nth pts (i : Int)).1)).2⟩ (by have := signI_bd ((nth pts ((i : Int) + 1)).2 - (nth pts (i : Int)).2); omega)
        obtain ⟨dd, e, hdl, q12⟩ := dlon_c (a := (nth pts (i : Int)).1) (n1 := n1) (n2 := n2) (by omega) ⟨e3, e4⟩
        rw [e1, e2, ← hD] at q12
        by_cases he : e = 0
        · obtain ⟨uu1, uu2, uu3, uu4⟩ := hdl he
          obtain ⟨lw1, lw2⟩ := par_law o1.1 o2.1 hpar1 hcl (n1 := n1) (n2 := n2) e1 e2 uu1 uu3
          by_cases hom : signI ((nth pts ((i : Int) + 1)).2 - (nth pts (i : Int)).2) < 0
          · obtain ⟨lw3, lw4⟩ := lw1 hom
            rw [if_pos hom] at hK
            have hK1 := congrArg Prod.fst hK
            dsimp only at hK1
            have q13 := rlons_c (k := ((nth pts (i : Int)).2 + -dd.2, (nth pts (i : Int)).2 + -dd.1)) (by dsimp only; omega)
            have q14 := pcon2_c (a := (nth pts (i : Int)).1) (b := (nth pts (i : Int)).1) (by omega) lw3 o2.1
            rw [lw4] at q14
            clear lw1 lw2 lw3 lw4 hdl uu1 hK hD
            generalize lonsI ((nth pts (i : Int)).2 + -dd.2, (nth pts (i : Int)).2 + -dd.1) = lg at *
            repeat' (first
    | (refine nxN ?_)
    | (show VK _ _ _ _ _ ⟨_, .load 34 _, _, _, _, _⟩ _; refine VK.mk (y_loadPart (k := 2) (by rfl) (by exact memA) (by decide +kernel) (by rfl)) ?_)
    | (show YK _ _ _ _ _ ⟨_, .load 34 _, _, _, _, _⟩ _; refine YK.ofV (y_loadPart (k := 2) (by rfl) (by exact memA) (by decide +kernel) (by rfl)) ?_)
    | (show VG _ _ _ _ _ _ ⟨_, .load 34 _, _, _, _, _⟩ _; refine VG.mk (fun hb => by (try rw [hb]); exact y_loadPart (k := 2) (by rfl) (by exact memA) (by decide +kernel) (by rfl)) ?_)
    | (show YG _ _ _ _ _ _ ⟨_, .load 34 _, _, _, _, _⟩ _; refine YG.mk (fun hb => by (try rw [hb]); exact V.y (y_loadPart (k := 2) (by rfl) (by exact memA) (by decide +kernel) (by rfl))) ?_)
    | (show VK _ _ _ _ _ ⟨_, .build 36 #[(0, _), (1, _)], _, _, _, _⟩ _; refine VK.mk (y_build (parts := [(0, _), (1, _)]) (vs := [_, _]) ⟨rfl, rfl, rfl⟩ (place_built _ _ _ _)) ?_)
    | (show YK _ _ _ _ _ ⟨_, .build 36 #[(0, _), (1, _)], _, _, _, _⟩ _; refine YK.ofV (y_build (parts := [(0, _), (1, _)]) (vs := [_, _]) ⟨rfl, rfl, rfl⟩ (place_built _ _ _ _)) ?_)
    | (show RM _ _ _ _ _ _ _ _ _ (.go 15 :: _); refine RM.storeRowB ?_ rfl (by rfl) (by rfl) (by rfl) (k := 4) (.there _ (.there _ (.there _ (.there _ (.there _ (.here _)))))) (by (repeat (first | exact .nil | apply LenIs.cons))) (by (repeat (first | exact .nil | apply LenIs.cons))) (by decide +kernel) (fun _ h => h.sub (by repeat (first | exact List.Sublist.refl _ | apply List.Sublist.cons_cons | apply List.Sublist.cons))))
    | (refine G.mixedM 23 [.go 0, .go 1, .go 2, .go 3, .go 4, .go 5, .go 6, .go 7, .go 8, .go 9, .go 10, .go 11, .go 12, .go 13, .go 14, .go 15] [true, true, true, true, true, false, true, true, true, true] ?_; dsimp only [maskH])
    | (show YK _ _ _ _ _ _ _; first | refine YK.mk (y_callA (q9) ⟨rfl, rfl⟩) ?_ | refine YK.mk (y_callA (q10) ⟨rfl, rfl⟩) ?_ | refine YK.mk (y_callA (q11) ⟨rfl, rfl⟩) ?_ | refine YK.mk (y_callA (q12) ⟨rfl, rfl, rfl⟩) ?_ | refine YK.mk (y_callA (q13) ⟨rfl, rfl⟩) ?_ | refine YK.mk (y_callA (q14) ⟨rfl, rfl, rfl⟩) ?_)
    | (refine nxV ?_)
    | (refine nxRS ?_) | (refine nxRS1 fun _ => ?_)
    | (refine nxRM ?_) | (refine nxRM1 fun _ => ?_)
    | (show YG _ _ _ _ _ _ _ _; refine YG.mk (fun hb => by (try (have hc := And.left hb; have hb := And.right hb; rw [hc])); (try rw [hb]); first | exact (y_callA (q9) ⟨rfl, rfl⟩) | exact (y_callA (q10) ⟨rfl, rfl⟩) | exact (y_callA (q11) ⟨rfl, rfl⟩) | exact (y_callA (q12) ⟨rfl, rfl, rfl⟩) | exact (y_callA (q13) ⟨rfl, rfl⟩) | exact (y_callA (q14) ⟨rfl, rfl, rfl⟩) | exact V.y vAuto) ?_)
    | (refine nxG ?_)
    | (refine G.mixedA 13 [.go 0, .go 1, .go 2, .go 3, .go 4, .go 5, .go 6, .go 7, .go 8, .pend 9, .pend 10, .done, .done, .go 11, .go 12] ?_)
    | (refine G.mixedA 16 [.go 0, .go 1, .go 3, .go 4, .pend 9, .go 2, .go 5, .go 6, .go 7, .go 8, .done, .go 10, .go 11] ?_)
    | (refine nxX ?_)
    | (refine G.condN rfl (fun hc => ?_) (fun hc => ?_) <;> (try first | exact False.elim hc | (exfalso; omega))))
            all_goals first
              | (exfalso; omega)
              | exact X.again (i + 1, nth pts ((i : Int) + 1)) ⟨by dsimp only; omega, by dsimp only; rw [Int.natCast_add]; rfl⟩ (by dsimp only; omega) ⟨rfl, rfl, rfl, rfl, rfl, rfl, rfl, rfl, rfl, trivial⟩ (by exact fun w h => h.sub (by repeat (first | exact List.Sublist.refl _ | apply List.Sublist.cons_cons | apply List.Sublist.cons)))
          · obtain ⟨lw3, lw4⟩ := lw2 (by omega)
            rw [if_neg hom] at hK
            have hK1 := congrArg Prod.fst hK
            dsimp only at hK1
            have q13 := rlons_c (k := ((nth pts (i : Int)).2 + dd.1, (nth pts (i : Int)).2 + dd.2)) (by dsimp only; omega)
            have q14 := pcon2_c (a := (nth pts (i : Int)).1) (b := (nth pts (i : Int)).1) (by omega) lw3 o2.1
            rw [lw4] at q14
            clear lw1 lw2 lw3 lw4 hdl uu1 hK hD
            generalize lonsI ((nth pts (i : Int)).2 + dd.1, (nth pts (i : Int)).2 + dd.2) = lg at *
            repeat' (first
    | (refine nxN ?_)
    | (show VK _ _ _ _ _ ⟨_, .load 34 _, _, _, _, _⟩ _; refine VK.mk (y_loadPart (k := 2) (by rfl) (by exact memA) (by decide +kernel) (by rfl)) ?_)
    | (show YK _ _ _ _ _ ⟨_, .load 34 _, _, _, _, _⟩ _; refine YK.ofV (y_loadPart (k := 2) (by rfl) (by exact memA) (by decide +kernel) (by rfl)) ?_)
    | (show VG _ _ _ _ _ _ ⟨_, .load 34 _, _, _, _, _⟩ _; refine VG.mk (fun hb => by (try rw [hb]); exact y_loadPart (k := 2) (by rfl) (by exact memA) (by decide +kernel) (by rfl)) ?_)
    | (show YG _ _ _ _ _ _ ⟨_, .load 34 _, _, _, _, _⟩ _; refine YG.mk (fun hb => by (try rw [hb]); exact V.y (y_loadPart (k := 2) (by rfl) (by exact memA) (by decide +kernel) (by rfl))) ?_)
    | (show VK _ _ _ _ _ ⟨_, .build 36 #[(0, _), (1, _)], _, _, _, _⟩ _; refine VK.mk (y_build (parts := [(0, _), (1, _)]) (vs := [_, _]) ⟨rfl, rfl, rfl⟩ (place_built _ _ _ _)) ?_)
    | (show YK _ _ _ _ _ ⟨_, .build 36 #[(0, _), (1, _)], _, _, _, _⟩ _; refine YK.ofV (y_build (parts := [(0, _), (1, _)]) (vs := [_, _]) ⟨rfl, rfl, rfl⟩ (place_built _ _ _ _)) ?_)
    | (show RM _ _ _ _ _ _ _ _ _ (.go 15 :: _); refine RM.storeRowB ?_ rfl (by rfl) (by rfl) (by rfl) (k := 4) (.there _ (.there _ (.there _ (.there _ (.there _ (.here _)))))) (by (repeat (first | exact .nil | apply LenIs.cons))) (by (repeat (first | exact .nil | apply LenIs.cons))) (by decide +kernel) (fun _ h => h.sub (by repeat (first | exact List.Sublist.refl _ | apply List.Sublist.cons_cons | apply List.Sublist.cons))))
    | (refine G.mixedM 23 [.go 0, .go 1, .go 2, .go 3, .go 4, .go 5, .go 6, .go 7, .go 8, .go 9, .go 10, .go 11, .go 12, .go 13, .go 14, .go 15] [true, true, true, true, true, false, true, true, true, true] ?_; dsimp only [maskH])
    | (show YK _ _ _ _ _ _ _; first | refine YK.mk (y_callA (q9) ⟨rfl, rfl⟩) ?_ | refine YK.mk (y_callA (q10) ⟨rfl, rfl⟩) ?_ | refine YK.mk (y_callA (q11) ⟨rfl, rfl⟩) ?_ | refine YK.mk (y_callA (q12) ⟨rfl, rfl, rfl⟩) ?_ | refine YK.mk (y_callA (q13) ⟨rfl, rfl⟩) ?_ | refine YK.mk (y_callA (q14) ⟨rfl, rfl, rfl⟩) ?_)
    | (refine nxV ?_)
    | (refine nxRS ?_) | (refine nxRS1 fun _ => ?_)
    | (refine nxRM ?_) | (refine nxRM1 fun _ => ?_)
    | (show YG _ _ _ _ _ _ _ _; refine YG.mk (fun hb => by (try (have hc := And.left hb; have hb := And.right hb; rw [hc])); (try rw [hb]); first | exact (y_callA (q9) ⟨rfl, rfl⟩) | exact (y_callA (q10) ⟨rfl, rfl⟩) | exact (y_callA (q11) ⟨rfl, rfl⟩) | exact (y_callA (q12) ⟨rfl, rfl, rfl⟩) | exact (y_callA (q13) ⟨rfl, rfl⟩) | exact (y_callA (q14) ⟨rfl, rfl, rfl⟩) | exact V.y vAuto) ?_)
    | (refine nxG ?_)
    | (refine G.mixedA 13 [.go 0, .go 1, .go 2, .go 3, .go 4, .go 5, .go 6, .go 7, .go 8, .pend 9, .pend 10, .done, .done, .go 11, .go 12] ?_)
    | (refine G.mixedA 16 [.go 0, .go 1, .go 3, .go 4, .pend 9, .go 2, .go 5, .go 6, .go 7, .go 8, .done, .go 10, .go 11] ?_)
    | (refine nxX ?_)
    | (refine G.condN rfl (fun hc => ?_) (fun hc => ?_) <;> (try first | exact False.elim hc | (exfalso; omega))))
            all_goals first
              | (exfalso; omega)
              | exact X.again (i + 1, nth pts ((i : Int) + 1)) ⟨by dsimp only; omega, by dsimp only; rw [Int.natCast_add]; rfl⟩ (by dsimp only; omega) ⟨rfl, rfl, rfl, rfl, rfl, rfl, rfl, rfl, rfl, trivial⟩ (by exact fun w h => h.sub (by repeat (first | exact List.Sublist.refl _ | apply List.Sublist.cons_cons | apply List.Sublist.cons)))
        · clear hdl hK hD
          repeat' (first
    | (refine nxN ?_)
    | (show VK _ _ _ _ _ ⟨_, .load 34 _, _, _, _, _⟩ _; refine VK.mk (y_loadPart (k := 2) (by rfl) (by exact memA) (by decide +kernel) (by rfl)) ?_)
    | (show YK _ _ _ _ _ ⟨_, .load 34 _, _, _, _, _⟩ _; refine YK.ofV (y_loadPart (k := 2) (by rfl) (by exact memA) (by decide +kernel) (by rfl)) ?_)
    | (show VG _ _ _ _ _ _ ⟨_, .load 34 _, _, _, _, _⟩ _; refine VG.mk (fun hb => by (try rw [hb]); exact y_loadPart (k := 2) (by rfl) (by exact memA) (by decide +kernel) (by rfl)) ?_)
    | (show YG _ _ _ _ _ _ ⟨_, .load 34 _, _, _, _, _⟩ _; refine YG.mk (fun hb => by (try rw [hb]); exact V.y (y_loadPart (k := 2) (by rfl) (by exact memA) (by decide +kernel) (by rfl))) ?_)
    | (show VK _ _ _ _ _ ⟨_, .build 36 #[(0, _), (1, _)], _, _, _, _⟩ _; refine VK.mk (y_build (parts := [(0, _), (1, _)]) (vs := [_, _]) ⟨rfl, rfl, rfl⟩ (place_built _ _ _ _)) ?_)
    | (show YK _ _ _ _ _ ⟨_, .build 36 #[(0, _), (1, _)], _, _, _, _⟩ _; refine YK.ofV (y_build (parts := [(0, _), (1, _)]) (vs := [_, _]) ⟨rfl, rfl, rfl⟩ (place_built _ _ _ _)) ?_)
    | (show YK _ _ _ _ _ _ _; first | refine YK.mk (y_callA (q9) ⟨rfl, rfl⟩) ?_ | refine YK.mk (y_callA (q10) ⟨rfl, rfl⟩) ?_ | refine YK.mk (y_callA (q11) ⟨rfl, rfl⟩) ?_ | refine YK.mk (y_callA (q12) ⟨rfl, rfl, rfl⟩) ?_)
    | (refine nxV ?_)
    | (refine nxRS ?_) | (refine nxRS1 fun _ => ?_)
    | (refine nxRM ?_) | (refine nxRM1 fun _ => ?_)
    | (show YG _ _ _ _ _ _ _ _; refine YG.mk (fun hb => by (try (have hc := And.left hb; have hb := And.right hb; rw [hc])); (try rw [hb]); first | exact (y_callA (q9) ⟨rfl, rfl⟩) | exact (y_callA (q10) ⟨rfl, rfl⟩) | exact (y_callA (q11) ⟨rfl, rfl⟩) | exact (y_callA (q12) ⟨rfl, rfl, rfl⟩) | exact V.y vAuto) ?_)
    | (refine nxG ?_)
    | (refine G.mixedA 13 [.go 0, .go 1, .go 2, .go 3, .go 4, .go 5, .go 6, .go 7, .go 8, .pend 9, .pend 10, .done, .done, .go 11, .go 12] ?_)
    | (refine G.mixedA 16 [.go 0, .go 1, .go 3, .go 4, .pend 9, .go 2, .go 5, .go 6, .go 7, .go 8, .done, .go 10, .go 11] ?_)
    | (refine G.mixedA 23 [.go 0, .go 1, .go 2, .go 3, .go 4, .go 5, .go 6, .go 7, .go 8, .go 9, .go 10, .go 11, .go 12, .go 13, .go 14, .go 15] ?_)
    | (refine nxX ?_)
    | (refine G.condN rfl (fun hc => ?_) (fun hc => ?_) <;> (try first | exact False.elim hc | (exfalso; omega))))
          all_goals first
            | (exfalso; omega)
            | exact X.ret (vs := [_]) rfl ⟨rfl, rfl⟩ rfl (fun w hw => ⟨rfl, hw.ext⟩)
      · obtain ⟨hK, hG⟩ := hleg.2 hpar
        have hne : (nth pts (i : Int)).1 ≠ (nth pts ((i : Int) + 1)).1 ∨ (nth pts (i : Int)).2 ≠ (nth pts ((i : Int) + 1)).2 := by
          rcases Int.decEq (nth pts (i : Int)).1 (nth pts ((i : Int) + 1)).1 with h | h
          · exact Or.inl h
          · exact Or.inr fun h2 => hadj (Prod.ext h h2)
        have hnp : ¬ ((nth pts (i : Int)).1 = (nth pts ((i : Int) + 1)).1 ∧ ((nth pts (i : Int)).1 = lim ∨ (nth pts (i : Int)).1 = -lim)) := hpar
        have hsb := signI_bd ((nth pts ((i : Int) + 1)).2 - (nth pts (i : Int)).2)
        obtain ⟨n, hn⟩ := TT.asin_ex (v := (TT.meetO (TT.gdS (nth pts (i : Int)).1 (nth legs (i : Int)).2 (TT.gcK (nth pts (i : Int)).1 (nth pts ((i : Int) + 1)).1 (signI ((nth pts ((i : Int) + 1)).2 - (nth pts (i : Int)).2))))).1) (by unfold TT.meetO; dsimp only; omega)
        obtain ⟨m, hm⟩ := TT.asin_ex (v := -(TT.meetO (TT.gdS (nth pts (i : Int)).1 (nth legs (i : Int)).2 (TT.gcK (nth pts (i : Int)).1 (nth pts ((i : Int) + 1)).1 (signI ((nth pts ((i : Int) + 1)).2 - (nth pts (i : Int)).2))))).2) (by unfold TT.meetO; dsimp only; omega)
        have hne' : (nth pts (i : Int)).1 ≠ (nth pts ((i : Int) + 1)).1 ∨ TT.turnI (signI ((nth pts ((i : Int) + 1)).2 - (nth pts (i : Int)).2)) ≠ 0 := by
          rcases hne with h | h
          · exact Or.inl h
          · right
            unfold signI TT.turnI
            split <;> omega
        have hmt := TT.gc_meet (a := (nth pts (i : Int)).1) (b := (nth pts ((i : Int) + 1)).1) (by omega) (by omega) (by omega) hne' hG
        have hDD := (TT.gc_D (a := (nth pts (i : Int)).1) (b := (nth pts ((i : Int) + 1)).1) (by omega) (by omega) (by omega) hG).1
        obtain ⟨lw3, lw4⟩ := reach_in ⟨by omega, o1.1.2⟩ ⟨by omega, o2.1.2⟩ hne hG hn hm
        have hord := TT.asin_ord hn hm hmt.1
        have q12 := direct_c (a := (nth pts (i : Int)).1) (lo := (nth pts (i : Int)).2) o1.1 hDD (TT.brgI_bd _ _) hmt hn hm
        have q14 := pcon2_c (a := n) (b := -m) ⟨hn.1, hord, by have := hm.1; omega⟩ lw3 o2.1
        rw [lw4] at q14
        have hKe : TT.brgI (TT.gcY (nth pts (i : Int)).1 (nth pts ((i : Int) + 1)).1 (signI ((nth pts ((i : Int) + 1)).2 - (nth pts (i : Int)).2))) (TT.gcX (nth pts (i : Int)).1 (nth pts ((i : Int) + 1)).1 (signI ((nth pts ((i : Int) + 1)).2 - (nth pts (i : Int)).2))) = (nth legs (i : Int)).1 := hK.symm
        rw [hKe] at q12
        rw [← hK] at q14
        clear hn hm hG hmt lw3 lw4 hKe
        generalize lonsI ((nth pts (i : Int)).2 + (TT.gdE (nth pts (i : Int)).1 (nth legs (i : Int)).2 (nth legs (i : Int)).1).1, (nth pts (i : Int)).2 + (TT.gdE (nth pts (i : Int)).1 (nth legs (i : Int)).2 (nth legs (i : Int)).1).2) = lg at *
        repeat' (first
    | (refine nxN ?_)
    | (show VK _ _ _ _ _ ⟨_, .load 34 _, _, _, _, _⟩ _; refine VK.mk (y_loadPart (k := 2) (by rfl) (by exact memA) (by decide +kernel) (by rfl)) ?_)
    | (show YK _ _ _ _ _ ⟨_, .load 34 _, _, _, _, _⟩ _; refine YK.ofV (y_loadPart (k := 2) (by rfl) (by exact memA) (by decide +kernel) (by rfl)) ?_)
    | (show VG _ _ _ _ _ _ ⟨_, .load 34 _, _, _, _, _⟩ _; refine VG.mk (fun hb => by (try rw [hb]); exact y_loadPart (k := 2) (by rfl) (by exact memA) (by decide +kernel) (by rfl)) ?_)
    | (show YG _ _ _ _ _ _ ⟨_, .load 34 _, _, _, _, _⟩ _; refine YG.mk (fun hb => by (try rw [hb]); exact V.y (y_loadPart (k := 2) (by rfl) (by exact memA) (by decide +kernel) (by rfl))) ?_)
    | (show VK _ _ _ _ _ ⟨_, .build 36 #[(0, _), (1, _)], _, _, _, _⟩ _; refine VK.mk (y_build (parts := [(0, _), (1, _)]) (vs := [_, _]) ⟨rfl, rfl, rfl⟩ (place_built _ _ _ _)) ?_)
    | (show YK _ _ _ _ _ ⟨_, .build 36 #[(0, _), (1, _)], _, _, _, _⟩ _; refine YK.ofV (y_build (parts := [(0, _), (1, _)]) (vs := [_, _]) ⟨rfl, rfl, rfl⟩ (place_built _ _ _ _)) ?_)
    | (show YK _ _ _ _ _ _ _; first | refine YK.mk (y_callA (q9) ⟨rfl, rfl⟩) ?_ | refine YK.mk (y_callA (q10) ⟨rfl, rfl⟩) ?_ | refine YK.mk (y_callA (q12) ⟨rfl, rfl, rfl⟩) ?_ | refine YK.mk (y_callA (q14) ⟨rfl, rfl, rfl⟩) ?_)
    | (refine nxV ?_)
    | (refine nxRS ?_) | (refine nxRS1 fun _ => ?_)
    | (refine nxRM ?_) | (refine nxRM1 fun _ => ?_)
    | (show YG _ _ _ _ _ _ _ _; refine YG.mk (fun hb => by (try (have hc := And.left hb; have hb := And.right hb; rw [hc])); (try rw [hb]); first | exact (y_callA (q9) ⟨rfl, rfl⟩) | exact (y_callA (q10) ⟨rfl, rfl⟩) | exact (y_callA (q12) ⟨rfl, rfl, rfl⟩) | exact (y_callA (q14) ⟨rfl, rfl, rfl⟩) | exact V.y vAuto) ?_)
    | (refine nxG ?_)
    | (refine G.mixedA 13 [.go 0, .go 1, .go 2, .go 3, .go 4, .go 5, .go 6, .go 7, .go 8, .pend 9, .pend 10, .done, .done, .go 11, .go 12] ?_)
    | (refine G.mixedA 16 [.go 0, .go 1, .go 3, .go 4, .pend 9, .go 2, .go 5, .go 6, .go 7, .go 8, .done, .go 10, .go 11] ?_)
    | (refine G.mixedA 23 [.go 0, .go 1, .go 2, .go 3, .go 4, .go 5, .go 6, .go 7, .go 8, .go 9, .go 10, .go 11, .go 12, .go 13, .go 14, .go 15] ?_)
    | (refine nxX ?_)
    | (refine G.condN rfl (fun hc => ?_) (fun hc => ?_) <;> (try first | exact False.elim hc | (exfalso; omega))))
        all_goals first
          | (exfalso; omega)
          | exact X.again (i + 1, nth pts ((i : Int) + 1)) ⟨by dsimp only; omega, by dsimp only; rw [Int.natCast_add]; rfl⟩ (by dsimp only; omega) ⟨rfl, rfl, rfl, rfl, rfl, rfl, rfl, rfl, rfl, trivial⟩ (by exact fun w h => h.sub (by repeat (first | exact List.Sublist.refl _ | apply List.Sublist.cons_cons | apply List.Sublist.cons)))
    · have hil : i = legs.length := by omega
      have hab : legs.length = 0 → a = b := fun h0 => by
        have hp1 : pts.length = 1 := by omega
        have e1 := hpts.hd
        have e2 := hpts.lst
        cases hn : pts with
        | nil => rw [hn] at e1; cases e1
        | cons x r =>
          rw [hn] at e1 e2 hp1
          cases r with
          | nil =>
            have f1 : x = a := Option.some.inj e1
            have f2 : x = b := Option.some.inj e2
            rw [← f1, f2]
          | cons _ _ => simp at hp1
      repeat' (first
    | (refine nxN ?_)
    | (refine nxV ?_)
    | (refine nxRS ?_) | (refine nxRS1 fun _ => ?_)
    | (refine nxRM ?_) | (refine nxRM1 fun _ => ?_)
    | (refine nxG ?_)
    | (refine G.mixedA 13 [.go 0, .go 1, .go 2, .go 3, .go 4, .go 5, .go 6, .go 7, .go 8, .pend 9, .pend 10, .done, .done, .go 11, .go 12] ?_)
    | (refine G.mixedA 16 [.go 0, .go 1, .go 3, .go 4, .pend 9, .go 2, .go 5, .go 6, .go 7, .go 8, .done, .go 10, .go 11] ?_)
    | (refine G.mixedA 23 [.go 0, .go 1, .go 2, .go 3, .go 4, .go 5, .go 6, .go 7, .go 8, .go 9, .go 10, .go 11, .go 12, .go 13, .go 14, .go 15] ?_)
    | (refine nxX ?_)
    | (refine G.condN rfl (fun hc => ?_) (fun hc => ?_) <;> (try first | exact False.elim hc | (exfalso; omega))))
      refine X.ret (vs := [_]) rfl ⟨rfl, rfl⟩ rfl (fun w hw => ⟨ret_bool ?_, hw.ext⟩)
      rcases Nat.eq_zero_or_pos legs.length with h0 | h0
      · have := hab h0
        subst this
        simp [h0, eqCells, vEq]
      · simp [h0]
  · refine enter0 Tryz.func3 rfl rfl rfl ?_
    repeat' (first
    | (refine nxN ?_)
    | (show YK _ _ _ _ _ ⟨_, .call { callee := .value (.func 5), args := _, argTypes := _ }, _, _, _, _⟩ _; refine YK.mk (y_callIn (hA) (fun w' hw' => hkeep _ _ hC hw'.ext) rfl (by decide +kernel)) ?_)
    | (show YG _ _ _ _ _ _ ⟨_, .call { callee := .value (.func 5), args := _, argTypes := _ }, _, _, _, _⟩ _; refine YG.mk (fun hb => by (try (have hc := And.left hb; have hb := And.right hb; rw [hc])); (try rw [hb]); exact y_callIn (hA) (fun w' hw' => hkeep _ _ hC hw'.ext) rfl (by decide +kernel)) ?_)
    | (show RS _ _ _ _ _ _ _ (⟨some _, .buildSlice 26 2 _, _, _, _, _⟩ :: _); refine RS.lit2Pt (a := a) (b := b) (fun v' => ?_) rfl rfl)
    | (show YK _ _ _ _ _ _ _; first | refine YK.mk (y_callRA (q1 _) ⟨rfl, rfl, rfl⟩) ?_)
    | (refine nxV ?_)
    | (refine nxRS ?_) | (refine nxRS1 fun _ => ?_)
    | (refine nxRM ?_) | (refine nxRM1 fun _ => ?_)
    | (show YG _ _ _ _ _ _ _ _; refine YG.mk (fun hb => by (try (have hc := And.left hb; have hb := And.right hb; rw [hc])); (try rw [hb]); first | exact (y_callRA (q1 _) ⟨rfl, rfl, rfl⟩) | exact V.y vAuto) ?_)
    | (refine nxG ?_)
    | (refine G.mixedA 13 [.go 0, .go 1, .go 2, .go 3, .go 4, .go 5, .go 6, .go 7, .go 8, .pend 9, .pend 10, .done, .done, .go 11, .go 12] ?_)
    | (refine G.mixedA 16 [.go 0, .go 1, .go 3, .go 4, .pend 9, .go 2, .go 5, .go 6, .go 7, .go 8, .done, .go 10, .go 11] ?_)
    | (refine G.mixedA 23 [.go 0, .go 1, .go 2, .go 3, .go 4, .go 5, .go 6, .go 7, .go 8, .go 9, .go 10, .go 11, .go 12, .go 13, .go 14, .go 15] ?_)
    | (refine nxX ?_)
    | (refine G.condN rfl (fun hc => ?_) (fun hc => ?_) <;> (try first | exact False.elim hc | (exfalso; omega))))
    all_goals first
      | (exfalso; omega)
      | exact X.ret (vs := [_]) rfl ⟨rfl, rfl⟩ rfl (fun w hw => ⟨rfl, hw.ext⟩)
end Go.Proofs.YtjmdeplmenbmmaaGreatDoor
