/- A catalogue's text is read back, plain: angles, magnitudes, lines. -/
import Derived.Test.YtaglecidaedjfaaDoorCtx
import Derived.Test.YtaglecidaedjfaaDoorDec
import Derived.Lib.SplitLaws
import Derived.Lib.CountLaws
set_option linter.unusedVariables false
set_option maxHeartbeats 4000000
namespace Go.Proofs.YtaglecidaedjfaaDoor
open Go.RowKit

/-! ### What the readers compute -/
def satF (l : List UInt8) : Int := l.foldl (fun n b => min (10 * n + ((b.toNat : Int) - 48)) 1125899906842624) 0
def dgI (b : UInt8) : Bool := digitB (b.toNat : Int)
def digA (l : List UInt8) : Int × Bool := if l.all dgI = true then (satF l, decide (¬ l = [])) else (0, false)
def cutP (l : List UInt8) : List UInt8 × Bool := match l with
  | [] => ([], false)
  | b :: r => if b = 45 then (r, true) else (b :: r, false)
def lead0 (l : List UInt8) : Bool := decide (1 < l.length) && decide (nth l 0 = 48)
def tenT (t : Int) (k : Nat) : Int := t * 10 ^ (3 - k)
def angP (s : List UInt8) : Int × Int :=
  let p := cutP s
  let c := Lib.cut p.1 [45]
  let e := Lib.cut c.2.1 [46]
  let D := digA c.1
  let M := digA e.1
  let T := digA e.2.1
  let t := if e.2.2 = true then tenT T.1 e.2.1.length else 0
  if (e.2.2 && (!T.2 || decide (3 < e.2.1.length))) = true then (0, 7)
  else if (!c.2.2 || !D.2 || !M.2 || lead0 c.1 || decide (¬ e.1.length = 2) || decide (60 ≤ M.1)) = true then (0, 7)
  else if 1099511627776 < D.1 then (0, 5)
  else
    let n := D.1 * 60000 + M.1 * 1000 + t
    if 1099511627776 < n then (0, 5) else (if p.2 = true then -n else n, 0)
def tenP (s : List UInt8) : Int × Bool := if (angP s).2 = 5 then (1099511627776, decide (¬ s = [])) else ((angP s).1.tdiv 100, decide ((angP s).2 = 0) && decide ((angP s).1.tmod 100 = 0))
def decF : List UInt8 → Int → Option Int
  | [], n => some n
  | b :: r, n => if (1152921504606846976 - ((b.toNat : Int) - 48)) / 10 < n then none else decF r (10 * n + ((b.toNat : Int) - 48))
def decP (s : List UInt8) : Int × Int :=
  let p := cutP s
  let c := Lib.cut p.1 [46]
  if (!allP digitB c.1 || lead0 c.1 || (c.2.2 && (!allP digitB c.2.1 || decide (1 < c.2.1.length)))) = true then (0, 7)
  else match decF (c.1 ++ c.2.1 ++ Lib.repeatL [48] (1 - c.2.1.length)) 0 with
    | none => (0, 5)
    | some n => (if p.2 = true then -n else n, 0)
def starZ : StarT := ([], 0, 0, 0)
def magM (x : List UInt8) : Int := if (decP x).2 = 5 then 1099511627776 else (decP x).1
def starW (w : List (List UInt8)) : StarT := (w.getD 0 [], (tenP (w.getD 1 [])).1, (tenP (w.getD 2 [])).1, magM (w.getD 3 []))
def starQ (w : List (List UInt8)) : StarT × Int :=
  if (decide (¬ w.length = 4) || decide ([] ∈ w)) = true then (starZ, 7)
  else if (!(tenP (w.getD 1 [])).2 || !(tenP (w.getD 2 [])).2 || !(decide ((decP (w.getD 3 [])).2 = 0) || decide ((decP (w.getD 3 [])).2 = 5))) = true then (starZ, 7)
  else if (!nameB (starW w).1) = true then (starZ, 9)
  else if (!numB (starW w)) = true then (starZ, 2)
  else (starW w, 0)
def starP (l : List UInt8) : StarT × Int := starQ (Lib.split l [32])

/-! ### A split at a byte -/
theorem split_not {c : UInt8} {x : List UInt8} (h : c ∉ x) : Lib.split x [c] = [x] := by
  unfold Lib.split
  rw [Lib.count_miss (index_not x h)]; rfl
theorem split_at {c : UInt8} {x : List UInt8} (y : List UInt8) (h : c ∉ x) : Lib.split (x ++ c :: y) [c] = x :: Lib.split y [c] := by
  have e := index_at x y h
  have hd : (x ++ c :: y).drop (x.length + 1) = y := by
    rw [List.drop_append, List.drop_eq_nil_of_le (by omega), show x.length + 1 - x.length = 1 by omega]; rfl
  unfold Lib.split
  rw [Lib.count_hit (by simp) e, Nat.add_comm 1]
  show Lib.splitK [c] 0 (Lib.count ((x ++ c :: y).drop (x.length + 1)) [c] + 1) (x ++ c :: y) = _
  rw [hd]
  have hk : ∀ k s, Lib.splitK [c] 0 (k + 1) s = if Lib.index s [c] == -1 then [s] else s.take ((Lib.index s [c]).toNat + 0) :: Lib.splitK [c] 0 k (s.drop ((Lib.index s [c]).toNat + [c].length)) := fun _ _ => rfl
  rw [hk, e, if_neg (by simp), Int.toNat_natCast, Nat.add_zero, List.take_left, show [c].length = 1 from rfl, hd]

/-! ### Angles -/
theorem deg_all : ∀ d : Fin 360, digA (Lib.decDigits d.val) = ((d.val : Int), true) ∧ lead0 (Lib.decDigits d.val) = false := by decide +kernel
theorem min_all : ∀ m : Fin 60, digA (padL (m.val : Int) 2) = ((m.val : Int), true) ∧ (padL (m.val : Int) 2).length = 2 ∧ (46 : UInt8) ∉ padL (m.val : Int) 2 ∧ (32 : UInt8) ∉ padL (m.val : Int) 2 ∧ (10 : UInt8) ∉ padL (m.val : Int) 2 := by decide +kernel
theorem ten_all : ∀ t : Fin 10, digA (Lib.itoa (t.val : Int)) = ((t.val : Int), true) ∧ (Lib.itoa (t.val : Int)).length = 1 ∧ (32 : UInt8) ∉ Lib.itoa (t.val : Int) ∧ (10 : UInt8) ∉ Lib.itoa (t.val : Int) := by decide +kernel
theorem dec_no {u : Nat} {c : UInt8} (h : isDg c = false) : c ∉ Lib.decDigits u := fun g => by rw [deci_dg g] at h; cases h
/-- The text behind a sign. -/
def angU (u : Nat) : List UInt8 := Lib.decDigits (u / 600) ++ 45 :: (padL ((u % 600 / 10 : Nat) : Int) 2 ++ 46 :: Lib.itoa ((u % 10 : Nat) : Int))
theorem angL_pos (u : Nat) : angL (100 * (u : Int)) = angU u := by
  have e1 : 100 * (u : Int) / 60000 = ((u / 600 : Nat) : Int) := by omega
  have e2 : 100 * (u : Int) % 60000 / 1000 = ((u % 600 / 10 : Nat) : Int) := by omega
  have e3 : 100 * (u : Int) % 1000 / 100 = ((u % 10 : Nat) : Int) := by omega
  unfold angL angHead angRest angU
  rw [if_neg (by omega), if_pos (by omega), e1, e2, e3, itoa_of_nat (u / 600)]
  simp
theorem angL_neg {u : Nat} (h : 0 < u) : angL (100 * (-(u : Int))) = 45 :: angU u := by
  have e : -(100 * (-(u : Int))) = 100 * (u : Int) := by omega
  unfold angL
  rw [if_pos (by omega), e]
  have := angL_pos u
  unfold angL at this
  rw [if_neg (by omega)] at this
  rw [List.append_assoc, this]; rfl
theorem angU_cut (u : Nat) : Lib.cut (angU u) [45] = (Lib.decDigits (u / 600), padL ((u % 600 / 10 : Nat) : Int) 2 ++ 46 :: Lib.itoa ((u % 10 : Nat) : Int), true) := cut_at _ (dec_no rfl)
theorem angU_sign (u : Nat) : cutP (angU u) = (angU u, false) := by
  obtain ⟨x, r, hx, e⟩ := deci_head (u / 600)
  unfold angU
  rw [e]
  show (if dgt x = 45 then _ else _) = _
  rw [if_neg]
  · rfl
  · intro g
    have := isDg_dgt hx
    rw [g] at this; cases this
theorem ang_back {u : Nat} (h : u ≤ 215999) (s : List UInt8) (b : Bool) (hs : cutP s = (angU u, b)) : angP s = (if b = true then -(100 * (u : Int)) else 100 * (u : Int), 0) := by
  have h1 := deg_all ⟨u / 600, by omega⟩
  have h2 := min_all ⟨u % 600 / 10, by omega⟩
  have h3 := ten_all ⟨u % 10, by omega⟩
  dsimp only at h1 h2 h3
  unfold angP
  rw [hs]
  dsimp only
  rw [angU_cut]
  dsimp only
  rw [cut_at _ h2.2.2.1]
  dsimp only
  rw [h1.1, h1.2, h2.1, h2.2.1, h3.1, h3.2.1]
  dsimp only
  have e : ((u / 600 : Nat) : Int) * 60000 + ((u % 600 / 10 : Nat) : Int) * 1000 + tenT ((u % 10 : Nat) : Int) 1 = 100 * (u : Int) := by
    unfold tenT
    rw [show (10 : Int) ^ (3 - 1) = 100 from rfl]
    omega
  rw [if_neg (by simp), if_neg (by simp; omega), if_neg (by omega), if_pos rfl, e, if_neg (by omega)]
theorem ten_back {n : Int} (h : -215999 ≤ n ∧ n ≤ 215999) : tenP (angL (100 * n)) = (n, true) := by
  have e : angP (angL (100 * n)) = (100 * n, 0) := by
    rcases Int.lt_or_le n 0 with h0 | h0
    · obtain ⟨u, rfl, hu⟩ : ∃ u : Nat, n = -(u : Int) ∧ 0 < u := ⟨n.natAbs, by omega, by omega⟩
      rw [angL_neg hu, ang_back (u := u) (by omega) _ true rfl, if_pos rfl]
      congr 1; omega
    · obtain ⟨u, rfl⟩ := Int.eq_ofNat_of_zero_le h0
      rw [angL_pos, ang_back (u := u) (by omega) _ false (angU_sign u), if_neg (by simp)]
  unfold tenP
  rw [e]
  dsimp only
  rw [if_neg (by decide), Int.mul_tdiv_cancel_left _ (by decide), Int.mul_tmod_right]
  rfl
theorem angU_no {u : Nat} (h : u ≤ 215999) : (32 : UInt8) ∉ angU u ∧ (10 : UInt8) ∉ angU u ∧ angU u ≠ [] := by
  have h2 := min_all ⟨u % 600 / 10, by omega⟩
  have h3 := ten_all ⟨u % 10, by omega⟩
  dsimp only at h2 h3
  have d1 := dec_no (u := u / 600) (c := 32) rfl
  have d2 := dec_no (u := u / 600) (c := 10) rfl
  unfold angU
  refine ⟨?_, ?_, by simp⟩
  · simp only [List.mem_append, List.mem_cons, not_or]
    exact ⟨d1, by decide, h2.2.2.2.1, by decide, h3.2.2.1⟩
  · simp only [List.mem_append, List.mem_cons, not_or]
    exact ⟨d2, by decide, h2.2.2.2.2, by decide, h3.2.2.2⟩
theorem angL_no {n : Int} (h : -215999 ≤ n ∧ n ≤ 215999) : (32 : UInt8) ∉ angL (100 * n) ∧ (10 : UInt8) ∉ angL (100 * n) ∧ angL (100 * n) ≠ [] := by
  rcases Int.lt_or_le n 0 with h0 | h0
  · obtain ⟨u, rfl, hu⟩ : ∃ u : Nat, n = -(u : Int) ∧ 0 < u := ⟨n.natAbs, by omega, by omega⟩
    have := angU_no (u := u) (by omega)
    rw [angL_neg hu]
    refine ⟨?_, ?_, by simp⟩
    · simp [this.1]
    · simp [this.2.1]
  · obtain ⟨u, rfl⟩ := Int.eq_ofNat_of_zero_le h0
    rw [angL_pos]
    exact angU_no (by omega)

/-! ### Magnitudes -/
theorem mag_all : ∀ k : Fin 171, decP (decL ((k.val : Int) - 20)) = ((k.val : Int) - 20, 0) ∧ (32 : UInt8) ∉ decL ((k.val : Int) - 20) ∧ (10 : UInt8) ∉ decL ((k.val : Int) - 20) ∧ decL ((k.val : Int) - 20) ≠ [] := by decide +kernel
theorem mag_back {n : Int} (h : -20 ≤ n ∧ n ≤ 150) : decP (decL n) = (n, 0) ∧ (32 : UInt8) ∉ decL n ∧ (10 : UInt8) ∉ decL n ∧ decL n ≠ [] := by
  have := mag_all ⟨(n + 20).toNat, by omega⟩
  dsimp only at this
  rwa [show (((n + 20).toNat : Nat) : Int) - 20 = n by omega] at this

/-! ### Names and lines -/
theorem name_no {l : List UInt8} (h : nameB l = true) : (32 : UInt8) ∉ l ∧ (10 : UInt8) ∉ l ∧ l ≠ [] := by
  simp only [nameB, allP, Bool.and_eq_true, Bool.not_eq_true', List.isEmpty_eq_false_iff, List.all_eq_true] at h
  obtain ⟨⟨_, h1, h2⟩, _⟩ := h
  refine ⟨fun g => ?_, fun g => ?_, h1⟩
  · have := h2 _ g; revert this; decide
  · have := h2 _ g; revert this; decide
/-- A line without its end. -/
def lineB (s : StarT) : List UInt8 := s.1 ++ 32 :: (angL (100 * s.2.1) ++ 32 :: (angL (100 * s.2.2.1) ++ 32 :: decL s.2.2.2))
theorem lineS_eq (s : StarT) : lineS s = lineB s ++ [10] := by unfold lineS lineB; simp
abbrev goodS (s : StarT) : Prop := nameB s.1 = true ∧ numB s = true
theorem good_num {s : StarT} (h : goodS s) : (0 ≤ s.2.1 ∧ s.2.1 ≤ 215999) ∧ (-54000 ≤ s.2.2.1 ∧ s.2.2.1 ≤ 54000) ∧ -20 ≤ s.2.2.2 ∧ s.2.2.2 ≤ 150 := by
  have := h.2
  simp only [numB, Bool.and_eq_true, decide_eq_true_eq] at this
  omega
theorem star_back {s : StarT} (h : goodS s) : starP (lineB s) = (s, 0) := by
  have hn := good_num h
  have n1 := name_no h.1
  have a1 := angL_no (n := s.2.1) (by omega)
  have a2 := angL_no (n := s.2.2.1) (by omega)
  have m1 := mag_back hn.2.2
  have e : Lib.split (lineB s) [32] = [s.1, angL (100 * s.2.1), angL (100 * s.2.2.1), decL s.2.2.2] := by
    unfold lineB
    rw [split_at _ n1.1, split_at _ a1.1, split_at _ a2.1, split_not m1.2.1]
  have t1 := ten_back (n := s.2.1) (by omega)
  have t2 := ten_back (n := s.2.2.1) (by omega)
  have g0 : ([s.1, angL (100 * s.2.1), angL (100 * s.2.2.1), decL s.2.2.2] : List (List UInt8)).getD 0 [] = s.1 := rfl
  have g1 : ([s.1, angL (100 * s.2.1), angL (100 * s.2.2.1), decL s.2.2.2] : List (List UInt8)).getD 1 [] = angL (100 * s.2.1) := rfl
  have g2 : ([s.1, angL (100 * s.2.1), angL (100 * s.2.2.1), decL s.2.2.2] : List (List UInt8)).getD 2 [] = angL (100 * s.2.2.1) := rfl
  have g3 : ([s.1, angL (100 * s.2.1), angL (100 * s.2.2.1), decL s.2.2.2] : List (List UInt8)).getD 3 [] = decL s.2.2.2 := rfl
  have ew : starW [s.1, angL (100 * s.2.1), angL (100 * s.2.2.1), decL s.2.2.2] = s := by
    unfold starW magM
    rw [g0, g1, g2, g3, t1, t2, m1.1]; rfl
  unfold starP
  rw [e]
  unfold starQ
  rw [if_neg (by simp [n1.2.2, a1.2.2, a2.2.2, m1.2.2.2, n1.2.2.symm, a1.2.2.symm, a2.2.2.symm, m1.2.2.2.symm]), g1, g2, g3, t1, t2, m1.1, ew, h.1, h.2]
  rfl
theorem line_no {s : StarT} (h : goodS s) : (10 : UInt8) ∉ lineB s := by
  have hn := good_num h
  have n1 := name_no h.1
  have a1 := angL_no (n := s.2.1) (by omega)
  have a2 := angL_no (n := s.2.2.1) (by omega)
  have m1 := mag_back hn.2.2
  unfold lineB
  simp [n1.2.1, a1.2.1, a2.2.1, m1.2.2.1]
theorem star_good {l : List UInt8} (h : (starP l).2 = 0) : goodS (starP l).1 := by
  unfold starP starQ at h ⊢
  generalize starW (Lib.split l [32]) = s at h ⊢
  split at h
  · cases h
  · rename_i c1
    rw [if_neg c1]
    split at h
    · cases h
    · rename_i c2
      rw [if_neg c2]
      split at h
      · cases h
      · rename_i c3
        rw [if_neg c3]
        split at h
        · cases h
        · rename_i c4
          rw [if_neg c4]
          exact ⟨by simpa using c3, by simpa using c4⟩

/-! ### The whole text -/
/-- One step: the line's star, the rest, the error. -/
def stepE (out : List StarT) (s : List UInt8) : Int :=
  if (Lib.cut s [10]).2.2 = false then 7
  else if (starP (Lib.cut s [10]).1).2 ≠ 0 then (starP (Lib.cut s [10]).1).2
  else if 0 ≤ idxS out (starP (Lib.cut s [10]).1).1.1 then 10
  else if out.length = 100 then 4
  else 0
inductive Reads : List StarT → List UInt8 → List StarT → Int → Prop
  | done (out) : Reads out [] out 0
  | fail {out s e} : s ≠ [] → stepE out s = e → e ≠ 0 → Reads out s [] e
  | next {out s x e} : s ≠ [] → stepE out s = 0 → Reads (out ++ [(starP (Lib.cut s [10]).1).1]) (Lib.cut s [10]).2.1 x e → Reads out s x e
theorem Reads.uniq {out : List StarT} {s : List UInt8} {x y : List StarT} {e f : Int} (h : Reads out s x e) (g : Reads out s y f) : x = y ∧ e = f := by
  induction h with
  | done out =>
    cases g with
    | done => exact ⟨rfl, rfl⟩
    | fail h1 => exact absurd rfl h1
    | next h1 => exact absurd rfl h1
  | fail h1 h2 h3 =>
    cases g with
    | done => exact absurd rfl h1
    | fail _ h5 _ => exact ⟨rfl, h2.symm.trans h5⟩
    | next _ h5 _ => exact absurd (h2.symm.trans h5) h3
  | next h1 h2 _ ih =>
    cases g with
    | done => exact absurd rfl h1
    | fail _ h5 h6 => exact absurd (h5.symm.trans h2) h6
    | next _ _ h6 => exact ih h6
theorem idx_app {out : List StarT} {x : StarT} {i : Nat} (hi : i < out.length) : idxS (out ++ [x]) (nth (out ++ [x]) (i : Int)).1 = (i : Int) ↔ idxS out (nth out (i : Int)).1 = (i : Int) := by
  have hn : ∀ k : Nat, k < out.length → nth (out ++ [x]) (k : Int) = nth out (k : Int) := fun k hk => by
    show (out ++ [x]).getD k default = out.getD k default
    rw [List.getD_eq_getElem?_getD, List.getD_eq_getElem?_getD, List.getElem?_append_left hk]
  rw [hn i hi]
  have key : ∀ (l : List StarT) (nm : List UInt8), i < l.length → (nth l (i : Int)).1 = nm → (idxS l nm = (i : Int) ↔ ∀ k : Nat, k < i → (nth l (k : Int)).1 ≠ nm) := fun l nm hl e => by
    constructor
    · intro h k hk g
      have hr : idxS l nm = match (List.range l.length).find? (fun i : Nat => decide ((nth l (i : Int)).1 = nm)) with
        | some k => (k : Int)
        | none => -1 := rfl
      rw [h] at hr
      cases hf : (List.range l.length).find? (fun i : Nat => decide ((nth l (i : Int)).1 = nm)) with
      | none => rw [hf] at hr; have hr2 : (i : Int) = -1 := hr; omega
      | some j =>
        rw [hf] at hr
        have hr2 : (i : Int) = (j : Int) := hr
        have := (List.find?_range_eq_some.1 hf).2.2 k (by omega)
        rw [decide_eq_true g] at this; cases this
    · intro h
      have hf := findr_some (p := fun i : Nat => decide ((nth l (i : Int)).1 = nm)) hl (fun k hk => decide_eq_false (h k hk)) (decide_eq_true e)
      show (match (List.range l.length).find? (fun i : Nat => decide ((nth l (i : Int)).1 = nm)) with
        | some k => (k : Int)
        | none => -1) = _
      rw [hf]
  rw [key _ _ (by rw [List.length_append]; simp; omega) (by rw [hn i hi]), key _ _ hi rfl]
  constructor
  · intro h k hk
    have := h k hk
    rwa [hn k (by omega)] at this
  · intro h k hk
    rw [hn k (by omega)]
    exact h k hk
theorem idx_neg {l : List StarT} {nm : List UInt8} (h : ¬ 0 ≤ idxS l nm) {i : Nat} (hi : i < l.length) : (nth l (i : Int)).1 ≠ nm := fun g => by
  have hr : idxS l nm = match (List.range l.length).find? (fun i : Nat => decide ((nth l (i : Int)).1 = nm)) with
    | some k => (k : Int)
    | none => -1 := rfl
  cases hf : (List.range l.length).find? (fun i : Nat => decide ((nth l (i : Int)).1 = nm)) with
  | none =>
    have := List.find?_range_eq_none.1 hf i hi
    rw [decide_eq_true g] at this; cases this
  | some j =>
    rw [hf] at hr
    have hr2 : idxS l nm = (j : Int) := hr
    omega
theorem valid_app {out : List StarT} {x : StarT} (hv : validS out = true) (hx : goodS x) (h1 : ¬ 0 ≤ idxS out x.1) (h2 : out.length ≠ 100) : validS (out ++ [x]) = true := by
  obtain ⟨v1, v2⟩ := validS_t hv
  have hlast : nth (out ++ [x]) (out.length : Int) = x := by
    show (out ++ [x]).getD out.length default = x
    rw [List.getD_eq_getElem?_getD, List.getElem?_append_right (by omega)]; simp
  refine validS_mk (by rw [List.length_append]; simp; omega) fun i hi => ?_
  rw [List.length_append, List.length_singleton] at hi
  rcases Nat.lt_or_ge i out.length with h | h
  · have := v2 i h
    have hn : nth (out ++ [x]) (i : Int) = nth out (i : Int) := by
      show (out ++ [x]).getD i default = out.getD i default
      rw [List.getD_eq_getElem?_getD, List.getD_eq_getElem?_getD, List.getElem?_append_left h]
    have ei := idx_app (x := x) h
    unfold okS at this ⊢
    simp only [Bool.and_eq_true, decide_eq_true_eq] at this ⊢
    exact ⟨by rw [hn]; exact this.1, ei.2 this.2⟩
  · obtain rfl : i = out.length := by omega
    unfold okS
    rw [hlast, hx.1, hx.2]
    simp only [Bool.and_self, Bool.true_and, decide_eq_true_eq]
    have hf := findr_some (p := fun i : Nat => decide ((nth (out ++ [x]) (i : Int)).1 = x.1)) (m := (out ++ [x]).length) (j := out.length) (by rw [List.length_append]; simp) (fun k hk => by
      have hn : nth (out ++ [x]) (k : Int) = nth out (k : Int) := by
        show (out ++ [x]).getD k default = out.getD k default
        rw [List.getD_eq_getElem?_getD, List.getD_eq_getElem?_getD, List.getElem?_append_left hk]
      show decide ((nth (out ++ [x]) (k : Int)).1 = x.1) = false
      rw [hn]
      exact decide_eq_false (idx_neg h1 hk)) (decide_eq_true (by rw [hlast]))
    show (match (List.range (out ++ [x]).length).find? (fun i : Nat => decide ((nth (out ++ [x]) (i : Int)).1 = x.1)) with
      | some k => (k : Int)
      | none => -1) = _
    rw [hf]
theorem step_ok {out : List StarT} {s : List UInt8} (h : stepE out s = 0) : (Lib.cut s [10]).2.2 = true ∧ (starP (Lib.cut s [10]).1).2 = 0 ∧ ¬ 0 ≤ idxS out (starP (Lib.cut s [10]).1).1.1 ∧ out.length ≠ 100 := by
  unfold stepE at h
  split at h
  · cases h
  · rename_i c1
    split at h
    · rename_i c2; exact absurd h c2
    · rename_i c2
      split at h
      · cases h
      · rename_i c3
        split at h
        · cases h
        · rename_i c4
          exact ⟨by simpa using c1, by simpa using c2, c3, c4⟩
theorem Reads.valid {out : List StarT} {s : List UInt8} {x : List StarT} {e : Int} (h : Reads out s x e) (hv : validS out = true) (he : e = 0) : validS x = true := by
  induction h with
  | done => exact hv
  | fail _ _ h3 => exact absurd he h3
  | next _ h2 _ ih =>
    obtain ⟨_, g2, g3, g4⟩ := step_ok h2
    exact ih (valid_app hv (star_good g2) g3 g4) he
/-- The text of a list's end. -/
def tailT (l : List StarT) : List UInt8 := l.flatMap lineS
theorem catT_tail : ∀ (l : List StarT) (k : Nat), k ≤ l.length → catT l k = tailT (l.take k)
  | l, 0, _ => by simp [catT, tailT]
  | l, k + 1, h => by
    have e : l.take (k + 1) = l.take k ++ [nth l (k : Int)] := by
      have e := nth_some (l := l) (m := (k : Int)) (by omega) (by omega)
      rw [Int.toNat_natCast] at e
      rw [List.take_add_one, e]; rfl
    rw [e]
    have ih := catT_tail l k (by omega)
    unfold tailT at ih ⊢
    rw [List.flatMap_append, ← ih]
    simp [catT]
theorem good_of {l : List StarT} (hv : validS l = true) : ∀ s ∈ l, goodS s := fun s hs => by
  obtain ⟨i, hi, e⟩ := List.getElem_of_mem hs
  have := (validS_t hv).2 i hi
  have hn : nth l (i : Int) = s := by
    show l.getD i default = s
    rw [List.getD_eq_getElem?_getD, List.getElem?_eq_getElem hi, e]; rfl
  unfold okS at this
  simp only [Bool.and_eq_true, hn] at this
  exact this.1
theorem reads_text {l : List StarT} (hv : validS l = true) : ∀ (r out : List StarT), l = out ++ r → Reads out (tailT r) l 0
  | [], out, e => by
    rw [List.append_nil] at e
    subst e
    exact .done _
  | s :: r, out, e => by
    have hs : goodS s := good_of hv s (by rw [e]; simp)
    have et : tailT (s :: r) = lineB s ++ 10 :: tailT r := by
      unfold tailT
      rw [List.flatMap_cons, lineS_eq]; simp
    have hc := cut_at (tailT r) (line_no hs)
    have hlen := (validS_t hv).1
    have hl : l.length = out.length + (r.length + 1) := by rw [e, List.length_append, List.length_cons]
    have hi : nth l (out.length : Int) = s := by
      show l.getD out.length default = s
      rw [List.getD_eq_getElem?_getD, e, List.getElem?_append_right (by omega)]; simp
    have hno : ¬ 0 ≤ idxS out s.1 := by
      intro g
      have hok := (validS_t hv).2 out.length (by omega)
      unfold okS at hok
      rw [hi] at hok
      simp only [Bool.and_eq_true, decide_eq_true_eq] at hok
      have hok := hok.2
      have hr : idxS out s.1 = match (List.range out.length).find? (fun i : Nat => decide ((nth out (i : Int)).1 = s.1)) with
        | some k => (k : Int)
        | none => -1 := rfl
      cases hf : (List.range out.length).find? (fun i : Nat => decide ((nth out (i : Int)).1 = s.1)) with
      | none => rw [hf] at hr; have hr2 : idxS out s.1 = -1 := hr; omega
      | some j =>
        have hj := List.find?_range_eq_some.1 hf
        have hjm := List.mem_range.1 hj.2.1
        have hr3 : idxS l s.1 = match (List.range l.length).find? (fun i : Nat => decide ((nth l (i : Int)).1 = s.1)) with
          | some k => (k : Int)
          | none => -1 := rfl
        have hsome : ∃ k, (List.range l.length).find? (fun i : Nat => decide ((nth l (i : Int)).1 = s.1)) = some k ∧ k ≤ j := by
          cases hf2 : (List.range l.length).find? (fun i : Nat => decide ((nth l (i : Int)).1 = s.1)) with
          | none =>
            have := List.find?_range_eq_none.1 hf2 j (by omega)
            have hn : nth l (j : Int) = nth out (j : Int) := by
              show l.getD j default = out.getD j default
              rw [List.getD_eq_getElem?_getD, List.getD_eq_getElem?_getD, e, List.getElem?_append_left hjm]
            rw [hn, hj.1] at this; cases this
          | some k =>
            refine ⟨k, rfl, ?_⟩
            rcases Nat.lt_or_ge j k with g2 | g2
            · have := (List.find?_range_eq_some.1 hf2).2.2 j g2
              have hn : nth l (j : Int) = nth out (j : Int) := by
                show l.getD j default = out.getD j default
                rw [List.getD_eq_getElem?_getD, List.getD_eq_getElem?_getD, e, List.getElem?_append_left hjm]
              rw [hn, hj.1] at this; cases this
            · exact g2
        obtain ⟨k, hk, hkj⟩ := hsome
        rw [hk] at hr3
        have hr4 : idxS l s.1 = (k : Int) := hr3
        omega
    rw [et]
    have hst : stepE out (lineB s ++ 10 :: tailT r) = 0 := by
      unfold stepE
      rw [hc]
      dsimp only
      rw [star_back hs]
      dsimp only
      rw [if_neg (by decide), if_neg (by simp), if_neg hno, if_neg (by omega)]
    refine .next (by simp) hst ?_
    rw [hc]
    dsimp only
    rw [star_back hs]
    exact reads_text hv r (out ++ [s]) (by rw [e]; simp)
theorem reads_cat {l : List StarT} (hv : validS l = true) : Reads [] (catT l l.length) l 0 := by
  rw [catT_tail l _ (Nat.le_refl _), List.take_length]
  exact reads_text hv l [] rfl
end Go.Proofs.YtaglecidaedjfaaDoor
