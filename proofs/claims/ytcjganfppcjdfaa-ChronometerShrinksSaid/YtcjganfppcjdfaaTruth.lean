/- The true time is enclosed: plain. -/
import Derived.Test.YtcjganfppcjdfaaMiss
set_option linter.unusedVariables false
set_option maxHeartbeats 4000000
namespace Go.Proofs.Ytcjganfppcjdfaa
open Go.RowKit

def truthF (S F R f : Int) : Int := f - F - (R * (f - S)).tdiv 86400000
def offT (offs : List Int) (i : Nat) : Int := if offs.length = 0 then 0 else nth offs ((i % offs.length : Nat) : Int)
def faceT (S : Int) (steps : List Int) : Nat → Int
  | 0 => S
  | k + 1 => faceT S steps k + (1000 + nth steps k)
def chkT (S F R : Int) (steps offs : List Int) (i : Nat) : Chk := ⟨faceT S steps i, truthF S F R (faceT S steps i) + offT offs i, 130⟩
def tabT (S F R : Int) (steps offs : List Int) (m : Nat) : List Chk := (List.range m).map (chkT S F R steps offs)
theorem tab_len {S F R : Int} {steps offs : List Int} {m : Nat} : (tabT S F R steps offs m).length = m := by simp [tabT]
theorem tab_nth {S F R : Int} {steps offs : List Int} {m i : Nat} (h : i < m) : nth (tabT S F R steps offs m) (i : Int) = chkT S F R steps offs i := by
  have h1 := nth_some (l := tabT S F R steps offs m) (m := i) (by omega) (by rw [tab_len]; omega)
  simp [tabT, h] at h1
  exact h1.symm
theorem tab_succ {S F R : Int} {steps offs : List Int} {m : Nat} : tabT S F R steps offs (m + 1) = tabT S F R steps offs m ++ [chkT S F R steps offs m] := by simp [tabT, List.range_succ]
theorem tdiv_bd (x : Int) : 86400000 * x.tdiv 86400000 ≤ x + 86400000 ∧ x ≤ 86400000 * x.tdiv 86400000 + 86400000 := by
  have h1 := Int.mul_tdiv_add_tmod x 86400000
  have h2 := Int.tmod_lt_of_pos x (show (0 : Int) < 86400000 by decide)
  have h3 := Int.lt_tmod_of_pos x (show (0 : Int) < 86400000 by decide)
  omega
theorem mul_abs_bd (R z : Int) : R * z ≤ max R (-R) * max z (-z) ∧ -(max R (-R) * max z (-z)) ≤ R * z := by
  rw [max_natAbs, max_natAbs, ← Int.natCast_mul, ← Int.natAbs_mul]
  omega
/-- Two errors of the true time differ by what the rate allows, and by the rounding. -/
theorem err_diff (S R f1 f2 : Int) : 86400000 * ((R * (f1 - S)).tdiv 86400000 - (R * (f2 - S)).tdiv 86400000) ≤ max R (-R) * max (f1 - f2) (f2 - f1) + 172800000 ∧ -(max R (-R) * max (f1 - f2) (f2 - f1)) - 172800000 ≤ 86400000 * ((R * (f1 - S)).tdiv 86400000 - (R * (f2 - S)).tdiv 86400000) := by
  have h1 := tdiv_bd (R * (f1 - S))
  have h2 := tdiv_bd (R * (f2 - S))
  have h3 := mul_abs_bd R (f1 - f2)
  rw [show -(f1 - f2) = f2 - f1 by omega] at h3
  have h4 : R * (f1 - f2) = R * (f1 - S) - R * (f2 - S) := by rw [← Int.mul_sub]; congr 1; omega
  omega
theorem off_bd {offs : List Int} (ho : ∀ x ∈ offs, -128 ≤ x ∧ x ≤ 127) (i : Nat) : -128 ≤ offT offs i ∧ offT offs i ≤ 127 := by
  unfold offT
  split
  · decide
  next h =>
  have hlt : i % offs.length < offs.length := Nat.mod_lt _ (by omega)
  exact ho _ (List.mem_of_getElem? (nth_some (l := offs) (m := ((i % offs.length : Nat) : Int)) (by omega) (by omega)))
theorem near_true {S F R : Int} {steps offs : List Int} (ho : ∀ x ∈ offs, -128 ≤ x ∧ x ≤ 127) (i k : Nat) : nearB (max R (-R)) 1 (chkT S F R steps offs i) (chkT S F R steps offs k) = true := by
  unfold nearB
  rw [allow_iff]
  have h1 := off_bd ho i
  have h2 := off_bd ho k
  have h3 := err_diff S R (faceT S steps i) (faceT S steps k)
  simp only [chkT, truthF]
  generalize max R (-R) * max (faceT S steps i - faceT S steps k) (faceT S steps k - faceT S steps i) = P at *
  generalize (R * (faceT S steps i - S)).tdiv 86400000 = x at *
  generalize (R * (faceT S steps k - S)).tdiv 86400000 = y at *
  omega
theorem drift_true {R : Int} (h : -32768 ≤ R ∧ R ≤ 32767) : driftB (max R (-R)) 1 = true := by
  have : Int.gcd (max R (-R)) 1 = 1 := Int.gcd_one_right _
  simp only [driftB, validF, this]
  simp only [Bool.and_eq_true, decide_eq_true_eq]
  refine ⟨⟨⟨⟨⟨?_, ?_⟩, ?_⟩, ?_⟩, trivial⟩, ?_⟩ <;> omega
theorem cons_true {S F R : Int} {steps offs : List Int} (ho : ∀ x ∈ offs, -128 ≤ x ∧ x ≤ 127) (hR : -32768 ≤ R ∧ R ≤ 32767) {m : Nat} (hv : validC (tabT S F R steps offs m) = true) : consS (tabT S F R steps offs m) (max R (-R)) 1 = (true, -1, 0) := by
  unfold consS
  rw [if_neg (by rw [hv, drift_true hR]; decide), find_none (fun k hk => bad_false fun i hi => ?_)]
  rw [tab_len] at hk
  rw [tab_nth (by omega), tab_nth hk]
  exact near_true ho i k
theorem runMax_le {c0 B : Int} {a : Nat → Int} (h0 : c0 ≤ B) : ∀ {k : Nat}, (∀ i, i < k → a i ≤ B) → runMax c0 a k ≤ B
  | 0, _ => h0
  | k + 1, h => by
    have h1 := runMax_le h0 (k := k) fun i hi => h i (by omega)
    have h2 := h k (by omega)
    simp only [runMax]; omega
theorem runMax_ge {c0 : Int} {a : Nat → Int} : ∀ {k j : Nat}, j < k → a j ≤ runMax c0 a k
  | k + 1, j, h => by
    simp only [runMax]
    rcases Nat.lt_or_ge j k with g | g
    · have := runMax_ge (c0 := c0) (a := a) g; omega
    · rw [show j = k by omega]; omega
theorem runMin_ge {c0 B : Int} {a : Nat → Int} (h0 : B ≤ c0) : ∀ {k : Nat}, (∀ i, i < k → B ≤ a i) → B ≤ runMin c0 a k
  | 0, _ => h0
  | k + 1, h => by
    have h1 := runMin_ge h0 (k := k) fun i hi => h i (by omega)
    have h2 := h k (by omega)
    simp only [runMin]; omega
theorem runMin_le {c0 : Int} {a : Nat → Int} : ∀ {k j : Nat}, j < k → runMin c0 a k ≤ a j
  | k + 1, j, h => by
    simp only [runMin]
    rcases Nat.lt_or_ge j k with g | g
    · have := runMin_le (c0 := c0) (a := a) g; omega
    · rw [show j = k by omega]; omega
theorem ut_true {S F R A : Int} {steps offs : List Int} (ho : ∀ x ∈ offs, -128 ≤ x ∧ x ≤ 127) (hR : -32768 ≤ R ∧ R ≤ 32767) (hS : -2147483648 ≤ S ∧ S ≤ 2147483647) (hF : -2147483648 ≤ F ∧ F ≤ 2147483647) (hA : 0 ≤ A ∧ A ≤ 4294967295) {m : Nat} (hv : validC (tabT S F R steps offs m) = true) :
    (utS (tabT S F R steps offs m) (max R (-R)) 1 (S + A)).2 = 0 ∧ (utS (tabT S F R steps offs m) (max R (-R)) 1 (S + A)).1.1 ≤ truthF S F R (S + A) + 1 ∧ truthF S F R (S + A) - 1 ≤ (utS (tabT S F R steps offs m) (max R (-R)) 1 (S + A)).1.2 := by
  have hm : 1 ≤ m := by have := (validC_iff.1 hv).1.1; rwa [tab_len] at this
  have hc := cons_true ho hR hv
  have hms := no_miss (show (consS (tabT S F R steps offs m) (max R (-R)) 1).1 = true by rw [hc]) (S + A)
  obtain ⟨lo, hlo⟩ : ∃ x, loP (tabT S F R steps offs m) (max R (-R)) 1 (S + A) (tabT S F R steps offs m).length = x := ⟨_, rfl⟩
  obtain ⟨hi, hhi⟩ : ∃ x, hiP (tabT S F R steps offs m) (max R (-R)) 1 (S + A) (tabT S F R steps offs m).length = x := ⟨_, rfl⟩
  have hRA : -281474976710656 ≤ R * A ∧ R * A ≤ 281474976710656 := by
    have : (R * A).natAbs ≤ 32768 * 4294967296 := by rw [Int.natAbs_mul]; exact Nat.mul_le_mul (by omega) (by omega)
    omega
  have hnA : 0 ≤ max R (-R) * A ∧ max R (-R) * A ≤ 281474976710656 := by
    rw [max_natAbs]
    have : (R.natAbs * A.natAbs) ≤ 32768 * 4294967296 := Nat.mul_le_mul (by omega) (by omega)
    have e : (R.natAbs : Int) * A = ((R.natAbs * A.natAbs : Nat) : Int) := by rw [Int.natCast_mul]; congr 1; omega
    omega
  have ht := tdiv_bd (R * A)
  have hu : truthF S F R (S + A) = S + A - F - (R * A).tdiv 86400000 := by unfold truthF; rw [show S + A - S = A by omega]
  have h1 : ∀ i : Nat, i < m → S + A - ((nth (tabT S F R steps offs m) i).face - (nth (tabT S F R steps offs m) i).ut) - xC (max R (-R)) 1 (S + A) (nth (tabT S F R steps offs m) i) ≤ truthF S F R (S + A) + 1 ∧ truthF S F R (S + A) - 1 ≤ S + A - ((nth (tabT S F R steps offs m) i).face - (nth (tabT S F R steps offs m) i).ut) + xC (max R (-R)) 1 (S + A) (nth (tabT S F R steps offs m) i) := by
    intro i hi
    rw [tab_nth hi]
    have g1 := off_bd ho i
    have g2 := err_diff S R (S + A) (faceT S steps i)
    simp only [chkT, xC, dC, truthF]
    generalize max R (-R) * max (S + A - faceT S steps i) (faceT S steps i - (S + A)) = P at *
    generalize (R * (S + A - S)).tdiv 86400000 = x at *
    generalize (R * (faceT S steps i - S)).tdiv 86400000 = y at *
    omega
  have h0 : -4611686018427387904 ≤ truthF S F R (S + A) + 1 ∧ truthF S F R (S + A) - 1 ≤ 4611686018427387904 := by omega
  have q1 : lo ≤ truthF S F R (S + A) + 1 := by
    rw [← hlo]; unfold loP; rw [tab_len]
    exact runMax_le h0.1 fun i hi => (h1 i hi).1
  have q2 : truthF S F R (S + A) - 1 ≤ hi := by
    rw [← hhi]; unfold hiP; rw [tab_len]
    exact runMin_ge h0.2 fun i hi => (h1 i hi).2
  have z : nth (tabT S F R steps offs m) ((0 : Nat) : Int) = chkT S F R steps offs 0 := tab_nth (by omega)
  have g1 := off_bd ho 0
  have q3 : -70368744177664 ≤ lo := by
    have := runMax_ge (c0 := -4611686018427387904) (a := fun i : Nat => S + A - ((nth (tabT S F R steps offs m) i).face - (nth (tabT S F R steps offs m) i).ut) - xC (max R (-R)) 1 (S + A) (nth (tabT S F R steps offs m) i)) (k := m) (j := 0) (by omega)
    rw [← hlo]; unfold loP; rw [tab_len]
    refine Int.le_trans ?_ this
    rw [z]
    simp only [chkT, xC, dC, truthF, faceT]
    rw [show S + A - S = A by omega, show S - (S + A) = -A by omega, show max A (-A) = A by omega, show R * (S - S) = 0 by rw [Int.sub_self, Int.mul_zero], Int.zero_tdiv]
    omega
  have q4 : hi ≤ 70368744177664 := by
    have := runMin_le (c0 := 4611686018427387904) (a := fun i : Nat => S + A - ((nth (tabT S F R steps offs m) i).face - (nth (tabT S F R steps offs m) i).ut) + xC (max R (-R)) 1 (S + A) (nth (tabT S F R steps offs m) i)) (k := m) (j := 0) (by omega)
    rw [← hhi]; unfold hiP; rw [tab_len]
    refine Int.le_trans this ?_
    rw [z]
    simp only [chkT, xC, dC, truthF, faceT]
    rw [show S + A - S = A by omega, show S - (S + A) = -A by omega, show max A (-A) = A by omega, show R * (S - S) = 0 by rw [Int.sub_self, Int.mul_zero], Int.zero_tdiv]
    omega
  have e : utS (tabT S F R steps offs m) (max R (-R)) 1 (S + A) = ((lo, hi), 0) := by
    unfold utS
    rw [if_neg (by rw [hv, drift_true hR]; decide), if_neg (by rw [timeB_iff.2 (by omega)]; decide), if_neg (by rw [hms]; decide), hlo, hhi, if_pos ⟨timeB_iff.2 (by omega), timeB_iff.2 (by omega)⟩]
  rw [e]
  exact ⟨rfl, q1, q2⟩
end Go.Proofs.Ytcjganfppcjdfaa
