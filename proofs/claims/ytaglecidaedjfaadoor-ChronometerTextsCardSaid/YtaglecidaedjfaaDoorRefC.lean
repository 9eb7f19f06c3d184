/- The reference's numbers: with a sign. -/
import Derived.Test.YtaglecidaedjfaaDoorRefB
set_option linter.unusedVariables false
set_option maxHeartbeats 4000000
namespace Go.Proofs.YtaglecidaedjfaaDoor
open Go.RowKit

/-- Numbers of at most 280 bits. -/
def Sz (z : Int) : Prop := z.natAbs < 1942668892225729070919461906823518906642406839052139521251812409738904285205208498176
theorem Sz.len {z : Int} (h : Sz z) : (D z.natAbs).length ≤ 10 := D_len (k := 10) h
theorem Sz.small {z : Int} (h : -340282366920938463463374607431768211456 ≤ z ∧ z ≤ 340282366920938463463374607431768211456) : Sz z := by unfold Sz; omega
theorem D_empty (n : Nat) : (D n).isEmpty = decide (n = 0) := by
  rcases Nat.eq_zero_or_pos n with rfl | h
  · rfl
  · rw [D_pos h]; simp; omega
theorem D_len0 {n : Nat} : (D n).length = 0 ↔ n = 0 := by
  rcases Nat.eq_zero_or_pos n with rfl | h
  · simp [D_zero]
  · rw [D_pos h]; simp; omega
abbrev nb (z : Int) : Bool := decide (z < 0)
/-- A number's value: its digits' slice, its sign. -/
abbrev numV (s : Sl) (b : Bool) : Value := .agg [s.v, .bool b].toArray
theorem nb_mul (a b : Int) : (!(nb a == nb b) && !decide (a.natAbs * b.natAbs = 0)) = nb (a * b) := by
  simp only [nb]
  rcases Int.lt_trichotomy a 0 with ha | ha | ha <;> rcases Int.lt_trichotomy b 0 with hb | hb | hb
  · have := Int.mul_pos_of_neg_of_neg ha hb
    rw [decide_eq_true ha, decide_eq_true hb, decide_eq_false (show ¬ a * b < 0 by omega)]; rfl
  · subst hb; simp
  · have := Int.mul_neg_of_neg_of_pos ha hb
    have h0 : a.natAbs * b.natAbs ≠ 0 := Nat.mul_ne_zero (by omega) (by omega)
    rw [decide_eq_true ha, decide_eq_false (show ¬ b < 0 by omega), decide_eq_true this, decide_eq_false h0]; rfl
  · subst ha; simp
  · subst ha; simp
  · subst ha; simp
  · have := Int.mul_neg_of_pos_of_neg ha hb
    have h0 : a.natAbs * b.natAbs ≠ 0 := Nat.mul_ne_zero (by omega) (by omega)
    rw [decide_eq_false (show ¬ a < 0 by omega), decide_eq_true hb, decide_eq_true this, decide_eq_false h0]; rfl
  · subst hb; simp
  · have := Int.mul_pos ha hb
    rw [decide_eq_false (show ¬ a < 0 by omega), decide_eq_false (show ¬ b < 0 by omega), decide_eq_false (show ¬ a * b < 0 by omega)]; rfl
theorem ordI_ge {a b : Nat} (h : 0 ≤ ordI a b) : b ≤ a := by
  unfold ordI at h
  split at h <;> omega
theorem ordI_lt {a b : Nat} (h : ordI a b < 0) : a ≤ b := by
  unfold ordI at h
  split at h <;> (try split at h) <;> omega
def cmpU (a b : Int) : Int := if a < b then -1 else if b < a then 1 else 0
theorem Sz.neg {z : Int} (h : Sz z) : Sz (-z) := by unfold Sz at *; omega
theorem div_pos_ {a b : Int} (ha : 0 ≤ a) (hb : 0 < b) : nb (a / b) = false ∧ (a / b).natAbs = a.natAbs / b.natAbs := by
  have h1 := Int.ediv_nonneg ha (show 0 ≤ b by omega)
  refine ⟨by simp only [nb]; simp; exact h1, ?_⟩
  have e1 : (a.natAbs : Int) = a := by omega
  have e2 : (b.natAbs : Int) = b := by omega
  have e3 : ((a.natAbs / b.natAbs : Nat) : Int) = a / b := by rw [Int.natCast_ediv, e1, e2]
  omega
theorem div_neg_ {a b : Int} (ha : a < 0) (hb : 0 < b) : nb (a / b) = true ∧ (a / b).natAbs = a.natAbs / b.natAbs + (if a.natAbs % b.natAbs = 0 then 0 else 1) := by
  have e1 : (a.natAbs : Int) = -a := by omega
  have e2 : (b.natAbs : Int) = b := by omega
  have e3 := Nat.div_add_mod a.natAbs b.natAbs
  have e4 : b * ((a.natAbs / b.natAbs : Nat) : Int) + ((a.natAbs % b.natAbs : Nat) : Int) = -a := by
    rw [← e1, ← e3, Int.natCast_add, Int.natCast_mul, e2]
    rw [Nat.mul_add_mod, Nat.mod_mod, Nat.mul_add_div (by omega), Nat.mod_div_self, Nat.add_zero]
  have hlt := Nat.mod_lt a.natAbs (show 0 < b.natAbs by omega)
  generalize a.natAbs / b.natAbs = q at *
  generalize a.natAbs % b.natAbs = r at *
  have key : ∀ Q R : Int, R + b * Q = a → 0 ≤ R → R < b → a / b = Q := fun Q R h1 h2 h3 => ((Int.ediv_emod_unique hb).2 ⟨h1, h2, h3⟩).1
  have hq : a / b = -((q + (if r = 0 then 0 else 1) : Nat) : Int) := by
    split
    · rename_i h0
      subst h0
      refine key _ 0 ?_ (Int.le_refl _) hb
      rw [Int.mul_neg, Nat.add_zero]; omega
    · refine key _ (b - r) ?_ (by omega) (by omega)
      rw [Int.mul_neg, Int.natCast_add, Int.mul_add]; simp; omega
  have hq1 : q + (if r = 0 then 0 else 1) ≠ 0 := by
    split
    · rename_i h0
      subst h0
      intro hz
      have : q = 0 := by omega
      subst this
      simp at e4; omega
    · omega
  constructor
  · simp only [nb]; rw [hq]; simp; omega
  · rw [hq]; omega
theorem tmod_if (n : Int) : n.tmod 268435456 = if 0 ≤ n then n % 268435456 else -((-n) % 268435456) := by
  split
  · exact Int.tmod_eq_emod_of_nonneg ‹_›
  · have := Int.neg_tmod (a := -n) (b := 268435456)
    rw [Int.neg_neg] at this
    rw [this, Int.tmod_eq_emod_of_nonneg (by omega)]
theorem tdiv_if (n : Int) : n.tdiv 268435456 = if 0 ≤ n then n / 268435456 else -((-n) / 268435456) := by
  split
  · exact Int.tdiv_eq_ediv_of_nonneg ‹_›
  · have := Int.neg_tdiv (-n) 268435456
    rw [Int.neg_neg] at this
    rw [this, Int.tdiv_eq_ediv_of_nonneg (by omega)]
theorem tmod_bd (n : Int) : -268435456 < n.tmod 268435456 ∧ n.tmod 268435456 < 268435456 := by
  constructor
  · have := Int.lt_tmod_of_pos n (show (0 : Int) < 268435456 by decide); omega
  · exact Int.tmod_lt_of_pos n (by decide)
theorem dv_drop_le : ∀ {l : List Int}, Dig l → ∀ i : Nat, dv (l.drop i) ≤ dv l
  | [], _, i => by simp [dv]
  | a :: r, h, 0 => by simp
  | a :: r, h, i + 1 => by
    have h1 := h a List.mem_cons_self
    have hr : Dig r := fun b hb => h b (List.mem_cons_of_mem _ hb)
    have ih := dv_drop_le hr i
    have h2 := dv_nonneg hr
    simp only [List.drop_succ_cons, dv]; omega
def in64 (z : Int) : Bool := decide (-9223372036854775808 ≤ z ∧ z ≤ 9223372036854775807)
theorem cmpU_lt {a b : Int} : cmpU a b < 0 ↔ a < b := by unfold cmpU; split <;> (try split) <;> constructor <;> intros <;> omega
theorem cmpU_gt {a b : Int} : 0 < cmpU a b ↔ b < a := by unfold cmpU; split <;> (try split) <;> constructor <;> intros <;> omega
end Go.Proofs.YtaglecidaedjfaaDoor
