/- Fractions in lowest terms: plain laws. -/
import Derived.Test.YtnanempkkeokbaaDoorRat3
set_option linter.unusedVariables false
set_option maxHeartbeats 1000000
namespace Go.Proofs.YtnanempkkeokbaaDoor
open Go.RowKit

theorem makeF_zero (n : Int) : makeF n 0 = ((0, 0), 16) := by unfold makeF; rw [if_pos rfl]
theorem makeF_cases (n d : Int) : (makeF n d = ((0, 0), 16) ∧ d = 0) ∨ (makeF n d = ((0, 0), 5) ∧ d ≠ 0) ∨ ((makeF n d).2 = 0 ∧ d ≠ 0) := by
  unfold makeF
  by_cases h : d = 0
  · exact .inl ⟨if_pos h, h⟩
  · rw [if_neg h]
    dsimp only
    split
    · exact .inr (.inl ⟨rfl, h⟩)
    · exact .inr (.inr ⟨rfl, h⟩)
theorem makeF_ok {n d p q : Int} (h : makeF n d = ((p, q), 0)) : d ≠ 0 ∧ validF p q = true ∧ p * d = n * q := by
  unfold makeF at h
  by_cases hd : d = 0
  · rw [if_pos hd] at h; cases h
  rw [if_neg hd] at h
  dsimp only at h
  split at h
  · cases h
  next hc =>
  have hg : 0 < Int.gcd n d := gcd_pos' hd
  obtain ⟨a, ha⟩ : (Int.gcd n d : Nat) ∣ n.natAbs := Nat.gcd_dvd_left _ _
  obtain ⟨b, hb⟩ : (Int.gcd n d : Nat) ∣ d.natAbs := Nat.gcd_dvd_right _ _
  have ha2 : n.natAbs / Int.gcd n d = a := by rw [ha]; exact Nat.mul_div_cancel_left _ hg
  have hb2 : d.natAbs / Int.gcd n d = b := by rw [hb]; exact Nat.mul_div_cancel_left _ hg
  have hcop : Nat.gcd a b = 1 := by
    have := Nat.gcd_mul_left (Int.gcd n d) a b
    rw [← ha, ← hb] at this
    have e : Nat.gcd n.natAbs d.natAbs = Int.gcd n d := rfl
    rw [e] at this
    exact Nat.eq_of_mul_eq_mul_left hg (by rw [← this, Nat.mul_one])
  rw [ha2, hb2] at h hc
  have hb0 : 1 ≤ b := by
    rcases Nat.eq_zero_or_pos b with g | g
    · rw [g, Nat.mul_zero] at hb; omega
    · exact g
  generalize Int.gcd n d = g at ha hb hg ha2 hb2
  have hna : n = g * a ∨ n = -((g : Int) * a) := by
    have : ((g * a : Nat) : Int) = (g : Int) * a := Int.natCast_mul ..
    rw [← this, ← ha]; omega
  have hdb : d = g * b ∨ d = -((g : Int) * b) := by
    have : ((g * b : Nat) : Int) = (g : Int) * b := Int.natCast_mul ..
    rw [← this, ← hb]; omega
  have hgb : 0 < (g : Int) * b := Int.mul_pos (by omega) (by omega)
  have hga : 0 ≤ (g : Int) * a := Int.mul_nonneg (by omega) (by omega)
  have h1 := congrArg (fun r : (Int × Int) × Int => r.1.1) h
  have h2 := congrArg (fun r : (Int × Int) × Int => r.1.2) h
  dsimp only at h1 h2
  refine ⟨hd, ?_, ?_⟩
  · rw [validF_iff]
    refine ⟨by split at h1 <;> omega, ?_⟩
    subst h2
    have : p.natAbs = a := by split at h1 <;> omega
    show Nat.gcd p.natAbs (b : Int).natAbs = 1
    rw [this, Int.natAbs_natCast]; exact hcop
  · subst h2
    split at h1
    next hs =>
      subst h1
      rcases hna with e1 | e1 <;> rcases hdb with e2 | e2
      · rw [e1, e2]; grind
      · have x1 : d < 0 := by omega
        have x2 : ¬ n < 0 := by omega
        exact absurd (hs ▸ x1) x2
      · by_cases hz : n = 0
        · have : (a : Int) = 0 := by
            rcases Int.mul_eq_zero.1 (show (g : Int) * a = 0 by omega) with z | z
            · omega
            · exact z
          rw [hz, this]; omega
        · have x1 : n < 0 := by omega
          have x2 : ¬ d < 0 := by omega
          exact absurd (hs ▸ x1) x2
      · rw [e1, e2]; grind
    next hs =>
      subst h1
      rcases hna with e1 | e1 <;> rcases hdb with e2 | e2
      · exact absurd (propext ⟨fun x => by omega, fun x => by omega⟩) hs
      · rw [e1, e2]; grind
      · rw [e1, e2]; grind
      · by_cases hz : n = 0
        · have : (a : Int) = 0 := by
            rcases Int.mul_eq_zero.1 (show (g : Int) * a = 0 by omega) with z | z
            · omega
            · exact z
          rw [hz, this]; omega
        · exact absurd (propext ⟨fun x => by omega, fun x => by omega⟩) hs
theorem valid_uniq {p q p' q' : Int} (h : validF p q = true) (h' : validF p' q' = true) (e : p * q' = p' * q) : p = p' ∧ q = q' := by
  obtain ⟨b1, c1⟩ := validF_iff.1 h
  obtain ⟨b2, c2⟩ := validF_iff.1 h'
  have en : p.natAbs * q'.natAbs = p'.natAbs * q.natAbs := by rw [← Int.natAbs_mul, ← Int.natAbs_mul, e]
  have k1 : Nat.Coprime q.natAbs p.natAbs := by rw [Nat.coprime_comm]; exact c1
  have k2 : Nat.Coprime q'.natAbs p'.natAbs := by rw [Nat.coprime_comm]; exact c2
  have d1 : q.natAbs ∣ q'.natAbs := k1.dvd_of_dvd_mul_left ⟨p'.natAbs, by rw [en, Nat.mul_comm]⟩
  have d2 : q'.natAbs ∣ q.natAbs := k2.dvd_of_dvd_mul_left ⟨p.natAbs, by rw [← en, Nat.mul_comm]⟩
  have hq : q = q' := by have := Nat.dvd_antisymm d1 d2; omega
  subst hq
  exact ⟨Int.eq_of_mul_eq_mul_right (by omega) e, rfl⟩
/-- Where a valid fraction has the value n / d, it is what Make gives. -/
theorem makeF_of {n d p q : Int} (hv : validF p q = true) (hd : d ≠ 0) (h : p * d = n * q) : makeF n d = ((p, q), 0) := by
  rcases makeF_cases n d with ⟨_, h0⟩ | ⟨hb, _⟩ | ⟨ho, _⟩
  · exact absurd h0 hd
  · exfalso
    obtain ⟨b1, c1⟩ := validF_iff.1 hv
    have hg : 0 < Int.gcd n d := gcd_pos' hd
    obtain ⟨a, ha⟩ : (Int.gcd n d : Nat) ∣ n.natAbs := Nat.gcd_dvd_left _ _
    obtain ⟨b, hb'⟩ : (Int.gcd n d : Nat) ∣ d.natAbs := Nat.gcd_dvd_right _ _
    have ha2 : n.natAbs / Int.gcd n d = a := by rw [ha]; exact Nat.mul_div_cancel_left _ hg
    have hb2 : d.natAbs / Int.gcd n d = b := by rw [hb']; exact Nat.mul_div_cancel_left _ hg
    have hcop : Nat.gcd a b = 1 := by
      have := Nat.gcd_mul_left (Int.gcd n d) a b
      rw [← ha, ← hb'] at this
      have e : Nat.gcd n.natAbs d.natAbs = Int.gcd n d := rfl
      rw [e] at this
      exact Nat.eq_of_mul_eq_mul_left hg (by rw [← this, Nat.mul_one])
    have en : p.natAbs * d.natAbs = n.natAbs * q.natAbs := by rw [← Int.natAbs_mul, ← Int.natAbs_mul, h]
    rw [ha, hb'] at en
    have en2 : p.natAbs * b = a * q.natAbs := Nat.eq_of_mul_eq_mul_left hg (by rw [Nat.mul_left_comm, en, Nat.mul_assoc])
    have k1 : Nat.Coprime q.natAbs p.natAbs := by rw [Nat.coprime_comm]; exact c1
    have k2 : Nat.Coprime b a := by rw [Nat.coprime_comm]; exact hcop
    have d1 : q.natAbs ∣ b := k1.dvd_of_dvd_mul_left ⟨a, by rw [en2, Nat.mul_comm]⟩
    have d2 : b ∣ q.natAbs := k2.dvd_of_dvd_mul_left ⟨p.natAbs, by rw [← en2, Nat.mul_comm]⟩
    have hq : q.natAbs = b := Nat.dvd_antisymm d1 d2
    rw [hq] at en2
    have hb0 : 0 < b := by omega
    have hp : p.natAbs = a := Nat.eq_of_mul_eq_mul_right hb0 en2
    have hc := congrArg (fun r : (Int × Int) × Int => r.2) hb
    unfold makeF at hc
    rw [if_neg hd] at hc
    dsimp only at hc
    rw [ha2, hb2, if_neg (by omega)] at hc
    cases hc
  · have hm : makeF n d = (((makeF n d).1.1, (makeF n d).1.2), 0) := Prod.ext rfl ho
    obtain ⟨_, v2, h2⟩ := makeF_ok hm
    generalize (makeF n d).1.1 = p' at hm v2 h2
    generalize (makeF n d).1.2 = q' at hm v2 h2
    have e : p * q' = p' * q := by
      apply Int.eq_of_mul_eq_mul_right hd
      calc p * q' * d = (p * d) * q' := by grind
        _ = n * q * q' := by rw [h]
        _ = (n * q') * q := by grind
        _ = p' * d * q := by rw [h2]
        _ = p' * q * d := by grind
    obtain ⟨rfl, rfl⟩ := valid_uniq hv v2 e
    exact hm
end Go.Proofs.YtnanempkkeokbaaDoor
