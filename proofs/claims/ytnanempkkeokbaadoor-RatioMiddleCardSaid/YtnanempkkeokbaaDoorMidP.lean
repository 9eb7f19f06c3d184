/- Medians and means lie between the least and the greatest element; a median does not depend on the order. Plain. -/
import Derived.Test.YtnanempkkeokbaaDoorLists3
import Derived.Test.YtnanempkkeokbaaDoorFieldP
set_option linter.unusedVariables false
set_option maxHeartbeats 1000000
namespace Go.Proofs.YtnanempkkeokbaaDoor
open Go.RowKit Go.Sort

/-! What depends on the elements alone -/
theorem vf_of_all {l : List FrP} : ((List.range l.length).any fun i : Nat => !vF (nth l i)) = false ↔ ∀ x ∈ l, vF x = true := by
  rw [List.any_eq_false]
  constructor
  · intro hc x hx
    obtain ⟨i, hi, rfl⟩ := List.getElem_of_mem hx
    have := hc i (List.mem_range.2 hi)
    have e := nth_some (l := l) (m := (i : Int)) (by omega) (by omega)
    rw [Int.toNat_natCast, List.getElem?_eq_getElem hi] at e
    rw [← Option.some.inj e] at this
    simpa using this
  · intro h i hi
    simp [h _ (nth_mem (l := l) (m := (i : Int)) ⟨by omega, by have := List.mem_range.1 hi; omega⟩)]
theorem listS_ok {l : List FrP} (hv : ∀ x ∈ l, vF x = true) (h : 0 < l.length ∧ l.length ≤ 1000) : listS l = 0 := by
  unfold listS
  rw [if_neg (by rw [vf_of_all.2 hv]; decide), if_neg (by omega), if_neg (by omega)]
theorem sortF_up {l : List FrP} (hv : ∀ x ∈ l, vF x = true) : upTo l.length (sortF l) := by
  have hp := sortF_perm hv
  have hs := sortV_sorted (mkVs l hv)
  have h2 := pairs_of (by have := hs.2.2; rwa [← hs.1] at this)
  rw [List.pairwise_iff_getElem] at h2
  intro p q h0 h1 hq
  have hl := hp.length_eq
  have e0 : sortF l = (sortV (mkVs l hv)).map Subtype.val := by unfold sortF; rw [dif_pos hv]
  have hl2 : (sortV (mkVs l hv)).length = l.length := by rw [← hl, e0, List.length_map]
  have k1 : p.toNat < (sortV (mkVs l hv)).length := by omega
  have k2 : q.toNat < (sortV (mkVs l hv)).length := by omega
  have h3 := h2 p.toNat q.toNat k1 k2 (by omega)
  have g : ∀ (j : Int) (hj : 0 ≤ j) (hk : j.toNat < (sortV (mkVs l hv)).length), nth (sortF l) j = (sortV (mkVs l hv))[j.toNat].1 := fun j hj hk => by
    have e := nth_some (l := sortF l) (m := j) hj (by omega)
    have e2 : (sortF l)[j.toNat]? = some (sortV (mkVs l hv))[j.toNat].1 := by
      rw [e0, List.getElem?_map, List.getElem?_eq_getElem hk]; rfl
    exact Option.some.inj (e.symm.trans e2)
  rw [g p h0 k1, g q (by omega) k2]
  exact h3
theorem sortF_of_perm {l l' : List FrP} (hp : l'.Perm l) (hv : ∀ x ∈ l, vF x = true) : sortF l' = sortF l := by
  have hv' := perm_v hp hv
  have h1 := sortF_up hv'
  have h2 := sorted_of_up hv rfl ((sortF_perm hv').trans hp) (by rw [(sortF_perm hv').length_eq]; exact h1)
  rw [h2]
  unfold sortF
  rw [dif_pos hv]
theorem medS_perm {l l' : List FrP} (hp : l'.Perm l) (hv : ∀ x ∈ l, vF x = true) (h : 0 < l.length ∧ l.length ≤ 1000) : medS l' = medS l := by
  have hl := hp.length_eq
  unfold medS
  rw [listS_ok hv h, listS_ok (perm_v hp hv) (by omega), sortF_of_perm hp hv, hl]

/-! Between -/
abbrev leB (a b c d : Int) : Prop := a * d ≤ c * b
theorem cfr_le {x y : FrP} : cfr x y ≤ 0 ↔ x.1 * y.2 ≤ y.1 * x.2 := cmpF_le
/-- The sum of k elements that are at least a / b. -/
theorem sum_ge {a b p q x y p' q' k : Int} (hb : 0 < b) (hq : 0 < q) (hy : 0 < y) (hq' : 0 < q') (h1 : k * a * q ≤ p * b) (h2 : a * y ≤ x * b) (e : p' * (q * y) = (p * y + x * q) * q') : (k + 1) * a * q' ≤ p' * b := by
  have f1 := Int.mul_le_mul_of_nonneg_right h1 (Int.le_of_lt (Int.mul_pos hy hq'))
  have f2 := Int.mul_le_mul_of_nonneg_right h2 (Int.le_of_lt (Int.mul_pos hq hq'))
  have hqy : 0 < q * y := Int.mul_pos hq hy
  refine Int.le_of_mul_le_mul_right (a := q * y) ?_ hqy
  have e1 : p' * b * (q * y) = p' * (q * y) * b := by grind
  have e2 : (k + 1) * a * q' * (q * y) = k * a * q * (y * q') + a * y * (q * q') := by grind
  have e3 : (p * y + x * q) * q' * b = p * b * (y * q') + x * b * (q * q') := by grind
  rw [e1, e2, e, e3]; omega
theorem sum_le {a b p q x y p' q' k : Int} (hb : 0 < b) (hq : 0 < q) (hy : 0 < y) (hq' : 0 < q') (h1 : p * b ≤ k * a * q) (h2 : x * b ≤ a * y) (e : p' * (q * y) = (p * y + x * q) * q') : p' * b ≤ (k + 1) * a * q' := by
  have f1 := Int.mul_le_mul_of_nonneg_right h1 (Int.le_of_lt (Int.mul_pos hy hq'))
  have f2 := Int.mul_le_mul_of_nonneg_right h2 (Int.le_of_lt (Int.mul_pos hq hq'))
  have hqy : 0 < q * y := Int.mul_pos hq hy
  refine Int.le_of_mul_le_mul_right (a := q * y) ?_ hqy
  have e1 : p' * b * (q * y) = p' * (q * y) * b := by grind
  have e2 : (k + 1) * a * q' * (q * y) = k * a * q * (y * q') + a * y * (q * q') := by grind
  have e3 : (p * y + x * q) * q' * b = p * b * (y * q') + x * b * (q * q') := by grind
  rw [e1, e2, e, e3]; omega
theorem mean_between {a b c d : Int} (hb : 0 < b) (hd : 0 < d) : ∀ (l : List FrP) (s : FrP) (k : Nat), vF s = true → (∀ x ∈ l, vF x = true ∧ a * x.2 ≤ x.1 * b ∧ x.1 * d ≤ c * x.2) → (k : Int) * a * s.2 ≤ s.1 * b → s.1 * d ≤ (k : Int) * c * s.2 → (meanGo s l).2 = 0 →
    vF (meanGo s l).1 = true ∧ ((k + l.length : Nat) : Int) * a * (meanGo s l).1.2 ≤ (meanGo s l).1.1 * b ∧ (meanGo s l).1.1 * d ≤ ((k + l.length : Nat) : Int) * c * (meanGo s l).1.2
  | [], s, k, hs, _, h1, h2, _ => ⟨hs, h1, h2⟩
  | x :: r, s, k, hs, hl, h1, h2, h0 => by
    rw [meanGo_cons] at h0 ⊢
    obtain ⟨hx, hx1, hx2⟩ := hl x List.mem_cons_self
    by_cases ho : (addF s.1 s.2 x.1 x.2).2 = 0
    · rw [if_pos ho] at h0 ⊢
      have hm : addF s.1 s.2 x.1 x.2 = (((addF s.1 s.2 x.1 x.2).1.1, (addF s.1 s.2 x.1 x.2).1.2), 0) := Prod.ext rfl ho
      obtain ⟨v, e⟩ := addF_ok hs hx hm
      have g1 := validF_bd hs
      have g2 := validF_bd hx
      have g3 := validF_bd v
      have ih := mean_between hb hd r (addF s.1 s.2 x.1 x.2).1 (k + 1) v (fun y hy => hl y (List.mem_cons_of_mem _ hy)) (by
        rw [Int.natCast_succ]; exact sum_ge hb (by omega) (by omega) (by omega) h1 hx1 e) (by
        rw [Int.natCast_succ]; exact sum_le hd (by omega) (by omega) (by omega) h2 hx2 e) h0
      rw [List.length_cons, show k + (r.length + 1) = k + 1 + r.length by omega]
      exact ih
    · rw [if_neg ho] at h0
      exact absurd h0 ho
theorem quot_between {a b c d p q n r t : Int} (hb : 0 < b) (hd : 0 < d) (hq : 0 < q) (hn : 0 < n) (ht : 0 < t) (h1 : n * a * q ≤ p * b) (h2 : p * d ≤ n * c * q) (e : r * (q * n) = p * 1 * t) : a * t ≤ r * b ∧ r * d ≤ c * t := by
  have hqn : 0 < q * n := Int.mul_pos hq hn
  constructor
  · refine Int.le_of_mul_le_mul_right (a := q * n) ?_ hqn
    have f := Int.mul_le_mul_of_nonneg_right h1 (Int.le_of_lt ht)
    have e1 : r * b * (q * n) = r * (q * n) * b := by grind
    have e2 : a * t * (q * n) = n * a * q * t := by grind
    have e3 : p * 1 * t * b = p * b * t := by grind
    rw [e1, e2, e, e3]; exact f
  · refine Int.le_of_mul_le_mul_right (a := q * n) ?_ hqn
    have f := Int.mul_le_mul_of_nonneg_right h2 (Int.le_of_lt ht)
    have e1 : r * d * (q * n) = r * (q * n) * d := by grind
    have e2 : c * t * (q * n) = n * c * q * t := by grind
    have e3 : p * 1 * t * d = p * d * t := by grind
    rw [e1, e2, e, e3]; exact f
/-- The half of a sum of two lies between them. -/
theorem half_between {a b c d p q r t : Int} (hb : 0 < b) (hd : 0 < d) (hq : 0 < q) (ht : 0 < t) (h : a * d ≤ c * b) (e : p * (b * d) = (a * d + c * b) * q) (e2 : r * (q * 2) = p * 1 * t) : a * t ≤ r * b ∧ r * d ≤ c * t := by
  have hbd : 0 < b * d := Int.mul_pos hb hd
  have k1 : 2 * a * q ≤ p * b := by
    refine Int.le_of_mul_le_mul_right (a := b * d) ?_ hbd
    have f := Int.mul_le_mul_of_nonneg_right h (Int.le_of_lt (Int.mul_pos hb hq))
    have g1 : p * b * (b * d) = p * (b * d) * b := by grind
    have g2 : 2 * a * q * (b * d) = a * d * (b * q) + a * d * (b * q) := by grind
    have g3 : (a * d + c * b) * q * b = a * d * (b * q) + c * b * (b * q) := by grind
    rw [g1, g2, e, g3]; omega
  have k2 : p * d ≤ 2 * c * q := by
    refine Int.le_of_mul_le_mul_right (a := b * d) ?_ hbd
    have f := Int.mul_le_mul_of_nonneg_right h (Int.le_of_lt (Int.mul_pos hd hq))
    have g1 : p * d * (b * d) = p * (b * d) * d := by grind
    have g2 : 2 * c * q * (b * d) = c * b * (d * q) + c * b * (d * q) := by grind
    have g3 : (a * d + c * b) * q * d = a * d * (d * q) + c * b * (d * q) := by grind
    rw [g1, g2, e, g3]; omega
  exact quot_between hb hd hq (by decide) ht k1 k2 e2
/-- How many are less, or greater, than a fraction. -/
def lessN (l : List FrP) (m : FrP) : Nat := l.countP fun x => decide (cfr x m < 0)
def moreN (l : List FrP) (m : FrP) : Nat := l.countP fun x => decide (0 < cfr x m)
theorem count_le {p : FrP → Bool} {s : List FrP} {k : Nat} (h : ∀ j : Int, (k : Int) ≤ j → j < s.length → p (nth s j) = false) : s.countP p ≤ k := by
  have e : s = s.take k ++ s.drop k := (List.take_append_drop k s).symm
  rw [e, List.countP_append]
  have h0 : (s.drop k).countP p = 0 := by
    rw [List.countP_eq_zero]
    intro x hx
    obtain ⟨i, hi, rfl⟩ := List.getElem_of_mem hx
    rw [List.length_drop] at hi
    have e2 := nth_some (l := s) (m := ((k + i : Nat) : Int)) (by omega) (by omega)
    rw [Int.toNat_natCast, List.getElem?_eq_getElem (by omega)] at e2
    rw [List.getElem_drop, Option.some.inj e2, h _ (by omega) (by omega)]
    decide
  rw [h0]
  have := List.countP_le_length (p := p) (l := s.take k)
  rw [List.length_take] at this
  omega
theorem count_ge {p : FrP → Bool} {s : List FrP} {k : Nat} (hk : k ≤ s.length) (h : ∀ j : Int, 0 ≤ j → j < k → p (nth s j) = false) : s.countP p ≤ s.length - k := by
  have e : s = s.take k ++ s.drop k := (List.take_append_drop k s).symm
  have h0 : (s.take k).countP p = 0 := by
    rw [List.countP_eq_zero]
    intro x hx
    obtain ⟨i, hi, rfl⟩ := List.getElem_of_mem hx
    rw [List.length_take] at hi
    have e2 := nth_some (l := s) (m := (i : Int)) (by omega) (by omega)
    rw [Int.toNat_natCast, List.getElem?_eq_getElem (by omega)] at e2
    rw [List.getElem_take, Option.some.inj e2, h _ (by omega) (by omega)]
    decide
  have e3 : s.countP p = (s.take k).countP p + (s.drop k).countP p := by rw [← List.countP_append, List.take_append_drop]
  rw [e3, h0]
  have := List.countP_le_length (p := p) (l := s.drop k)
  rw [List.length_drop] at this
  omega
/-- A sorted list's element between the middle two (or the middle one). -/
theorem mid_counts {s : List FrP} {m : FrP} (hv : ∀ x ∈ s, vF x = true) (hm : vF m = true) (hs : upTo s.length s) (hn : 0 < s.length) {i j : Int} (hi : 0 ≤ i ∧ i ≤ j ∧ j < s.length) (hj : (s.length : Int) ≤ 2 * (i + 1) ∧ 2 * j ≤ s.length) (h1 : leF (nth s i) m) (h2 : leF m (nth s j)) : 2 * lessN s m ≤ s.length ∧ 2 * moreN s m ≤ s.length := by
  have le_of : ∀ p q : Int, 0 ≤ p → p ≤ q → q < s.length → leF (nth s p) (nth s q) := fun p q h0 h1 h2 => by
    rcases Int.lt_or_eq_of_le h1 with h | h
    · exact hs p q h0 h h2
    · subst h; rw [leF_iff]; omega
  constructor
  · have : lessN s m ≤ j.toNat := count_le fun q h0 h1 => by
      have := leF_trans hm (hv _ (nth_mem (by omega))) (hv _ (nth_mem (by omega))) h2 (le_of j q (by omega) (by omega) h1)
      exact decide_eq_false this
    omega
  · have : moreN s m ≤ s.length - (i + 1).toNat := count_ge (by omega) fun q h0 h1' => by
      have := leF_trans (hv _ (nth_mem (by omega))) (hv _ (nth_mem (by omega))) hm (le_of q i h0 (by omega) (by omega)) h1
      have e := cfr_neg (nth s q) m
      exact decide_eq_false (by omega)
    omega
theorem lessN_perm {l s : List FrP} (h : s.Perm l) (m : FrP) : lessN l m = lessN s m ∧ moreN l m = moreN s m := ⟨(h.countP_eq _).symm, (h.countP_eq _).symm⟩
theorem pr_of {u : (Int × Int) × Int} (h : u.2 = 0) : u = ((u.1.1, u.1.2), 0) := Prod.ext rfl h
/-- What RatioMiddle asks of the median. -/
theorem median_mid {l : List FrP} (hv : ∀ x ∈ l, vF x = true) (h : 0 < l.length ∧ l.length ≤ 1000) (h0 : (medS l).2 = 0) : vF (medS l).1 = true ∧ leF (nth (sortF l) 0) (medS l).1 ∧ leF (medS l).1 (nth (sortF l) ((l.length : Int) - 1)) ∧ 2 * lessN l (medS l).1 ≤ l.length ∧ 2 * moreN l (medS l).1 ≤ l.length := by
  have hp := sortF_perm hv
  have hl := hp.length_eq
  have hup := sortF_up hv
  have hvs := perm_v hp hv
  have le_of : ∀ p q : Int, 0 ≤ p → p ≤ q → q < l.length → leF (nth (sortF l) p) (nth (sortF l) q) := fun p q h0 h1 h2 => by
    rcases Int.lt_or_eq_of_le h1 with h | h
    · exact hup p q h0 h h2
    · subst h; rw [leF_iff]; omega
  have vn : ∀ p : Int, 0 ≤ p → p < l.length → vF (nth (sortF l) p) = true := fun p h1 h2 => hvs _ (nth_mem (by omega))
  have fin : ∀ (m : FrP) (i j : Int), vF m = true → 0 ≤ i ∧ i ≤ j ∧ j < l.length → (l.length : Int) ≤ 2 * (i + 1) ∧ 2 * j ≤ l.length → leF (nth (sortF l) i) m → leF m (nth (sortF l) j) → vF m = true ∧ leF (nth (sortF l) 0) m ∧ leF m (nth (sortF l) ((l.length : Int) - 1)) ∧ 2 * lessN l m ≤ l.length ∧ 2 * moreN l m ≤ l.length := fun m i j hm hi hj h1 h2 => by
    obtain ⟨k1, k2⟩ := mid_counts hvs hm (by rw [hl]; exact hup) (by omega) (i := i) (j := j) (by omega) (by omega) h1 h2
    obtain ⟨e1, e2⟩ := lessN_perm hp m
    rw [e1, e2]
    exact ⟨hm, leF_trans (vn 0 (by omega) (by omega)) (vn i hi.1 (by omega)) hm (le_of 0 i (by omega) hi.1 (by omega)) h1, leF_trans hm (vn j (by omega) hi.2.2) (vn _ (by omega) (by omega)) h2 (le_of j _ (by omega) (by omega) (by omega)), by omega, by omega⟩
  unfold medS at h0 ⊢
  rw [listS_ok hv h] at h0 ⊢
  rw [if_neg (by decide)] at h0 ⊢
  by_cases h1 : l.length % 2 = 1
  · rw [if_pos h1]
    have lr : leF (nth (sortF l) ((l.length : Int) / 2)) (nth (sortF l) ((l.length : Int) / 2)) := by rw [leF_iff]; omega
    exact fin _ ((l.length : Int) / 2) ((l.length : Int) / 2) (vn _ (by omega) (by omega)) (by omega) (by omega) lr lr
  · rw [if_neg h1] at h0 ⊢
    dsimp only at h0 ⊢
    have v1 := vn ((l.length : Int) / 2 - 1) (by omega) (by omega)
    have v2 := vn ((l.length : Int) / 2) (by omega) (by omega)
    have hle := le_of ((l.length : Int) / 2 - 1) ((l.length : Int) / 2) (by omega) (by omega) (by omega)
    generalize hx : nth (sortF l) ((l.length : Int) / 2 - 1) = x at v1 hle h0 ⊢
    generalize hy : nth (sortF l) ((l.length : Int) / 2) = y at v2 hle h0 ⊢
    by_cases ho : (addF x.1 x.2 y.1 y.2).2 = 0
    · rw [if_neg (by omega)] at h0 ⊢
      have hm := pr_of ho
      obtain ⟨v3, e3⟩ := addF_ok v1 v2 hm
      have hm2 := pr_of h0
      obtain ⟨_, v4, e4⟩ := divF_ok v3 (show validF 2 1 = true by decide +kernel) hm2
      have g1 := validF_bd v1
      have g2 := validF_bd v2
      have g3 := validF_bd v3
      have g4 := validF_bd v4
      obtain ⟨k1, k2⟩ := half_between (by omega) (by omega) (by omega) (by omega) (leF_iff.1 hle) e3 e4
      exact fin _ ((l.length : Int) / 2 - 1) ((l.length : Int) / 2) v4 (by omega) (by omega) (by rw [hx]; exact leF_iff.2 k1) (by rw [hy]; exact leF_iff.2 k2)
    · rw [if_pos ho] at h0
      exact absurd h0 ho
/-- What RatioMiddle asks of the mean. -/
theorem mean_mid {l : List FrP} (hv : ∀ x ∈ l, vF x = true) (h : 0 < l.length ∧ l.length ≤ 1000) (h0 : (meanS l).2 = 0) : vF (meanS l).1 = true ∧ leF (nth (sortF l) 0) (meanS l).1 ∧ leF (meanS l).1 (nth (sortF l) ((l.length : Int) - 1)) := by
  have hp := sortF_perm hv
  have hl := hp.length_eq
  have hup := sortF_up hv
  have hvs := perm_v hp hv
  have le_of : ∀ p q : Int, 0 ≤ p → p ≤ q → q < l.length → leF (nth (sortF l) p) (nth (sortF l) q) := fun p q h0 h1 h2 => by
    rcases Int.lt_or_eq_of_le h1 with h | h
    · exact hup p q h0 h h2
    · subst h; rw [leF_iff]; omega
  have b1 := validF_bd (hvs _ (nth_mem (l := sortF l) (m := 0) (by omega)))
  have b2 := validF_bd (hvs _ (nth_mem (l := sortF l) (m := (l.length : Int) - 1) (by omega)))
  have each : ∀ x ∈ l, vF x = true ∧ (nth (sortF l) 0).1 * x.2 ≤ x.1 * (nth (sortF l) 0).2 ∧ x.1 * (nth (sortF l) ((l.length : Int) - 1)).2 ≤ (nth (sortF l) ((l.length : Int) - 1)).1 * x.2 := fun x hx => by
    obtain ⟨i, hi, rfl⟩ := List.getElem_of_mem (hp.mem_iff.2 hx)
    have e := nth_some (l := sortF l) (m := (i : Int)) (by omega) (by omega)
    rw [Int.toNat_natCast, List.getElem?_eq_getElem hi] at e
    rw [Option.some.inj e]
    exact ⟨hvs _ (nth_mem (by omega)), leF_iff.1 (le_of 0 i (by omega) (by omega) (by omega)), leF_iff.1 (le_of i _ (by omega) (by omega) (by omega))⟩
  unfold meanS at h0 ⊢
  rw [listS_ok hv h] at h0 ⊢
  rw [if_neg (by decide)] at h0 ⊢
  by_cases ho : (meanGo (0, 1) l).2 = 0
  · rw [if_neg (by omega)] at h0 ⊢
    obtain ⟨v1, k1, k2⟩ := mean_between (by omega) (by omega) l (0, 1) 0 (by decide +kernel) each (by simp) (by simp) ho
    rw [Nat.zero_add] at k1 k2
    have hn : validF (l.length : Int) 1 = true := by
      rw [validF_iff]
      exact ⟨by omega, by rw [Int.gcd_one]⟩
    have hm := pr_of h0
    obtain ⟨_, v2, e⟩ := divF_ok v1 hn hm
    have g1 := validF_bd v1
    have g2 := validF_bd v2
    obtain ⟨r1, r2⟩ := quot_between (by omega) (by omega) (by omega) (by omega) (by omega) k1 k2 e
    exact ⟨v2, leF_iff.2 r1, leF_iff.2 r2⟩
  · rw [if_pos ho] at h0
    exact absurd h0 ho
end Go.Proofs.YtnanempkkeokbaaDoor
