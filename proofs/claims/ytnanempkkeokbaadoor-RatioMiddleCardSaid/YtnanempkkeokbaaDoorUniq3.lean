/- Sorted lists of valid fractions are one. -/
import Derived.Test.YtnanempkkeokbaaDoorMedian3
set_option linter.unusedVariables false
namespace Go.Proofs.YtnanempkkeokbaaDoor
open Go.RowKit Go.Sort

theorem pairs_of {ds : List VF} (h : SortedIn (ltOf cfV) 0 ds.length ds.toArray) : ds.Pairwise fun x y => ¬ cfV y x < 0 := by
  rw [List.pairwise_iff_getElem]
  intro i j hi hj hij g
  have := h i j (Nat.zero_le _) hij hj
  rw [getElem!_pos _ i (by simpa using hi), getElem!_pos _ j (by simpa using hj)] at this
  exact of_decide_eq_false this (by simpa using g)
theorem sorted_of {ds : List VF} (h : ds.Pairwise fun x y => ¬ cfV y x < 0) : SortedIn (ltOf cfV) 0 ds.length ds.toArray := by
  rw [List.pairwise_iff_getElem] at h
  intro i j _ hij hj
  rw [getElem!_pos _ i (by simp; omega), getElem!_pos _ j (by simpa using hj)]
  exact decide_eq_false (by simpa using h i j (by omega) hj hij)
theorem cf_anti {x y : VF} (h1 : ¬ cfV y x < 0) (h2 : ¬ cfV x y < 0) : x = y := by
  have e : cfV x y = -cfV y x := cmpF_neg ..
  have z : cmpF x.1.1 x.1.2 y.1.1 y.1.2 = 0 := by show cfV x y = 0; omega
  obtain ⟨g1, g2⟩ := (cmpF_zero x.2 y.2).1 z
  exact Subtype.ext (Prod.ext g1 g2)
theorem perm_of {zs ds : List VF} (hl : ds.length = zs.length) (h : PermIn 0 zs.length zs.toArray ds.toArray) : ds.Perm zs := by
  have := h.2.2
  rw [show zs.length = zs.toArray.size by simp, Array.extract_size] at this
  rw [show zs.toArray.size = ds.toArray.size by simp [hl], Array.extract_size] at this
  simpa using this
theorem sorted_uniq {zs ds ds' : List VF} (h : sortedP zs ds) (h' : sortedP zs ds') : ds = ds' := by
  have p1 := perm_of h.1 h.2.1
  have p2 := perm_of h'.1 h'.2.1
  have s1 := pairs_of (by have := h.2.2; rwa [← h.1] at this)
  have s2 := pairs_of (by have := h'.2.2; rwa [← h'.1] at this)
  exact List.Perm.eq_of_pairwise (fun a b _ _ g1 g2 => cf_anti g1 g2) s1 s2 (p1.trans p2.symm)
theorem sorted_mk {zs ds : List VF} (hp : ds.Perm zs) (hs : ds.Pairwise fun x y => ¬ cfV y x < 0) : sortedP zs ds := by
  have hl := hp.length_eq
  refine ⟨hl, ⟨by simp [hl], fun i hi => ?_, ?_⟩, ?_⟩
  · have h1 : zs.length ≤ i := by omega
    rw [getElem!_neg _ i (by simp [hl]; omega), getElem!_neg _ i (by simp; omega)]
  · rw [show zs.length = zs.toArray.size by simp, Array.extract_size, show zs.toArray.size = ds.toArray.size by simp [hl], Array.extract_size]
    simpa using hp
  · rw [← hl]; exact sorted_of hs
end Go.Proofs.YtnanempkkeokbaaDoor
