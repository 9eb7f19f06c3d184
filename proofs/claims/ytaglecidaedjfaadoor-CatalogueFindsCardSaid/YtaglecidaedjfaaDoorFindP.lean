/- CatalogueFinds, plain: the brightest stars are the reference's. -/
import Derived.Test.YtaglecidaedjfaaDoorBriP
set_option linter.unusedVariables false
set_option maxHeartbeats 4000000
namespace Go.Proofs.YtaglecidaedjfaaDoor
open Go.RowKit

def magE (mg : Int → Int) (v : Int) (k : Nat) : List Int := ((List.range k).filter fun i : Nat => decide (mg (i : Int) = v)).map fun i : Nat => (i : Int)
theorem magE_succ (mg : Int → Int) (v : Int) (k : Nat) : magE mg v (k + 1) = if mg (k : Int) = v then magE mg v k ++ [(k : Int)] else magE mg v k := by
  unfold magE
  rw [List.range_succ, List.filter_append, List.map_append]
  by_cases h : mg (k : Int) = v
  · rw [if_pos h]; simp [h]
  · rw [if_neg h]; simp [h]
theorem magE_mem {mg : Int → Int} {v x : Int} {k : Nat} : x ∈ magE mg v k ↔ mg x = v ∧ 0 ≤ x ∧ x < k := by
  unfold magE
  rw [List.mem_map]
  constructor
  · rintro ⟨i, hi, rfl⟩
    have := List.mem_filter.1 hi
    have h1 := List.mem_range.1 this.1
    exact ⟨of_decide_eq_true this.2, by omega, by omega⟩
  · rintro ⟨h1, h2, h3⟩
    refine ⟨x.toNat, List.mem_filter.2 ⟨List.mem_range.2 (by omega), decide_eq_true ?_⟩, by omega⟩
    rw [Int.toNat_of_nonneg h2]; exact h1
theorem magE_pw (mg : Int → Int) (v : Int) (k : Nat) : (magE mg v k).Pairwise (lexLt mg) := by
  have h1 : (magE mg v k).Pairwise (· < ·) := by
    unfold magE
    rw [List.pairwise_map]
    exact (List.pairwise_lt_range.filter _).imp (fun h => by omega)
  refine List.Pairwise.imp_of_mem (fun ha hb h => ?_) h1
  have a1 := magE_mem.1 ha
  have a2 := magE_mem.1 hb
  exact .inr ⟨by omega, h⟩
def magA (mg : Int → Int) (n m : Nat) : List Int := (List.range m).flatMap fun k : Nat => magE mg (-20 + (k : Int)) n
theorem magA_succ (mg : Int → Int) (n m : Nat) : magA mg n (m + 1) = magA mg n m ++ magE mg (-20 + (m : Int)) n := by
  unfold magA; rw [List.range_succ, List.flatMap_append]; simp
theorem magA_pw (mg : Int → Int) (n m : Nat) : (magA mg n m).Pairwise (lexLt mg) := by
  unfold magA
  rw [List.pairwise_flatMap]
  refine ⟨fun a _ => magE_pw mg _ n, List.pairwise_lt_range.imp (fun h x hx y hy => ?_)⟩
  have a1 := magE_mem.1 hx
  have a2 := magE_mem.1 hy
  exact .inl (by omega)
theorem magA_mem {mg : Int → Int} {n m : Nat} {x : Int} : x ∈ magA mg n m ↔ (-20 ≤ mg x ∧ mg x < -20 + (m : Int)) ∧ 0 ≤ x ∧ x < n := by
  unfold magA
  rw [List.mem_flatMap]
  constructor
  · rintro ⟨k, hk, h⟩
    have h1 := List.mem_range.1 hk
    have h2 := magE_mem.1 h
    omega
  · rintro ⟨h1, h2⟩
    exact ⟨(mg x + 20).toNat, List.mem_range.2 (by omega), magE_mem.2 ⟨by omega, h2⟩⟩
theorem seqL_mem {n : Nat} {x : Int} : x ∈ seqL n ↔ 0 ≤ x ∧ x < n := by
  unfold seqL
  rw [List.mem_map]
  constructor
  · rintro ⟨i, hi, rfl⟩
    have := List.mem_range.1 hi
    omega
  · rintro h
    exact ⟨x.toNat, List.mem_range.2 (by omega), by omega⟩
theorem pw_of {mg : Int → Int} {q : List Int} (h : ∀ i j : Nat, i < j → j < q.length → lexLt mg (gt0 q i) (gt0 q j)) : q.Pairwise (lexLt mg) := by
  rw [List.pairwise_iff_getElem]
  intro i j hi hj hij
  have e : ∀ k (hk : k < q.length), gt0 q k = q[k] := fun k hk => by
    show q.getD k 0 = _
    rw [List.getD_eq_getElem?_getD, List.getElem?_eq_getElem hk]; rfl
  have := h i j hij hj
  rwa [e i hi, e j hj] at this
theorem lexLt_ne {mg : Int → Int} {l : List Int} (h : l.Pairwise (lexLt mg)) : l.Nodup := h.imp (fun g e => by subst e; unfold lexLt at g; omega)
theorem done_uniq {mg : Int → Int} {q : List Int} {n : Nat} (h : DoneS mg (seqL n) q 0 n) (hm : ∀ i : Nat, i < n → -20 ≤ mg (i : Int) ∧ mg (i : Int) ≤ 150) : q = magA mg n 171 := by
  have hl : q.length = n := by rw [h.len, seqL_len]
  have p1 := pw_of (mg := mg) (q := q) (fun i j h1 h2 => h.sorted i j (Nat.zero_le _) h1 (by omega))
  have p2 := magA_pw mg n 171
  refine List.Perm.eq_of_pairwise (fun a b _ _ g1 g2 => ?_) p1 p2 ((List.perm_ext_iff_of_nodup (lexLt_ne p1) (lexLt_ne p2)).2 fun x => ?_)
  · unfold lexLt at g1 g2; omega
  · rw [h.perm.mem_iff, seqL_mem, magA_mem]
    constructor
    · intro g
      have := hm x.toNat (by omega)
      rw [Int.toNat_of_nonneg g.1] at this
      omega
    · intro g; exact g.2
theorem take_app {q : List Int} {k : Nat} (x : Int) (h : (q.take k).length < k) : (q.take k) ++ [x] = (q ++ [x]).take k := by
  rw [List.length_take] at h
  rw [List.take_of_length_le (by omega), List.take_of_length_le (by simp; omega)]
theorem take_full {q : List Int} {k : Nat} (x : Int) (h : ¬ (q.take k).length < k) : q.take k = (q ++ [x]).take k := by
  rw [List.length_take] at h
  rw [List.take_append_of_le_length (by omega)]
end Go.Proofs.YtaglecidaedjfaaDoor
