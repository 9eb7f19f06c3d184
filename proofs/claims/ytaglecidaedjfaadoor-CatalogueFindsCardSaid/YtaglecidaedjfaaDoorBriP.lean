/- CatalogueBright: plain facts of the order and of the bands. -/
import Derived.Test.YtaglecidaedjfaaDoorBri
set_option linter.unusedVariables false
set_option maxHeartbeats 4000000
namespace Go.Proofs.YtaglecidaedjfaaDoor
open Go.RowKit

theorem bet_mem (l : List StarT) (so no : Int) {n i : Nat} (hi : i < n) : ((i : Int) ∈ betL l so no n) ↔ inB l so no i = true := by
  unfold betL
  constructor
  · intro h
    obtain ⟨k, hk, e⟩ := List.mem_map.1 h
    have e2 : k = i := by omega
    subst e2
    exact (List.mem_filter.1 hk).2
  · intro h
    exact List.mem_map.2 ⟨i, List.mem_filter.2 ⟨List.mem_range.2 hi, h⟩, rfl⟩
theorem bet_all {l : List StarT} (hv : validS l = true) : (betL l (-5400000) 5400000 l.length).length = l.length := by
  unfold betL
  rw [List.length_map, List.filter_eq_self.2, List.length_range]
  intro i hi
  have h := num_of hv (List.mem_range.1 hi)
  unfold inB
  rw [decide_eq_true (by omega), decide_eq_true (by omega)]; rfl
theorem gt0_ge {l : List Int} {i : Nat} (h : i < l.length) : l[i]? = some (gt0 l i) := by
  show l[i]? = some (l.getD i 0)
  rw [List.getD_eq_getElem?_getD, List.getElem?_eq_getElem h]; rfl
theorem take_mem {q : List Int} {j : Nat} (hj : j ≤ q.length) {x : Int} : x ∈ q.take j ↔ ∃ m, m < j ∧ gt0 q m = x := by
  constructor
  · intro h
    obtain ⟨m, hm, e⟩ := List.getElem_of_mem h
    rw [List.length_take] at hm
    refine ⟨m, by omega, ?_⟩
    rw [List.getElem_take] at e
    have := gt0_ge (l := q) (i := m) (by omega)
    rw [List.getElem?_eq_getElem (by omega), e] at this
    exact (Option.some.inj this).symm
  · rintro ⟨m, hm, e⟩
    have := gt0_ge (l := q) (i := m) (by omega)
    rw [e] at this
    refine List.mem_of_getElem? (i := m) ?_
    rw [List.getElem?_take_of_lt hm]
    exact this
section
variable {mg : Int → Int} {n : Nat} {q : List Int}
theorem done_len (h : DoneS mg (seqL n) q 0 n) : q.length = n := by rw [h.len, seqL_len]
theorem done_in (h : DoneS mg (seqL n) q 0 n) {j : Nat} (hj : j < n) : 0 ≤ gt0 q j ∧ gt0 q j < n := by
  obtain ⟨m, _, hm, e⟩ := h.from_ j (Nat.zero_le _) hj
  rw [e, seqL_get hm]; omega
theorem done_lt (h : DoneS mg (seqL n) q 0 n) {i j : Nat} (hi : i < j) (hj : j < n) : mg (gt0 q i) ≤ mg (gt0 q j) ∧ gt0 q i ≠ gt0 q j := by
  have := h.sorted i j (Nat.zero_le _) hi hj
  unfold lexLt at this
  refine ⟨by omega, fun e => ?_⟩
  rw [e] at this; omega
theorem done_ex (h : DoneS mg (seqL n) q 0 n) {i : Nat} (hi : i < n) : ∃ m, m < n ∧ gt0 q m = (i : Int) := by
  have h1 : (i : Int) ∈ q := h.perm.mem_iff.2 (by unfold seqL; exact List.mem_map.2 ⟨i, List.mem_range.2 hi, rfl⟩)
  have hl := done_len h
  have h2 := (take_mem (q := q) (j := n) (by omega) (x := (i : Int))).1 (by rw [← hl, List.take_length]; exact h1)
  exact h2
def markL (q : List Int) (n j : Nat) : List Bool := (List.range n).map fun i : Nat => decide ((i : Int) ∈ q.take j)
theorem markL_len (q : List Int) (n j : Nat) : (markL q n j).length = n := by unfold markL; simp
theorem markL_0 (q : List Int) (n : Nat) : markL q n 0 = List.replicate n false := by
  unfold markL
  apply List.ext_getElem
  · simp
  · intro i h1 h2; simp
theorem markL_get (q : List Int) {n j i : Nat} (hi : i < n) : nth (markL q n j) (i : Int) = decide ((i : Int) ∈ q.take j) := by
  show (markL q n j).getD i default = _
  unfold markL
  rw [List.getD_eq_getElem?_getD, List.getElem?_map, List.getElem?_range hi]; rfl
theorem markL_at (q : List Int) {n j i : Nat} (hi : i < n) : (markL q n j)[i]? = some (decide ((i : Int) ∈ q.take j)) := by
  unfold markL
  rw [List.getElem?_map, List.getElem?_range hi]; rfl
theorem markL_set (h : DoneS mg (seqL n) q 0 n) {j : Nat} (hj : j < n) : (markL q n j).set (gt0 q j).toNat true = markL q n (j + 1) := by
  have hl := done_len h
  have hin := done_in h hj
  apply List.ext_getElem?
  intro i
  have hm := markL_len q n j
  rcases Nat.lt_or_ge i n with hi | hi
  · rw [List.getElem?_set, markL_at q hi, markL_at q hi]
    split
    · rename_i e
      rw [if_pos (by omega)]
      congr 1
      exact (decide_eq_true ((take_mem (by omega)).2 ⟨j, by omega, by omega⟩)).symm
    · rename_i e
      congr 1
      refine decide_eq_decide.2 ⟨fun g => ?_, fun g => ?_⟩
      · obtain ⟨m, hm, e⟩ := (take_mem (by omega)).1 g
        exact (take_mem (by omega)).2 ⟨m, by omega, e⟩
      · obtain ⟨m, hm, e⟩ := (take_mem (by omega)).1 g
        rcases Nat.lt_or_ge m j with g2 | g2
        · exact (take_mem (by omega)).2 ⟨m, g2, e⟩
        · obtain rfl : m = j := by omega
          omega
  · rw [List.getElem?_eq_none (by rw [List.length_set, hm]; exact hi), List.getElem?_eq_none (by rw [markL_len]; exact hi)]
theorem not_marked (h : DoneS mg (seqL n) q 0 n) {j : Nat} (hj : j < n) : nth (markL q n j) (gt0 q j) = false := by
  have hl := done_len h
  have hin := done_in h hj
  have := markL_get q (n := n) (j := j) (i := (gt0 q j).toNat) (by omega)
  rw [Int.toNat_of_nonneg hin.1] at this
  rw [this, decide_eq_false]
  intro g
  obtain ⟨m, hm, e⟩ := (take_mem (by omega)).1 g
  exact (done_lt h hm hj).2 e
def lastM (mg : Int → Int) (q : List Int) (j : Nat) : Int := if j = 0 then -1000 else mg (gt0 q (j - 1))
theorem last_le (h : DoneS mg (seqL n) q 0 n) (hm : ∀ i : Nat, i < n → -1000 ≤ mg (i : Int)) {j : Nat} (hj : j < n) : lastM mg q j ≤ mg (gt0 q j) := by
  unfold lastM
  split
  · have hin := done_in h hj
    have := hm (gt0 q j).toNat (by omega)
    rwa [Int.toNat_of_nonneg hin.1] at this
  · exact (done_lt h (by omega) hj).1
theorem last_out (h : DoneS mg (seqL n) q 0 n) {k i : Nat} (hk : 0 < k ∧ k ≤ n) (hi : i < n) (hn : nth (markL q n k) (i : Int) = false) : lastM mg q k ≤ mg (i : Int) := by
  have hl := done_len h
  rw [markL_get q hi] at hn
  have hn := of_decide_eq_false hn
  obtain ⟨m, hm, e⟩ := done_ex h hi
  unfold lastM
  rw [if_neg (by omega), ← e]
  have : ¬ m < k := fun g => hn ((take_mem (by omega)).2 ⟨m, g, e⟩)
  exact (done_lt h (by omega) hm).1
theorem last_succ (mg : Int → Int) (q : List Int) (j : Nat) : lastM mg q (j + 1) = mg (gt0 q j) := by
  unfold lastM; rw [if_neg (by omega)]; rfl
theorem take_nth {q : List Int} {k j : Nat} (hj : j < k ∧ k ≤ q.length) : nth (q.take k) (j : Int) = gt0 q j := by
  show (q.take k).getD j default = q.getD j 0
  rw [List.getD_eq_getElem?_getD, List.getD_eq_getElem?_getD, List.getElem?_take_of_lt hj.1]; rfl
end
end Go.Proofs.YtaglecidaedjfaaDoor
