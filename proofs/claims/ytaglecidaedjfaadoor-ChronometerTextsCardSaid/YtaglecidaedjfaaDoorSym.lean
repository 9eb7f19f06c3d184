/- Stable merging by rotations, plain: what slices.SortStableFunc's symMerge does to a list. -/
import Derived.Test.YtaglecidaedjfaaDoorGround
set_option linter.unusedVariables false
set_option maxHeartbeats 1000000
namespace Go.Proofs.YtaglecidaedjfaaDoor
open Go.RowKit

/-- The elements from a to before m, and those from m to before b, exchanged. -/
def rotL (l : List Int) (a m b : Nat) : List Int := l.take a ++ ((l.take b).drop m ++ ((l.take m).drop a ++ l.drop b))
theorem rotL_len {l : List Int} {a m b : Nat} (h : a ≤ m ∧ m ≤ b ∧ b ≤ l.length) : (rotL l a m b).length = l.length := by
  unfold rotL
  simp only [List.length_append, List.length_take, List.length_drop]
  omega
theorem rotL_perm {l : List Int} {a m b : Nat} (h : a ≤ m ∧ m ≤ b ∧ b ≤ l.length) : (rotL l a m b).Perm l := by
  have e : l = l.take a ++ ((l.take m).drop a ++ ((l.take b).drop m ++ l.drop b)) := by
    conv => lhs; rw [← List.take_append_drop b l, ← List.take_append_drop m (l.take b), List.take_take, Nat.min_eq_left h.2.1, ← List.take_append_drop a (l.take m), List.take_take, Nat.min_eq_left h.1]
    simp
  conv => rhs; rw [e]
  unfold rotL
  refine List.Perm.append_left _ ?_
  rw [← List.append_assoc, ← List.append_assoc]
  exact List.Perm.append_right _ List.perm_append_comm
/-- Where the elements lie behind it. -/
theorem rotL_get {l : List Int} {a m b : Nat} (h : a ≤ m ∧ m ≤ b ∧ b ≤ l.length) (i : Nat) : (rotL l a m b)[i]? = if i < a then l[i]? else if i < a + (b - m) then l[i - a + m]? else if i < b then l[i - (a + (b - m)) + a]? else l[i]? := by
  unfold rotL
  rw [List.getElem?_append, List.length_take, Nat.min_eq_left (by omega)]
  split
  · rw [List.getElem?_take_of_lt (by omega)]
  · rw [List.getElem?_append, List.length_drop, List.length_take, Nat.min_eq_left (by omega)]
    split
    next h1 =>
      rw [if_pos (by omega), List.getElem?_drop, List.getElem?_take_of_lt (by omega), Nat.add_comm]
    next h1 =>
      rw [if_neg (by omega), List.getElem?_append, List.length_drop, List.length_take, Nat.min_eq_left (by omega)]
      split
      next h2 =>
        rw [if_pos (by omega), List.getElem?_drop, List.getElem?_take_of_lt (by omega)]
        congr 1; omega
      next h2 =>
        rw [if_neg (by omega), List.getElem?_drop]
        congr 1; omega
theorem rotL_same {l : List Int} {a b : Nat} (h : a ≤ b ∧ b ≤ l.length) : rotL l a a b = l ∧ rotL l a b b = l := by
  constructor <;> (apply List.ext_getElem?; intro i)
  · rw [rotL_get (by omega)]
    split
    · rfl
    · split
      · congr 1; omega
      · rw [if_neg (by omega)]
  · rw [rotL_get (by omega)]
    split
    · rfl
    · rw [if_neg (by omega)]
      split
      · congr 1; omega
      · rfl
/-- k elements from a, and k elements from b, exchanged (apart). -/
def swapR (l : List Int) (a b : Nat) : Nat → List Int
  | 0 => l
  | k + 1 => ((swapR l a b k).set (a + k) ((swapR l a b k).getD (b + k) 0)).set (b + k) ((swapR l a b k).getD (a + k) 0)
theorem swapR_len (l : List Int) (a b k : Nat) : (swapR l a b k).length = l.length := by
  induction k with
  | zero => rfl
  | succ k ih => unfold swapR; rw [List.length_set, List.length_set, ih]
theorem swapR_get {l : List Int} {a b : Nat} : ∀ (k : Nat), a + k ≤ b → b + k ≤ l.length → ∀ i : Nat, (swapR l a b k)[i]? = if a ≤ i ∧ i < a + k then l[i - a + b]? else if b ≤ i ∧ i < b + k then l[i - b + a]? else l[i]?
  | 0, h1, h2, i => by rw [if_neg (by omega), if_neg (by omega)]; rfl
  | k + 1, h1, h2, i => by
    have ih := swapR_get (l := l) (a := a) (b := b) k (by omega) (by omega)
    have hl := swapR_len l a b k
    unfold swapR
    have ga : (swapR l a b k)[a + k]? = l[a + k]? := by rw [ih, if_neg (by omega), if_neg (by omega)]
    have gb : (swapR l a b k)[b + k]? = l[b + k]? := by rw [ih, if_neg (by omega), if_neg (by omega)]
    rw [List.getElem?_set, List.length_set, hl]
    by_cases e1 : b + k = i
    · rw [if_pos e1, if_pos (by omega), if_neg (by omega), if_pos (by omega), List.getD_eq_getElem?_getD, ga]
      rw [show i - b + a = a + k by omega, List.getElem?_eq_getElem (by omega)]; rfl
    · rw [if_neg e1, List.getElem?_set, hl]
      by_cases e2 : a + k = i
      · rw [if_pos e2, if_pos (by omega), if_pos (by omega), List.getD_eq_getElem?_getD, gb]
        rw [show i - a + b = b + k by omega, List.getElem?_eq_getElem (by omega)]; rfl
      · rw [if_neg e2, ih]
        repeat' split
        all_goals first | rfl | (exfalso; omega) | (congr 1; omega)
/-- A step of the rotation: what remains to be exchanged. -/
theorem rot_gt {l : List Int} {m i j : Nat} (hj : 0 < j ∧ j < i) (h : i ≤ m ∧ m + j ≤ l.length) : rotL (swapR l (m - i) m j) (m - i + j) m (m + j) = rotL l (m - i) m (m + j) := by
  have hl := swapR_len l (m - i) m j
  apply List.ext_getElem?
  intro k
  rw [rotL_get (by omega), rotL_get (by omega)]
  have g := swapR_get (l := l) (a := m - i) (b := m) j (by omega) (by omega)
  simp only [g]
  repeat' split
  all_goals first | rfl | (exfalso; omega) | (congr 1; omega)
theorem rot_lt {l : List Int} {m i j : Nat} (hj : 0 < i ∧ i < j) (h : i ≤ m ∧ m + j ≤ l.length) : rotL (swapR l (m - i) (m + j - i) i) (m - i) m (m + (j - i)) = rotL l (m - i) m (m + j) := by
  have hl := swapR_len l (m - i) (m + j - i) i
  apply List.ext_getElem?
  intro k
  rw [rotL_get (by omega), rotL_get (by omega)]
  have g := swapR_get (l := l) (a := m - i) (b := m + j - i) i (by omega) (by omega)
  simp only [g]
  repeat' split
  all_goals first | rfl | (exfalso; omega) | (congr 1; omega)
theorem rot_eq {l : List Int} {m i : Nat} (h : i ≤ m ∧ m + i ≤ l.length) : swapR l (m - i) m i = rotL l (m - i) m (m + i) := by
  apply List.ext_getElem?
  intro k
  rw [rotL_get (by omega), swapR_get i (by omega) (by omega)]
  repeat' split
  all_goals first | rfl | (exfalso; omega) | (congr 1; omega)
/-! ### The order: by a number of each element, and by the elements themselves where these are equal -/
abbrev gt0 (l : List Int) (i : Nat) : Int := l.getD i 0
def lexLt (mg : Int → Int) (x y : Int) : Prop := mg x < mg y ∨ mg x = mg y ∧ x < y
theorem lexLt_trans {mg : Int → Int} {x y z : Int} (h1 : lexLt mg x y) (h2 : lexLt mg y z) : lexLt mg x z := by
  unfold lexLt at *; omega
theorem lexLt_not {mg : Int → Int} {x y : Int} (hxy : x < y) : ¬ mg y < mg x ↔ lexLt mg x y := by
  unfold lexLt; omega
theorem lexLt_lt {mg : Int → Int} {x y : Int} (hxy : x < y) : mg y < mg x ↔ lexLt mg y x := by
  unfold lexLt; omega
structure Half (mg : Int → Int) (l : List Int) (a m b : Nat) : Prop where
  le : a ≤ m ∧ m ≤ b ∧ b ≤ l.length
  left : ∀ i j : Nat, a ≤ i → i < j → j < m → lexLt mg (gt0 l i) (gt0 l j)
  right : ∀ i j : Nat, m ≤ i → i < j → j < b → lexLt mg (gt0 l i) (gt0 l j)
  idx : ∀ i j : Nat, a ≤ i → i < m → m ≤ j → j < b → gt0 l i < gt0 l j
structure DoneS (mg : Int → Int) (l l' : List Int) (a b : Nat) : Prop where
  perm : l'.Perm l
  out : ∀ i : Nat, i < a ∨ b ≤ i → gt0 l' i = gt0 l i
  from_ : ∀ i : Nat, a ≤ i → i < b → ∃ j : Nat, a ≤ j ∧ j < b ∧ gt0 l' i = gt0 l j
  sorted : ∀ i j : Nat, a ≤ i → i < j → j < b → lexLt mg (gt0 l' i) (gt0 l' j)
theorem DoneS.len {mg : Int → Int} {l l' : List Int} {a b : Nat} (h : DoneS mg l l' a b) : l'.length = l.length := h.perm.length_eq
theorem half_done {mg : Int → Int} {l : List Int} {a m b : Nat} (h : Half mg l a m b) (hm : m = a ∨ m = b) : DoneS mg l l a b := by
  refine ⟨.refl _, fun _ _ => rfl, fun i h1 h2 => ⟨i, h1, h2, rfl⟩, fun i j h1 h2 h3 => ?_⟩
  rcases hm with e | e
  · exact h.right i j (by omega) h2 h3
  · exact h.left i j h1 h2 (by omega)
theorem gt0_rot {l : List Int} {a m b : Nat} (h : a ≤ m ∧ m ≤ b ∧ b ≤ l.length) (i : Nat) : gt0 (rotL l a m b) i = if i < a then gt0 l i else if i < a + (b - m) then gt0 l (i - a + m) else if i < b then gt0 l (i - (a + (b - m)) + a) else gt0 l i := by
  show (rotL l a m b).getD i 0 = _
  rw [List.getD_eq_getElem?_getD, rotL_get h]
  split
  · rw [← List.getD_eq_getElem?_getD]
  · split
    · rw [← List.getD_eq_getElem?_getD]
    · split <;> rw [← List.getD_eq_getElem?_getD]
/-- The halves' inner parts exchanged: two smaller tasks, all of the first below all of the second. -/
theorem half_split {mg : Int → Int} {l : List Int} {a m b s e mid : Nat} (h : Half mg l a m b) (hs : a ≤ s ∧ s ≤ m ∧ m ≤ e ∧ e ≤ b) (hmid : s + e = mid + m)
    (c1 : ∀ i j : Nat, a ≤ i → i < s → e ≤ j → j < b → lexLt mg (gt0 l i) (gt0 l j)) (c2 : ∀ i j : Nat, s ≤ i → i < m → m ≤ j → j < e → lexLt mg (gt0 l j) (gt0 l i)) :
    Half mg (rotL l s m e) a s mid ∧ Half mg (rotL l s m e) mid e b ∧ ∀ i j : Nat, a ≤ i → i < mid → mid ≤ j → j < b → lexLt mg (gt0 (rotL l s m e) i) (gt0 (rotL l s m e) j) := by
  obtain ⟨⟨h1, h2, h3⟩, hl, hr, hi⟩ := h
  have hb : s ≤ m ∧ m ≤ e ∧ e ≤ l.length := by omega
  have hlen := rotL_len hb
  -- where an element of the new list lies in the old one
  have g := gt0_rot hb
  have gA : ∀ i, i < s → gt0 (rotL l s m e) i = gt0 l i := fun i hi' => by rw [g, if_pos hi']
  have gB : ∀ i, s ≤ i → i < mid → gt0 (rotL l s m e) i = gt0 l (i - s + m) := fun i h1 h2 => by rw [g, if_neg (by omega), if_pos (by omega)]
  have gC : ∀ i, mid ≤ i → i < e → gt0 (rotL l s m e) i = gt0 l (i - mid + s) := fun i h1 h2 => by rw [g, if_neg (by omega), if_neg (by omega), if_pos (by omega), show i - (s + (e - m)) + s = i - mid + s by omega]
  have gD : ∀ i, e ≤ i → gt0 (rotL l s m e) i = gt0 l i := fun i h1 => by rw [g, if_neg (by omega), if_neg (by omega), if_neg (by omega)]
  refine ⟨⟨by omega, fun i j k1 k2 k3 => ?_, fun i j k1 k2 k3 => ?_, fun i j k1 k2 k3 k4 => ?_⟩, ⟨by omega, fun i j k1 k2 k3 => ?_, fun i j k1 k2 k3 => ?_, fun i j k1 k2 k3 k4 => ?_⟩, fun i j k1 k2 k3 k4 => ?_⟩
  · rw [gA i (by omega), gA j (by omega)]; exact hl i j k1 k2 (by omega)
  · rw [gB i (by omega) (by omega), gB j (by omega) (by omega)]; exact hr _ _ (by omega) (by omega) (by omega)
  · rw [gA i (by omega), gB j (by omega) (by omega)]; exact hi _ _ (by omega) (by omega) (by omega) (by omega)
  · rw [gC i (by omega) (by omega), gC j (by omega) (by omega)]; exact hl _ _ (by omega) (by omega) (by omega)
  · rw [gD i (by omega), gD j (by omega)]; exact hr _ _ (by omega) (by omega) (by omega)
  · rw [gC i (by omega) (by omega), gD j (by omega)]; exact hi _ _ (by omega) (by omega) (by omega) (by omega)
  · by_cases q1 : i < s <;> by_cases q2 : j < e
    · rw [gA i q1, gC j k3 q2]; exact hl _ _ (by omega) (by omega) (by omega)
    · rw [gA i q1, gD j (by omega)]; exact c1 _ _ (by omega) (by omega) (by omega) (by omega)
    · rw [gB i (by omega) (by omega), gC j k3 q2]; exact c2 _ _ (by omega) (by omega) (by omega) (by omega)
    · rw [gB i (by omega) (by omega), gD j (by omega)]; exact hr _ _ (by omega) (by omega) (by omega)
theorem done_join {mg : Int → Int} {l l1 l2 l3 : List Int} {a m b s e mid : Nat} (h : Half mg l a m b) (hs : a ≤ s ∧ s ≤ m ∧ m ≤ e ∧ e ≤ b) (hmid : s + e = mid + m) (e1 : l1 = rotL l s m e)
    (hc : ∀ i j : Nat, a ≤ i → i < mid → mid ≤ j → j < b → lexLt mg (gt0 l1 i) (gt0 l1 j)) (d1 : DoneS mg l1 l2 a mid) (d2 : DoneS mg l2 l3 mid b) : DoneS mg l l3 a b := by
  have hb : s ≤ m ∧ m ≤ e ∧ e ≤ l.length := by have := h.le; omega
  have g := gt0_rot hb
  rw [← e1] at g
  have fr1 : ∀ i : Nat, a ≤ i → i < b → ∃ j : Nat, a ≤ j ∧ j < b ∧ gt0 l1 i = gt0 l j := fun i h1 h2 => by
    rw [g]
    split
    · exact ⟨i, h1, h2, rfl⟩
    · split
      · exact ⟨_, by omega, by omega, rfl⟩
      · split
        · exact ⟨_, by omega, by omega, rfl⟩
        · exact ⟨i, h1, h2, rfl⟩
  have out1 : ∀ i : Nat, i < a ∨ b ≤ i → gt0 l1 i = gt0 l i := fun i h1 => by
    rw [g]
    split
    · rfl
    · rw [if_neg (by omega), if_neg (by omega)]
  have low : ∀ i : Nat, a ≤ i → i < mid → ∃ j : Nat, a ≤ j ∧ j < mid ∧ gt0 l3 i = gt0 l1 j := fun i h1 h2 => by
    obtain ⟨j, j1, j2, j3⟩ := d1.from_ i h1 h2
    exact ⟨j, j1, j2, by rw [d2.out i (.inl h2), j3]⟩
  have high : ∀ i : Nat, mid ≤ i → i < b → ∃ j : Nat, mid ≤ j ∧ j < b ∧ gt0 l3 i = gt0 l1 j := fun i h1 h2 => by
    obtain ⟨j, j1, j2, j3⟩ := d2.from_ i h1 h2
    exact ⟨j, j1, j2, by rw [j3, d1.out j (.inr j1)]⟩
  refine ⟨(d2.perm.trans d1.perm).trans (e1 ▸ rotL_perm hb), fun i h1 => ?_, fun i h1 h2 => ?_, fun i j h1 h2 h3 => ?_⟩
  · rw [d2.out i (by omega), d1.out i (by omega), out1 i h1]
  · by_cases q : i < mid
    · obtain ⟨j, j1, j2, j3⟩ := low i h1 q
      obtain ⟨k, k1, k2, k3⟩ := fr1 j j1 (by omega)
      exact ⟨k, k1, k2, j3.trans k3⟩
    · obtain ⟨j, j1, j2, j3⟩ := high i (by omega) h2
      obtain ⟨k, k1, k2, k3⟩ := fr1 j (by omega) j2
      exact ⟨k, k1, k2, j3.trans k3⟩
  · by_cases q1 : j < mid
    · rw [d2.out i (by omega), d2.out j (by omega)]
      exact d1.sorted i j h1 h2 q1
    · by_cases q2 : i < mid
      · obtain ⟨i', i1, i2, i3⟩ := low i h1 q2
        obtain ⟨j', j1, j2, j3⟩ := high j (by omega) h3
        rw [i3, j3]
        exact hc i' j' i1 i2 j1 j2
      · exact d2.sorted i j (by omega) h2 h3
/-- What the search among the pairs finds. -/
theorem search_split {mg : Int → Int} {l : List Int} {a m b s0 r0 s n mid : Nat} (h : Half mg l a m b) (ham : a < m ∧ m < b) (hmid : mid = (a + b) / 2) (hn : n = mid + m) (h0 : (m > mid ∧ s0 = n - b ∧ r0 = mid) ∨ (m ≤ mid ∧ s0 = a ∧ r0 = m)) (hs : s0 ≤ s ∧ s ≤ r0)
    (lo : ∀ c : Nat, s0 ≤ c → c < s → lexLt mg (gt0 l c) (gt0 l (n - 1 - c))) (hi : ∀ c : Nat, s ≤ c → c < r0 → lexLt mg (gt0 l (n - 1 - c)) (gt0 l c)) :
    (a ≤ s ∧ s ≤ m ∧ m ≤ n - s ∧ n - s ≤ b) ∧ s + (n - s) = mid + m ∧ (∀ i j : Nat, a ≤ i → i < s → n - s ≤ j → j < b → lexLt mg (gt0 l i) (gt0 l j)) ∧ (∀ i j : Nat, s ≤ i → i < m → m ≤ j → j < n - s → lexLt mg (gt0 l j) (gt0 l i)) := by
  have hle : a ≤ s ∧ s ≤ m ∧ m ≤ n - s ∧ n - s ≤ b := by omega
  have weakL : ∀ i j : Nat, a ≤ i → i ≤ j → j < m → i = j ∨ lexLt mg (gt0 l i) (gt0 l j) := fun i j h1 h2 h3 => by
    rcases Nat.lt_or_eq_of_le h2 with q | q
    · exact .inr (h.left i j h1 q h3)
    · exact .inl q
  have weakR : ∀ i j : Nat, m ≤ i → i ≤ j → j < b → i = j ∨ lexLt mg (gt0 l i) (gt0 l j) := fun i j h1 h2 h3 => by
    rcases Nat.lt_or_eq_of_le h2 with q | q
    · exact .inr (h.right i j h1 q h3)
    · exact .inl q
  refine ⟨hle, by omega, fun i j h1 h2 h3 h4 => ?_, fun i j h1 h2 h3 h4 => ?_⟩
  · have k := lo (s - 1) (by omega) (by omega)
    rw [show n - 1 - (s - 1) = n - s by omega] at k
    have k2 : lexLt mg (gt0 l i) (gt0 l (n - s)) := by
      rcases weakL i (s - 1) h1 (by omega) (by omega) with q | q
      · rw [q]; exact k
      · exact lexLt_trans q k
    rcases weakR (n - s) j (by omega) h3 h4 with q | q
    · rw [← q]; exact k2
    · exact lexLt_trans k2 q
  · have k := hi s (Nat.le_refl _) (by omega)
    have k2 : lexLt mg (gt0 l j) (gt0 l s) := by
      rcases weakR j (n - 1 - s) h3 (by omega) (by omega) with q | q
      · rw [q]; exact k
      · exact lexLt_trans q k
    rcases weakL s i (by omega) h1 h2 with q | q
    · rw [← q]; exact k2
    · exact lexLt_trans k2 q

theorem half_sorted {mg : Int → Int} {l : List Int} {a m b : Nat} (h : Half mg l a m b) (hc : ∀ i j : Nat, a ≤ i → i < m → m ≤ j → j < b → lexLt mg (gt0 l i) (gt0 l j)) : DoneS mg l l a b := by
  refine ⟨.refl _, fun _ _ => rfl, fun i h1 h2 => ⟨i, h1, h2, rfl⟩, fun i j h1 h2 h3 => ?_⟩
  by_cases q1 : j < m
  · exact h.left i j h1 h2 q1
  · by_cases q2 : i < m
    · exact hc i j h1 q2 (by omega) h3
    · exact h.right i j (by omega) h2 h3
theorem done_left1 {mg : Int → Int} {l : List Int} {a b i : Nat} (h : Half mg l a (a + 1) b) (hi : a + 1 ≤ i ∧ i ≤ b) (lo : ∀ q : Nat, a + 1 ≤ q → q < i → lexLt mg (gt0 l q) (gt0 l a)) (hi2 : ∀ q : Nat, i ≤ q → q < b → lexLt mg (gt0 l a) (gt0 l q)) : DoneS mg l (rotL l a (a + 1) i) a b := by
  have hs : a ≤ a ∧ a ≤ a + 1 ∧ a + 1 ≤ i ∧ i ≤ b := by omega
  have hmid : a + i = (i - 1) + (a + 1) := by omega
  have hb : a ≤ a + 1 ∧ a + 1 ≤ i ∧ i ≤ l.length := by have := h.le; omega
  obtain ⟨k1, k2, k3⟩ := half_split h hs hmid (fun p j h1 h2 _ _ => by omega) (fun p j h1 h2 h3 h4 => by
    obtain rfl : p = a := by omega
    exact lo j h3 h4)
  refine done_join h hs hmid rfl k3 (half_done k1 (.inl rfl)) (half_sorted k2 fun p j h1 h2 h3 h4 => ?_)
  have g := gt0_rot hb
  rw [g p, if_neg (by omega), if_neg (by omega), if_pos (by omega), g j, if_neg (by omega), if_neg (by omega), if_neg (by omega), show p - (a + (i - (a + 1))) + a = a by omega]
  exact hi2 j h3 h4
theorem done_right1 {mg : Int → Int} {l : List Int} {a m i : Nat} (h : Half mg l a m (m + 1)) (hi : a ≤ i ∧ i ≤ m) (lo : ∀ q : Nat, a ≤ q → q < i → lexLt mg (gt0 l q) (gt0 l m)) (hi2 : ∀ q : Nat, i ≤ q → q < m → lexLt mg (gt0 l m) (gt0 l q)) : DoneS mg l (rotL l i m (m + 1)) a (m + 1) := by
  have hs : a ≤ i ∧ i ≤ m ∧ m ≤ m + 1 ∧ m + 1 ≤ m + 1 := by omega
  have hmid : i + (m + 1) = (i + 1) + m := by omega
  have hb : i ≤ m ∧ m ≤ m + 1 ∧ m + 1 ≤ l.length := by have := h.le; omega
  obtain ⟨k1, k2, k3⟩ := half_split h hs hmid (fun p j h1 h2 h3 h4 => by omega) (fun p j h1 h2 h3 h4 => by
    obtain rfl : j = m := by omega
    exact hi2 p h1 h2)
  refine done_join h hs hmid rfl k3 (half_sorted k1 fun p j h1 h2 h3 h4 => ?_) (half_done k2 (.inr rfl))
  have g := gt0_rot hb
  rw [g p, if_pos (by omega), g j, if_neg (by omega), if_pos (by omega), show j - i + m = m by omega]
  exact lo p h1 h2
/-- An element carried upwards, or downwards, by exchanges of neighbours. -/
def swpN (l : List Int) (i j : Nat) : List Int := (l.set i (gt0 l j)).set j (gt0 l i)
theorem swpN_len (l : List Int) (i j : Nat) : (swpN l i j).length = l.length := by unfold swpN; rw [List.length_set, List.length_set]
theorem swpN_get {l : List Int} {i j : Nat} (h : i < l.length ∧ j < l.length) (k : Nat) : (swpN l i j)[k]? = if k = j then l[i]? else if k = i then l[j]? else l[k]? := by
  unfold swpN gt0
  rw [List.getElem?_set, List.length_set]
  by_cases e1 : j = k
  · rw [if_pos e1, if_pos (by omega), if_pos e1.symm, List.getD_eq_getElem?_getD, List.getElem?_eq_getElem h.1]; rfl
  · rw [if_neg e1, if_neg (Ne.symm e1), List.getElem?_set]
    by_cases e2 : i = k
    · rw [if_pos e2, if_pos (by omega), if_pos e2.symm, List.getD_eq_getElem?_getD, List.getElem?_eq_getElem h.2]; rfl
    · rw [if_neg e2, if_neg (Ne.symm e2)]
theorem rot_up {l : List Int} {a k : Nat} (h : a ≤ k ∧ k + 1 < l.length) : swpN (rotL l a (a + 1) (k + 1)) k (k + 1) = rotL l a (a + 1) (k + 2) := by
  apply List.ext_getElem?
  intro i
  have h1 : a ≤ a + 1 ∧ a + 1 ≤ k + 1 ∧ k + 1 ≤ l.length := by omega
  have h2 : a ≤ a + 1 ∧ a + 1 ≤ k + 2 ∧ k + 2 ≤ l.length := by omega
  rw [swpN_get (by rw [rotL_len h1]; omega), rotL_get h1, rotL_get h1, rotL_get h1, rotL_get h2]
  repeat' split
  all_goals first | rfl | (exfalso; omega) | (congr 1; omega)
theorem rot_down {l : List Int} {m k : Nat} (h : 0 < k ∧ k ≤ m ∧ m < l.length) : swpN (rotL l k m (m + 1)) k (k - 1) = rotL l (k - 1) m (m + 1) := by
  apply List.ext_getElem?
  intro i
  have h1 : k ≤ m ∧ m ≤ m + 1 ∧ m + 1 ≤ l.length := by omega
  have h2 : k - 1 ≤ m ∧ m ≤ m + 1 ∧ m + 1 ≤ l.length := by omega
  rw [swpN_get (by rw [rotL_len h1]; omega), rotL_get h1, rotL_get h1, rotL_get h1, rotL_get h2]
  repeat' split
  all_goals first | rfl | (exfalso; omega) | (congr 1; omega)

theorem done_refl {mg : Int → Int} {l : List Int} {a b : Nat} (h : b ≤ a + 1) : DoneS mg l l a b := ⟨.refl _, fun _ _ => rfl, fun i h1 h2 => ⟨i, h1, h2, rfl⟩, fun i j h1 h2 h3 => by omega⟩
theorem done_trans {mg : Int → Int} {l l1 l2 : List Int} {a i j : Nat} (h1 : DoneS mg l l1 a i) (h2 : DoneS mg l1 l2 a j) (hij : i ≤ j) : DoneS mg l l2 a j := by
  refine ⟨h2.perm.trans h1.perm, fun k hk => by rw [h2.out k hk, h1.out k (by omega)], fun k k1 k2 => ?_, h2.sorted⟩
  obtain ⟨p, p1, p2, p3⟩ := h2.from_ k k1 k2
  by_cases q : p < i
  · obtain ⟨r, r1, r2, r3⟩ := h1.from_ p p1 q
    exact ⟨r, r1, by omega, p3.trans r3⟩
  · exact ⟨p, p1, p2, by rw [p3, h1.out p (by omega)]⟩
/-- The elements from a to before b ascend, as integers. -/
def ascL (l : List Int) (a b : Nat) : Prop := ∀ p q : Nat, a ≤ p → p < q → q < b → gt0 l p < gt0 l q
theorem ins_half {mg : Int → Int} {l li : List Int} {a i : Nat} (h : DoneS mg l li a i) (ha : ascL l a (i + 1)) (hi : a ≤ i ∧ i < l.length) : Half mg li a i (i + 1) := by
  refine ⟨by rw [h.len]; omega, h.sorted, fun p q h1 h2 h3 => by omega, fun p q h1 h2 h3 h4 => ?_⟩
  obtain rfl : q = i := by omega
  obtain ⟨r, r1, r2, r3⟩ := h.from_ p h1 h2
  rw [r3, h.out q (.inr (Nat.le_refl _))]
  exact ha r q r1 r2 (by omega)
theorem blocks_half {mg : Int → Int} {l l1 l2 : List Int} {k n : Nat} (ha : ascL l 0 n) (hk : k ≤ n ∧ n ≤ l.length) (h1 : DoneS mg l l1 0 k) (h2 : DoneS mg l1 l2 k n) : Half mg l2 0 k n := by
  have e1 := h1.len
  have e2 := h2.len
  refine ⟨by omega, fun i j i1 i2 i3 => ?_, h2.sorted, fun i j i1 i2 i3 i4 => ?_⟩
  · rw [h2.out i (by omega), h2.out j (by omega)]
    exact h1.sorted i j i1 i2 i3
  · obtain ⟨p, p1, p2, p3⟩ := h1.from_ i i1 i2
    obtain ⟨q, q1, q2, q3⟩ := h2.from_ j i3 i4
    rw [h2.out i (by omega), p3, q3, h1.out q (.inr q1)]
    exact ha p q p1 (by omega) q2
theorem blocks_done {mg : Int → Int} {l l1 l2 l3 : List Int} {k n : Nat} (hk : k ≤ n) (h1 : DoneS mg l l1 0 k) (h2 : DoneS mg l1 l2 k n) (h3 : DoneS mg l2 l3 0 n) : DoneS mg l l3 0 n := by
  refine ⟨(h3.perm.trans h2.perm).trans h1.perm, fun i hi => by rw [h3.out i hi, h2.out i (by omega), h1.out i (by omega)], fun i i1 i2 => ?_, h3.sorted⟩
  obtain ⟨p, p1, p2, p3⟩ := h3.from_ i i1 i2
  by_cases q : p < k
  · obtain ⟨r, r1, r2, r3⟩ := h1.from_ p (Nat.zero_le _) q
    exact ⟨r, r1, by omega, by rw [p3, h2.out p (by omega), r3]⟩
  · obtain ⟨r, r1, r2, r3⟩ := h2.from_ p (by omega) p2
    exact ⟨r, Nat.zero_le _, r2, by rw [p3, r3, h1.out r (.inr r1)]⟩
end Go.Proofs.YtaglecidaedjfaaDoor
