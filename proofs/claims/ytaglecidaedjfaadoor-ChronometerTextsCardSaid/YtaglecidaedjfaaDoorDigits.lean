/- Lists of digits to the base 2^28: what the reference's loops compute, and that it is arithmetic. -/
set_option linter.unusedVariables false
namespace Go.Proofs.YtaglecidaedjfaaDoor

/-- Digits of a natural number, the least one first. -/
def digs : Nat → Nat → List Int
  | 0, _ => []
  | f + 1, n => if n = 0 then [] else ((n % 268435456 : Nat) : Int) :: digs f (n / 268435456)
def D (n : Nat) : List Int := digs n n
theorem digs_fuel : ∀ (f g n : Nat), n ≤ f → n ≤ g → digs f n = digs g n
  | 0, g, n, h, _ => by
    have : n = 0 := by omega
    subst this
    cases g <;> simp [digs]
  | f + 1, 0, n, _, h => by
    have : n = 0 := by omega
    subst this
    simp [digs]
  | f + 1, g + 1, n, h1, h2 => by
    simp only [digs]
    split
    · rfl
    · rw [digs_fuel f g (n / 268435456) (by omega) (by omega)]
theorem D_zero : D 0 = [] := rfl
theorem D_pos {n : Nat} (h : 0 < n) : D n = ((n % 268435456 : Nat) : Int) :: D (n / 268435456) := by
  obtain ⟨m, rfl⟩ : ∃ m, n = m + 1 := ⟨n - 1, by omega⟩
  unfold D
  rw [digs, if_neg (by omega), digs_fuel m ((m + 1) / 268435456) _ (by omega) (by omega)]
/-- Digits. -/
def Dig (l : List Int) : Prop := ∀ a ∈ l, 0 ≤ a ∧ a < 268435456
theorem Dig.nil : Dig [] := fun _ h => by cases h
theorem Dig.cons {a : Int} {l : List Int} (h0 : 0 ≤ a) (h1 : a < 268435456) (h : Dig l) : Dig (a :: l) := fun b hb => by
  rcases List.mem_cons.1 hb with rfl | hb
  · exact ⟨h0, h1⟩
  · exact h b hb
theorem Dig.app {l l' : List Int} (h : Dig l) (h' : Dig l') : Dig (l ++ l') := fun b hb => (List.mem_append.1 hb).elim (h b) (h' b)
theorem D_dig (n : Nat) : Dig (D n) := by
  induction n using Nat.strongRecOn with
  | _ n ih =>
    rcases Nat.eq_zero_or_pos n with rfl | h
    · exact Dig.nil
    · rw [D_pos h]
      exact Dig.cons (by omega) (by omega) (ih _ (by omega))
/-- The value of digits. -/
def dv : List Int → Int
  | [] => 0
  | a :: r => a + 268435456 * dv r
theorem dv_nonneg : ∀ {l : List Int}, Dig l → 0 ≤ dv l
  | [], _ => Int.le_refl _
  | a :: r, h => by
    have h1 := h a List.mem_cons_self
    have h2 := dv_nonneg fun b hb => h b (List.mem_cons_of_mem _ hb)
    simp only [dv]; omega
theorem dv_D (n : Nat) : dv (D n) = n := by
  induction n using Nat.strongRecOn with
  | _ n ih =>
    rcases Nat.eq_zero_or_pos n with rfl | h
    · rfl
    · rw [D_pos h, dv, ih _ (by omega)]; omega
/-- Without the zeros at the end. -/
def trim : List Int → List Int
  | [] => []
  | a :: r => match trim r with
    | [] => if a = 0 then [] else [a]
    | b :: q => a :: b :: q
theorem trim_snoc0 : ∀ (l : List Int), trim (l ++ [0]) = trim l
  | [] => by simp [trim]
  | a :: r => by simp only [List.cons_append, trim, trim_snoc0 r]
theorem trim_snoc : ∀ (l : List Int) {a : Int}, a ≠ 0 → trim (l ++ [a]) = l ++ [a]
  | [], a, h => by simp [trim, h]
  | b :: r, a, h => by
    have := trim_snoc r h
    simp only [List.cons_append, trim, this]
    cases r <;> rfl
/-- Trimmed digits are those of their value. -/
theorem trim_D : ∀ {l : List Int} {n : Nat}, Dig l → dv l = n → trim l = D n
  | [], n, _, h => by
    have : n = 0 := by simp [dv] at h; omega
    subst this; rfl
  | a :: r, n, hd, h => by
    have h1 := hd a List.mem_cons_self
    have hr : Dig r := fun b hb => hd b (List.mem_cons_of_mem _ hb)
    have h2 := dv_nonneg hr
    simp only [dv] at h
    have ih := trim_D (l := r) (n := (dv r).toNat) hr (by omega)
    have e1 : n / 268435456 = (dv r).toNat := by omega
    have e2 : ((n % 268435456 : Nat) : Int) = a := by omega
    rcases Nat.eq_zero_or_pos n with h0 | h0
    · have e3 : (dv r).toNat = 0 := by omega
      rw [e3] at ih
      have ea : a = 0 := by omega
      simp only [trim, ih, D_zero, h0, ea, if_true]
    · rw [D_pos h0, e1, e2, ← ih]
      simp only [trim]
      cases hq : trim r with
      | nil =>
        simp only
        rw [hq] at ih
        have : dv r = 0 := by
          have := dv_D (dv r).toNat
          rw [← ih] at this
          simp [dv] at this
          omega
        rw [if_neg (by omega)]
      | cons b q => rfl
theorem trim_trimmed (n : Nat) : trim (D n) = D n := trim_D (D_dig n) (dv_D n)
theorem Dig.eq_D {l : List Int} (h : Dig l) (ht : trim l = l) : l = D (dv l).toNat := by
  have h2 := dv_nonneg h
  rw [← trim_D (l := l) h (by omega), ht]

/-- The sum, digit by digit. -/
def addL (a b : List Int) (c : Int) : List Int := match a, b with
  | [], [] => if 0 < c then [c] else []
  | x :: r, [] => (c + x) % 268435456 :: addL r [] ((c + x) / 268435456)
  | [], y :: q => (c + y) % 268435456 :: addL [] q ((c + y) / 268435456)
  | x :: r, y :: q => (c + x + y) % 268435456 :: addL r q ((c + x + y) / 268435456)
theorem addL_D (a b : Nat) (c : Nat) (hc : c ≤ 1) : addL (D a) (D b) c = D (a + b + c) := by
  induction h : a + b using Nat.strongRecOn generalizing a b c with
  | _ n ih =>
    subst h
    rcases Nat.eq_zero_or_pos a with rfl | ha
    · rcases Nat.eq_zero_or_pos b with rfl | hb
      · rw [D_zero, addL]
        rcases Nat.eq_zero_or_pos c with rfl | h0
        · rfl
        · have : c = 1 := by omega
          subst this; rfl
      · rw [D_zero, D_pos hb, addL, D_pos (n := 0 + b + c) (by omega)]
        have e : ((c : Int) + ((b % 268435456 : Nat) : Int)) / 268435456 = (((c + b % 268435456) / 268435456 : Nat) : Int) := by omega
        have := ih (b / 268435456) (by omega) 0 (b / 268435456) ((c + b % 268435456) / 268435456) (by omega) (by omega)
        rw [D_zero] at this
        rw [e, this]
        congr 1
        · omega
        · congr 1; omega
    · rcases Nat.eq_zero_or_pos b with rfl | hb
      · rw [D_zero, D_pos ha, addL, D_pos (n := a + 0 + c) (by omega)]
        have e : ((c : Int) + ((a % 268435456 : Nat) : Int)) / 268435456 = (((c + a % 268435456) / 268435456 : Nat) : Int) := by omega
        have := ih (a / 268435456) (by omega) (a / 268435456) 0 ((c + a % 268435456) / 268435456) (by omega) (by omega)
        rw [D_zero] at this
        rw [e, this]
        congr 1
        · omega
        · congr 1; omega
      · rw [D_pos ha, D_pos hb, addL, D_pos (n := a + b + c) (by omega)]
        have e : ((c : Int) + ((a % 268435456 : Nat) : Int) + ((b % 268435456 : Nat) : Int)) / 268435456 = (((c + a % 268435456 + b % 268435456) / 268435456 : Nat) : Int) := by omega
        have := ih (a / 268435456 + b / 268435456) (by omega) (a / 268435456) (b / 268435456) ((c + a % 268435456 + b % 268435456) / 268435456) (by omega) rfl
        rw [e, this]
        congr 1
        · omega
        · congr 1; omega
/-- The difference, digit by digit. -/
def subL : List Int → List Int → Int → List Int
  | [], _, _ => []
  | x :: r, [], c => (if x - c < 0 then x - c + 268435456 else x - c) :: subL r [] (if x - c < 0 then 1 else 0)
  | x :: r, y :: q, c => (if x - c - y < 0 then x - c - y + 268435456 else x - c - y) :: subL r q (if x - c - y < 0 then 1 else 0)
theorem subL_dig : ∀ {a b : List Int} {c : Int}, Dig a → Dig b → 0 ≤ c → c ≤ 1 → Dig (subL a b c)
  | [], _, _, _, _, _, _ => by simp [subL, Dig]
  | x :: r, [], c, ha, hb, h0, h1 => by
    have hx := ha x List.mem_cons_self
    have ih := subL_dig (a := r) (b := []) (c := if x - c < 0 then 1 else 0) (fun b hb => ha b (List.mem_cons_of_mem _ hb)) hb (by split <;> omega) (by split <;> omega)
    rw [subL]
    exact Dig.cons (by split <;> omega) (by split <;> omega) ih
  | x :: r, y :: q, c, ha, hb, h0, h1 => by
    have hx := ha x List.mem_cons_self
    have hy := hb y List.mem_cons_self
    have ih := subL_dig (a := r) (b := q) (c := if x - c - y < 0 then 1 else 0) (fun b hb => ha b (List.mem_cons_of_mem _ hb)) (fun b h => hb b (List.mem_cons_of_mem _ h)) (by split <;> omega) (by split <;> omega)
    rw [subL]
    exact Dig.cons (by split <;> omega) (by split <;> omega) ih
/-- B^l. -/
def bp (l : List Int) : Int := match l with
  | [] => 1
  | _ :: r => 268435456 * bp r
theorem bp_pos : ∀ l, 0 < bp l
  | [] => by simp [bp]
  | _ :: r => by have := bp_pos r; simp only [bp]; omega
/-- The value of the difference: a - b - c, up to a borrow at the end. -/
theorem dv_subL : ∀ {a b : List Int} {c : Int}, Dig a → Dig b → 0 ≤ c → c ≤ 1 → b.length ≤ a.length → dv (subL a b c) = dv a - dv b - c ∨ dv (subL a b c) = dv a - dv b - c + bp a
  | [], b, c, _, _, _, _, hl => by
    have : b = [] := List.eq_nil_of_length_eq_zero (by simpa using hl)
    subst this
    simp only [subL, dv, bp]; omega
  | x :: r, [], c, ha, hb, h0, h1, hl => by
    have ih := dv_subL (a := r) (b := []) (c := if x - c < 0 then 1 else 0) (fun b hb => ha b (List.mem_cons_of_mem _ hb)) hb (by split <;> omega) (by split <;> omega) (by simp)
    simp only [subL, dv, bp] at ih ⊢
    split at ih <;> rcases ih with ih | ih <;> split <;> omega
  | x :: r, y :: q, c, ha, hb, h0, h1, hl => by
    have ih := dv_subL (a := r) (b := q) (c := if x - c - y < 0 then 1 else 0) (fun b hb => ha b (List.mem_cons_of_mem _ hb)) (fun b h => hb b (List.mem_cons_of_mem _ h)) (by split <;> omega) (by split <;> omega) (by simpa using hl)
    simp only [subL, dv, bp] at ih ⊢
    split at ih <;> rcases ih with ih | ih <;> split <;> omega
theorem dv_lt_bp : ∀ {l : List Int}, Dig l → dv l < bp l
  | [], _ => by simp [dv, bp]
  | x :: r, h => by
    have h1 := h x List.mem_cons_self
    have ih := dv_lt_bp (l := r) fun b hb => h b (List.mem_cons_of_mem _ hb)
    simp only [dv, bp]; omega
theorem D_len_le {a b : Nat} (h : a ≤ b) : (D a).length ≤ (D b).length := by
  induction b using Nat.strongRecOn generalizing a with
  | _ b ih =>
    rcases Nat.eq_zero_or_pos a with rfl | ha
    · simp [D_zero]
    · rw [D_pos ha, D_pos (n := b) (by omega), List.length_cons, List.length_cons]
      have := ih (b / 268435456) (by omega) (a := a / 268435456) (by omega)
      omega
theorem subL_D {a b : Nat} (h : b ≤ a) : trim (subL (D a) (D b) 0) = D (a - b) := by
  have hd := subL_dig (c := 0) (D_dig a) (D_dig b) (by omega) (by omega)
  refine trim_D hd ?_
  have h1 := dv_nonneg hd
  have h2 := dv_subL (c := 0) (D_dig a) (D_dig b) (by omega) (by omega) (D_len_le h)
  have h3 := dv_lt_bp hd
  have hb : ∀ (x y : List Int) (c : Int), bp (subL x y c) = bp x := by
    intro x
    induction x with
    | nil => intro y c; simp [subL, bp]
    | cons u r ih => intro y c; cases y <;> simp only [subL, bp, ih]
  rw [hb] at h3
  rw [dv_D, dv_D] at h2
  omega
/-- Equal above a place, less there: less. -/
theorem dv_lt : ∀ {a b : List Int} (i : Nat) {x y : Int}, Dig a → Dig b → a.length = b.length → a[i]? = some x → b[i]? = some y → x < y → a.drop (i + 1) = b.drop (i + 1) → dv a < dv b
  | [], _, i, x, y, _, _, _, h, _, _, _ => by simp at h
  | u :: r, [], i, x, y, _, _, hl, _, _, _, _ => by simp at hl
  | u :: r, w :: q, 0, x, y, ha, hb, hl, h1, h2, hlt, he => by
    simp only [List.getElem?_cons_zero, Option.some.injEq] at h1 h2
    subst h1; subst h2
    simp only [Nat.zero_add, List.drop_succ_cons, List.drop_zero] at he
    subst he
    simp only [dv]; omega
  | u :: r, w :: q, i + 1, x, y, ha, hb, hl, h1, h2, hlt, he => by
    have hu := ha u List.mem_cons_self
    have hw := hb w List.mem_cons_self
    have ih := dv_lt (a := r) (b := q) i (fun b hb => ha b (List.mem_cons_of_mem _ hb)) (fun b h => hb b (List.mem_cons_of_mem _ h)) (by simpa using hl) (by simpa using h1) (by simpa using h2) hlt (by simpa using he)
    simp only [dv]; omega
theorem D_len_lt {a b : Nat} (h : (D a).length < (D b).length) : a < b := by
  rcases Nat.lt_or_ge a b with h1 | h1
  · exact h1
  · have := D_len_le h1; omega
theorem D_inj {a b : Nat} (h : D a = D b) : a = b := by
  have h1 := dv_D a
  have h2 := dv_D b
  rw [h] at h1
  omega
theorem D_len {n k : Nat} (h : n < 268435456 ^ k) : (D n).length ≤ k := by
  induction k generalizing n with
  | zero => simp at h; subst h; simp [D_zero]
  | succ k ih =>
    rcases Nat.eq_zero_or_pos n with rfl | h0
    · simp [D_zero]
    · rw [D_pos h0, List.length_cons]
      have := ih (n := n / 268435456) (Nat.div_lt_of_lt_mul (by rwa [Nat.pow_succ, Nat.mul_comm] at h))
      omega
end Go.Proofs.YtaglecidaedjfaaDoor
