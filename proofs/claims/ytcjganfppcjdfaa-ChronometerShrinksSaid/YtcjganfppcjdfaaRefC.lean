/- The reference's numbers: with a sign. -/
import Derived.Test.YtcjganfppcjdfaaRefB
set_option linter.unusedVariables false
set_option maxHeartbeats 4000000
namespace Go.Proofs.Ytcjganfppcjdfaa
open Go.RowKit

/-- Numbers of at most 280 bits. -/
def Sz (z : Int) : Prop := z.natAbs < 1942668892225729070919461906823518906642406839052139521251812409738904285205208498176
theorem Sz.len {z : Int} (h : Sz z) : (D z.natAbs).length ≤ 10 := D_len (k := 10) h
theorem Sz.small {z : Int} (h : -340282366920938463463374607431768211456 ≤ z ∧ z ≤ 340282366920938463463374607431768211456) : Sz z := by unfold Sz; omega
theorem D_empty (n : Nat) : (D n).isEmpty = decide (n = 0) := by
  rcases Nat.eq_zero_or_pos n with rfl | h
  · rfl
  · rw [D_pos h]; simp; omega
theorem D_len0 {n : Nat} : (D n).length = 0 ↔ n = 0 := by
  rcases Nat.eq_zero_or_pos n with rfl | h
  · simp [D_zero]
  · rw [D_pos h]; simp; omega
abbrev nb (z : Int) : Bool := decide (z < 0)
/-- A number's value: its digits' slice, its sign. -/
abbrev numV (s : Sl) (b : Bool) : Value := .agg [s.v, .bool b].toArray
theorem sign_c {A : Option Addr} {m c : Nat} {b : Bool} {l : List Int} : ContR Try.prog [Hl.rd (.slice A m c) cI 1 l] 61 [.agg [.slice A m c, .bool b].toArray] (.agg [.slice A m c, .bool (b && !l.isEmpty)].toArray) := fun w hw0 => by
  refine enter Try.func61 rfl rfl rfl hw0 ?_
  repeat' (first
    | (refine nxV ?_)
    | (show RS _ _ _ _ _ _ _ _; first | (refine nxRS ?_) | (refine nxRS1 fun _ => ?_))
    | (show RM _ _ _ _ _ _ _ _ _ _; first | (refine nxRM ?_) | (refine nxRM1 fun _ => ?_))
    | (refine nxG ?_)
    | (refine nxX ?_)
    | (refine G.condN rfl (fun hc => ?_) (fun hc => ?_) <;> (try first | exact False.elim hc | (exfalso; omega))))
  · have : l = [] := List.eq_nil_of_length_eq_zero (by omega)
    subst this
    exact X.ret (vs := [_]) rfl ⟨⟨_, _, _, _, rfl, (by exact memA), (by (repeat (first | exact .nil | apply LenIs.cons))), by decide +kernel, rfl⟩, rfl⟩ rfl (fun w hw => ⟨by simp, hw.ext⟩)
  · have : l.isEmpty = false := by cases l <;> simp at hc ⊢
    exact X.ret (vs := [_]) rfl ⟨⟨_, _, _, _, rfl, (by exact memA), (by (repeat (first | exact .nil | apply LenIs.cons))), by decide +kernel, rfl⟩, rfl⟩ rfl (fun w hw => ⟨by simp [this], hw.ext⟩)
theorem minus_c {A : Option Addr} {m c : Nat} {z : Int} : ContR Try.prog [Hl.rd (.slice A m c) cI 1 (D z.natAbs)] 57 [.agg [.slice A m c, .bool (nb z)].toArray] (.agg [.slice A m c, .bool (nb (-z))].toArray) := fun w hw0 => by
  refine enter Try.func57 rfl rfl rfl hw0 ?_
  repeat' (first
    | (show YK _ _ _ _ _ _ _; first | refine YK.mk (y_callRA (sign_c) ⟨rfl, rfl⟩) ?_)
    | (show YK _ _ _ _ _ _ _; refine YK.ofV vAuto ?_)
    | (show VK _ _ _ _ _ _ _; refine VK.mk vAuto ?_)
    | (show RS _ _ _ _ _ _ _ _; first | (refine nxRS ?_) | (refine nxRS1 fun _ => ?_))
    | (show RM _ _ _ _ _ _ _ _ _ _; first | (refine nxRM ?_) | (refine nxRM1 fun _ => ?_))
    | (show YG _ _ _ _ _ _ _ _; refine YG.mk (fun hb => by (try (have hc := And.left hb; have hb := And.right hb; rw [hc])); (try rw [hb]); first | exact (y_callRA (sign_c) ⟨rfl, rfl⟩) | exact V.y vAuto) ?_)
    | (show VG _ _ _ _ _ _ _ _; refine VG.mk (fun hb => by (try (have hc := And.left hb; have hb := And.right hb; rw [hc])); (try rw [hb]); exact vAuto) ?_)
    | (refine nxX ?_)
    | (refine G.condN rfl (fun hc => ?_) (fun hc => ?_) <;> (try first | exact False.elim hc | (exfalso; omega))))
  have e : (!nb z && !(D z.natAbs).isEmpty) = nb (-z) := by rw [D_empty]; simp only [nb]; rw [Bool.eq_iff_iff]; simp; omega
  exact X.ret (vs := [_]) rfl ⟨⟨_, _, _, _, rfl, (by exact memA), (by (repeat (first | exact .nil | apply LenIs.cons))), by decide +kernel, rfl⟩, rfl⟩ rfl (fun w hw => ⟨by rw [e], hw.ext⟩)
theorem nb_mul (a b : Int) : (!(nb a == nb b) && !decide (a.natAbs * b.natAbs = 0)) = nb (a * b) := by
  simp only [nb]
  rcases Int.lt_trichotomy a 0 with ha | ha | ha <;> rcases Int.lt_trichotomy b 0 with hb | hb | hb
  · have := Int.mul_pos_of_neg_of_neg ha hb
    rw [decide_eq_true ha, decide_eq_true hb, decide_eq_false (show ¬ a * b < 0 by omega)]; rfl
  · subst hb; simp
  · have := Int.mul_neg_of_neg_of_pos ha hb
    have h0 : a.natAbs * b.natAbs ≠ 0 := Nat.mul_ne_zero (by omega) (by omega)
    rw [decide_eq_true ha, decide_eq_false (show ¬ b < 0 by omega), decide_eq_true this, decide_eq_false h0]; rfl
  · subst ha; simp
  · subst ha; simp
  · subst ha; simp
  · have := Int.mul_neg_of_pos_of_neg ha hb
    have h0 : a.natAbs * b.natAbs ≠ 0 := Nat.mul_ne_zero (by omega) (by omega)
    rw [decide_eq_false (show ¬ a < 0 by omega), decide_eq_true hb, decide_eq_true this, decide_eq_false h0]; rfl
  · subst hb; simp
  · have := Int.mul_pos ha hb
    rw [decide_eq_false (show ¬ a < 0 by omega), decide_eq_false (show ¬ b < 0 by omega), decide_eq_false (show ¬ a * b < 0 by omega)]; rfl
theorem ordI_ge {a b : Nat} (h : 0 ≤ ordI a b) : b ≤ a := by
  unfold ordI at h
  split at h <;> omega
theorem ordI_lt {a b : Nat} (h : ordI a b < 0) : a ≤ b := by
  unfold ordI at h
  split at h <;> (try split at h) <;> omega
theorem mul_c {A A' : Option Addr} {m c m' c' : Nat} {a b : Int} (h : Sz a ∧ Sz b) : ContX Try.prog [Hl.rd (.slice A m c) cI 1 (D a.natAbs), Hl.rd (.slice A' m' c') cI 1 (D b.natAbs)] 50 [.agg [.slice A m c, .bool (nb a)].toArray, .agg [.slice A' m' c', .bool (nb b)].toArray] (fun _ : Sl => True) (fun s => numV s (nb (a * b))) (fun s => [Hl.nw s.v cI 1 (D (a * b).natAbs)]) := fun w hw0 => by
  have hla := h.1.len
  have hlb := h.2.len
  refine enter Try.func50 rfl rfl rfl hw0 ?_
  repeat' (first
    | (show YK _ _ _ _ _ _ _; first | refine YK.mk (y_callRA (sign_c) ⟨rfl, rfl⟩) ?_)
    | (show YK _ _ _ _ _ _ _; refine YK.ofV vAuto ?_)
    | (show VK _ _ _ _ _ _ _; refine VK.mk vAuto ?_)
    | (show RS _ _ _ _ _ _ _ _; first | (refine RS.callX (times_c _ _ a.natAbs b.natAbs (by omega) (by omega)) ⟨rfl, rfl, rfl⟩ ?_; rintro s _) | (refine RS.callXG (fun _ : True => times_c _ _ a.natAbs b.natAbs (by omega) (by omega)) ⟨rfl, rfl, rfl⟩ ?_; rintro s _) | (refine nxRS ?_) | (refine nxRS1 fun _ => ?_))
    | (show RM _ _ _ _ _ _ _ _ _ _; first | (refine RM.callX (times_c _ _ a.natAbs b.natAbs (by omega) (by omega)) ?_; rintro s _) | (refine RM.callXG (fun _ : True => times_c _ _ a.natAbs b.natAbs (by omega) (by omega)) ?_; rintro s _) | (refine nxRM ?_) | (refine nxRM1 fun _ => ?_))
    | (show YG _ _ _ _ _ _ _ _; refine YG.mk (fun hb => by (try (have hc := And.left hb; have hb := And.right hb; rw [hc])); (try rw [hb]); first | exact (y_callRA (sign_c) ⟨rfl, rfl⟩) | exact V.y vAuto) ?_)
    | (show VG _ _ _ _ _ _ _ _; refine VG.mk (fun hb => by (try (have hc := And.left hb; have hb := And.right hb; rw [hc])); (try rw [hb]); exact vAuto) ?_)
    | (refine G.mixedA 1 [.go 0, .go 1, .go 2, .go 3, .go 5, .go 6, .go 7, .go 8, .go 9, .go 4, .go 10, .go 11, .go 12] ?_)
    | (refine nxX ?_)
    | (refine G.condN rfl (fun hc => ?_) (fun hc => ?_) <;> (try first | exact False.elim hc | (exfalso; omega))))
  have e : (!(nb a == nb b) && !(D (a.natAbs * b.natAbs)).isEmpty) = nb (a * b) := by rw [D_empty]; exact nb_mul a b
  refine X.retN (vs := [_]) s rfl ⟨⟨_, _, _, _, rfl, (by exact memA), (by (repeat (first | exact .nil | apply LenIs.cons))), by decide +kernel, rfl⟩, rfl⟩ rfl trivial (by rw [e]) ?_
  rw [Int.natAbs_mul]
  exact NewIn.nw (by exact memA) NewIn.nil
theorem plus_c {A A' : Option Addr} {m c m' c' : Nat} {a b : Int} (h : Sz a ∧ Sz b) : ContX Try.prog [Hl.rd (.slice A m c) cI 1 (D a.natAbs), Hl.rd (.slice A' m' c') cI 1 (D b.natAbs)] 56 [.agg [.slice A m c, .bool (nb a)].toArray, .agg [.slice A' m' c', .bool (nb b)].toArray] (fun _ : Sl => True) (fun s => numV s (nb (a + b))) (fun s => [Hl.nw s.v cI 1 (D (a + b).natAbs)]) := fun w hw0 => by
  have hla := h.1.len
  have hlb := h.2.len
  refine enter Try.func56 rfl rfl rfl hw0 ?_
  repeat' (first
    | (show YK _ _ _ _ _ _ _; first | refine YK.mk (y_callRA (sign_c) ⟨rfl, rfl⟩) ?_ | refine YK.mk (y_callRA (order_c _ _ a.natAbs b.natAbs (by omega) (by omega)) ⟨rfl, rfl, rfl⟩) ?_)
    | (show YK _ _ _ _ _ _ _; refine YK.ofV vAuto ?_)
    | (show VK _ _ _ _ _ _ _; refine VK.mk vAuto ?_)
    | (show RS _ _ _ _ _ _ _ _; first | (refine RS.callX (less_c _ _ b.natAbs a.natAbs (by omega) (ordI_lt (by omega))) ⟨rfl, rfl, rfl⟩ ?_; rintro s _) | (refine RS.callXG (fun _ : True => less_c _ _ b.natAbs a.natAbs (by omega) (ordI_lt (by omega))) ⟨rfl, rfl, rfl⟩ ?_; rintro s _) | (refine RS.callX (less_c _ _ a.natAbs b.natAbs (by omega) (ordI_ge (by omega))) ⟨rfl, rfl, rfl⟩ ?_; rintro s _) | (refine RS.callXG (fun _ : True => less_c _ _ a.natAbs b.natAbs (by omega) (ordI_ge (by omega))) ⟨rfl, rfl, rfl⟩ ?_; rintro s _) | (refine RS.callX (sum_c _ _ a.natAbs b.natAbs (by omega) (by omega)) ⟨rfl, rfl, rfl⟩ ?_; rintro s _) | (refine RS.callXG (fun _ : True => sum_c _ _ a.natAbs b.natAbs (by omega) (by omega)) ⟨rfl, rfl, rfl⟩ ?_; rintro s _) | (refine nxRS ?_) | (refine nxRS1 fun _ => ?_))
    | (show RM _ _ _ _ _ _ _ _ _ _; first | (refine RM.callX (less_c _ _ b.natAbs a.natAbs (by omega) (ordI_lt (by omega))) ?_; rintro s _) | (refine RM.callXG (fun _ : True => less_c _ _ b.natAbs a.natAbs (by omega) (ordI_lt (by omega))) ?_; rintro s _) | (refine RM.callX (less_c _ _ a.natAbs b.natAbs (by omega) (ordI_ge (by omega))) ?_; rintro s _) | (refine RM.callXG (fun _ : True => less_c _ _ a.natAbs b.natAbs (by omega) (ordI_ge (by omega))) ?_; rintro s _) | (refine RM.callX (sum_c _ _ a.natAbs b.natAbs (by omega) (by omega)) ?_; rintro s _) | (refine RM.callXG (fun _ : True => sum_c _ _ a.natAbs b.natAbs (by omega) (by omega)) ?_; rintro s _) | (refine nxRM ?_) | (refine nxRM1 fun _ => ?_))
    | (show YG _ _ _ _ _ _ _ _; refine YG.mk (fun hb => by (try (have hc := And.left hb; have hb := And.right hb; rw [hc])); (try rw [hb]); first | exact (y_callRA (sign_c) ⟨rfl, rfl⟩) | exact (y_callRA (order_c _ _ a.natAbs b.natAbs (by omega) (by omega)) ⟨rfl, rfl, rfl⟩) | exact V.y vAuto) ?_)
    | (show VG _ _ _ _ _ _ _ _; refine VG.mk (fun hb => by (try (have hc := And.left hb; have hb := And.right hb; rw [hc])); (try rw [hb]); exact vAuto) ?_)
    | (refine G.mixedA 2 [.go 0, .go 1, .go 2, .go 3, .go 5, .go 6, .go 4, .go 7, .go 8] ?_)
    | (refine G.mixedA 4 [.go 0, .go 1, .go 2, .go 3, .go 5, .go 6, .go 4, .go 7, .go 8, .go 9] ?_)
    | (refine G.mixedA 5 [.go 0, .go 1, .go 2, .go 3, .go 5, .go 6, .go 4, .go 7, .go 8, .go 9] ?_)
    | (refine nxX ?_)
    | (refine G.condN rfl (fun hc => ?_) (fun hc => ?_) <;> (try first | exact False.elim hc | (exfalso; omega))))
  · have e0 : nb a = nb b := by simpa using hc
    have e1 : (a < 0) ↔ (b < 0) := by simpa [nb] using e0
    have e : nb a = nb (a + b) := by simp only [nb]; rw [decide_eq_decide]; omega
    refine X.retN (vs := [_]) s rfl ⟨⟨_, _, _, _, rfl, (by exact memA), (by (repeat (first | exact .nil | apply LenIs.cons))), by decide +kernel, rfl⟩, rfl⟩ rfl trivial (by rw [← e]) ?_
    rw [show (a + b).natAbs = a.natAbs + b.natAbs by omega]
    exact NewIn.nw (by exact memA) NewIn.nil
  · rename_i h2 _
    have h1 := ordI_ge hc
    have e1 : ¬ ((a < 0) ↔ (b < 0)) := by simpa [nb] using h2
    have e : (nb a && !(D (a.natAbs - b.natAbs)).isEmpty) = nb (a + b) := by rw [D_empty]; simp only [nb]; rw [Bool.eq_iff_iff]; simp; omega
    refine X.retN (vs := [_]) s rfl ⟨⟨_, _, _, _, rfl, (by exact memA), (by (repeat (first | exact .nil | apply LenIs.cons))), by decide +kernel, rfl⟩, rfl⟩ rfl trivial (by rw [e]) ?_
    rw [show (a + b).natAbs = a.natAbs - b.natAbs by omega]
    exact NewIn.nw (by exact memA) NewIn.nil
  · rename_i h2 _
    have h1 := ordI_lt hc
    have e1 : ¬ ((a < 0) ↔ (b < 0)) := by simpa [nb] using h2
    have e : (nb b && !(D (b.natAbs - a.natAbs)).isEmpty) = nb (a + b) := by rw [D_empty]; simp only [nb]; rw [Bool.eq_iff_iff]; simp; omega
    refine X.retN (vs := [_]) s rfl ⟨⟨_, _, _, _, rfl, (by exact memA), (by (repeat (first | exact .nil | apply LenIs.cons))), by decide +kernel, rfl⟩, rfl⟩ rfl trivial (by rw [e]) ?_
    rw [show (a + b).natAbs = b.natAbs - a.natAbs by omega]
    exact NewIn.nw (by exact memA) NewIn.nil
def cmpI (a b : Int) : Int := if a < b then -1 else if b < a then 1 else 0
theorem Sz.neg {z : Int} (h : Sz z) : Sz (-z) := by unfold Sz at *; omega
theorem compare_c {A A' : Option Addr} {m c m' c' : Nat} {a b : Int} (h : Sz a ∧ Sz b) : ContR Try.prog [Hl.rd (.slice A m c) cI 1 (D a.natAbs), Hl.rd (.slice A' m' c') cI 1 (D b.natAbs)] 37 [.agg [.slice A m c, .bool (nb a)].toArray, .agg [.slice A' m' c', .bool (nb b)].toArray] (.int .i64 (cmpI a b)) := fun w hw0 => by
  have ha := h.1
  have hb' := h.2.neg
  refine enter Try.func37 rfl rfl rfl hw0 ?_
  repeat' (first
    | (show YK _ _ _ _ _ _ _; first | refine YK.mk (y_callRA (minus_c) ⟨rfl, rfl⟩) ?_)
    | (show YK _ _ _ _ _ _ _; refine YK.ofV vAuto ?_)
    | (show VK _ _ _ _ _ _ _; refine VK.mk vAuto ?_)
    | (show RS _ _ _ _ _ _ _ _; first | (refine RS.callP plus_c ⟨rfl, rfl, rfl⟩ ?_; rintro s _) | (refine RS.callXG plus_c ⟨rfl, rfl, rfl⟩ ?_; rintro s _) | (refine nxRS ?_) | (refine nxRS1 fun _ => ?_))
    | (show RM _ _ _ _ _ _ _ _ _ _; first | (refine RM.callP plus_c ?_; rintro s _) | (refine RM.callXG plus_c ?_; rintro s _) | (refine nxRM ?_) | (refine nxRM1 fun _ => ?_))
    | (show YG _ _ _ _ _ _ _ _; refine YG.mk (fun hb => by (try (have hc := And.left hb; have hb := And.right hb; rw [hc])); (try rw [hb]); first | exact (y_callRA (minus_c) ⟨rfl, rfl⟩) | exact V.y vAuto) ?_)
    | (show VG _ _ _ _ _ _ _ _; refine VG.mk (fun hb => by (try (have hc := And.left hb; have hb := And.right hb; rw [hc])); (try rw [hb]); exact vAuto) ?_)
    | (refine G.mixedA 1 [.go 0, .go 1, .pend 4, .go 2, .go 3, .done, .go 5] ?_)
    | (refine nxX ?_)
    | (refine G.condN rfl (fun hc => ?_) (fun hc => ?_) <;> (try first | exact False.elim hc | (exfalso; omega))))
  · have h1 := D_len0.1 (show (D (a + -b).natAbs).length = 0 by omega)
    exact X.ret (vs := [_]) rfl ⟨rfl, rfl⟩ rfl (fun w hw => ⟨ret_int (by unfold cmpI; rw [if_neg (by omega), if_neg (by omega)]), hw.ext⟩)
  · exact X.ret (vs := [_]) rfl ⟨rfl, rfl⟩ rfl (fun w hw => ⟨ret_int (by unfold cmpI; rw [if_pos (by omega)]), hw.ext⟩)
  · rename_i h2
    have h1 : (a + -b).natAbs ≠ 0 := fun e => h2 (by rw [D_len0.2 e]; rfl)
    exact X.ret (vs := [_]) rfl ⟨rfl, rfl⟩ rfl (fun w hw => ⟨ret_int (by unfold cmpI; rw [if_neg (by omega), if_pos (by omega)]), hw.ext⟩)
theorem div_pos_ {a b : Int} (ha : 0 ≤ a) (hb : 0 < b) : nb (a / b) = false ∧ (a / b).natAbs = a.natAbs / b.natAbs := by
  have h1 := Int.ediv_nonneg ha (show 0 ≤ b by omega)
  refine ⟨by simp only [nb]; simp; exact h1, ?_⟩
  have e1 : (a.natAbs : Int) = a := by omega
  have e2 : (b.natAbs : Int) = b := by omega
  have e3 : ((a.natAbs / b.natAbs : Nat) : Int) = a / b := by rw [Int.natCast_ediv, e1, e2]
  omega
theorem div_neg_ {a b : Int} (ha : a < 0) (hb : 0 < b) : nb (a / b) = true ∧ (a / b).natAbs = a.natAbs / b.natAbs + (if a.natAbs % b.natAbs = 0 then 0 else 1) := by
  have e1 : (a.natAbs : Int) = -a := by omega
  have e2 : (b.natAbs : Int) = b := by omega
  have e3 := Nat.div_add_mod a.natAbs b.natAbs
  have e4 : b * ((a.natAbs / b.natAbs : Nat) : Int) + ((a.natAbs % b.natAbs : Nat) : Int) = -a := by
    rw [← e1, ← e3, Int.natCast_add, Int.natCast_mul, e2]
    rw [Nat.mul_add_mod, Nat.mod_mod, Nat.mul_add_div (by omega), Nat.mod_div_self, Nat.add_zero]
  have hlt := Nat.mod_lt a.natAbs (show 0 < b.natAbs by omega)
  generalize a.natAbs / b.natAbs = q at *
  generalize a.natAbs % b.natAbs = r at *
  have key : ∀ Q R : Int, R + b * Q = a → 0 ≤ R → R < b → a / b = Q := fun Q R h1 h2 h3 => ((Int.ediv_emod_unique hb).2 ⟨h1, h2, h3⟩).1
  have hq : a / b = -((q + (if r = 0 then 0 else 1) : Nat) : Int) := by
    split
    · rename_i h0
      subst h0
      refine key _ 0 ?_ (Int.le_refl _) hb
      rw [Int.mul_neg, Nat.add_zero]; omega
    · refine key _ (b - r) ?_ (by omega) (by omega)
      rw [Int.mul_neg, Int.natCast_add, Int.mul_add]; simp; omega
  have hq1 : q + (if r = 0 then 0 else 1) ≠ 0 := by
    split
    · rename_i h0
      subst h0
      intro hz
      have : q = 0 := by omega
      subst this
      simp at e4; omega
    · omega
  constructor
  · simp only [nb]; rw [hq]; simp; omega
  · rw [hq]; omega
theorem sumL_c (sa sb : Value) (la lb : List Int) (a b : Nat) (ea : la = D a) (eb : lb = D b) (hla : la.length ≤ 1000000) (hlb : lb.length ≤ 1000000) : ContX Try.prog [Hl.rd sa cI 1 la, Hl.rd sb cI 1 lb] 60 [sa, sb] (fun _ : Sl => True) (fun v => v.v) (fun v => [Hl.nw v.v cI 1 (D (a + b))]) := by
  subst ea; subst eb
  exact sum_c sa sb a b hla hlb
theorem down_c {A A' : Option Addr} {m c m' c' : Nat} {a b : Int} (h : Sz a ∧ Sz b ∧ 0 < b) : ContX Try.prog [Hl.rd (.slice A m c) cI 1 (D a.natAbs), Hl.rd (.slice A' m' c') cI 1 (D b.natAbs)] 40 [.agg [.slice A m c, .bool (nb a)].toArray, .agg [.slice A' m' c', .bool (nb b)].toArray] (fun _ : Sl => True) (fun s => numV s (nb (a / b))) (fun s => [Hl.nw s.v cI 1 (D (a / b).natAbs)]) := fun w hw0 => by
  have hla := h.1.len
  have hlb := h.2.1.len
  have hb := h.2.2
  have hnb : nb b = false := by simp only [nb]; simp; omega
  have hlq := D_len_le (Nat.div_le_self a.natAbs b.natAbs)
  refine enter Try.func40 rfl rfl rfl hw0 ?_
  repeat' (first
    | (show YK _ _ _ _ _ _ _; first | refine YK.mk (y_callRA (sign_c) ⟨rfl, rfl⟩) ?_)
    | (show YK _ _ _ _ _ _ _; refine YK.ofV vAuto ?_)
    | (show VK _ _ _ _ _ _ _; refine VK.mk vAuto ?_)
    | (show RS _ _ _ _ _ _ _ _; first | (refine RS.callX (sumL_c _ _ _ [1] (a.natAbs / b.natAbs) 1 rfl rfl (by omega) (by simp)) ⟨rfl, rfl, rfl⟩ ?_; rintro q2 _) | (refine RS.callXG (fun _ : True => sumL_c _ _ _ [1] (a.natAbs / b.natAbs) 1 rfl rfl (by omega) (by simp)) ⟨rfl, rfl, rfl⟩ ?_; rintro q2 _) | (refine RS.callX (over_c _ _ a.natAbs b.natAbs (by omega) (by omega) (by omega)) ⟨rfl, rfl, rfl⟩ ?_; rintro ⟨q, r⟩ _) | (refine RS.callXG (fun _ : True => over_c _ _ a.natAbs b.natAbs (by omega) (by omega) (by omega)) ⟨rfl, rfl, rfl⟩ ?_; rintro ⟨q, r⟩ _) | (refine nxRS ?_) | (refine nxRS1 fun _ => ?_))
    | (show RM _ _ _ _ _ _ _ _ _ _; first | (refine RM.callX (sumL_c _ _ _ [1] (a.natAbs / b.natAbs) 1 rfl rfl (by omega) (by simp)) ?_; rintro q2 _) | (refine RM.callXG (fun _ : True => sumL_c _ _ _ [1] (a.natAbs / b.natAbs) 1 rfl rfl (by omega) (by simp)) ?_; rintro q2 _) | (refine RM.callX (over_c _ _ a.natAbs b.natAbs (by omega) (by omega) (by omega)) ?_; rintro ⟨q, r⟩ _) | (refine RM.callXG (fun _ : True => over_c _ _ a.natAbs b.natAbs (by omega) (by omega) (by omega)) ?_; rintro ⟨q, r⟩ _) | (refine nxRM ?_) | (refine nxRM1 fun _ => ?_))
    | (show YG _ _ _ _ _ _ _ _; refine YG.mk (fun hb => by (try (have hc := And.left hb; have hb := And.right hb; rw [hc])); (try rw [hb]); first | exact (y_callRA (sign_c) ⟨rfl, rfl⟩) | exact V.y vAuto) ?_)
    | (show VG _ _ _ _ _ _ _ _; refine VG.mk (fun hb => by (try (have hc := And.left hb; have hb := And.right hb; rw [hc])); (try rw [hb]); exact vAuto) ?_)
    | (refine nxX ?_)
    | (refine G.condN rfl (fun hc => ?_) (fun hc => ?_) <;> (try first | exact False.elim hc | (exfalso; omega))))
  · have e0 : nb a = nb b := by simpa using hc
    have h0 : 0 ≤ a := by rw [hnb] at e0; simp only [nb] at e0; simp at e0; exact e0
    obtain ⟨e1, e2⟩ := div_pos_ h0 hb
    refine X.retN (vs := [_]) q rfl ⟨⟨_, _, _, _, rfl, (by exact memA), (by (repeat (first | exact .nil | apply LenIs.cons))), by decide +kernel, rfl⟩, rfl⟩ rfl trivial (by rw [e1]) ?_
    rw [e2]
    exact NewIn.nw (by exact memA) NewIn.nil
  · rename_i h2 _ _
    have h0 : a < 0 := by rw [hnb] at h2; simp only [nb] at h2; simpa using h2
    have h1 : a.natAbs % b.natAbs ≠ 0 := fun e => by rw [e] at hc; simp [D_zero] at hc
    obtain ⟨e1, e2⟩ := div_neg_ h0 hb
    rw [if_neg h1] at e2
    have e3 : (true && !(D (a.natAbs / b.natAbs + 1)).isEmpty) = nb (a / b) := by rw [D_empty, e1]; simp
    refine X.retN (vs := [_]) q2 rfl ⟨⟨_, _, _, _, rfl, (by exact memA), (by (repeat (first | exact .nil | apply LenIs.cons))), by decide +kernel, rfl⟩, rfl⟩ rfl trivial (by rw [e3]) ?_
    rw [e2]
    exact NewIn.nw (by exact memA) NewIn.nil
  · rename_i h2
    have h0 : a < 0 := by rw [hnb] at h2; simp only [nb] at h2; simpa using h2
    have h1 : a.natAbs % b.natAbs = 0 := D_len0.1 (by omega)
    obtain ⟨e1, e2⟩ := div_neg_ h0 hb
    rw [if_pos h1, Nat.add_zero] at e2
    have h3 : a / b ≠ 0 := fun e => by rw [e] at e1; simp [nb] at e1
    have e3 : (true && !(D (a.natAbs / b.natAbs)).isEmpty) = nb (a / b) := by rw [D_empty, e1, ← e2]; simp [h3]
    refine X.retN (vs := [_]) q rfl ⟨⟨_, _, _, _, rfl, (by exact memA), (by (repeat (first | exact .nil | apply LenIs.cons))), by decide +kernel, rfl⟩, rfl⟩ rfl trivial (by rw [e3]) ?_
    rw [e2]
    exact NewIn.nw (by exact memA) NewIn.nil
theorem up_c {A A' : Option Addr} {m c m' c' : Nat} {a b : Int} (h : Sz a ∧ Sz b ∧ 0 < b) : ContX Try.prog [Hl.rd (.slice A m c) cI 1 (D a.natAbs), Hl.rd (.slice A' m' c') cI 1 (D b.natAbs)] 41 [.agg [.slice A m c, .bool (nb a)].toArray, .agg [.slice A' m' c', .bool (nb b)].toArray] (fun _ : Sl => True) (fun s => numV s (nb (-(-a / b)))) (fun s => [Hl.nw s.v cI 1 (D (-(-a / b)).natAbs)]) := fun w hw0 => by
  have ha := h.1.neg
  have hb2 := h.2.1
  have hb := h.2.2
  refine enter Try.func41 rfl rfl rfl hw0 ?_
  repeat' (first
    | (show YK _ _ _ _ _ _ _; first | refine YK.mk (y_callRA (minus_c) ⟨rfl, rfl⟩) ?_)
    | (show YK _ _ _ _ _ _ _; refine YK.ofV vAuto ?_)
    | (show VK _ _ _ _ _ _ _; refine VK.mk vAuto ?_)
    | (show RS _ _ _ _ _ _ _ _; first | (refine RS.callP down_c ⟨rfl, rfl, rfl⟩ ?_; rintro s _) | (refine RS.callXG down_c ⟨rfl, rfl, rfl⟩ ?_; rintro s _) | (refine nxRS ?_) | (refine nxRS1 fun _ => ?_))
    | (show RM _ _ _ _ _ _ _ _ _ _; first | (refine RM.callP down_c ?_; rintro s _) | (refine RM.callXG down_c ?_; rintro s _) | (refine nxRM ?_) | (refine nxRM1 fun _ => ?_))
    | (show YG _ _ _ _ _ _ _ _; refine YG.mk (fun hb => by (try (have hc := And.left hb; have hb := And.right hb; rw [hc])); (try rw [hb]); first | exact (y_callRA (minus_c) ⟨rfl, rfl⟩) | exact V.y vAuto) ?_)
    | (show VG _ _ _ _ _ _ _ _; refine VG.mk (fun hb => by (try (have hc := And.left hb; have hb := And.right hb; rw [hc])); (try rw [hb]); exact vAuto) ?_)
    | (refine G.mixedA 1 [.go 0, .go 2, .go 1, .go 3, .go 4, .go 5] ?_)
    | (refine nxX ?_)
    | (refine G.condN rfl (fun hc => ?_) (fun hc => ?_) <;> (try first | exact False.elim hc | (exfalso; omega))))
  refine X.retN (vs := [_]) s rfl ⟨⟨_, _, _, _, rfl, (by exact memA), (by (repeat (first | exact .nil | apply LenIs.cons))), by decide +kernel, rfl⟩, rfl⟩ rfl trivial rfl ?_
  rw [Int.natAbs_neg]
  exact NewIn.nw (by exact memA) NewIn.nil
theorem tmod_if (n : Int) : n.tmod 268435456 = if 0 ≤ n then n % 268435456 else -((-n) % 268435456) := by
  split
  · exact Int.tmod_eq_emod_of_nonneg ‹_›
  · have := Int.neg_tmod (a := -n) (b := 268435456)
    rw [Int.neg_neg] at this
    rw [this, Int.tmod_eq_emod_of_nonneg (by omega)]
theorem tdiv_if (n : Int) : n.tdiv 268435456 = if 0 ≤ n then n / 268435456 else -((-n) / 268435456) := by
  split
  · exact Int.tdiv_eq_ediv_of_nonneg ‹_›
  · have := Int.neg_tdiv (-n) 268435456
    rw [Int.neg_neg] at this
    rw [this, Int.tdiv_eq_ediv_of_nonneg (by omega)]
theorem tmod_bd (n : Int) : -268435456 < n.tmod 268435456 ∧ n.tmod 268435456 < 268435456 := by
  constructor
  · have := Int.lt_tmod_of_pos n (show (0 : Int) < 268435456 by decide); omega
  · exact Int.tmod_lt_of_pos n (by decide)
theorem ofint_c {n : Int} (h : -9223372036854775808 ≤ n ∧ n ≤ 9223372036854775807) : ContX Try.prog [] 58 [.int .i64 n] (fun _ : Sl => True) (fun s => numV s (nb n)) (fun s => [Hl.nw s.v cI 1 (D n.natAbs)]) := fun w hw0 => by
  refine enter Try.func58 rfl rfl rfl hw0 ?_
  repeat' (first
    | (refine nxV ?_)
    | (show RS _ _ _ _ _ _ _ _; first | (refine nxRS ?_) | (refine nxRS1 fun _ => ?_))
    | (show RM _ _ _ _ _ _ _ _ _ _; first | (refine nxRM ?_) | (refine nxRM1 fun _ => ?_))
    | (refine nxG ?_)
    | (refine nxX ?_)
    | (refine G.condN rfl (fun hc => ?_) (fun hc => ?_) <;> (try first | exact False.elim hc | (exfalso; omega))))
  rename_i b2 b3
  refine G.loop (ι := Sl × Int × List Int) (fun x => [(0, .int .i64 x.2.1), (2, .pointer (some ⟨b2, 0, none⟩)), (3, .pointer (some ⟨b3, 0, none⟩))]) (fun x => [Hl.rw x.1.v 3 cI 1 x.2.2, Hl.blk b3 74 [x.1.v, .bool (nb n)], Hl.blk b2 74 [.slice none 0 0, .bool false]])
    (fun x => -9223372036854775808 ≤ x.2.1 ∧ x.2.1 ≤ 9223372036854775807 ∧ x.2.2 ++ D x.2.1.natAbs = D n.natAbs) (fun x => x.2.1.natAbs) (⟨none, 0, 0⟩, n, []) ⟨h.1, h.2, by simp⟩ ⟨rfl, rfl, rfl, trivial⟩ (fun w h => h.nilRow _ _ _) ?_
  rintro ⟨x, k, l⟩ mx ⟨h1, h2, h3⟩ hmx
  dsimp only at h1 h2 h3 hmx ⊢
  have ht := tmod_bd k
  have ht1 := tmod_if k
  have ht2 := tdiv_if k
  have hn := (Sz.small (z := n) (by omega)).len
  have hlen : l.length ≤ 10 := by rw [← h3, List.length_append] at hn; omega
  repeat' (first
    | (refine nxV ?_)
    | (show RS _ _ _ _ _ _ _ _; first | (refine nxRS ?_) | (refine nxRS1 fun _ => ?_))
    | (show RM _ _ _ _ _ _ _ _ _ _; first | (refine nxRM ?_) | (refine nxRM1 fun _ => ?_))
    | (refine nxG ?_)
    | (refine nxX ?_)
    | (refine G.condN rfl (fun hc => ?_) (fun hc => ?_) <;> (try first | exact False.elim hc | (exfalso; omega))))
  · rename_i h4 x1 x2
    have ew : IntKind.i64.wrap (k.tdiv 268435456) = k.tdiv 268435456 := wrap_in (by split at ht2 <;> omega)
    have e1 : 0 - k.tmod 268435456 = ((k.natAbs % 268435456 : Nat) : Int) := by split at ht1 <;> omega
    have e2 : (k.tdiv 268435456).natAbs = k.natAbs / 268435456 := by split at ht2 <;> omega
    have e3 : k.natAbs / 268435456 < k.natAbs := by omega
    refine X.again (x2, IntKind.i64.wrap (k.tdiv 268435456), l ++ [0 - k.tmod 268435456]) ⟨by dsimp only; rw [ew]; split at ht2 <;> omega, by dsimp only; rw [ew]; split at ht2 <;> omega, ?_⟩ (by dsimp only; rw [ew, e2]; omega) ⟨rfl, rfl, rfl, trivial⟩ (by exact fun w h => h.sub (by repeat (first | exact List.Sublist.refl _ | apply List.Sublist.cons_cons | apply List.Sublist.cons)))
    dsimp only
    rw [ew, e2, ← h3, D_pos (n := k.natAbs) (by omega), List.append_assoc, List.singleton_append, e1]
  · rename_i h4 x1 x2
    have ew : IntKind.i64.wrap (k.tdiv 268435456) = k.tdiv 268435456 := wrap_in (by split at ht2 <;> omega)
    have e1 : k.tmod 268435456 = ((k.natAbs % 268435456 : Nat) : Int) := by split at ht1 <;> omega
    have e2 : (k.tdiv 268435456).natAbs = k.natAbs / 268435456 := by split at ht2 <;> omega
    have e3 : k.natAbs / 268435456 < k.natAbs := by omega
    refine X.again (x2, IntKind.i64.wrap (k.tdiv 268435456), l ++ [k.tmod 268435456]) ⟨by dsimp only; rw [ew]; split at ht2 <;> omega, by dsimp only; rw [ew]; split at ht2 <;> omega, ?_⟩ (by dsimp only; rw [ew, e2]; omega) ⟨rfl, rfl, rfl, trivial⟩ (by exact fun w h => h.sub (by repeat (first | exact List.Sublist.refl _ | apply List.Sublist.cons_cons | apply List.Sublist.cons)))
    dsimp only
    rw [ew, e2, ← h3, D_pos (n := k.natAbs) (by omega), List.append_assoc, List.singleton_append, e1]
  · have h4 : k = 0 := by simpa using hc
    subst h4
    rw [show (0 : Int).natAbs = 0 from rfl, D_zero, List.append_nil] at h3
    refine X.retN (vs := [_]) x rfl ⟨⟨_, _, _, _, rfl, (by exact memA), (by (repeat (first | exact .nil | apply LenIs.cons))), by decide +kernel, rfl⟩, rfl⟩ rfl trivial rfl ?_
    rw [← h3]
    exact NewIn.rw (by exact memA) NewIn.nil
theorem dv_drop_le : ∀ {l : List Int}, Dig l → ∀ i : Nat, dv (l.drop i) ≤ dv l
  | [], _, i => by simp [dv]
  | a :: r, h, 0 => by simp
  | a :: r, h, i + 1 => by
    have h1 := h a List.mem_cons_self
    have hr : Dig r := fun b hb => h b (List.mem_cons_of_mem _ hb)
    have ih := dv_drop_le hr i
    have h2 := dv_nonneg hr
    simp only [List.drop_succ_cons, dv]; omega
def in64 (z : Int) : Bool := decide (-9223372036854775808 ≤ z ∧ z ≤ 9223372036854775807)
theorem cmpI_lt {a b : Int} : cmpI a b < 0 ↔ a < b := by unfold cmpI; split <;> (try split) <;> constructor <;> intros <;> omega
theorem cmpI_gt {a b : Int} : 0 < cmpI a b ↔ b < a := by unfold cmpI; split <;> (try split) <;> constructor <;> intros <;> omega
theorem isint_c {A : Option Addr} {m c : Nat} {z : Int} (h : Sz z) : ContR Try.prog [Hl.rd (.slice A m c) cI 1 (D z.natAbs)] 39 [.agg [.slice A m c, .bool (nb z)].toArray] (.tuple [.int .i64 (bif in64 z then z else 0), .bool (in64 z)].toArray) := fun w hw0 => by
  have s1 : Sz (-9223372036854775808) := Sz.small (by decide)
  have s2 : Sz 9223372036854775807 := Sz.small (by decide)
  have hl := h.len
  have hd := D_dig z.natAbs
  have hv := dv_D z.natAbs
  refine enter Try.func39 rfl rfl rfl hw0 ?_
  repeat' (first
    | (show YK _ _ _ _ _ _ _; first | refine YK.mk (y_callRP compare_c ⟨rfl, rfl, rfl⟩) ?_)
    | (show YK _ _ _ _ _ _ _; refine YK.ofV vAuto ?_)
    | (show VK _ _ _ _ _ _ _; refine VK.mk vAuto ?_)
    | (show RS _ _ _ _ _ _ _ _; first | (refine RS.callP ofint_c ⟨rfl, rfl⟩ ?_; rintro s _) | (refine RS.callXG ofint_c ⟨rfl, rfl⟩ ?_; rintro s _) | (refine RS.spl 11 rfl (fun hq => ?_) (fun hq => ?_)) | (refine nxRS ?_) | (refine nxRS1 fun _ => ?_))
    | (show RM _ _ _ _ _ _ _ _ _ _; first | (refine RM.callP ofint_c ?_; rintro s _) | (refine RM.callXG ofint_c ?_; rintro s _) | (refine RM.spl 11 rfl (fun hq => ?_) (fun hq => ?_)) | (refine nxRM ?_) | (refine nxRM1 fun _ => ?_))
    | (show YG _ _ _ _ _ _ _ _; refine YG.mk (fun hb => by (try (have hc := And.left hb; have hb := And.right hb; rw [hc])); (try rw [hb]); first | exact (y_callRP compare_c ⟨rfl, rfl, rfl⟩) | exact V.y vAuto) ?_)
    | (show VG _ _ _ _ _ _ _ _; refine VG.mk (fun hb => by (try (have hc := And.left hb; have hb := And.right hb; rw [hc])); (try rw [hb]); exact vAuto) ?_)
    | (refine G.mixedA 1 [.go 0, .go 1, .go 2, .go 3, .go 4, .go 5, .go 6, .go 7, .go 8, .go 9] ?_)
    | (refine nxX ?_)
    | (refine G.condN rfl (fun hc => ?_) (fun hc => ?_) <;> (try first | exact False.elim hc | (exfalso; omega))))
  · have e : in64 z = false := by unfold in64; rw [decide_eq_false_iff_not]; have := cmpI_lt.1 (by assumption); omega
    exact X.ret (vs := [_, _]) rfl ⟨rfl, rfl, rfl⟩ rfl (fun w hw => ⟨by rw [e]; rfl, hw.ext⟩)
  · have e : in64 z = false := by unfold in64; rw [decide_eq_false_iff_not]; have := cmpI_gt.1 hc; omega
    exact X.ret (vs := [_, _]) rfl ⟨rfl, rfl, rfl⟩ rfl (fun w hw => ⟨by rw [e]; rfl, hw.ext⟩)
  rename_i b1 _ _ _
  have g1 : -9223372036854775808 ≤ z := by have := mt cmpI_lt.2 hq; omega
  have g2 : z ≤ 9223372036854775807 := by have := mt cmpI_gt.2 (Int.not_lt.2 hc); omega
  have e : in64 z = true := by unfold in64; rw [decide_eq_true_eq]; exact ⟨g1, g2⟩
  generalize hDz : D z.natAbs = l at *
  refine G.loop (ι := Int × Int) (fun x => [(1, .pointer (some ⟨b1, 0, none⟩)), (4, .int .i64 x.2), (5, .int .i64 x.1)]) (fun x => [Hl.blk b1 74 [.slice A m c, .bool (nb z)], Hl.rd (.slice A m c) cI 1 l])
    (fun x => -1 ≤ x.1 ∧ x.1 < l.length ∧ x.2 = if z < 0 then -dv (l.drop (x.1 + 1).toNat) else dv (l.drop (x.1 + 1).toNat)) (fun x => (x.1 + 1).toNat) ((l.length : Int) - 1, 0) ⟨by dsimp only; omega, by dsimp only; omega, by dsimp only; rw [drop_end (by omega)]; simp [dv]⟩ ⟨rfl, rfl, rfl, trivial⟩ (by exact fun w h => h.sub (by repeat (first | exact List.Sublist.refl _ | apply List.Sublist.cons_cons | apply List.Sublist.cons))) ?_
  rintro ⟨i, n⟩ mx ⟨h1, h2, h3⟩ hmx
  dsimp only at h1 h2 h3 hmx ⊢
  have hn := hd.nth i
  have hb1 := dv_drop_le hd (i + 1).toNat
  have hb2 := dv_nonneg (l := l.drop (i + 1).toNat) (fun b hb => hd b (List.mem_of_mem_drop hb))
  have hstep : i < 0 ∨ (dv (l.drop i.toNat) = nth l i + 268435456 * dv (l.drop (i + 1).toNat) ∧ dv (l.drop i.toNat) ≤ dv l) := by
    rcases Int.lt_or_le i 0 with h0 | h0
    · exact .inl h0
    · exact .inr ⟨by rw [drop_nth h0 h2, dv], dv_drop_le hd _⟩
  generalize hT : dv (l.drop (i + 1).toNat) = T at *
  rcases Int.lt_or_le z 0 with hz | hz
  · rw [if_pos hz] at h3
    repeat' (first
    | (refine nxV ?_)
    | (show RS _ _ _ _ _ _ _ _; first | (refine nxRS ?_) | (refine nxRS1 fun _ => ?_))
    | (show RM _ _ _ _ _ _ _ _ _ _; first | (refine nxRM ?_) | (refine nxRM1 fun _ => ?_))
    | (refine nxG ?_)
    | (refine G.mixedA 1 [.go 0, .go 1, .go 2, .go 3, .go 4, .go 5, .go 6, .go 7, .go 8, .go 9] ?_)
    | (refine nxX ?_)
    | (refine G.condN rfl (fun hc => ?_) (fun hc => ?_) <;> (try first | exact False.elim hc | (exfalso; omega))))
    · refine X.again (i - 1, n * 268435456 + (0 - nth l i)) ⟨by dsimp only; omega, by dsimp only; omega, ?_⟩ (by dsimp only; omega) ⟨rfl, rfl, rfl, trivial⟩ (by exact fun w h => h.sub (by repeat (first | exact List.Sublist.refl _ | apply List.Sublist.cons_cons | apply List.Sublist.cons)))
      dsimp only
      rw [if_pos hz, Int.sub_add_cancel]; omega
    · have ei : i = -1 := by omega
      subst ei
      rw [show ((-1 : Int) + 1).toNat = 0 from rfl, List.drop_zero] at hT
      exact X.ret (vs := [_, _]) rfl ⟨rfl, rfl, rfl⟩ rfl (fun w hw => ⟨by rw [e, show n = z by omega]; rfl, hw.ext⟩)
  · rw [if_neg (by omega)] at h3
    repeat' (first
    | (refine nxV ?_)
    | (show RS _ _ _ _ _ _ _ _; first | (refine nxRS ?_) | (refine nxRS1 fun _ => ?_))
    | (show RM _ _ _ _ _ _ _ _ _ _; first | (refine nxRM ?_) | (refine nxRM1 fun _ => ?_))
    | (refine nxG ?_)
    | (refine G.mixedA 1 [.go 0, .go 1, .go 2, .go 3, .go 4, .go 5, .go 6, .go 7, .go 8, .go 9] ?_)
    | (refine nxX ?_)
    | (refine G.condN rfl (fun hc => ?_) (fun hc => ?_) <;> (try first | exact False.elim hc | (exfalso; omega))))
    · refine X.again (i - 1, n * 268435456 + nth l i) ⟨by dsimp only; omega, by dsimp only; omega, ?_⟩ (by dsimp only; omega) ⟨rfl, rfl, rfl, trivial⟩ (by exact fun w h => h.sub (by repeat (first | exact List.Sublist.refl _ | apply List.Sublist.cons_cons | apply List.Sublist.cons)))
      dsimp only
      rw [if_neg (by omega), Int.sub_add_cancel]; omega
    · have ei : i = -1 := by omega
      subst ei
      rw [show ((-1 : Int) + 1).toNat = 0 from rfl, List.drop_zero] at hT
      exact X.ret (vs := [_, _]) rfl ⟨rfl, rfl, rfl⟩ rfl (fun w hw => ⟨by rw [e, show n = z by omega]; rfl, hw.ext⟩)
end Go.Proofs.Ytcjganfppcjdfaa
