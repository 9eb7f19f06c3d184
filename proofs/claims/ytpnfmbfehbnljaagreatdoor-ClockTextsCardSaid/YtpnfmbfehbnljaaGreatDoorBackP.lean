/- The clock's texts: what Parse reads are the texts of instants, and no others. -/
import Derived.Test.YtpnfmbfehbnljaaGreatDoorParseT
set_option linter.unusedVariables false
set_option maxHeartbeats 1000000
namespace Go.Proofs.YtpnfmbfehbnljaaGreatDoor
open Go.RowKit

theorem index_mid {c : UInt8} : ∀ {a : List UInt8} (b : List UInt8), c ∉ a → Lib.index (a ++ c :: b) [c] = a.length
  | [], b, _ => by
    show Lib.index (c :: b) [c] = 0
    unfold Lib.index
    rw [if_pos (by simp [List.isPrefixOf])]
  | x :: a, b, h => by
    have hx : c ≠ x := fun e => h (by rw [e]; exact List.mem_cons_self ..)
    have ih := index_mid (a := a) b (fun g => h (List.mem_cons_of_mem _ g))
    show Lib.index (x :: (a ++ c :: b)) [c] = _
    unfold Lib.index
    rw [if_neg (by simp [List.isPrefixOf, hx]), ih, if_neg (by simp), List.length_cons]
    omega
theorem index_none {c : UInt8} : ∀ {l : List UInt8}, c ∉ l → Lib.index l [c] = -1
  | [], _ => rfl
  | x :: l, h => by
    have hx : c ≠ x := fun e => h (by rw [e]; exact List.mem_cons_self ..)
    unfold Lib.index
    rw [if_neg (by simp [List.isPrefixOf, hx]), index_none (fun g => h (List.mem_cons_of_mem _ g)), if_pos (by decide)]
theorem drop_mid (a b : List UInt8) (c : UInt8) : (a ++ c :: b).drop (a.length + 1) = b := by
  rw [← List.drop_drop, List.drop_left]; rfl
theorem cut_mid {c : UInt8} {a : List UInt8} (b : List UInt8) (h : c ∉ a) : Lib.cut (a ++ c :: b) [c] = (a, b, true) := by
  unfold Lib.cut
  rw [index_mid b h, if_pos (by omega), Int.toNat_natCast, List.take_left, show [c].length = 1 from rfl, drop_mid]
theorem cut_none {c : UInt8} {l : List UInt8} (h : c ∉ l) : Lib.cut l [c] = (l, [], false) := by
  unfold Lib.cut
  rw [index_none h, if_neg (by decide)]
theorem split_none {c : UInt8} {l : List UInt8} (h : c ∉ l) : Lib.split l [c] = [l] := by
  unfold Lib.split
  rw [Lib.count_miss (index_none h)]; rfl
theorem split_mid {c : UInt8} {a : List UInt8} (b : List UInt8) (h : c ∉ a) : Lib.split (a ++ c :: b) [c] = a :: Lib.split b [c] := by
  unfold Lib.split
  rw [Lib.count_hit (by simp) (index_mid b h), show [c].length = 1 from rfl, drop_mid, Nat.add_comm 1]
  conv => lhs; unfold Lib.splitK
  rw [index_mid b h, if_neg (by simp), Int.toNat_natCast, Nat.add_zero, List.take_left, show [c].length = 1 from rfl, drop_mid]
theorem split3 {c : UInt8} {l : List UInt8} (h : (Lib.split l [c]).length = 3) : ∃ a b d, l = a ++ c :: (b ++ c :: d) ∧ Lib.split l [c] = [a, b, d] := by
  by_cases h1 : c ∈ l
  · obtain ⟨a, r, rfl, ha⟩ := List.eq_append_cons_of_mem h1
    rw [split_mid r ha] at h ⊢
    by_cases h2 : c ∈ r
    · obtain ⟨b, q, rfl, hb⟩ := List.eq_append_cons_of_mem h2
      rw [split_mid q hb] at h ⊢
      by_cases h3 : c ∈ q
      · obtain ⟨e, s, rfl, he⟩ := List.eq_append_cons_of_mem h3
        rw [split_mid s he] at h
        by_cases h4 : c ∈ s
        · obtain ⟨f, u, rfl, hf⟩ := List.eq_append_cons_of_mem h4
          rw [split_mid u hf] at h
          simp at h
        · rw [split_none h4] at h
          simp at h
      · rw [split_none h3]
        exact ⟨a, b, q, rfl, rfl⟩
    · rw [split_none h2] at h
      simp at h
  · rw [split_none h1] at h
    simp at h
theorem dg_of {b : UInt8} (h : 48 ≤ b.toNat ∧ b.toNat ≤ 57) : b = dg (b.toNat - 48) := by
  unfold dg
  rw [show 48 + (b.toNat - 48) = b.toNat by omega]; simp
theorem dg_neq {x : Nat} (h : x < 10) {c : UInt8} (hc : c.toNat < 48 ∨ 57 < c.toNat) : c ≠ dg x := by
  intro e
  have := congrArg UInt8.toNat e
  rw [dg_nat h] at this
  omega
theorem numR_dg {acc : Int} {x : Nat} (h : x < 10) (r : List UInt8) : numR acc (dg x :: r) = if 1000 < 10 * acc + x then none else numR (10 * acc + x) r := by
  conv => lhs; unfold numR
  rw [dg_nat h, if_neg (by omega), show ((48 + x : Nat) : Int) - 48 = x by omega]
theorem numR_inv {acc n : Int} {b : UInt8} {r : List UInt8} (h : numR acc (b :: r) = some n) : ∃ x : Nat, x < 10 ∧ b = dg x ∧ numR (10 * acc + x) r = some n := by
  unfold numR at h
  split at h
  · cases h
  next h1 =>
  split at h
  · cases h
  · refine ⟨b.toNat - 48, by omega, dg_of (by omega), ?_⟩
    rw [show ((b.toNat - 48 : Nat) : Int) = (b.toNat : Int) - 48 by omega]
    exact h
theorem nN2 {x y : Nat} (hx : x < 10) (hy : y < 10) : numR 0 [dg x, dg y] = some ((10 * x + y : Nat) : Int) := by
  rw [numR_dg hx, if_neg (by omega), numR_dg hy, if_neg (by omega)]
  unfold numR
  congr 1; omega
theorem nN3 {x y z : Nat} (hx : x < 10) (hy : y < 10) (hz : z < 10) : numR 0 [dg x, dg y, dg z] = some ((100 * x + 10 * y + z : Nat) : Int) := by
  rw [numR_dg hx, if_neg (by omega), numR_dg hy, if_neg (by omega), numR_dg hz, if_neg (by omega)]
  unfold numR
  congr 1; omega
theorem okN2_inv {l : List UInt8} {lim : Int} (h : okN l 2 lim = true) : ∃ x y : Nat, (x < 10 ∧ y < 10) ∧ l = [dg x, dg y] ∧ nN l = ((10 * x + y : Nat) : Int) ∧ ((10 * x + y : Nat) : Int) < lim := by
  unfold okN at h
  simp only [Bool.and_eq_true, decide_eq_true_eq] at h
  obtain ⟨g1, g2, g3⟩ := h
  obtain ⟨n, hn⟩ := Option.isSome_iff_exists.1 g1
  match l, g2, hn, g3 with
  | [a, b], g2, hn, g3 =>
    obtain ⟨x, hx, rfl, e1⟩ := numR_inv hn
    obtain ⟨y, hy, rfl, e2⟩ := numR_inv e1
    have e3 : nN [dg x, dg y] = ((10 * x + y : Nat) : Int) := by unfold nN; rw [nN2 hx hy]; rfl
    rw [e3] at g3
    exact ⟨x, y, ⟨hx, hy⟩, rfl, e3, g3⟩
  | [], g2, hn, g3 => simp at g2
  | [a], g2, hn, g3 => simp at g2
  | a :: b :: c :: l, g2, hn, g3 => simp at g2; omega
theorem okN3_inv {l : List UInt8} {lim : Int} (h : okN l 3 lim = true) : ∃ x y z : Nat, (x < 10 ∧ y < 10 ∧ z < 10) ∧ l = [dg x, dg y, dg z] ∧ nN l = ((100 * x + 10 * y + z : Nat) : Int) := by
  unfold okN at h
  simp only [Bool.and_eq_true, decide_eq_true_eq] at h
  obtain ⟨g1, g2, g3⟩ := h
  obtain ⟨n, hn⟩ := Option.isSome_iff_exists.1 g1
  match l, g2, hn, g3 with
  | [a, b, c], g2, hn, g3 =>
    obtain ⟨x, hx, rfl, e1⟩ := numR_inv hn
    obtain ⟨y, hy, rfl, e2⟩ := numR_inv e1
    obtain ⟨z, hz, rfl, e4⟩ := numR_inv e2
    have e3 : nN [dg x, dg y, dg z] = ((100 * x + 10 * y + z : Nat) : Int) := by unfold nN; rw [nN3 hx hy hz]; rfl
    exact ⟨x, y, z, ⟨hx, hy, hz⟩, rfl, e3⟩
  | [], g2, hn, g3 => simp at g2
  | [a], g2, hn, g3 => simp at g2
  | [a, b], g2, hn, g3 => simp at g2
  | a :: b :: c :: d :: l, g2, hn, g3 => simp at g2; omega
/-- The time of day's text out of its parts. -/
def lit (h m s f : Nat) : List UInt8 := [dg (h / 10), dg (h % 10)] ++ 58 :: ([dg (m / 10), dg (m % 10)] ++ 58 :: [dg (s / 10), dg (s % 10)]) ++ (if 0 < f then 46 :: [dg (f / 100), dg (f / 10 % 10), dg (f % 10)] else [])
theorem digS2 {n : Nat} (h : n < 100) : digS (n : Int) 2 = [dg (n / 10), dg (n % 10)] := by
  simp only [digS, tlD, List.map_cons, List.map_nil, dg]
  have e1 : (48 + (n : Int) / 10 ^ 1 % 10).toNat = 48 + n / 10 := by rw [Int.pow_succ, Int.pow_zero]; omega
  have e0 : (48 + (n : Int) / 10 ^ 0 % 10).toNat = 48 + n % 10 := by rw [Int.pow_zero]; omega
  rw [e1, e0]
theorem digS3 {n : Nat} (h : n < 1000) : digS (n : Int) 3 = [dg (n / 100), dg (n / 10 % 10), dg (n % 10)] := by
  simp only [digS, tlD, List.map_cons, List.map_nil, dg]
  have e2 : (48 + (n : Int) / 10 ^ 2 % 10).toNat = 48 + n / 100 := by rw [show (10 : Int) ^ 2 = 100 from rfl]; omega
  have e1 : (48 + (n : Int) / 10 ^ 1 % 10).toNat = 48 + n / 10 % 10 := by rw [Int.pow_succ, Int.pow_zero]; omega
  have e0 : (48 + (n : Int) / 10 ^ 0 % 10).toNat = 48 + n % 10 := by rw [Int.pow_zero]; omega
  rw [e2, e1, e0]
theorem textS_lit {h m s f : Nat} (b : (h < 24 ∧ m < 60) ∧ s < 60 ∧ f < 1000) (y mo d : Int) : textS y mo d ((((h * 60 + m) * 60 + s) * 1000 + f : Nat) : Int) = dateL y mo d ++ 32 :: lit h m s f := by
  have e1 : ((((h * 60 + m) * 60 + s) * 1000 + f : Nat) : Int) / 1000 / 3600 = (h : Int) := by omega
  have e2 : ((((h * 60 + m) * 60 + s) * 1000 + f : Nat) : Int) / 1000 / 60 % 60 = (m : Int) := by omega
  have e3 : ((((h * 60 + m) * 60 + s) * 1000 + f : Nat) : Int) / 1000 % 60 = (s : Int) := by omega
  have e4 : ((((h * 60 + m) * 60 + s) * 1000 + f : Nat) : Int) % 1000 = (f : Int) := by omega
  unfold textS
  dsimp only
  rw [e1, e2, e3, e4, digS2 (n := h) (by omega), digS2 (n := m) (by omega), digS2 (n := s) (by omega), digS3 (n := f) (by omega)]
  unfold lit
  by_cases hf : 0 < f
  · rw [if_pos (by omega), if_pos hf]; simp
  · rw [if_neg (by omega), if_neg hf]; simp
theorem parts {ms : Int} (h : 0 ≤ ms ∧ ms < 86400000) : ∃ hh m s f : Nat, ((hh < 24 ∧ m < 60) ∧ s < 60 ∧ f < 1000) ∧ ms = ((((hh * 60 + m) * 60 + s) * 1000 + f : Nat) : Int) :=
  ⟨(ms / 3600000).toNat, (ms / 60000 % 60).toNat, (ms / 1000 % 60).toNat, (ms % 1000).toNat, by omega, by omega⟩
theorem colon_not {x y : Nat} (hx : x < 10) (hy : y < 10) {c : UInt8} (hc : c.toNat < 48 ∨ 57 < c.toNat) : c ∉ [dg x, dg y] := by
  simp only [List.mem_cons, List.not_mem_nil, or_false, not_or]
  exact ⟨dg_neq hx hc, dg_neq hy hc⟩
theorem lit_cut {h m s f : Nat} (b : (h < 24 ∧ m < 60) ∧ s < 60 ∧ f < 1000) : Lib.cut (lit h m s f) [46] = ([dg (h / 10), dg (h % 10)] ++ 58 :: ([dg (m / 10), dg (m % 10)] ++ 58 :: [dg (s / 10), dg (s % 10)]), if 0 < f then [dg (f / 100), dg (f / 10 % 10), dg (f % 10)] else [], decide (0 < f)) := by
  have hn : (46 : UInt8) ∉ [dg (h / 10), dg (h % 10)] ++ 58 :: ([dg (m / 10), dg (m % 10)] ++ 58 :: [dg (s / 10), dg (s % 10)]) := by
    have a1 := colon_not (x := h / 10) (y := h % 10) (by omega) (by omega) (c := 46) (by decide)
    have a2 := colon_not (x := m / 10) (y := m % 10) (by omega) (by omega) (c := 46) (by decide)
    have a3 := colon_not (x := s / 10) (y := s % 10) (by omega) (by omega) (c := 46) (by decide)
    rw [List.mem_append (s := [dg (h / 10), dg (h % 10)]), List.mem_cons (a := (46 : UInt8)) (b := 58), List.mem_append (s := [dg (m / 10), dg (m % 10)]), List.mem_cons (a := (46 : UInt8)) (b := 58)]
    rintro (g | g | g | g | g)
    · exact a1 g
    · cases g
    · exact a2 g
    · cases g
    · exact a3 g
  unfold lit
  by_cases hf : 0 < f
  · rw [if_pos hf, if_pos hf, cut_mid _ hn]; simp [hf]
  · rw [if_neg hf, if_neg hf, List.append_nil, cut_none hn]; simp [hf]
theorem lit_split {h m s : Nat} (b : h < 24 ∧ m < 60 ∧ s < 60) : Lib.split ([dg (h / 10), dg (h % 10)] ++ 58 :: ([dg (m / 10), dg (m % 10)] ++ 58 :: [dg (s / 10), dg (s % 10)])) [58] = [[dg (h / 10), dg (h % 10)], [dg (m / 10), dg (m % 10)], [dg (s / 10), dg (s % 10)]] := by
  rw [split_mid _ (colon_not (by omega) (by omega) (by decide)), split_mid _ (colon_not (by omega) (by omega) (by decide)), split_none (colon_not (by omega) (by omega) (by decide))]
theorem okN2 {x y : Nat} {lim : Int} (hx : x < 10) (hy : y < 10) (h : ((10 * x + y : Nat) : Int) < lim) : okN [dg x, dg y] 2 lim = true ∧ nN [dg x, dg y] = ((10 * x + y : Nat) : Int) := by
  have e : nN [dg x, dg y] = ((10 * x + y : Nat) : Int) := by unfold nN; rw [nN2 hx hy]; rfl
  refine ⟨?_, e⟩
  unfold okN
  rw [e, nN2 hx hy]; simp; omega
theorem okN3 {x y z : Nat} (hx : x < 10) (hy : y < 10) (hz : z < 10) : okN [dg x, dg y, dg z] 3 1000 = true ∧ nN [dg x, dg y, dg z] = ((100 * x + 10 * y + z : Nat) : Int) := by
  have e : nN [dg x, dg y, dg z] = ((100 * x + 10 * y + z : Nat) : Int) := by unfold nN; rw [nN3 hx hy hz]; rfl
  refine ⟨?_, e⟩
  unfold okN
  rw [e, nN3 hx hy hz]; simp; omega
theorem nth_0 {α : Type} [Inhabited α] (a : α) (l : List α) : nth (a :: l) 0 = a := rfl
theorem timeS_lit {h m s f : Nat} (b : (h < 24 ∧ m < 60) ∧ s < 60 ∧ f < 1000) : timeS (lit h m s f) = (((((h * 60 + m) * 60 + s) * 1000 + f : Nat) : Int), true) := by
  obtain ⟨a1, e1⟩ := okN2 (x := h / 10) (y := h % 10) (lim := 24) (by omega) (by omega) (by omega)
  obtain ⟨a2, e2⟩ := okN2 (x := m / 10) (y := m % 10) (lim := 60) (by omega) (by omega) (by omega)
  obtain ⟨a3, e3⟩ := okN2 (x := s / 10) (y := s % 10) (lim := 60) (by omega) (by omega) (by omega)
  obtain ⟨a4, e4⟩ := okN3 (x := f / 100) (y := f / 10 % 10) (z := f % 10) (by omega) (by omega) (by omega)
  unfold timeS
  rw [lit_cut b]
  dsimp only
  rw [lit_split (by omega), if_neg (by simp)]
  show (((nN [dg (h / 10), dg (h % 10)] * 60 + nN [dg (m / 10), dg (m % 10)]) * 60 + nN [dg (s / 10), dg (s % 10)]) * 1000 + _, okN [dg (h / 10), dg (h % 10)] 2 24 && okN [dg (m / 10), dg (m % 10)] 2 60 && okN [dg (s / 10), dg (s % 10)] 2 60 && _) = _
  rw [e1, e2, e3, a1, a2, a3]
  by_cases hf : 0 < f
  · simp only [hf, decide_true, if_true, a4, e4]
    refine Prod.ext ?_ ?_
    · show _ = (_ : Int); omega
    · simp; omega
  · simp only [hf, decide_false, if_false]
    refine Prod.ext ?_ ?_
    · show _ = (_ : Int); simp; omega
    · simp
theorem timeS_inv {l : List UInt8} {ms : Int} (h : timeS l = (ms, true)) : ∃ hh m s f : Nat, ((hh < 24 ∧ m < 60) ∧ s < 60 ∧ f < 1000) ∧ l = lit hh m s f := by
  unfold timeS at h
  dsimp only at h
  split at h
  · cases h
  next hp =>
  have hp := Classical.not_not.1 hp
  obtain ⟨a, b, c, el, es⟩ := split3 hp
  have h2 := congrArg Prod.snd h
  dsimp only at h2
  rw [es] at h2
  rw [show nth [a, b, c] 0 = a from rfl, show nth [a, b, c] 1 = b from rfl, show nth [a, b, c] 2 = c from rfl] at h2
  simp only [Bool.and_eq_true] at h2
  obtain ⟨⟨⟨g1, g2⟩, g3⟩, g4⟩ := h2
  obtain ⟨x1, y1, ⟨p1, p2⟩, rfl, -, q1⟩ := okN2_inv g1
  obtain ⟨x2, y2, ⟨p3, p4⟩, rfl, -, q2⟩ := okN2_inv g2
  obtain ⟨x3, y3, ⟨p5, p6⟩, rfl, -, q3⟩ := okN2_inv g3
  have d1 : (10 * x1 + y1) / 10 = x1 ∧ (10 * x1 + y1) % 10 = y1 := by omega
  have d2 : (10 * x2 + y2) / 10 = x2 ∧ (10 * x2 + y2) % 10 = y2 := by omega
  have d3 : (10 * x3 + y3) / 10 = x3 ∧ (10 * x3 + y3) % 10 = y3 := by omega
  by_cases hm : (46 : UInt8) ∈ l
  · obtain ⟨u, v, rfl, hu⟩ := List.eq_append_cons_of_mem hm
    rw [cut_mid v hu] at el g4
    dsimp only at el g4
    simp only [if_true, Bool.and_eq_true, decide_eq_true_eq] at g4
    obtain ⟨x4, y4, z4, ⟨p7, p8, p9⟩, rfl, n4⟩ := okN3_inv g4.1
    rw [n4] at g4
    refine ⟨10 * x1 + y1, 10 * x2 + y2, 10 * x3 + y3, 100 * x4 + 10 * y4 + z4, by omega, ?_⟩
    unfold lit
    rw [d1.1, d1.2, d2.1, d2.2, d3.1, d3.2, if_pos (by omega), ← el, show (100 * x4 + 10 * y4 + z4) / 100 = x4 by omega, show (100 * x4 + 10 * y4 + z4) / 10 % 10 = y4 by omega, show (100 * x4 + 10 * y4 + z4) % 10 = z4 by omega]
  · rw [cut_none hm] at el
    dsimp only at el
    refine ⟨10 * x1 + y1, 10 * x2 + y2, 10 * x3 + y3, 0, by omega, ?_⟩
    unfold lit
    rw [d1.1, d1.2, d2.1, d2.2, d3.1, d3.2, if_neg (by omega), ← el, List.append_nil]
theorem date_no {y m d : Int} (hv : validB y m d = true) : (32 : UInt8) ∉ dateL y m d := by
  obtain ⟨hy, hm, hd⟩ := valid_of hv
  have hdm := dim_bd y m
  obtain ⟨Y, rfl⟩ := Int.eq_ofNat_of_zero_le (show 0 ≤ y by omega)
  obtain ⟨M, rfl⟩ := Int.eq_ofNat_of_zero_le (show 0 ≤ m by omega)
  obtain ⟨D, rfl⟩ := Int.eq_ofNat_of_zero_le (show 0 ≤ d by omega)
  rw [date_bytes (y := Y) (m := M) (d := D) (by omega) (by omega) (by omega)]
  have k : ∀ {x : Nat}, x < 10 → (32 : UInt8) ≠ dg x := fun h => dg_neq h (by decide)
  simp only [List.mem_cons, List.not_mem_nil, or_false, not_or]
  exact ⟨k (by omega), k (by omega), k (by omega), k (by omega), by decide, k (by omega), k (by omega), by decide, k (by omega), k (by omega)⟩
theorem parseT_txt {y m d ms : Int} (hv : validB y m d = true) (h : 0 ≤ ms ∧ ms < 86400000) : parseT (textS y m d ms) = atS y m d ms := by
  obtain ⟨hh, mi, s, f, hb, rfl⟩ := parts h
  rw [textS_lit hb]
  unfold parseT
  rw [cut_mid _ (date_no hv)]
  dsimp only
  rw [dateP_of hv, timeS_lit hb]
  dsimp only
  rw [if_pos ⟨rfl, rfl⟩]
theorem parseT_or (l : List UInt8) : (∃ y m d ms, validB y m d = true ∧ (0 ≤ ms ∧ ms < 86400000) ∧ l = textS y m d ms) ∨ parseT l = (0, 7) := by
  unfold parseT
  split
  next x hx =>
    split
    next hc =>
      refine .inl ?_
      obtain ⟨y, m, d⟩ := x
      obtain ⟨hv, hd⟩ := dateP_iff.1 hx
      have ht : timeS (Lib.cut l [32]).2.1 = ((timeS (Lib.cut l [32]).2.1).1, true) := Prod.ext rfl hc.2
      obtain ⟨hh, mi, s, f, hb, hl⟩ := timeS_inv ht
      refine ⟨y, m, d, ((((hh * 60 + mi) * 60 + s) * 1000 + f : Nat) : Int), hv, by omega, ?_⟩
      rw [textS_lit hb, hd, ← hl]
      by_cases hm : (32 : UInt8) ∈ l
      · obtain ⟨u, v, rfl, hu⟩ := List.eq_append_cons_of_mem hm
        rw [cut_mid v hu]
      · rw [cut_none hm] at hc
        cases hc.1
    · exact .inr rfl
  · exact .inr rfl
end Go.Proofs.YtpnfmbfehbnljaaGreatDoor
