/- The reference's numbers: products and quotients of digits. -/
import Derived.Test.YtcjganfppcjdfaaRefA
set_option linter.unusedVariables false
set_option maxHeartbeats 4000000
namespace Go.Proofs.Ytcjganfppcjdfaa
open Go.RowKit

theorem bp_eq : ∀ l : List Int, bp l = 268435456 ^ l.length
  | [] => rfl
  | _ :: r => by rw [bp, bp_eq r, List.length_cons, Int.pow_succ, Int.mul_comm]
theorem dv_app : ∀ l l' : List Int, dv (l ++ l') = dv l + 268435456 ^ l.length * dv l'
  | [], l' => by simp [dv]
  | a :: r, l' => by
    rw [List.cons_append, dv, dv, dv_app r l', List.length_cons, Int.pow_succ]
    grind
theorem dv_take {l : List Int} {i : Int} (h0 : 0 ≤ i) (h1 : i < l.length) : dv (l.take (i + 1).toNat) = dv (l.take i.toNat) + nth l i * 268435456 ^ i.toNat := by
  have e := take_nth (l := l) (m := i + 1) (by omega) (by omega)
  rw [show i + 1 - 1 = i by omega] at e
  rw [e, dv_app, List.length_take, Nat.min_eq_left (by omega)]
  simp only [dv]
  grind
theorem dv_set : ∀ (l : List Int) (i : Nat) (x : Int), i < l.length → dv (l.set i x) = dv l + (x - l.getD i 0) * 268435456 ^ i
  | [], i, x, h => by simp at h
  | a :: r, 0, x, h => by simp [dv]; omega
  | a :: r, i + 1, x, h => by
    have ih := dv_set r i x (by simpa using h)
    simp only [List.set_cons_succ, dv, ih, List.getD_cons_succ, Int.pow_succ]
    grind
theorem dv_setI {l : List Int} {i x : Int} (h0 : 0 ≤ i) (h1 : i < l.length) : dv (l.set i.toNat x) = dv l + (x - nth l i) * 268435456 ^ i.toNat := dv_set l i.toNat x (by omega)
theorem nth_set {l : List Int} {i j x : Int} (h0 : 0 ≤ i) (h1 : 0 ≤ j) (hne : i ≠ j) : nth (l.set i.toNat x) j = nth l j := by
  unfold nth
  rw [List.getD_eq_getElem?_getD, List.getD_eq_getElem?_getD, List.getElem?_set_ne (by omega)]
theorem Dig.set {l : List Int} (h : Dig l) {i : Nat} {x : Int} (h0 : 0 ≤ x) (h1 : x < 268435456) : Dig (l.set i x) := fun b hb => by
  rcases List.mem_or_eq_of_mem_set hb with hb | rfl
  · exact h b hb
  · exact ⟨h0, h1⟩
theorem nth_replicate (n : Nat) (m : Int) : nth (List.replicate n (0 : Int)) m = 0 := by
  unfold nth
  rw [List.getD_eq_getElem?_getD, List.getElem?_replicate]
  split <;> rfl
theorem dv_zeros : ∀ n : Nat, dv (List.replicate n 0) = 0
  | 0 => rfl
  | n + 1 => by rw [List.replicate_succ, dv, dv_zeros n]; rfl
theorem mul_bd {a b : Int} (ha : 0 ≤ a ∧ a < 268435456) (hb : 0 ≤ b ∧ b < 268435456) : 0 ≤ a * b ∧ a * b ≤ 72057593501057025 := by
  have h1 := Int.mul_nonneg ha.1 hb.1
  have h2 : a * b ≤ 268435455 * 268435455 := Int.mul_le_mul (by omega) (by omega) hb.1 (by omega)
  omega
theorem times_c (sa sb : Value) (a b : Nat) (hla : (D a).length ≤ 100000) (hlb : (D b).length ≤ 100000) : ContX Try.prog [Hl.rd sa cI 1 (D a), Hl.rd sb cI 1 (D b)] 64 [sa, sb] (fun _ : Sl => True) (fun v => v.v) (fun v => [Hl.nw v.v cI 1 (D (a * b))]) := fun w hw0 => by
  refine enter Try.func64 rfl rfl rfl hw0 ?_
  repeat' (first
    | (refine nxV ?_)
    | (show RS _ _ _ _ _ _ _ _; first | (refine nxRS ?_) | (refine nxRS1 fun _ => ?_))
    | (show RM _ _ _ _ _ _ _ _ _ _; first | (refine nxRM ?_) | (refine nxRM1 fun _ => ?_))
    | (refine nxG ?_)
    | (refine G.mixedA 9 [.go 0, .go 1, .go 2, .go 3, .go 4, .go 5, .go 6, .go 7, .go 8, .go 9, .go 10, .go 11, .go 12, .go 13, .go 14, .go 15, .go 16, .go 17, .go 18] ?_)
    | (refine nxX ?_)
    | (refine G.condN rfl (fun hc => ?_) (fun hc => ?_) <;> (try first | exact False.elim hc | (exfalso; omega))))
  rename_i v
  have eA := dv_D a
  have eB := dv_D b
  generalize hA : D a = la at *
  generalize hB : D b = lb at *
  have hda : Dig la := hA ▸ D_dig a
  have hdb : Dig lb := hB ▸ D_dig b
  refine G.loop (ι := Int × List Int) (fun x => [(0, sa), (1, sb), (5, v.v), (6, .int .i64 x.1)]) (fun x => [Hl.rw v.v 3 cI 1 x.2, Hl.rd sa cI 1 la, Hl.rd sb cI 1 lb])
    (fun x => 0 ≤ x.1 ∧ x.1 ≤ la.length ∧ (x.2.length : Int) = la.length + lb.length ∧ Dig x.2 ∧ dv x.2 = dv (la.take x.1.toNat) * dv lb ∧ ∀ j, x.1 + lb.length ≤ j → nth x.2 j = 0)
    (fun x => (la.length - x.1).toNat) (0, List.replicate ((la.length : Int) + lb.length).toNat 0) ⟨by simp, by simp, by simp; omega, fun d hd => by rw [List.eq_of_mem_replicate hd]; decide, by simp [dv_zeros, dv], fun j _ => nth_replicate _ _⟩ ⟨rfl, rfl, rfl, rfl, trivial⟩ (fun w h => h) ?_
  rintro ⟨i, out⟩ mx ⟨h1, h2, h3, h4, h5, h6⟩ hmx
  dsimp only at h1 h2 h3 h4 h5 h6 hmx ⊢
  have hna := hda.nth i
  repeat' (first
    | (refine nxV ?_)
    | (show RS _ _ _ _ _ _ _ _; first | (refine RS.callX (trim_c _ out (by omega)) ⟨rfl, rfl⟩ ?_; rintro v' _) | (refine RS.callXG (fun _ : True => trim_c _ out (by omega)) ⟨rfl, rfl⟩ ?_; rintro v' _) | (refine nxRS ?_) | (refine nxRS1 fun _ => ?_))
    | (show RM _ _ _ _ _ _ _ _ _ _; first | (refine RM.callX (trim_c _ out (by omega)) ?_; rintro v' _) | (refine RM.callXG (fun _ : True => trim_c _ out (by omega)) ?_; rintro v' _) | (refine nxRM ?_) | (refine nxRM1 fun _ => ?_))
    | (refine nxG ?_)
    | (refine G.mixedA 9 [.go 0, .go 1, .go 2, .go 3, .go 4, .go 5, .go 6, .go 7, .go 8, .go 9, .go 10, .go 11, .go 12, .go 13, .go 14, .go 15, .go 16, .go 17, .go 18] ?_)
    | (refine nxX ?_)
    | (refine G.condN rfl (fun hc => ?_) (fun hc => ?_) <;> (try first | exact False.elim hc | (exfalso; omega))))
  · refine G.loop (ι := Int × Int × List Int) (fun x => [(0, sa), (1, sb), (5, v.v), (6, .int .i64 i), (7, .int .i64 x.1), (8, .int .i64 x.2.1)]) (fun x => [Hl.rw v.v 3 cI 1 x.2.2, Hl.rd sa cI 1 la, Hl.rd sb cI 1 lb])
      (fun x => 0 ≤ x.1 ∧ x.1 < 268435456 ∧ 0 ≤ x.2.1 ∧ x.2.1 ≤ lb.length ∧ (x.2.2.length : Int) = la.length + lb.length ∧ Dig x.2.2 ∧ dv x.2.2 + x.1 * 268435456 ^ (i + x.2.1).toNat = dv (la.take i.toNat) * dv lb + nth la i * dv (lb.take x.2.1.toNat) * 268435456 ^ i.toNat ∧ ∀ j, i + lb.length ≤ j → nth x.2.2 j = 0)
      (fun x => (lb.length - x.2.1).toNat) (0, 0, out) ⟨by simp, by simp, by simp, by simp, h3, h4, by simp [dv, h5], h6⟩ ⟨rfl, rfl, rfl, rfl, rfl, rfl, trivial⟩ (fun w h => h) ?_
    rintro ⟨c, k, o⟩ mk ⟨g1, g2, g3, g4, g5, g6, g7, g8⟩ hmk
    dsimp only at g1 g2 g3 g4 g5 g6 g7 g8 hmk ⊢
    have hnb := hdb.nth k
    have hno := g6.nth (i + k)
    have hab := mul_bd hna hnb
    repeat' (first
    | (refine nxV ?_)
    | (show RS _ _ _ _ _ _ _ _; first | (refine nxRS ?_) | (refine nxRS1 fun _ => ?_))
    | (show RM _ _ _ _ _ _ _ _ _ _; first | (refine nxRM ?_) | (refine nxRM1 fun _ => ?_))
    | (refine nxG ?_)
    | (refine G.mixedA 9 [.go 0, .go 1, .go 2, .go 3, .go 4, .go 5, .go 6, .go 7, .go 8, .go 9, .go 10, .go 11, .go 12, .go 13, .go 14, .go 15, .go 16, .go 17, .go 18] ?_)
    | (refine nxX ?_)
    | (refine G.condN rfl (fun hc => ?_) (fun hc => ?_) <;> (try first | exact False.elim hc | (exfalso; omega))))
    · have e1 := dv_setI (l := o) (i := i + k) (x := (nth o (i + k) + nth la i * nth lb k + c) % 268435456) (by omega) (by omega)
      have e2 := dv_take (l := lb) g3 hc
      have e3 : (268435456 : Int) ^ (i + (k + 1)).toNat = 268435456 ^ (i + k).toNat * 268435456 := by rw [show (i + (k + 1)).toNat = (i + k).toNat + 1 by omega, Int.pow_succ]
      have e4 : (268435456 : Int) ^ (i + k).toNat = 268435456 ^ i.toNat * 268435456 ^ k.toNat := by rw [show (i + k).toNat = i.toNat + k.toNat by omega, Int.pow_add]
      have e5 := Int.emod_add_mul_ediv (nth o (i + k) + nth la i * nth lb k + c) 268435456
      refine X.again ((nth o (i + k) + nth la i * nth lb k + c) / 268435456, k + 1, o.set (i + k).toNat ((nth o (i + k) + nth la i * nth lb k + c) % 268435456)) ⟨by dsimp only; omega, by dsimp only; omega, by dsimp only; omega, by dsimp only; omega, by dsimp only; rw [List.length_set]; exact g5, g6.set (by omega) (by omega), ?_, ?_⟩ (by dsimp only; omega) ⟨rfl, rfl, rfl, rfl, rfl, rfl, trivial⟩ (fun w h => h)
      · dsimp only
        rw [e1, e2, e3]
        generalize (nth o (i + k) + nth la i * nth lb k + c) / 268435456 = q at *
        generalize (nth o (i + k) + nth la i * nth lb k + c) % 268435456 = r at *
        grind
      · intro j hj
        dsimp only
        rw [nth_set (by omega) (by omega) (by omega)]
        exact g8 j hj
    · have e1 := dv_setI (l := o) (i := i + lb.length) (x := c) (by omega) (by omega)
      have e2 := dv_take (l := la) h1 (by omega)
      have ek : k = lb.length := by omega
      rw [g8 (i + lb.length) (by omega)] at e1
      rw [ek, Int.toNat_natCast, List.take_length] at g7
      refine X.again (i + 1, o.set (i + lb.length).toNat c) ⟨by dsimp only; omega, by dsimp only; omega, by dsimp only; rw [List.length_set]; exact g5, g6.set g1 g2, ?_, ?_⟩ (by dsimp only; omega) ⟨rfl, rfl, rfl, rfl, trivial⟩ (fun w h => h)
      · dsimp only
        rw [e1, e2]
        grind
      · intro j hj
        dsimp only at hj ⊢
        rw [nth_set (by omega) (by omega) (by omega)]
        exact g8 j (by omega)
  · have ei : i = la.length := by omega
    refine X.retN (vs := [_]) v' rfl ⟨rfl, rfl⟩ rfl trivial rfl ?_
    rw [ei, Int.toNat_natCast, List.take_length, eA, eB] at h5
    rw [← trim_D (l := out) (n := a * b) h4 (by rw [h5]; exact (Int.natCast_mul a b).symm)]
    exact NewIn.nw (by exact memA) NewIn.nil
theorem trimD_c (v : Value) (l : List Int) (n : Nat) (hd : Dig l) (hv : dv l = n) (hl : l.length ≤ 1000000) : ContX Try.prog [Hl.rd v cI 1 l] 67 [v] (fun _ : Sl => True) (fun v' => v'.v) (fun v' => [Hl.nw v'.v cI 1 (D n)]) := by
  rw [← trim_D hd hv]
  exact trim_c v l hl
theorem D_one {m : Int} (h0 : 0 < m) (h1 : m < 268435456) : [m] = D m.toNat := by
  rw [D_pos (by omega), show m.toNat / 268435456 = 0 by omega, D_zero]
  congr 1; omega
theorem timesL_c (sa sb : Value) (la lb : List Int) (a b : Nat) (ea : la = D a) (eb : lb = D b) (hla : la.length ≤ 100000) (hlb : lb.length ≤ 100000) : ContX Try.prog [Hl.rd sa cI 1 la, Hl.rd sb cI 1 lb] 64 [sa, sb] (fun _ : Sl => True) (fun v => v.v) (fun v => [Hl.nw v.v cI 1 (D (a * b))]) := by
  subst ea; subst eb
  exact times_c sa sb a b hla hlb
theorem D_len_B (b : Nat) : (D (268435456 * b)).length ≤ (D b).length + 1 := by
  rcases Nat.eq_zero_or_pos b with rfl | h
  · simp [D_zero]
  · rw [D_pos (n := 268435456 * b) (by omega), List.length_cons, show 268435456 * b / 268435456 = b by omega]
    exact Nat.le_refl _
theorem ordI_le {a b : Nat} : ordI a b ≤ 0 ↔ a ≤ b := by unfold ordI; split <;> (try split) <;> constructor <;> intros <;> omega
theorem drop_setI {l : List Int} {i x : Int} (h0 : 0 ≤ i) (h1 : i < l.length) : (l.set i.toNat x).drop i.toNat = x :: l.drop (i + 1).toNat := by
  have e : (i + 1).toNat = i.toNat + 1 := by omega
  have hlt : i.toNat < (l.set i.toNat x).length := by rw [List.length_set]; omega
  rw [List.drop_eq_getElem_cons hlt, e, List.drop_set_of_lt (by omega), List.getElem_set_self]
theorem over_c (sa sb : Value) (a b : Nat) (hb : 0 < b) (hla : (D a).length ≤ 10000) (hlb : (D b).length ≤ 10000) : ContX Try.prog [Hl.rd sa cI 1 (D a), Hl.rd sb cI 1 (D b)] 59 [sa, sb] (fun _ : Sl × Sl => True) (fun x => .tuple [x.1.v, x.2.v].toArray) (fun x => [Hl.nw x.1.v cI 1 (D (a / b)), Hl.nw x.2.v cI 1 (D (a % b))]) := fun w hw0 => by
  refine enter Try.func59 rfl rfl rfl hw0 ?_
  repeat' (first
    | (refine nxV ?_)
    | (show RS _ _ _ _ _ _ _ _; first | (refine nxRS ?_) | (refine nxRS1 fun _ => ?_))
    | (show RM _ _ _ _ _ _ _ _ _ _; first | (refine nxRM ?_) | (refine nxRM1 fun _ => ?_))
    | (refine nxG ?_)
    | (refine nxX ?_)
    | (refine G.condN rfl (fun hc => ?_) (fun hc => ?_) <;> (try first | exact False.elim hc | (exfalso; omega))))
  rename_i vo
  have eA := dv_D a
  generalize hA : D a = la at *
  have hda : Dig la := hA ▸ D_dig a
  have hDb := D_len_B b
  refine G.loop (ι := Int × Sl × Nat × List Int) (fun x => [(0, sa), (1, sb), (6, x.2.1.v), (7, vo.v), (8, .int .i64 x.1)]) (fun x => [Hl.nw x.2.1.v cI 1 (D x.2.2.1), Hl.rw vo.v 3 cI 1 x.2.2.2, Hl.rd sa cI 1 la, Hl.rd sb cI 1 (D b)])
    (fun x => -1 ≤ x.1 ∧ x.1 < la.length ∧ x.2.2.1 < b ∧ x.2.2.2.length = la.length ∧ Dig x.2.2.2 ∧ dv (la.drop (x.1 + 1).toNat) = x.2.2.1 + b * dv (x.2.2.2.drop (x.1 + 1).toNat))
    (fun x => (x.1 + 1).toNat) ((la.length : Int) - 1, ⟨none, 0, 0⟩, 0, List.replicate (la.length : Int).toNat 0) ⟨by dsimp only; omega, by dsimp only; omega, hb, by simp, fun d hd => by rw [List.eq_of_mem_replicate hd]; decide, by dsimp only; rw [drop_end (by omega), drop_end (by simp)]; simp [dv]⟩ ⟨rfl, rfl, rfl, rfl, rfl, trivial⟩ (fun w h => h.nilNew _ _) ?_
  rintro ⟨i, vr, r, q⟩ mx ⟨h1, h2, h3, h4, h5, h6⟩ hmx
  dsimp only at h1 h2 h3 h4 h5 h6 hmx ⊢
  have hna := hda.nth i
  have hr1 := D_len_le (a := r) (b := b) (by omega)
  have hr2 : dv ([nth la i] ++ D r) = ((nth la i + 268435456 * r).toNat : Nat) := by
    simp only [List.cons_append, List.nil_append, dv, dv_D]; omega
  have hr3 : Dig ([nth la i] ++ D r) := Dig.cons hna.1 hna.2 (D_dig r)
  repeat' (first
    | (refine nxV ?_)
    | (show RS _ _ _ _ _ _ _ _; first | (refine RS.callX (trim_c _ q (by omega)) ⟨rfl, rfl⟩ ?_; rintro v2 _) | (refine RS.callXG (fun _ : True => trim_c _ q (by omega)) ⟨rfl, rfl⟩ ?_; rintro v2 _) | (refine RS.callX (trimD_c _ _ _ hr3 hr2 (by simp; omega)) ⟨rfl, rfl⟩ ?_; rintro v1 _) | (refine RS.callXG (fun _ : True => trimD_c _ _ _ hr3 hr2 (by simp; omega)) ⟨rfl, rfl⟩ ?_; rintro v1 _) | (refine nxRS ?_) | (refine nxRS1 fun _ => ?_))
    | (show RM _ _ _ _ _ _ _ _ _ _; first | (refine RM.callX (trim_c _ q (by omega)) ?_; rintro v2 _) | (refine RM.callXG (fun _ : True => trim_c _ q (by omega)) ?_; rintro v2 _) | (refine RM.callX (trimD_c _ _ _ hr3 hr2 (by simp; omega)) ?_; rintro v1 _) | (refine RM.callXG (fun _ : True => trimD_c _ _ _ hr3 hr2 (by simp; omega)) ?_; rintro v1 _) | (refine nxRM ?_) | (refine nxRM1 fun _ => ?_))
    | (refine nxG ?_)
    | (refine nxX ?_)
    | (refine G.condN rfl (fun hc => ?_) (fun hc => ?_) <;> (try first | exact False.elim hc | (exfalso; omega))))
  · generalize hR : (nth la i + 268435456 * r).toNat = R at *
    have hRb : R < 268435456 * b := by omega
    have hRl := D_len_le (a := R) (b := 268435456 * b) (by omega)
    refine G.loop (ι := Int × Int) (fun x => [(0, sa), (1, sb), (6, v1.v), (7, vo.v), (8, .int .i64 i), (9, .int .i64 x.1), (10, .int .i64 x.2)]) (fun x => [Hl.nw v1.v cI 1 (D R), Hl.rw vo.v 3 cI 1 q, Hl.rd sa cI 1 la, Hl.rd sb cI 1 (D b)])
      (fun x => 0 ≤ x.1 ∧ x.1 ≤ x.2 ∧ x.2 ≤ 268435455 ∧ b * x.1 ≤ R ∧ R < b * (x.2 + 1)) (fun x => (x.2 - x.1).toNat) (0, 268435455) ⟨by simp, by simp, by simp, by simp, by dsimp only; omega⟩ ⟨rfl, rfl, rfl, rfl, rfl, rfl, rfl, trivial⟩ (by exact fun w h => h.sub (by repeat (first | exact List.Sublist.refl _ | apply List.Sublist.cons_cons | apply List.Sublist.cons))) ?_
    rintro ⟨lo, hi⟩ mk ⟨g1, g2, g3, g4, g5⟩ hmk
    dsimp only at g1 g2 g3 g4 g5 hmk ⊢
    have hmb := D_len_le (a := b * ((lo + hi + 1) / 2).toNat) (b := 268435456 * b) (by rw [Nat.mul_comm]; exact Nat.mul_le_mul_right _ (by omega))
    have hlb2 := D_len_le (a := b * lo.toNat) (b := 268435456 * b) (by rw [Nat.mul_comm]; exact Nat.mul_le_mul_right _ (by omega))
    have hlo : lo < 268435456 := by omega
    have hl1 : (D lo.toNat).length ≤ 1 := D_len (k := 1) (by omega)
    have eb : ((b * lo.toNat : Nat) : Int) = b * lo := by rw [Int.natCast_mul, Int.toNat_of_nonneg g1]
    have hdl : Dig [lo] := Dig.cons g1 hlo Dig.nil
    have hvl : dv [lo] = (lo.toNat : Nat) := by simp only [dv]; omega
    repeat' (first
    | (show YK _ _ _ _ _ _ _; first | refine YK.mk (y_callRA (order_c _ _ (b * ((lo + hi + 1) / 2).toNat) R (by omega) (by omega)) ⟨rfl, rfl, rfl⟩) ?_)
    | (show YK _ _ _ _ _ _ _; refine YK.ofV vAuto ?_)
    | (show VK _ _ _ _ _ _ _; refine VK.mk vAuto ?_)
    | (show RS _ _ _ _ _ _ _ _; first | (refine RS.callX (trimD_c _ [lo] lo.toNat hdl hvl (by simp)) ⟨rfl, rfl⟩ ?_; rintro v3 _) | (refine RS.callXG (fun _ : True => trimD_c _ [lo] lo.toNat hdl hvl (by simp)) ⟨rfl, rfl⟩ ?_; rintro v3 _) | (refine RS.callX (times_c _ _ b lo.toNat (by omega) (by omega)) ⟨rfl, rfl, rfl⟩ ?_; rintro v4 _) | (refine RS.callXG (fun _ : True => times_c _ _ b lo.toNat (by omega) (by omega)) ⟨rfl, rfl, rfl⟩ ?_; rintro v4 _) | (refine RS.callX (less_c _ _ R (b * lo.toNat) (by omega) (by omega)) ⟨rfl, rfl, rfl⟩ ?_; rintro v5 _) | (refine RS.callXG (fun _ : True => less_c _ _ R (b * lo.toNat) (by omega) (by omega)) ⟨rfl, rfl, rfl⟩ ?_; rintro v5 _) | (refine RS.callX (timesL_c _ _ (D b) [(lo + hi + 1) / 2] b _ rfl (D_one (by omega) (by omega)) (by omega) (by simp)) ⟨rfl, rfl, rfl⟩ ?_; rintro v2 _) | (refine RS.callXG (fun _ : True => timesL_c _ _ (D b) [(lo + hi + 1) / 2] b _ rfl (D_one (by omega) (by omega)) (by omega) (by simp)) ⟨rfl, rfl, rfl⟩ ?_; rintro v2 _) | (refine nxRS ?_) | (refine nxRS1 fun _ => ?_))
    | (show RM _ _ _ _ _ _ _ _ _ _; first | (refine RM.callX (trimD_c _ [lo] lo.toNat hdl hvl (by simp)) ?_; rintro v3 _) | (refine RM.callXG (fun _ : True => trimD_c _ [lo] lo.toNat hdl hvl (by simp)) ?_; rintro v3 _) | (refine RM.callX (times_c _ _ b lo.toNat (by omega) (by omega)) ?_; rintro v4 _) | (refine RM.callXG (fun _ : True => times_c _ _ b lo.toNat (by omega) (by omega)) ?_; rintro v4 _) | (refine RM.callX (less_c _ _ R (b * lo.toNat) (by omega) (by omega)) ?_; rintro v5 _) | (refine RM.callXG (fun _ : True => less_c _ _ R (b * lo.toNat) (by omega) (by omega)) ?_; rintro v5 _) | (refine RM.callX (timesL_c _ _ (D b) [(lo + hi + 1) / 2] b _ rfl (D_one (by omega) (by omega)) (by omega) (by simp)) ?_; rintro v2 _) | (refine RM.callXG (fun _ : True => timesL_c _ _ (D b) [(lo + hi + 1) / 2] b _ rfl (D_one (by omega) (by omega)) (by omega) (by simp)) ?_; rintro v2 _) | (refine nxRM ?_) | (refine nxRM1 fun _ => ?_))
    | (show YG _ _ _ _ _ _ _ _; refine YG.mk (fun hb => by (try (have hc := And.left hb; have hb := And.right hb; rw [hc])); (try rw [hb]); first | exact (y_callRA (order_c _ _ (b * ((lo + hi + 1) / 2).toNat) R (by omega) (by omega)) ⟨rfl, rfl, rfl⟩) | exact V.y vAuto) ?_)
    | (show VG _ _ _ _ _ _ _ _; refine VG.mk (fun hb => by (try (have hc := And.left hb; have hb := And.right hb; rw [hc])); (try rw [hb]); exact vAuto) ?_)
    | (refine nxX ?_)
    | (refine G.condN rfl (fun hc => ?_) (fun hc => ?_) <;> (try first | exact False.elim hc | (exfalso; omega))))
    · have h7 := ordI_le.1 hc
      have em : ((b * ((lo + hi + 1) / 2).toNat : Nat) : Int) = b * ((lo + hi + 1) / 2) := by rw [Int.natCast_mul, Int.toNat_of_nonneg (by omega)]
      exact X.again ((lo + hi + 1) / 2, hi) ⟨by dsimp only; omega, by dsimp only; omega, g3, by dsimp only; omega, g5⟩ (by dsimp only; omega) ⟨rfl, rfl, rfl, rfl, rfl, rfl, rfl, trivial⟩ (by exact fun w h => h.sub (by repeat (first | exact List.Sublist.refl _ | apply List.Sublist.cons_cons | apply List.Sublist.cons)))
    · have h7 : ¬ b * ((lo + hi + 1) / 2).toNat ≤ R := fun h => by have := ordI_le.2 h; omega
      have em : ((b * ((lo + hi + 1) / 2).toNat : Nat) : Int) = b * ((lo + hi + 1) / 2) := by rw [Int.natCast_mul, Int.toNat_of_nonneg (by omega)]
      exact X.again (lo, (lo + hi + 1) / 2 - 1) ⟨g1, by dsimp only; omega, by dsimp only; omega, g4, by dsimp only; rw [Int.sub_add_cancel]; omega⟩ (by dsimp only; omega) ⟨rfl, rfl, rfl, rfl, rfl, rfl, rfl, trivial⟩ (by exact fun w h => h.sub (by repeat (first | exact List.Sublist.refl _ | apply List.Sublist.cons_cons | apply List.Sublist.cons)))
    · have ehi : hi = lo := by omega
      subst ehi
      have e1 : (R : Int) < b * hi + b := by rw [Int.mul_add, Int.mul_one] at g5; exact g5
      refine X.again (i - 1, v5, R - b * hi.toNat, q.set i.toNat hi) ⟨by dsimp only; omega, by dsimp only; omega, by dsimp only; omega, by dsimp only; rw [List.length_set]; exact h4, h5.set g1 hlo, ?_⟩ (by dsimp only; omega) ⟨rfl, rfl, rfl, rfl, rfl, trivial⟩ (by exact fun w h => h.sub (by repeat (first | exact List.Sublist.refl _ | apply List.Sublist.cons_cons | apply List.Sublist.cons)))
      dsimp only
      rw [Int.sub_add_cancel, drop_nth (by omega) h2, drop_setI (by omega) (by omega), dv, dv, h6, show ((R - b * hi.toNat : Nat) : Int) = R - b * hi by omega]
      have e2 : (R : Int) = nth la i + 268435456 * r := by omega
      rw [e2]
      generalize dv (q.drop (i + 1).toNat) = t
      grind
  · have ei : i = -1 := by omega
    subst ei
    simp only [Int.reduceNeg, Int.reduceAdd, Int.toNat_zero, List.drop_zero] at h6
    have hq := dv_nonneg h5
    have h7 : (a : Int) = r + b * dv q := by rw [← h6, eA]
    have h8 : a = r + b * (dv q).toNat := by
      have : ((b * (dv q).toNat : Nat) : Int) = b * dv q := by rw [Int.natCast_mul, Int.toNat_of_nonneg hq]
      omega
    have h9 : a / b = (dv q).toNat := by rw [h8, Nat.add_mul_div_left _ _ hb, Nat.div_eq_of_lt h3, Nat.zero_add]
    have h10 : a % b = r := by rw [h8, Nat.add_mul_mod_self_left, Nat.mod_eq_of_lt h3]
    refine X.retN (vs := [_, _]) (v2, vr) rfl ⟨rfl, rfl, rfl⟩ rfl trivial rfl ?_
    rw [h9, h10, ← trim_D (l := q) (n := (dv q).toNat) h5 (Int.toNat_of_nonneg hq).symm]
    exact NewIn.nw (by exact memA) (NewIn.nw (by exact memA) NewIn.nil)
end Go.Proofs.Ytcjganfppcjdfaa
