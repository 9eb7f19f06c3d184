/- The reference's numbers: digits without zeros, compared, added, subtracted. -/
import Derived.Test.YtcjganfppcjdfaaDigits
import Derived.Test.YtcjganfppcjdfaaTys
set_option linter.unusedVariables false
set_option maxHeartbeats 4000000
namespace Go.Proofs.Ytcjganfppcjdfaa
open Go.RowKit

theorem take_nth {l : List Int} {m : Int} (h0 : 0 < m) (h1 : m ≤ l.length) : l.take m.toNat = l.take (m - 1).toNat ++ [nth l (m - 1)] := by
  have e : m.toNat = (m - 1).toNat + 1 := by omega
  rw [e, List.take_add_one, nth_some (l := l) (m := m - 1) (by omega) (by omega)]
  rfl
theorem trim_c (v : Value) (l : List Int) (hl : l.length ≤ 1000000) : ContX Try.prog [Hl.rd v cI 1 l] 67 [v] (fun _ : Sl => True) (fun v' => v'.v) (fun v' => [Hl.nw v'.v cI 1 (trim l)]) := fun w hw0 => by
  refine enter Try.func67 rfl rfl rfl hw0 ?_
  repeat' (first
    | (refine nxV ?_)
    | (show RS _ _ _ _ _ _ _ _; first | (refine nxRS ?_) | (refine nxRS1 fun _ => ?_))
    | (show RM _ _ _ _ _ _ _ _ _ _; first | (refine nxRM ?_) | (refine nxRM1 fun _ => ?_))
    | (refine nxG ?_)
    | (refine nxX ?_)
    | (refine G.condN rfl (fun hc => ?_) (fun hc => ?_) <;> (try first | exact False.elim hc | (exfalso; omega))))
  refine G.loop (ι := Int) (fun n => [(0, v), (3, .int .i64 n)]) (fun n => [Hl.rd v cI 1 l]) (fun n => 0 ≤ n ∧ n ≤ l.length ∧ trim l = trim (l.take n.toNat)) (fun n => n.toNat) l.length ⟨by omega, by omega, by simp⟩ ⟨rfl, rfl, trivial⟩ (fun w h => h) ?_
  rintro n mx ⟨h1, h2, h3⟩ hmx
  repeat' (first
    | (refine nxV ?_)
    | (show RS _ _ _ _ _ _ _ _; first | (refine nxRS ?_) | (refine nxRS1 fun _ => ?_))
    | (show RM _ _ _ _ _ _ _ _ _ _; first | (refine nxRM ?_) | (refine nxRM1 fun _ => ?_))
    | (refine nxG ?_)
    | (refine nxX ?_)
    | (refine G.condN rfl (fun hc => ?_) (fun hc => ?_) <;> (try first | exact False.elim hc | (exfalso; omega))))
  · obtain ⟨h0, he⟩ := hc
    refine X.again (n - 1) ⟨by omega, by omega, ?_⟩ (by omega) ⟨rfl, rfl, trivial⟩ (fun w h => h)
    rw [h3, take_nth h0 h2, he, trim_snoc0]
  · rename_i v'
    refine X.retN (vs := [_]) v' rfl ⟨rfl, rfl⟩ rfl trivial rfl ?_
    have e : trim l = [] ++ ((l.drop 0).take (n.toNat - 0)) := by
      simp only [List.drop_zero, List.nil_append, Nat.sub_zero]
      rw [h3]
      rcases Int.lt_or_eq_of_le h1 with h0 | h0
      · have h4 : nth l (n - 1) ≠ 0 := by
          rcases hc with hc | hc
          · omega
          · exact hc
        rw [take_nth h0 h2, trim_snoc _ h4]
      · subst h0; rfl
    rw [e]
    exact NewIn.rw (by exact memA) NewIn.nil
theorem Dig.nth {l : List Int} (h : Dig l) (m : Int) : 0 ≤ nth l m ∧ nth l m < 268435456 := by
  unfold Go.Proofs.Ytcjganfppcjdfaa.nth
  rcases Nat.lt_or_ge m.toNat l.length with h1 | h1
  · rw [List.getD_eq_getElem?_getD, List.getElem?_eq_getElem h1]
    exact h _ (List.getElem_mem h1)
  · rw [List.getD_eq_getElem?_getD, List.getElem?_eq_none h1]
    exact ⟨Int.le_refl _, by decide⟩
theorem drop_nth {l : List Int} {m : Int} (h0 : 0 ≤ m) (h1 : m < l.length) : l.drop m.toNat = nth l m :: l.drop (m + 1).toNat := by
  have hlt : m.toNat < l.length := by omega
  have e : (m + 1).toNat = m.toNat + 1 := by omega
  rw [e, List.drop_eq_getElem_cons hlt]
  congr 1
  have := nth_some (l := l) h0 h1
  rw [List.getElem?_eq_getElem hlt] at this
  exact Option.some.inj this
theorem drop_end {l : List Int} {m : Int} (h1 : l.length ≤ m) : l.drop m.toNat = [] := List.drop_eq_nil_of_le (by omega)

def ordI (a b : Nat) : Int := if a < b then -1 else if b < a then 1 else 0
theorem order_c (sa sb : Value) (a b : Nat) (hla : (D a).length ≤ 1000000) (hlb : (D b).length ≤ 1000000) : ContR Try.prog [Hl.rd sa cI 1 (D a), Hl.rd sb cI 1 (D b)] 65 [sa, sb] (.int .i64 (ordI a b)) := fun w hw0 => by
  refine enter Try.func65 rfl rfl rfl hw0 ?_
  repeat' (first
    | (refine nxV ?_)
    | (show RS _ _ _ _ _ _ _ _; first | (refine nxRS ?_) | (refine nxRS1 fun _ => ?_))
    | (show RM _ _ _ _ _ _ _ _ _ _; first | (refine nxRM ?_) | (refine nxRM1 fun _ => ?_))
    | (refine nxG ?_)
    | (refine G.mixedA 8 [.go 0, .go 1, .go 2, .go 3, .go 4, .go 5, .go 6, .go 7, .go 8] ?_)
    | (refine G.mixedA 10 [.go 0, .go 1, .go 2, .go 3, .go 4, .go 5, .go 6, .go 7, .go 8] ?_)
    | (refine nxX ?_)
    | (refine G.condN rfl (fun hc => ?_) (fun hc => ?_) <;> (try first | exact False.elim hc | (exfalso; omega))))
  · have h1 := D_len_lt (a := a) (b := b) (by omega)
    exact X.ret (vs := [_]) rfl ⟨rfl, rfl⟩ rfl (fun w hw => ⟨ret_int (by unfold ordI; rw [if_pos h1]), hw.ext⟩)
  · have h1 := D_len_lt (a := b) (b := a) (by omega)
    exact X.ret (vs := [_]) rfl ⟨rfl, rfl⟩ rfl (fun w hw => ⟨ret_int (by unfold ordI; rw [if_neg (by omega), if_pos h1]), hw.ext⟩)
  have hl : (D a).length = (D b).length := by omega
  refine G.loop (ι := Int) (fun i => [(0, sa), (1, sb), (5, .int .i64 i)]) (fun n => [Hl.rd sa cI 1 (D a), Hl.rd sb cI 1 (D b)]) (fun i => -1 ≤ i ∧ i < (D a).length ∧ (D a).drop (i + 1).toNat = (D b).drop (i + 1).toNat) (fun i => (i + 1).toNat) ((D a).length - 1)
    ⟨by omega, by omega, by rw [drop_end (by omega), drop_end (by omega)]⟩ ⟨rfl, rfl, rfl, trivial⟩ (fun w h => h) ?_
  rintro i mx ⟨h1, h2, h3⟩ hmx
  repeat' (first
    | (refine nxV ?_)
    | (show RS _ _ _ _ _ _ _ _; first | (refine nxRS ?_) | (refine nxRS1 fun _ => ?_))
    | (show RM _ _ _ _ _ _ _ _ _ _; first | (refine nxRM ?_) | (refine nxRM1 fun _ => ?_))
    | (refine nxG ?_)
    | (refine G.mixedA 8 [.go 0, .go 1, .go 2, .go 3, .go 4, .go 5, .go 6, .go 7, .go 8] ?_)
    | (refine G.mixedA 10 [.go 0, .go 1, .go 2, .go 3, .go 4, .go 5, .go 6, .go 7, .go 8] ?_)
    | (refine nxX ?_)
    | (refine G.condN rfl (fun hc => ?_) (fun hc => ?_) <;> (try first | exact False.elim hc | (exfalso; omega))))
  · rename_i h4
    have h5 := dv_lt (a := D a) (b := D b) i.toNat (D_dig a) (D_dig b) hl (nth_some h4 h2) (nth_some h4 (by omega)) hc (by rwa [show i.toNat + 1 = (i + 1).toNat by omega])
    rw [dv_D, dv_D] at h5
    exact X.ret (vs := [_]) rfl ⟨rfl, rfl⟩ rfl (fun w hw => ⟨ret_int (by unfold ordI; rw [if_pos (by omega)]), hw.ext⟩)
  · rename_i h4 _
    have h5 := dv_lt (a := D b) (b := D a) i.toNat (D_dig b) (D_dig a) hl.symm (nth_some h4 (by omega)) (nth_some h4 h2) hc (by rw [show i.toNat + 1 = (i + 1).toNat by omega]; exact h3.symm)
    rw [dv_D, dv_D] at h5
    exact X.ret (vs := [_]) rfl ⟨rfl, rfl⟩ rfl (fun w hw => ⟨ret_int (by unfold ordI; rw [if_neg (by omega), if_pos (by omega)]), hw.ext⟩)
  · rename_i h4 h5
    refine X.again (i - 1) ⟨by omega, by omega, ?_⟩ (by omega) ⟨rfl, rfl, rfl, trivial⟩ (fun w h => h)
    rw [show i - 1 + 1 = i by omega, drop_nth h4 h2, drop_nth h4 (by omega), h3, show nth (D a) i = nth (D b) i by omega]
  · rw [show (i + 1).toNat = 0 by omega, List.drop_zero, List.drop_zero] at h3
    have h4 := D_inj h3
    exact X.ret (vs := [_]) rfl ⟨rfl, rfl⟩ rfl (fun w hw => ⟨ret_int (by unfold ordI; rw [if_neg (by omega), if_neg (by omega)]), hw.ext⟩)

theorem addL_step1 {la lb : List Int} {i c : Int} (h0 : 0 ≤ i) (h1 : i < la.length) (h2 : i < lb.length) : addL (la.drop i.toNat) (lb.drop i.toNat) c = (c + nth la i + nth lb i) % 268435456 :: addL (la.drop (i + 1).toNat) (lb.drop (i + 1).toNat) ((c + nth la i + nth lb i) / 268435456) := by
  rw [drop_nth h0 h1, drop_nth h0 h2, addL]
theorem addL_step2 {la lb : List Int} {i c : Int} (h0 : 0 ≤ i) (h1 : i < la.length) (h2 : lb.length ≤ i) : addL (la.drop i.toNat) (lb.drop i.toNat) c = (c + nth la i) % 268435456 :: addL (la.drop (i + 1).toNat) (lb.drop (i + 1).toNat) ((c + nth la i) / 268435456) := by
  rw [drop_nth h0 h1, drop_end h2, drop_end (l := lb) (m := i + 1) (by omega), addL]
theorem addL_step3 {la lb : List Int} {i c : Int} (h0 : 0 ≤ i) (h1 : la.length ≤ i) (h2 : i < lb.length) : addL (la.drop i.toNat) (lb.drop i.toNat) c = (c + nth lb i) % 268435456 :: addL (la.drop (i + 1).toNat) (lb.drop (i + 1).toNat) ((c + nth lb i) / 268435456) := by
  rw [drop_nth h0 h2, drop_end h1, drop_end (l := la) (m := i + 1) (by omega), addL]
theorem addL_step4 {la lb : List Int} {i c : Int} (h1 : la.length ≤ i) (h2 : lb.length ≤ i) (h3 : 0 < c) (h4 : c ≤ 1) : addL (la.drop i.toNat) (lb.drop i.toNat) c = c % 268435456 :: addL (la.drop (i + 1).toNat) (lb.drop (i + 1).toNat) (c / 268435456) := by
  rw [drop_end h1, drop_end h2, drop_end (l := la) (m := i + 1) (by omega), drop_end (l := lb) (m := i + 1) (by omega), addL, if_pos h3, addL, if_neg (by omega), show c = 1 by omega]; rfl
theorem sum_c (sa sb : Value) (a b : Nat) (hla : (D a).length ≤ 1000000) (hlb : (D b).length ≤ 1000000) : ContX Try.prog [Hl.rd sa cI 1 (D a), Hl.rd sb cI 1 (D b)] 60 [sa, sb] (fun _ : Sl => True) (fun v => v.v) (fun v => [Hl.nw v.v cI 1 (D (a + b))]) := fun w hw0 => by
  refine enter Try.func60 rfl rfl rfl hw0 ?_
  repeat' (first
    | (refine nxV ?_)
    | (show RS _ _ _ _ _ _ _ _; first | (refine nxRS ?_) | (refine nxRS1 fun _ => ?_))
    | (show RM _ _ _ _ _ _ _ _ _ _; first | (refine nxRM ?_) | (refine nxRM1 fun _ => ?_))
    | (refine nxG ?_)
    | (refine nxX ?_)
    | (refine G.condN rfl (fun hc => ?_) (fun hc => ?_) <;> (try first | exact False.elim hc | (exfalso; omega))))
  generalize hA : D a = la at *
  generalize hB : D b = lb at *
  have hda : Dig la := hA ▸ D_dig a
  have hdb : Dig lb := hB ▸ D_dig b
  refine G.loop (ι := Sl × Int × Int × List Int) (fun x => [(0, sa), (1, sb), (5, x.1.v), (6, .int .i64 x.2.1), (7, .int .i64 x.2.2.1)]) (fun x => [Hl.rw x.1.v 3 cI 1 x.2.2.2, Hl.rd sa cI 1 la, Hl.rd sb cI 1 lb])
    (fun x => 0 ≤ x.2.1 ∧ x.2.1 ≤ 1 ∧ 0 ≤ x.2.2.1 ∧ x.2.2.1 ≤ la.length + lb.length + 1 ∧ (x.2.2.2.length : Int) = x.2.2.1 ∧ (x.2.2.1 ≤ la.length ∨ x.2.2.1 ≤ lb.length ∨ x.2.1 = 0) ∧ x.2.2.2 ++ addL (la.drop x.2.2.1.toNat) (lb.drop x.2.2.1.toNat) x.2.1 = addL la lb 0)
    (fun x => (la.length + lb.length + 2 - x.2.2.1).toNat) (⟨none, 0, 0⟩, 0, 0, []) ⟨by decide, by decide, by decide, by dsimp only; omega, rfl, .inr (.inr rfl), by simp⟩ ⟨rfl, rfl, rfl, rfl, rfl, trivial⟩ (fun w h => h.nilRow _ _ _) ?_
  rintro ⟨v, c, i, out⟩ mx ⟨h1, h2, h3, h4, h5, h6, h7⟩ hmx
  dsimp only at h1 h2 h3 h4 h5 h6 h7 hmx ⊢
  have hna := hda.nth i
  have hnb := hdb.nth i
  repeat' (first
    | (refine nxV ?_)
    | (show RS _ _ _ _ _ _ _ _; first | (refine nxRS ?_) | (refine nxRS1 fun _ => ?_))
    | (show RM _ _ _ _ _ _ _ _ _ _; first | (refine nxRM ?_) | (refine nxRM1 fun _ => ?_))
    | (refine nxG ?_)
    | (refine nxX ?_)
    | (refine G.condN rfl (fun hc => ?_) (fun hc => ?_) <;> (try first | exact False.elim hc | (exfalso; omega))))
  · rename_i h8 h9 _ v'
    refine X.again (v', (c + nth la i + nth lb i) / 268435456, i + 1, out ++ [(c + nth la i + nth lb i) % 268435456]) ⟨by dsimp only; omega, by dsimp only; omega, by dsimp only; omega, by dsimp only; omega, by dsimp only; rw [List.length_append]; simp; omega, by dsimp only; omega, ?_⟩ (by dsimp only; omega) ⟨rfl, rfl, rfl, rfl, rfl, trivial⟩ (fun w h => h.sub (by (first | exact List.Sublist.refl _ | exact .cons _ (List.Sublist.refl _) | exact .cons _ (.cons _ (List.Sublist.refl _)) | exact .cons _ (.cons _ (.cons _ (List.Sublist.refl _))) | exact .cons _ (.cons _ (.cons _ (.cons _ (List.Sublist.refl _)))) | exact .cons _ (.cons _ (.cons _ (.cons _ (.cons _ (List.Sublist.refl _))))) | exact .cons _ (.cons _ (.cons _ (.cons _ (.cons _ (.cons _ (List.Sublist.refl _)))))) | exact .cons _ (.cons _ (.cons _ (.cons _ (.cons _ (.cons _ (.cons _ (List.Sublist.refl _))))))) | exact .cons _ (.cons _ (.cons _ (.cons _ (.cons _ (.cons _ (.cons _ (.cons _ (List.Sublist.refl _)))))))))))
    dsimp only
    rw [← h7, addL_step1 h3 h9 (by omega), List.append_assoc, List.singleton_append]
  · rename_i h8 h9 _ v'
    refine X.again (v', (c + nth la i) / 268435456, i + 1, out ++ [(c + nth la i) % 268435456]) ⟨by dsimp only; omega, by dsimp only; omega, by dsimp only; omega, by dsimp only; omega, by dsimp only; rw [List.length_append]; simp; omega, by dsimp only; omega, ?_⟩ (by dsimp only; omega) ⟨rfl, rfl, rfl, rfl, rfl, trivial⟩ (fun w h => h.sub (by (first | exact List.Sublist.refl _ | exact .cons _ (List.Sublist.refl _) | exact .cons _ (.cons _ (List.Sublist.refl _)) | exact .cons _ (.cons _ (.cons _ (List.Sublist.refl _))) | exact .cons _ (.cons _ (.cons _ (.cons _ (List.Sublist.refl _)))) | exact .cons _ (.cons _ (.cons _ (.cons _ (.cons _ (List.Sublist.refl _))))) | exact .cons _ (.cons _ (.cons _ (.cons _ (.cons _ (.cons _ (List.Sublist.refl _)))))) | exact .cons _ (.cons _ (.cons _ (.cons _ (.cons _ (.cons _ (.cons _ (List.Sublist.refl _))))))) | exact .cons _ (.cons _ (.cons _ (.cons _ (.cons _ (.cons _ (.cons _ (.cons _ (List.Sublist.refl _)))))))))))
    dsimp only
    rw [← h7, addL_step2 h3 h9 (by omega), List.append_assoc, List.singleton_append]
  · rename_i h8 h9 _ v'
    refine X.again (v', (c + nth lb i) / 268435456, i + 1, out ++ [(c + nth lb i) % 268435456]) ⟨by dsimp only; omega, by dsimp only; omega, by dsimp only; omega, by dsimp only; omega, by dsimp only; rw [List.length_append]; simp; omega, by dsimp only; omega, ?_⟩ (by dsimp only; omega) ⟨rfl, rfl, rfl, rfl, rfl, trivial⟩ (fun w h => h.sub (by (first | exact List.Sublist.refl _ | exact .cons _ (List.Sublist.refl _) | exact .cons _ (.cons _ (List.Sublist.refl _)) | exact .cons _ (.cons _ (.cons _ (List.Sublist.refl _))) | exact .cons _ (.cons _ (.cons _ (.cons _ (List.Sublist.refl _)))) | exact .cons _ (.cons _ (.cons _ (.cons _ (.cons _ (List.Sublist.refl _))))) | exact .cons _ (.cons _ (.cons _ (.cons _ (.cons _ (.cons _ (List.Sublist.refl _)))))) | exact .cons _ (.cons _ (.cons _ (.cons _ (.cons _ (.cons _ (.cons _ (List.Sublist.refl _))))))) | exact .cons _ (.cons _ (.cons _ (.cons _ (.cons _ (.cons _ (.cons _ (.cons _ (List.Sublist.refl _)))))))))))
    dsimp only
    rw [← h7, addL_step3 h3 h9 (by omega), List.append_assoc, List.singleton_append]
  · rename_i h8 h9 _ v'
    refine X.again (v', (c) / 268435456, i + 1, out ++ [(c) % 268435456]) ⟨by dsimp only; omega, by dsimp only; omega, by dsimp only; omega, by dsimp only; omega, by dsimp only; rw [List.length_append]; simp; omega, by dsimp only; omega, ?_⟩ (by dsimp only; omega) ⟨rfl, rfl, rfl, rfl, rfl, trivial⟩ (fun w h => h.sub (by (first | exact List.Sublist.refl _ | exact .cons _ (List.Sublist.refl _) | exact .cons _ (.cons _ (List.Sublist.refl _)) | exact .cons _ (.cons _ (.cons _ (List.Sublist.refl _))) | exact .cons _ (.cons _ (.cons _ (.cons _ (List.Sublist.refl _)))) | exact .cons _ (.cons _ (.cons _ (.cons _ (.cons _ (List.Sublist.refl _))))) | exact .cons _ (.cons _ (.cons _ (.cons _ (.cons _ (.cons _ (List.Sublist.refl _)))))) | exact .cons _ (.cons _ (.cons _ (.cons _ (.cons _ (.cons _ (.cons _ (List.Sublist.refl _))))))) | exact .cons _ (.cons _ (.cons _ (.cons _ (.cons _ (.cons _ (.cons _ (.cons _ (List.Sublist.refl _)))))))))))
    dsimp only
    rw [← h7, addL_step4 h9 (by omega) (by omega) h2, List.append_assoc, List.singleton_append]
  · have h8 : addL (la.drop i.toNat) (lb.drop i.toNat) c = [] := by
      rw [drop_end (by omega), drop_end (by omega), addL, if_neg (by omega)]
    have h9 : addL (D a) (D b) 0 = D (a + b) := addL_D a b 0 (by omega)
    rw [h8, List.append_nil, ← hA, ← hB, h9] at h7
    refine X.retN (vs := [_]) v rfl ⟨rfl, rfl⟩ rfl trivial rfl ?_
    rw [show D (a + b) = out from h7.symm]
    exact NewIn.rw (by exact memA) NewIn.nil
theorem subL_step {la lb : List Int} {i c : Int} (h0 : 0 ≤ i) (h1 : i < la.length) (h2 : i < lb.length) : subL (la.drop i.toNat) (lb.drop i.toNat) c = (if nth la i - c - nth lb i < 0 then nth la i - c - nth lb i + 268435456 else nth la i - c - nth lb i) :: subL (la.drop (i + 1).toNat) (lb.drop (i + 1).toNat) (if nth la i - c - nth lb i < 0 then 1 else 0) := by
  rw [drop_nth h0 h1, drop_nth h0 h2, subL]
theorem subL_step2 {la lb : List Int} {i c : Int} (h0 : 0 ≤ i) (h1 : i < la.length) (h2 : lb.length ≤ i) : subL (la.drop i.toNat) (lb.drop i.toNat) c = (if nth la i - c < 0 then nth la i - c + 268435456 else nth la i - c) :: subL (la.drop (i + 1).toNat) (lb.drop (i + 1).toNat) (if nth la i - c < 0 then 1 else 0) := by
  rw [drop_nth h0 h1, drop_end h2, drop_end (l := lb) (m := i + 1) (by omega), subL]
theorem less_c (sa sb : Value) (a b : Nat) (hla : (D a).length ≤ 1000000) (hba : b ≤ a) : ContX Try.prog [Hl.rd sa cI 1 (D a), Hl.rd sb cI 1 (D b)] 66 [sa, sb] (fun _ : Sl => True) (fun v => v.v) (fun v => [Hl.nw v.v cI 1 (D (a - b))]) := fun w hw0 => by
  refine enter Try.func66 rfl rfl rfl hw0 ?_
  repeat' (first
    | (refine nxV ?_)
    | (show RS _ _ _ _ _ _ _ _; first | (refine nxRS ?_) | (refine nxRS1 fun _ => ?_))
    | (show RM _ _ _ _ _ _ _ _ _ _; first | (refine nxRM ?_) | (refine nxRM1 fun _ => ?_))
    | (refine nxG ?_)
    | (refine nxX ?_)
    | (refine G.condN rfl (fun hc => ?_) (fun hc => ?_) <;> (try first | exact False.elim hc | (exfalso; omega))))
  have hlb := D_len_le hba
  generalize hA : D a = la at *
  generalize hB : D b = lb at *
  have hda : Dig la := hA ▸ D_dig a
  have hdb : Dig lb := hB ▸ D_dig b
  refine G.loop (ι := Sl × Int × Int × List Int) (fun x => [(0, sa), (1, sb), (5, x.1.v), (6, .int .i64 x.2.1), (7, .int .i64 x.2.2.1)]) (fun x => [Hl.rw x.1.v 3 cI 1 x.2.2.2, Hl.rd sa cI 1 la, Hl.rd sb cI 1 lb])
    (fun x => 0 ≤ x.2.1 ∧ x.2.1 ≤ 1 ∧ 0 ≤ x.2.2.1 ∧ x.2.2.1 ≤ la.length ∧ (x.2.2.2.length : Int) = x.2.2.1 ∧ x.2.2.2 ++ subL (la.drop x.2.2.1.toNat) (lb.drop x.2.2.1.toNat) x.2.1 = subL la lb 0)
    (fun x => (la.length - x.2.2.1).toNat) (⟨none, 0, 0⟩, 0, 0, []) ⟨by decide, by decide, by decide, by dsimp only; omega, rfl, by simp⟩ ⟨rfl, rfl, rfl, rfl, rfl, trivial⟩ (fun w h => h.nilRow _ _ _) ?_
  rintro ⟨v, c, i, out⟩ mx ⟨h1, h2, h3, h4, h5, h6⟩ hmx
  dsimp only at h1 h2 h3 h4 h5 h6 hmx ⊢
  have hna := hda.nth i
  have hnb := hdb.nth i
  repeat' (first
    | (refine nxV ?_)
    | (show RS _ _ _ _ _ _ _ _; first | (refine RS.callX (trim_c _ out (by omega)) ⟨rfl, rfl⟩ ?_; rintro v' _) | (refine RS.callXG (fun _ : True => trim_c _ out (by omega)) ⟨rfl, rfl⟩ ?_; rintro v' _) | (refine nxRS ?_) | (refine nxRS1 fun _ => ?_))
    | (show RM _ _ _ _ _ _ _ _ _ _; first | (refine RM.callX (trim_c _ out (by omega)) ?_; rintro v' _) | (refine RM.callXG (fun _ : True => trim_c _ out (by omega)) ?_; rintro v' _) | (refine nxRM ?_) | (refine nxRM1 fun _ => ?_))
    | (refine nxG ?_)
    | (refine nxX ?_)
    | (refine G.condN rfl (fun hc => ?_) (fun hc => ?_) <;> (try first | exact False.elim hc | (exfalso; omega))))
  · rename_i h8 h9 _ v'
    refine X.again (v', 1, i + 1, out ++ [nth la i - c - nth lb i + 268435456]) ⟨by simp, by simp, by dsimp only; omega, by dsimp only; omega, by dsimp only; rw [List.length_append]; simp; omega, ?_⟩ (by dsimp only; omega) ⟨rfl, rfl, rfl, rfl, rfl, trivial⟩ (fun w h => h.sub (by (first | exact List.Sublist.refl _ | exact .cons _ (List.Sublist.refl _) | exact .cons _ (.cons _ (List.Sublist.refl _)) | exact .cons _ (.cons _ (.cons _ (List.Sublist.refl _))) | exact .cons _ (.cons _ (.cons _ (.cons _ (List.Sublist.refl _)))) | exact .cons _ (.cons _ (.cons _ (.cons _ (.cons _ (List.Sublist.refl _))))) | exact .cons _ (.cons _ (.cons _ (.cons _ (.cons _ (.cons _ (List.Sublist.refl _)))))) | exact .cons _ (.cons _ (.cons _ (.cons _ (.cons _ (.cons _ (.cons _ (List.Sublist.refl _))))))) | exact .cons _ (.cons _ (.cons _ (.cons _ (.cons _ (.cons _ (.cons _ (.cons _ (List.Sublist.refl _)))))))))))
    dsimp only
    rw [← h6, subL_step h3 h8 h9, if_pos hc, if_pos hc, List.append_assoc, List.singleton_append]
  · rename_i h8 h9 _ v'
    refine X.again (v', 0, i + 1, out ++ [nth la i - c - nth lb i]) ⟨by simp, by simp, by dsimp only; omega, by dsimp only; omega, by dsimp only; rw [List.length_append]; simp; omega, ?_⟩ (by dsimp only; omega) ⟨rfl, rfl, rfl, rfl, rfl, trivial⟩ (fun w h => h.sub (by (first | exact List.Sublist.refl _ | exact .cons _ (List.Sublist.refl _) | exact .cons _ (.cons _ (List.Sublist.refl _)) | exact .cons _ (.cons _ (.cons _ (List.Sublist.refl _))) | exact .cons _ (.cons _ (.cons _ (.cons _ (List.Sublist.refl _)))) | exact .cons _ (.cons _ (.cons _ (.cons _ (.cons _ (List.Sublist.refl _))))) | exact .cons _ (.cons _ (.cons _ (.cons _ (.cons _ (.cons _ (List.Sublist.refl _)))))) | exact .cons _ (.cons _ (.cons _ (.cons _ (.cons _ (.cons _ (.cons _ (List.Sublist.refl _))))))) | exact .cons _ (.cons _ (.cons _ (.cons _ (.cons _ (.cons _ (.cons _ (.cons _ (List.Sublist.refl _)))))))))))
    dsimp only
    rw [← h6, subL_step h3 h8 h9, if_neg (by omega), if_neg (by omega), List.append_assoc, List.singleton_append]
  · rename_i h8 h9 _ v'
    refine X.again (v', 1, i + 1, out ++ [nth la i - c + 268435456]) ⟨by simp, by simp, by dsimp only; omega, by dsimp only; omega, by dsimp only; rw [List.length_append]; simp; omega, ?_⟩ (by dsimp only; omega) ⟨rfl, rfl, rfl, rfl, rfl, trivial⟩ (fun w h => h.sub (by (first | exact List.Sublist.refl _ | exact .cons _ (List.Sublist.refl _) | exact .cons _ (.cons _ (List.Sublist.refl _)) | exact .cons _ (.cons _ (.cons _ (List.Sublist.refl _))) | exact .cons _ (.cons _ (.cons _ (.cons _ (List.Sublist.refl _)))) | exact .cons _ (.cons _ (.cons _ (.cons _ (.cons _ (List.Sublist.refl _))))) | exact .cons _ (.cons _ (.cons _ (.cons _ (.cons _ (.cons _ (List.Sublist.refl _)))))) | exact .cons _ (.cons _ (.cons _ (.cons _ (.cons _ (.cons _ (.cons _ (List.Sublist.refl _))))))) | exact .cons _ (.cons _ (.cons _ (.cons _ (.cons _ (.cons _ (.cons _ (.cons _ (List.Sublist.refl _)))))))))))
    dsimp only
    rw [← h6, subL_step2 h3 h8 h9, if_pos hc, if_pos hc, List.append_assoc, List.singleton_append]
  · rename_i h8 h9 _ v'
    refine X.again (v', 0, i + 1, out ++ [nth la i - c]) ⟨by simp, by simp, by dsimp only; omega, by dsimp only; omega, by dsimp only; rw [List.length_append]; simp; omega, ?_⟩ (by dsimp only; omega) ⟨rfl, rfl, rfl, rfl, rfl, trivial⟩ (fun w h => h.sub (by (first | exact List.Sublist.refl _ | exact .cons _ (List.Sublist.refl _) | exact .cons _ (.cons _ (List.Sublist.refl _)) | exact .cons _ (.cons _ (.cons _ (List.Sublist.refl _))) | exact .cons _ (.cons _ (.cons _ (.cons _ (List.Sublist.refl _)))) | exact .cons _ (.cons _ (.cons _ (.cons _ (.cons _ (List.Sublist.refl _))))) | exact .cons _ (.cons _ (.cons _ (.cons _ (.cons _ (.cons _ (List.Sublist.refl _)))))) | exact .cons _ (.cons _ (.cons _ (.cons _ (.cons _ (.cons _ (.cons _ (List.Sublist.refl _))))))) | exact .cons _ (.cons _ (.cons _ (.cons _ (.cons _ (.cons _ (.cons _ (.cons _ (List.Sublist.refl _)))))))))))
    dsimp only
    rw [← h6, subL_step2 h3 h8 h9, if_neg (by omega), if_neg (by omega), List.append_assoc, List.singleton_append]
  · have h8 : out = subL la lb 0 := by
      rw [← h6, drop_end (by omega)]; simp [subL]
    refine X.retN (vs := [_]) v' rfl ⟨rfl, rfl⟩ rfl trivial rfl ?_
    rw [← subL_D hba, hA, hB, ← h8]
    exact NewIn.nw (by exact memA) NewIn.nil
end Go.Proofs.Ytcjganfppcjdfaa
