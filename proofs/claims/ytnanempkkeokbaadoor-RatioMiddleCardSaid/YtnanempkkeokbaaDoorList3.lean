/- Lists of fractions: the library's search, the check of a list, Mean. -/
import Derived.Test.YtnanempkkeokbaaDoorRat3
set_option linter.unusedVariables false
set_option maxHeartbeats 4000000
namespace Go.Proofs.YtnanempkkeokbaaDoor
open Go.RowKit

abbrev FrP := Int × Int
abbrev cF (x : FrP) : List Value := [.int .i64 x.1, .int .i64 x.2]
abbrev frV (x : FrP) : Value := .agg [.int .i64 x.1, .int .i64 x.2].toArray
theorem find_some {p : Nat → Bool} {m j : Nat} (hj : j < m) (h1 : ∀ k, k < j → p k = false) (h2 : p j = true) : (List.range m).find? p = some j :=
  List.find?_range_eq_some.2 ⟨h2, List.mem_range.2 hj, fun k hk => by rw [h1 k hk]; rfl⟩
theorem find_none {p : Nat → Bool} {m : Nat} (h1 : ∀ k, k < m → p k = false) : (List.range m).find? p = none :=
  List.find?_range_eq_none.2 fun k hk => by rw [h1 k hk]; rfl
/-- slices.IndexFunc: the first at which the predicate holds. -/
theorem indexF_c {I : World → Prop} (hI : ∀ w w', I w → Below w.heap.size w w' → I w') {f : FuncId} {cap : List Value} (hg : isGo Tryd.prog f = true) (p : FrP → Bool) (v : Value) (l : List FrP) (hl : l.length ≤ 1000000)
    (hf : ∀ i : Nat, i < l.length → ContIn Tryd.prog I f ([frV (nth l i)] ++ cap) (.bool (p (nth l i)))) (r : Int) (hr : r = match (List.range l.length).find? (fun i : Nat => p (nth l i)) with
      | some k => (k : Int)
      | none => -1) :
    ContIn Tryd.prog (fun w => RO w v 2 l.length (l.flatMap cF) ∧ I w) 71 [v, .func (.func f) #[] cap.toArray] (.int .i64 r) := fun w hw0 => by
  refine enter Tryd.func71 rfl rfl rfl (Hp := [Hl.rd v cF 2 l]) (fun h hm => by
    rcases List.mem_singleton.1 hm with rfl
    exact ⟨⟨hw0.1, fun h => by cases h⟩, rfl⟩) ?_
  repeat' (first
    | (refine nxV ?_)
    | (show RS _ _ _ _ _ _ _ _; first | (refine nxRS ?_) | (refine nxRS1 fun _ => ?_))
    | (show RM _ _ _ _ _ _ _ _ _ _; first | (refine nxRM ?_) | (refine nxRM1 fun _ => ?_))
    | (refine nxG ?_)
    | (refine nxX ?_)
    | (refine G.condN rfl (fun hc => ?_) (fun hc => ?_) <;> (try first | exact False.elim hc | (exfalso; omega))))
  refine G.loop (ι := Nat) (fun i => [(0, v), (1, .func (.func f) #[] cap.toArray), (7, .int .i64 l.length), (8, .int .i64 (i : Int))]) (fun _ => [Hl.rd v cF 2 l]) (fun i => i ≤ l.length ∧ ∀ k, k < i → p (nth l k) = false) (fun i => l.length - i) 0 ⟨by omega, fun k hk => by omega⟩ ⟨rfl, rfl, rfl, rfl, trivial⟩ (fun w h => h) ?_
  rintro i mx ⟨g1, g2⟩ hmx
  rcases Nat.lt_or_ge i l.length with hi | hi
  · repeat' (first
    | (refine YK.mk (y_callV (C := I) (by rfl) (hf i hi) (fun w hw => hI _ _ hw0.2 hw.ext) ⟨rfl, rfl⟩ hg) ?_)
    | (refine nxV ?_)
    | (show RS _ _ _ _ _ _ _ _; first | (refine nxRS ?_) | (refine nxRS1 fun _ => ?_))
    | (show RM _ _ _ _ _ _ _ _ _ _; first | (refine nxRM ?_) | (refine nxRM1 fun _ => ?_))
    | (refine nxG ?_)
    | (refine nxX ?_)
    | (refine G.condN rfl (fun hc => ?_) (fun hc => ?_) <;> (try first | exact False.elim hc | (exfalso; omega))))
    · rw [find_some hi g2 hc] at hr
      exact X.ret (vs := [_]) rfl ⟨rfl, rfl⟩ rfl (fun w hw => ⟨ret_int hr.symm, hw.ext⟩)
    · refine X.again (i + 1) ⟨by omega, fun k hk => ?_⟩ (by omega) ⟨rfl, rfl, rfl, rfl, trivial⟩ (by exact fun w h => h.sub (by repeat (first | exact List.Sublist.refl _ | apply List.Sublist.cons_cons | apply List.Sublist.cons)))
      rcases Nat.lt_or_ge k i with h | h
      · exact g2 k h
      · rw [show k = i by omega]; exact hc
  · repeat' (first
    | (refine nxV ?_)
    | (show RS _ _ _ _ _ _ _ _; first | (refine nxRS ?_) | (refine nxRS1 fun _ => ?_))
    | (show RM _ _ _ _ _ _ _ _ _ _; first | (refine nxRM ?_) | (refine nxRM1 fun _ => ?_))
    | (refine nxG ?_)
    | (refine nxX ?_)
    | (refine G.condN rfl (fun hc => ?_) (fun hc => ?_) <;> (try first | exact False.elim hc | (exfalso; omega))))
    rw [find_none (fun k hk => g2 k (by omega))] at hr
    exact X.ret (vs := [_]) rfl ⟨rfl, rfl⟩ rfl (fun w hw => ⟨ret_int hr.symm, hw.ext⟩)
/-- slices.ContainsFunc. -/
theorem containsF_c {I : World → Prop} (hI : ∀ w w', I w → Below w.heap.size w w' → I w') {f : FuncId} {cap : List Value} (hg : isGo Tryd.prog f = true) (p : FrP → Bool) (v : Value) (l : List FrP) (hl : l.length ≤ 1000000)
    (hf : ∀ i : Nat, i < l.length → ContIn Tryd.prog I f ([frV (nth l i)] ++ cap) (.bool (p (nth l i)))) :
    ContIn Tryd.prog (fun w => RO w v 2 l.length (l.flatMap cF) ∧ I w) 61 [v, .func (.func f) #[] cap.toArray] (.bool ((List.range l.length).any fun i : Nat => p (nth l i))) := fun w hw0 => by
  have hx := indexF_c hI hg p v l hl hf _ rfl
  have hany : ((List.range l.length).any fun i : Nat => p (nth l i)) = ((List.range l.length).find? fun i : Nat => p (nth l i)).isSome := by rw [Bool.eq_iff_iff]; simp [List.find?_isSome]
  refine enter Tryd.func61 rfl rfl rfl (Hp := [Hl.rd v cF 2 l]) (fun h hm => by
    rcases List.mem_singleton.1 hm with rfl
    exact ⟨⟨hw0.1, fun h => by cases h⟩, rfl⟩) ?_
  cases hfd : (List.range l.length).find? (fun i : Nat => p (nth l i)) with
  | none =>
    rw [hfd] at hx hany
    repeat' (first
    | (refine YK.mk (y_callIn hx (fun w hw => ⟨(hw.all _ (List.Mem.head _)).1, hI _ _ hw0.2 hw.ext⟩) ⟨rfl, rfl, rfl⟩ (by decide +kernel)) ?_)
    | (refine nxV ?_)
    | (show RS _ _ _ _ _ _ _ _; first | (refine nxRS ?_) | (refine nxRS1 fun _ => ?_))
    | (show RM _ _ _ _ _ _ _ _ _ _; first | (refine nxRM ?_) | (refine nxRM1 fun _ => ?_))
    | (refine nxG ?_)
    | (refine nxX ?_)
    | (refine G.condN rfl (fun hc => ?_) (fun hc => ?_) <;> (try first | exact False.elim hc | (exfalso; omega))))
    exact X.ret (vs := [_]) rfl ⟨rfl, rfl⟩ rfl (fun w hw => ⟨ret_bool (by rw [hany]; rfl), hw.ext⟩)
  | some k =>
    rw [hfd] at hx hany
    repeat' (first
    | (refine YK.mk (y_callIn hx (fun w hw => ⟨(hw.all _ (List.Mem.head _)).1, hI _ _ hw0.2 hw.ext⟩) ⟨rfl, rfl, rfl⟩ (by decide +kernel)) ?_)
    | (refine nxV ?_)
    | (show RS _ _ _ _ _ _ _ _; first | (refine nxRS ?_) | (refine nxRS1 fun _ => ?_))
    | (show RM _ _ _ _ _ _ _ _ _ _; first | (refine nxRM ?_) | (refine nxRM1 fun _ => ?_))
    | (refine nxG ?_)
    | (refine nxX ?_)
    | (refine G.condN rfl (fun hc => ?_) (fun hc => ?_) <;> (try first | exact False.elim hc | (exfalso; omega))))
    exact X.ret (vs := [_]) rfl ⟨rfl, rfl⟩ rfl (fun w hw => ⟨ret_bool (by rw [hany]; simp), hw.ext⟩)

def vF (x : FrP) : Bool := validF x.1 x.2
def listS (l : List FrP) : Int := if ((List.range l.length).any fun i : Nat => !vF (nth l i)) = true then 1 else if 1000 < l.length then 4 else if l.length = 0 then 14 else 0
theorem notValid_c {x : FrP} (h : J64 x.1 ∧ J64 x.2) : ContIn Tryd.prog (fun _ => True) 62 ([frV x] ++ []) (.bool (!vF x)) := fun w _ => by
  have h1 := rvalid_c h
  refine enter0 Tryd.func62 rfl rfl rfl ?_
  repeat' (first
    | (show YK _ _ _ _ _ _ _; first | refine YK.mk (y_callA (h1) ⟨rfl, rfl⟩) ?_)
    | (show YK _ _ _ _ _ _ _; refine YK.ofV vAuto ?_)
    | (show VK _ _ _ _ _ _ _; refine VK.mk vAuto ?_)
    | (show RS _ _ _ _ _ _ _ _; first | (refine nxRS ?_) | (refine nxRS1 fun _ => ?_))
    | (show RM _ _ _ _ _ _ _ _ _ _; first | (refine nxRM ?_) | (refine nxRM1 fun _ => ?_))
    | (show YG _ _ _ _ _ _ _ _; refine YG.mk (fun hb => by (try (have hc := And.left hb; have hb := And.right hb; rw [hc])); (try rw [hb]); first | exact (y_callA (h1) ⟨rfl, rfl⟩) | exact V.y vAuto) ?_)
    | (show VG _ _ _ _ _ _ _ _; refine VG.mk (fun hb => by (try (have hc := And.left hb; have hb := And.right hb; rw [hc])); (try rw [hb]); exact vAuto) ?_)
    | (refine nxX ?_)
    | (refine G.condN rfl (fun hc => ?_) (fun hc => ?_) <;> (try first | exact False.elim hc | (exfalso; omega))))
  exact X.ret (vs := [_]) rfl ⟨rfl, rfl⟩ rfl (fun w hw => ⟨rfl, hw.ext⟩)
abbrev allJ (l : List FrP) : Prop := ∀ i : Nat, i < l.length → J64 (nth l i).1 ∧ J64 (nth l i).2
theorem list_c (v : Value) (l : List FrP) (hl : l.length ≤ 1000000) (hj : allJ l) : ContR Tryd.prog [Hl.rd v cF 2 l] 50 [v] (.int .i64 (listS l)) := fun w hw0 => by
  have hx := containsF_c (I := fun _ => True) (fun _ _ _ _ => trivial) (f := 62) (cap := []) (by decide +kernel) (fun x => !vF x) v l hl (fun i hi => notValid_c (hj i hi))
  cases hb : (List.range l.length).any (fun i : Nat => !vF (nth l i)) with
  | true =>
    have e : listS l = 1 := by unfold listS; rw [if_pos hb]
    rw [hb] at hx
    refine enter Tryd.func50 rfl rfl rfl hw0 ?_
    repeat' (first
    | (refine YK.mk (y_callIn hx (fun w hw => ⟨(hw.all _ (List.Mem.head _)).1, trivial⟩) ⟨rfl, rfl, rfl⟩ (by decide +kernel)) ?_)
    | (refine nxV ?_)
    | (show RS _ _ _ _ _ _ _ _; first | (refine nxRS ?_) | (refine nxRS1 fun _ => ?_))
    | (show RM _ _ _ _ _ _ _ _ _ _; first | (refine nxRM ?_) | (refine nxRM1 fun _ => ?_))
    | (refine nxG ?_)
    | (refine nxX ?_)
    | (refine G.condN rfl (fun hc => ?_) (fun hc => ?_) <;> (try first | exact False.elim hc | (exfalso; omega))))
    exact X.ret (vs := [_]) rfl ⟨rfl, rfl⟩ rfl (fun w hw => ⟨ret_int e.symm, hw.ext⟩)
  | false =>
    have e : listS l = if 1000 < l.length then 4 else if l.length = 0 then 14 else 0 := by unfold listS; rw [if_neg (by rw [hb]; decide)]
    rw [hb] at hx
    refine enter Tryd.func50 rfl rfl rfl hw0 ?_
    repeat' (first
    | (refine YK.mk (y_callIn hx (fun w hw => ⟨(hw.all _ (List.Mem.head _)).1, trivial⟩) ⟨rfl, rfl, rfl⟩ (by decide +kernel)) ?_)
    | (refine nxV ?_)
    | (show RS _ _ _ _ _ _ _ _; first | (refine nxRS ?_) | (refine nxRS1 fun _ => ?_))
    | (show RM _ _ _ _ _ _ _ _ _ _; first | (refine nxRM ?_) | (refine nxRM1 fun _ => ?_))
    | (refine nxG ?_)
    | (refine nxX ?_)
    | (refine G.condN rfl (fun hc => ?_) (fun hc => ?_) <;> (try first | exact False.elim hc | (exfalso; omega))))
    all_goals refine X.ret (vs := [_]) rfl ⟨rfl, rfl⟩ rfl (fun w hw => ⟨ret_int ?_, hw.ext⟩)
    all_goals (rw [e]; (repeat' split) <;> first | rfl | omega)
/-- Adding one after the other. -/
def meanGo : FrP → List FrP → FrP × Int
  | s, [] => (s, 0)
  | s, x :: r => if (addF s.1 s.2 x.1 x.2).2 = 0 then meanGo (addF s.1 s.2 x.1 x.2).1 r else ((0, 0), (addF s.1 s.2 x.1 x.2).2)
theorem meanGo_nil (s : FrP) : meanGo s [] = (s, 0) := rfl
theorem meanGo_cons (s x : FrP) (r : List FrP) : meanGo s (x :: r) = if (addF s.1 s.2 x.1 x.2).2 = 0 then meanGo (addF s.1 s.2 x.1 x.2).1 r else ((0, 0), (addF s.1 s.2 x.1 x.2).2) := rfl
def meanS (l : List FrP) : FrP × Int := if listS l ≠ 0 then ((0, 0), listS l) else
  if (meanGo (0, 1) l).2 ≠ 0 then ((0, 0), (meanGo (0, 1) l).2) else divF (meanGo (0, 1) l).1.1 (meanGo (0, 1) l).1.2 l.length 1
theorem makeF_J (n d : Int) : Q30 (makeF n d).1.1 ∧ Q30 (makeF n d).1.2 := by
  unfold makeF
  split
  · decide
  · dsimp only
    generalize n.natAbs / Int.gcd n d = a
    generalize d.natAbs / Int.gcd n d = b
    split
    · decide
    · dsimp only
      constructor
      · split <;> omega
      · omega
theorem addF_J (a b c d : Int) : Q30 (addF a b c d).1.1 ∧ Q30 (addF a b c d).1.2 := by
  unfold addF
  split
  · decide
  · exact makeF_J _ _
theorem drop_consF {l : List FrP} {i : Nat} (h : i < l.length) : l.drop i = nth l (i : Int) :: l.drop (i + 1) := by
  have e := nth_some (l := l) (m := (i : Int)) (by omega) (by omega)
  rw [Int.toNat_natCast, List.getElem?_eq_getElem h] at e
  rw [List.drop_eq_getElem_cons h, Option.some.inj e]
theorem mean_c (v : Value) (l : List FrP) (hl : l.length ≤ 1000000) (hj : allJ l) : ContR Tryd.prog [Hl.rd v cF 2 l] 33 [v] (mkV (meanS l)) := fun w hw0 => by
  have h1 := list_c v l hl hj
  by_cases he : listS l = 0
  · have hu : meanS l = if (meanGo (0, 1) l).2 ≠ 0 then ((0, 0), (meanGo (0, 1) l).2) else divF (meanGo (0, 1) l).1.1 (meanGo (0, 1) l).1.2 l.length 1 := by unfold meanS; rw [if_neg (by omega)]
    rw [he] at h1
    refine enter Tryd.func33 rfl rfl rfl hw0 ?_
    repeat' (first
    | (show YK _ _ _ _ _ _ _; first | refine YK.mk (y_callRA (h1) ⟨rfl, rfl⟩) ?_)
    | (show YK _ _ _ _ _ _ _; refine YK.ofV vAuto ?_)
    | (show VK _ _ _ _ _ _ _; refine VK.mk vAuto ?_)
    | (show RS _ _ _ _ _ _ _ _; first | (refine nxRS ?_) | (refine nxRS1 fun _ => ?_))
    | (show RM _ _ _ _ _ _ _ _ _ _; first | (refine nxRM ?_) | (refine nxRM1 fun _ => ?_))
    | (show YG _ _ _ _ _ _ _ _; refine YG.mk (fun hb => by (try (have hc := And.left hb; have hb := And.right hb; rw [hc])); (try rw [hb]); first | exact (y_callRA (h1) ⟨rfl, rfl⟩) | exact V.y vAuto) ?_)
    | (show VG _ _ _ _ _ _ _ _; refine VG.mk (fun hb => by (try (have hc := And.left hb; have hb := And.right hb; rw [hc])); (try rw [hb]); exact vAuto) ?_)
    | (refine nxX ?_)
    | (refine G.condN rfl (fun hc => ?_) (fun hc => ?_) <;> (try first | exact False.elim hc | (exfalso; omega))))
    rename_i b2 b5
    refine G.loop (ι := Nat × FrP) (fun x => [(0, v), (2, .pointer (some ⟨b2, 0, none⟩)), (5, .pointer (some ⟨b5, 0, none⟩)), (16, v), (17, .int .i64 l.length), (18, .int .i64 (x.1 : Int))]) (fun x => [Hl.blk b5 24 (cF x.2), Hl.blk b2 24 [.int .i64 0, .int .i64 0], Hl.rd v cF 2 l]) (fun x => x.1 ≤ l.length ∧ (J64 x.2.1 ∧ J64 x.2.2) ∧ meanGo x.2 (l.drop x.1) = meanGo (0, 1) l) (fun x => l.length - x.1) (0, (0, 1)) ⟨Nat.zero_le _, by decide, rfl⟩ ⟨rfl, rfl, rfl, rfl, rfl, rfl, trivial⟩ (by exact fun w h => h.sub (by repeat (first | exact List.Sublist.refl _ | apply List.Sublist.cons_cons | apply List.Sublist.cons))) ?_
    rintro ⟨i, s⟩ mx ⟨g1, g2, g3⟩ hmx
    dsimp only at g1 g2 g3 hmx ⊢
    rcases Nat.lt_or_ge i l.length with hi | hi
    · rw [drop_consF hi] at g3
      have q1 := Add_c (a := s.1) (b := s.2) (c := (nth l (i : Int)).1) (d := (nth l (i : Int)).2) ⟨g2, hj i hi⟩
      have q2 := addF_J s.1 s.2 (nth l (i : Int)).1 (nth l (i : Int)).2
      rw [meanGo_cons] at g3
      generalize addF s.1 s.2 (nth l (i : Int)).1 (nth l (i : Int)).2 = u at q1 q2 g3
      repeat' (first
    | (show YK _ _ _ _ _ _ _; first | refine YK.mk (y_callA (q1) ⟨rfl, rfl, rfl⟩) ?_)
    | (show YK _ _ _ _ _ _ _; refine YK.ofV vAuto ?_)
    | (show VK _ _ _ _ _ _ _; refine VK.mk vAuto ?_)
    | (show RS _ _ _ _ _ _ _ _; first | (refine nxRS ?_) | (refine nxRS1 fun _ => ?_))
    | (show RM _ _ _ _ _ _ _ _ _ _; first | (refine nxRM ?_) | (refine nxRM1 fun _ => ?_))
    | (show YG _ _ _ _ _ _ _ _; refine YG.mk (fun hb => by (try (have hc := And.left hb; have hb := And.right hb; rw [hc])); (try rw [hb]); first | exact (y_callA (q1) ⟨rfl, rfl, rfl⟩) | exact V.y vAuto) ?_)
    | (show VG _ _ _ _ _ _ _ _; refine VG.mk (fun hb => by (try (have hc := And.left hb; have hb := And.right hb; rw [hc])); (try rw [hb]); exact vAuto) ?_)
    | (refine nxX ?_)
    | (refine G.condN rfl (fun hc => ?_) (fun hc => ?_) <;> (try first | exact False.elim hc | (exfalso; omega))))
      · rw [if_neg hc] at g3
        exact X.ret (vs := [_, _]) rfl ⟨⟨_, _, _, _, rfl, (by exact memA), (by (repeat (first | exact .nil | apply LenIs.cons))), by decide +kernel, rfl⟩, rfl, rfl⟩ rfl (fun w hw => ⟨by rw [hu, ← g3, if_pos (show ((0, 0), u.2).2 ≠ 0 from hc)], hw.ext⟩)
      · rw [if_pos hc] at g3
        refine X.again (i + 1, u.1) ⟨by dsimp only; omega, by dsimp only; omega, g3⟩ (by dsimp only; omega) ⟨rfl, rfl, rfl, rfl, rfl, rfl, trivial⟩ ?_
        exact fun w h => h.sub (by repeat (first | exact List.Sublist.refl _ | apply List.Sublist.cons_cons | apply List.Sublist.cons))
    · obtain rfl : i = l.length := by omega
      rw [List.drop_length] at g3
      have q1 := Div_c (a := s.1) (b := s.2) (c := (l.length : Int)) (d := 1) ⟨g2, by omega, by omega⟩
      rw [show meanS l = divF s.1 s.2 l.length 1 by rw [hu, ← g3, meanGo_nil, if_neg (fun g => g rfl)]]
      repeat' (first
    | (show YK _ _ _ _ _ _ _; first | refine YK.mk (y_callA (q1) ⟨rfl, rfl, rfl⟩) ?_)
    | (show YK _ _ _ _ _ _ _; refine YK.ofV vAuto ?_)
    | (show VK _ _ _ _ _ _ _; refine VK.mk vAuto ?_)
    | (show RS _ _ _ _ _ _ _ _; first | (refine nxRS ?_) | (refine nxRS1 fun _ => ?_))
    | (show RM _ _ _ _ _ _ _ _ _ _; first | (refine nxRM ?_) | (refine nxRM1 fun _ => ?_))
    | (show YG _ _ _ _ _ _ _ _; refine YG.mk (fun hb => by (try (have hc := And.left hb; have hb := And.right hb; rw [hc])); (try rw [hb]); first | exact (y_callA (q1) ⟨rfl, rfl, rfl⟩) | exact V.y vAuto) ?_)
    | (show VG _ _ _ _ _ _ _ _; refine VG.mk (fun hb => by (try (have hc := And.left hb; have hb := And.right hb; rw [hc])); (try rw [hb]); exact vAuto) ?_)
    | (refine nxX ?_)
    | (refine G.condN rfl (fun hc => ?_) (fun hc => ?_) <;> (try first | exact False.elim hc | (exfalso; omega))))
      exact X.ret (vs := [_, _]) rfl ⟨⟨_, _, _, _, rfl, (by exact memA), (by (repeat (first | exact .nil | apply LenIs.cons))), by decide +kernel, rfl⟩, rfl, rfl⟩ rfl (fun w hw => ⟨rfl, hw.ext⟩)
  · have hu : meanS l = ((0, 0), listS l) := by unfold meanS; rw [if_pos he]
    rw [hu]
    refine enter Tryd.func33 rfl rfl rfl hw0 ?_
    repeat' (first
    | (show YK _ _ _ _ _ _ _; first | refine YK.mk (y_callRA (h1) ⟨rfl, rfl⟩) ?_)
    | (show YK _ _ _ _ _ _ _; refine YK.ofV vAuto ?_)
    | (show VK _ _ _ _ _ _ _; refine VK.mk vAuto ?_)
    | (show RS _ _ _ _ _ _ _ _; first | (refine nxRS ?_) | (refine nxRS1 fun _ => ?_))
    | (show RM _ _ _ _ _ _ _ _ _ _; first | (refine nxRM ?_) | (refine nxRM1 fun _ => ?_))
    | (show YG _ _ _ _ _ _ _ _; refine YG.mk (fun hb => by (try (have hc := And.left hb; have hb := And.right hb; rw [hc])); (try rw [hb]); first | exact (y_callRA (h1) ⟨rfl, rfl⟩) | exact V.y vAuto) ?_)
    | (show VG _ _ _ _ _ _ _ _; refine VG.mk (fun hb => by (try (have hc := And.left hb; have hb := And.right hb; rw [hc])); (try rw [hb]); exact vAuto) ?_)
    | (refine nxX ?_)
    | (refine G.condN rfl (fun hc => ?_) (fun hc => ?_) <;> (try first | exact False.elim hc | (exfalso; omega))))
    exact X.ret (vs := [_, _]) rfl ⟨⟨_, _, _, _, rfl, (by exact memA), (by (repeat (first | exact .nil | apply LenIs.cons))), by decide +kernel, rfl⟩, rfl, rfl⟩ rfl (fun w hw => ⟨rfl, hw.ext⟩)
end Go.Proofs.YtnanempkkeokbaaDoor
