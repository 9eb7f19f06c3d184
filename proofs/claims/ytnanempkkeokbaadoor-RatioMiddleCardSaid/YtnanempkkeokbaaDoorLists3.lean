/- Medians of both sides; slices.Clone, slices.Equal at fractions. -/
import Derived.Test.YtnanempkkeokbaaDoorRefL3
import Derived.Test.YtnanempkkeokbaaDoorUniq3
set_option linter.unusedVariables false
set_option maxHeartbeats 4000000
namespace Go.Proofs.YtnanempkkeokbaaDoor
open Go.RowKit Go.Sort

theorem clone3_c (A : Option Addr) (n c : Nat) (l : List FrP) (hl : l.length ≤ 1000000) : ContX Tryd.prog [Hl.rd (.slice A n c) cF 2 l] 36 [.slice A n c] (fun _ : Sl => True) (fun z => z.v) (fun z => [Hl.nw z.v cF 2 l]) := fun w hw0 => by
  obtain ⟨⟨⟨h1, A', c', e, hnc, hcells, _⟩, _⟩, _⟩ := hw0 _ (List.Mem.head _)
  cases e
  cases A with
  | none =>
    have hl0 : l = [] := by
      rcases l with _ | ⟨x, r⟩
      · rfl
      · obtain ⟨ad, h, _⟩ := hcells (by simp)
        cases h
    subst hl0
    refine enter Tryd.func36 rfl rfl rfl hw0 ?_
    repeat' (first
    | (refine nxV ?_)
    | (show RS _ _ _ _ _ _ _ _; first | (refine nxRS ?_) | (refine nxRS1 fun _ => ?_))
    | (show RM _ _ _ _ _ _ _ _ _ _; first | (refine nxRM ?_) | (refine nxRM1 fun _ => ?_))
    | (refine nxG ?_)
    | (refine nxX ?_)
    | (refine G.condN rfl (fun hc => ?_) (fun hc => ?_) <;> (try first | exact False.elim hc | (exfalso; omega))))
    · exact X.retN ⟨none, 0, 0⟩ rfl (vs := [_]) ⟨rfl, rfl⟩ rfl trivial rfl (NewIn.nilS NewIn.nil)
    · exact absurd hc (by simp [nilB])
  | some ad =>
    refine enter Tryd.func36 rfl rfl rfl hw0 ?_
    repeat' (first
    | (refine nxV ?_)
    | (show RS _ _ _ _ _ _ _ _; first | (refine nxRS ?_) | (refine nxRS1 fun _ => ?_))
    | (show RM _ _ _ _ _ _ _ _ _ _; first | (refine nxRM ?_) | (refine nxRM1 fun _ => ?_))
    | (refine nxG ?_)
    | (refine nxX ?_)
    | (refine G.condN rfl (fun hc => ?_) (fun hc => ?_) <;> (try first | exact False.elim hc | (exfalso; omega))))
    · exact absurd hc (by simp [nilB])
    · rename_i v0 v'
      exact X.retN v' rfl (vs := [_]) ⟨rfl, rfl⟩ rfl trivial rfl (NewIn.rw (by exact memA) NewIn.nil)
theorem equal3_c (v u : Value) (l : List FrP) (hl : l.length ≤ 1000000) : ContR Tryd.prog [Hl.rd v cF 2 l, Hl.rd u cF 2 l] 39 [v, u] (.bool true) := fun w hw0 => by
  refine enter Tryd.func39 rfl rfl rfl hw0 ?_
  repeat' (first
    | (refine nxV ?_)
    | (show RS _ _ _ _ _ _ _ _; first | (refine nxRS ?_) | (refine nxRS1 fun _ => ?_))
    | (show RM _ _ _ _ _ _ _ _ _ _; first | (refine nxRM ?_) | (refine nxRM1 fun _ => ?_))
    | (refine nxG ?_)
    | (refine G.mixedA 6 [.go 0, .go 1, .go 2, .go 3, .go 4, .go 5, .go 6, .go 7, .go 8] ?_)
    | (refine nxX ?_)
    | (refine G.condN rfl (fun hc => ?_) (fun hc => ?_) <;> (try first | exact False.elim hc | (exfalso; omega))))
  refine G.loop (ι := Nat) (fun i => [(0, v), (1, u), (12, .int .i64 l.length), (13, .int .i64 (i : Int))]) (fun _ => [Hl.rd v cF 2 l, Hl.rd u cF 2 l]) (fun i => i ≤ l.length) (fun i => l.length - i) 0 (by omega) ⟨rfl, rfl, rfl, rfl, trivial⟩ (by exact fun w h => h.sub (by repeat (first | exact List.Sublist.refl _ | apply List.Sublist.cons_cons | apply List.Sublist.cons))) ?_
  rintro i mx g1 hmx
  rcases Nat.lt_or_ge i l.length with hi | hi
  · repeat' (first
    | (refine nxV ?_)
    | (show RS _ _ _ _ _ _ _ _; first | (refine nxRS ?_) | (refine nxRS1 fun _ => ?_))
    | (show RM _ _ _ _ _ _ _ _ _ _; first | (refine nxRM ?_) | (refine nxRM1 fun _ => ?_))
    | (refine nxG ?_)
    | (refine G.mixedA 6 [.go 0, .go 1, .go 2, .go 3, .go 4, .go 5, .go 6, .go 7, .go 8] ?_)
    | (refine nxX ?_)
    | (refine G.condN rfl (fun hc => ?_) (fun hc => ?_) <;> (try first | exact False.elim hc | (exfalso; omega))))
    exact X.again (i + 1) (by omega) (by omega) ⟨rfl, rfl, rfl, rfl, trivial⟩ (by exact fun w h => h.sub (by repeat (first | exact List.Sublist.refl _ | apply List.Sublist.cons_cons | apply List.Sublist.cons)))
  · repeat' (first
    | (refine nxV ?_)
    | (show RS _ _ _ _ _ _ _ _; first | (refine nxRS ?_) | (refine nxRS1 fun _ => ?_))
    | (show RM _ _ _ _ _ _ _ _ _ _; first | (refine nxRM ?_) | (refine nxRM1 fun _ => ?_))
    | (refine nxG ?_)
    | (refine G.mixedA 6 [.go 0, .go 1, .go 2, .go 3, .go 4, .go 5, .go 6, .go 7, .go 8] ?_)
    | (refine nxX ?_)
    | (refine G.condN rfl (fun hc => ?_) (fun hc => ?_) <;> (try first | exact False.elim hc | (exfalso; omega))))
    exact X.ret (vs := [_]) rfl ⟨rfl, rfl⟩ rfl (fun w hw => ⟨rfl, hw.ext⟩)
/-! ### The sorted list -/
def mkV1 (x : FrP) (h : vF x = true) : VF := Subtype.mk x h
def mkVs (l : List FrP) (hv : ∀ x ∈ l, vF x = true) : List VF := List.pmap mkV1 l hv
theorem mkVs_map (l : List FrP) (hv : ∀ x ∈ l, vF x = true) : (mkVs l hv).map Subtype.val = l := by
  unfold mkVs
  rw [List.map_pmap]
  exact List.pmap_eq_map .. |>.trans (List.map_id' _)
theorem mkVs_len (l : List FrP) (hv : ∀ x ∈ l, vF x = true) : (mkVs l hv).length = l.length := by unfold mkVs; exact List.length_pmap ..
theorem mkVs_get {ds : List FrP} (hd : ∀ x ∈ ds, vF x = true) {i : Nat} (hi : i < (mkVs ds hd).length) (hi' : i < ds.length) : ((mkVs ds hd)[i]).1 = ds[i] := congrArg Subtype.val (List.getElem_pmap (f := mkV1) (l := ds) (h := hd) hi)
def leV (x y : VF) : Bool := decide (cfV x y ≤ 0)
def sortV (zs : List VF) : List VF := zs.mergeSort leV
theorem cfV_neg (x y : VF) : cfV x y = -cfV y x := cmpF_neg ..
theorem sortV_sorted (zs : List VF) : sortedP zs (sortV zs) := by
  refine sorted_mk (List.mergeSort_perm zs leV) ?_
  have h := List.pairwise_mergeSort (le := leV) (fun a b c h1 h2 => ?_) (fun a b => ?_) zs
  · refine h.imp fun {x y} hxy => ?_
    have := cfV_neg x y
    have h2 : cfV x y ≤ 0 := of_decide_eq_true hxy
    omega
  · have g1 := validF_bd a.2
    have g2 := validF_bd b.2
    have g3 := validF_bd c.2
    have h1' : cfV a b ≤ 0 := of_decide_eq_true h1
    have h2' : cfV b c ≤ 0 := of_decide_eq_true h2
    exact decide_eq_true (cmpF_le.2 (order_le (by omega) (by omega) (by omega) (cmpF_le.1 h1') (cmpF_le.1 h2')))
  · have := cfV_neg a b
    simp only [leV, Bool.or_eq_true, decide_eq_true_eq]
    omega
theorem sorted_of_up {zs : List VF} {ds l : List FrP} (hv : ∀ x ∈ l, vF x = true) (hz : zs = mkVs l hv) (hp : ds.Perm l) (hs : upTo ds.length ds) : ds = (sortV zs).map Subtype.val := by
  have hd := perm_v hp hv
  have h1 : sortedP zs (mkVs ds hd) := by
    subst hz
    refine sorted_mk (List.Perm.pmap _ hp) ?_
    rw [List.pairwise_iff_getElem]
    intro i j hi hj hij
    have hi' : i < ds.length := by rw [mkVs_len] at hi; exact hi
    have hj' : j < ds.length := by rw [mkVs_len] at hj; exact hj
    have h2 := hs i j (by omega) (by omega) (by omega)
    have e1 : (mkVs ds hd)[i].1 = nth ds (i : Int) := by
      have := nth_some (l := ds) (m := (i : Int)) (by omega) (by omega)
      rw [Int.toNat_natCast, List.getElem?_eq_getElem hi'] at this
      rw [mkVs_get hd hi hi']
      exact Option.some.inj this
    have e2 : (mkVs ds hd)[j].1 = nth ds (j : Int) := by
      have := nth_some (l := ds) (m := (j : Int)) (by omega) (by omega)
      rw [Int.toNat_natCast, List.getElem?_eq_getElem hj'] at this
      rw [mkVs_get hd hj hj']
      exact Option.some.inj this
    show ¬ cmpF (mkVs ds hd)[j].1.1 (mkVs ds hd)[j].1.2 (mkVs ds hd)[i].1.1 (mkVs ds hd)[i].1.2 < 0
    rw [e1, e2]
    exact h2
  rw [← sorted_uniq h1 (sortV_sorted zs), mkVs_map]
abbrev SortR (v : Value) (l s : List FrP) : Prop := ContX Tryd.prog [Hl.rd v cF 2 l] 34 [v] (fun _ : Sl => True) (fun z => z.v) (fun z => [Hl.nw z.v cF 2 s])
def sortF (l : List FrP) : List FrP := if hv : ∀ x ∈ l, vF x = true then (sortV (mkVs l hv)).map Subtype.val else []
theorem sortF_perm {l : List FrP} (hv : ∀ x ∈ l, vF x = true) : (sortF l).Perm l := by
  unfold sortF
  rw [dif_pos hv]
  have := (List.mergeSort_perm (mkVs l hv) leV).map Subtype.val
  rwa [mkVs_map] at this
theorem sortP_of {v : Value} {l : List FrP} (hpos : 0 < l.length) (hl : l.length ≤ 3000) (hv : ∀ x ∈ l, vF x = true) : SortP v l (sortF l) := fun B => by
  have h := sortedF_s0 v B (mkVs l hv) (sortV (mkVs l hv)) (by rw [mkVs_len]; exact hpos) (by rw [mkVs_len]; omega) (fun ds h => sorted_uniq h (sortV_sorted _))
  rw [mkVs_map] at h
  unfold sortF
  rw [dif_pos hv]
  exact h
theorem sortR_of {v : Value} {l : List FrP} (hl : l.length ≤ 3000) (hv : ∀ x ∈ l, vF x = true) : SortR v l (sortF l) := fun w hw => (sorted3_c v l hl hv w hw).mono fun e w' ⟨z, ⟨hp, hs⟩, he, hb, hn⟩ => ⟨z.1, trivial, he, hb, by
  unfold sortF
  rw [dif_pos hv, ← sorted_of_up hv rfl hp hs]
  exact hn⟩
def medS (l : List FrP) : (Int × Int) × Int := if listS l ≠ 0 then ((0, 0), listS l) else if l.length % 2 = 1 then (nth (sortF l) ((l.length : Int) / 2), 0) else
  let u := addF (nth (sortF l) ((l.length : Int) / 2 - 1)).1 (nth (sortF l) ((l.length : Int) / 2 - 1)).2 (nth (sortF l) ((l.length : Int) / 2)).1 (nth (sortF l) ((l.length : Int) / 2)).2
  if u.2 ≠ 0 then ((0, 0), u.2) else divF u.1.1 u.1.2 2 1
theorem listS_zero {l : List FrP} (h : listS l = 0) : (∀ x ∈ l, vF x = true) ∧ 0 < l.length ∧ l.length ≤ 1000 := by
  unfold listS at h
  split at h
  · cases h
  next hc =>
    rw [Bool.not_eq_true, List.any_eq_false] at hc
    refine ⟨fun x hx => ?_, ?_⟩
    · obtain ⟨i, hi, rfl⟩ := List.getElem_of_mem hx
      have := hc i (List.mem_range.2 hi)
      have e := nth_some (l := l) (m := (i : Int)) (by omega) (by omega)
      rw [Int.toNat_natCast, List.getElem?_eq_getElem hi] at e
      rw [← Option.some.inj e] at this
      simpa using this
    · split at h
      · cases h
      · split at h
        · cases h
        · omega
theorem median_c (a : Option Addr) (len cap : Nat) (l : List FrP) (hl : l.length ≤ 3000) (hj : allJ l) : ContR Tryd.prog [Hl.rd (.slice a len cap) cF 2 l] 32 [.slice a len cap] (mkV (medS l)) := by
  have h1 := list_c (.slice a len cap) l (by omega) hj
  by_cases he : listS l = 0
  · obtain ⟨hv, hp, hn⟩ := listS_zero he
    have h2 := sortP_of (v := .slice a len cap) hp hl hv
    have hsl := (sortF_perm hv).length_eq
    rw [he] at h1
    rcases Nat.mod_two_eq_zero_or_one l.length with h0 | h0
    · have v1 := perm_v (sortF_perm hv) hv _ (nth_mem (l := sortF l) (m := (l.length : Int) / 2 - 1) (by omega))
      have v2 := perm_v (sortF_perm hv) hv _ (nth_mem (l := sortF l) (m := (l.length : Int) / 2) (by omega))
      have b1 := validF_bd v1
      have b2 := validF_bd v2
      have q1 := Add_c (a := (nth (sortF l) ((l.length : Int) / 2 - 1)).1) (b := (nth (sortF l) ((l.length : Int) / 2 - 1)).2) (c := (nth (sortF l) ((l.length : Int) / 2)).1) (d := (nth (sortF l) ((l.length : Int) / 2)).2) (by omega)
      have jb := addF_J (nth (sortF l) ((l.length : Int) / 2 - 1)).1 (nth (sortF l) ((l.length : Int) / 2 - 1)).2 (nth (sortF l) ((l.length : Int) / 2)).1 (nth (sortF l) ((l.length : Int) / 2)).2
      unfold medS
      rw [if_neg (by omega), if_neg (by omega)]
      dsimp only
      split
      next hu => exact med_err a len cap l (sortF l) l.length hsl (by omega) h1 h2 q1 hu
      next hu => exact med_even a len cap l (sortF l) l.length hsl (by omega) h1 h2 q1 (by omega) (Div_c (by omega))
    · unfold medS
      rw [if_neg (by omega), if_pos h0]
      exact med_odd a len cap l (sortF l) l.length hsl (by omega) h1 h2
  · unfold medS
    rw [if_pos he]
    exact med_no a len cap l he h1
theorem med3_odd {v : Value} {l s : List FrP} {n : Nat} (hn : s.length = n) (hn2 : (0 < n ∧ n ≤ 1000) ∧ n % 2 = 1) (p1 : ContR Tryd.prog [Hl.rd v cF 2 l] 53 [v] (.int .i64 0)) (p2 : SortR v l s) : ContR Tryd.prog [Hl.rd v cF 2 l] 37 [v] (.tuple [frV (nth s ((n : Int) / 2)), .int .i64 0].toArray) := fun w hw0 => by
  subst hn
  refine enter Tryd.func37 rfl rfl rfl hw0 ?_
  repeat' (first
    | (show YK _ _ _ _ _ _ _; first | refine YK.mk (y_callRA (p1) ⟨rfl, rfl⟩) ?_)
    | (show YK _ _ _ _ _ _ _; refine YK.ofV vAuto ?_)
    | (show VK _ _ _ _ _ _ _; refine VK.mk vAuto ?_)
    | (show RS _ _ _ _ _ _ _ _; first | (refine RS.callX (p2) ⟨rfl, rfl⟩ ?_; rintro x _) | (refine RS.callXG (fun _ : True => p2) ⟨rfl, rfl⟩ ?_; rintro x _) | (refine nxRS ?_) | (refine nxRS1 fun _ => ?_))
    | (show RM _ _ _ _ _ _ _ _ _ _; first | (refine RM.callX (p2) ?_; rintro x _) | (refine RM.callXG (fun _ : True => p2) ?_; rintro x _) | (refine nxRM ?_) | (refine nxRM1 fun _ => ?_))
    | (show YG _ _ _ _ _ _ _ _; refine YG.mk (fun hb => by (try (have hc := And.left hb; have hb := And.right hb; rw [hc])); (try rw [hb]); first | exact (y_callRA (p1) ⟨rfl, rfl⟩) | exact V.y vAuto) ?_)
    | (show VG _ _ _ _ _ _ _ _; refine VG.mk (fun hb => by (try (have hc := And.left hb; have hb := And.right hb; rw [hc])); (try rw [hb]); exact vAuto) ?_)
    | (refine G.mixedA 8 [.go 0, .go 1, .go 2, .go 3, .go 4, .go 5, .go 6, .go 7, .go 8, .pend 13, .go 9, .go 10, .go 11, .go 12, .done, .go 14, .go 15] ?_)
    | (refine G.mixedA 11 [.go 0, .go 1, .go 2, .go 3, .go 4, .go 5, .go 6] ?_)
    | (refine nxX ?_)
    | (refine G.condN rfl (fun hc => ?_) (fun hc => ?_) <;> (try first | exact False.elim hc | (exfalso; omega))))
  exact X.ret (vs := [_, _]) rfl ⟨⟨_, _, _, _, rfl, (by exact memA), (by (repeat (first | exact .nil | apply LenIs.cons))), by decide +kernel, rfl⟩, rfl, rfl⟩ rfl (fun w hw => ⟨rfl, hw.ext⟩)
theorem med3_err {v : Value} {l s : List FrP} {n : Nat} (hn : s.length = n) (hn2 : (0 < n ∧ n ≤ 1000) ∧ n % 2 = 0) (p1 : ContR Tryd.prog [Hl.rd v cF 2 l] 53 [v] (.int .i64 0)) (p2 : SortR v l s) {u : (Int × Int) × Int} (q1 : Cont Tryd.prog 23 [frV (nth s ((n : Int) / 2 - 1)), frV (nth s ((n : Int) / 2))] (mkV u)) (hu : u.2 ≠ 0) : ContR Tryd.prog [Hl.rd v cF 2 l] 37 [v] (mkV ((0, 0), u.2)) := fun w hw0 => by
  subst hn
  refine enter Tryd.func37 rfl rfl rfl hw0 ?_
  repeat' (first
    | (refine G.mixedFH 11 [.go 0, .go 1, .go 2, .go 3, .go 4, .go 5, .go 6] ?_)
    | (refine nxRF ?_)
    | (refine nxVF ?_)
    | (show YK _ _ _ _ _ _ _; first | refine YK.mk (y_callRA (p1) ⟨rfl, rfl⟩) ?_ | refine YK.mk (y_callA (q1) ⟨rfl, rfl, rfl⟩) ?_)
    | (show YK _ _ _ _ _ _ _; refine YK.ofV vAuto ?_)
    | (show VK _ _ _ _ _ _ _; refine VK.mk vAuto ?_)
    | (show RS _ _ _ _ _ _ _ _; first | (refine RS.callX (p2) ⟨rfl, rfl⟩ ?_; rintro x _) | (refine RS.callXG (fun _ : True => p2) ⟨rfl, rfl⟩ ?_; rintro x _) | (refine nxRS ?_) | (refine nxRS1 fun _ => ?_))
    | (show RM _ _ _ _ _ _ _ _ _ _; first | (refine RM.callX (p2) ?_; rintro x _) | (refine RM.callXG (fun _ : True => p2) ?_; rintro x _) | (refine nxRM ?_) | (refine nxRM1 fun _ => ?_))
    | (show YG _ _ _ _ _ _ _ _; refine YG.mk (fun hb => by (try (have hc := And.left hb; have hb := And.right hb; rw [hc])); (try rw [hb]); first | exact (y_callRA (p1) ⟨rfl, rfl⟩) | exact (y_callA (q1) ⟨rfl, rfl, rfl⟩) | exact V.y vAuto) ?_)
    | (show VG _ _ _ _ _ _ _ _; refine VG.mk (fun hb => by (try (have hc := And.left hb; have hb := And.right hb; rw [hc])); (try rw [hb]); exact vAuto) ?_)
    | (refine G.mixedA 8 [.go 0, .go 1, .go 2, .go 3, .go 4, .go 5, .go 6, .go 7, .go 8, .pend 13, .go 9, .go 10, .go 11, .go 12, .done, .go 14, .go 15] ?_)
    | (refine nxX ?_)
    | (refine G.condN rfl (fun hc => ?_) (fun hc => ?_) <;> (try first | exact False.elim hc | (exfalso; omega))))
  exact X.ret (vs := [_, _]) rfl ⟨⟨_, _, _, _, rfl, (by exact memA), (by (repeat (first | exact .nil | apply LenIs.cons))), by decide +kernel, rfl⟩, rfl, rfl⟩ rfl (fun w hw => ⟨rfl, hw.ext⟩)
theorem med3_even {v : Value} {l s : List FrP} {n : Nat} (hn : s.length = n) (hn2 : (0 < n ∧ n ≤ 1000) ∧ n % 2 = 0) (p1 : ContR Tryd.prog [Hl.rd v cF 2 l] 53 [v] (.int .i64 0)) (p2 : SortR v l s) {u r : (Int × Int) × Int} (q1 : Cont Tryd.prog 23 [frV (nth s ((n : Int) / 2 - 1)), frV (nth s ((n : Int) / 2))] (mkV u)) (hu : u.2 = 0) (q2 : Cont Tryd.prog 26 [fracV u.1.1 u.1.2, fracV 2 1] (mkV r)) : ContR Tryd.prog [Hl.rd v cF 2 l] 37 [v] (mkV r) := fun w hw0 => by
  subst hn
  have h2 := of3_c 2
  refine enter Tryd.func37 rfl rfl rfl hw0 ?_
  repeat' (first
    | (refine G.mixedFH 11 [.go 0, .go 1, .go 2, .go 3, .go 4, .go 5, .go 6] ?_)
    | (refine nxRF ?_)
    | (refine nxVF ?_)
    | (show YK _ _ _ _ _ _ _; first | refine YK.mk (y_callRA (p1) ⟨rfl, rfl⟩) ?_ | refine YK.mk (y_callA (q1) ⟨rfl, rfl, rfl⟩) ?_ | refine YK.mk (y_callA (h2) ⟨rfl, rfl⟩) ?_ | refine YK.mk (y_callA (q2) ⟨rfl, rfl, rfl⟩) ?_)
    | (show YK _ _ _ _ _ _ _; refine YK.ofV vAuto ?_)
    | (show VK _ _ _ _ _ _ _; refine VK.mk vAuto ?_)
    | (show RS _ _ _ _ _ _ _ _; first | (refine RS.callX (p2) ⟨rfl, rfl⟩ ?_; rintro x _) | (refine RS.callXG (fun _ : True => p2) ⟨rfl, rfl⟩ ?_; rintro x _) | (refine nxRS ?_) | (refine nxRS1 fun _ => ?_))
    | (show RM _ _ _ _ _ _ _ _ _ _; first | (refine RM.callX (p2) ?_; rintro x _) | (refine RM.callXG (fun _ : True => p2) ?_; rintro x _) | (refine nxRM ?_) | (refine nxRM1 fun _ => ?_))
    | (show YG _ _ _ _ _ _ _ _; refine YG.mk (fun hb => by (try (have hc := And.left hb; have hb := And.right hb; rw [hc])); (try rw [hb]); first | exact (y_callRA (p1) ⟨rfl, rfl⟩) | exact (y_callA (q1) ⟨rfl, rfl, rfl⟩) | exact (y_callA (h2) ⟨rfl, rfl⟩) | exact (y_callA (q2) ⟨rfl, rfl, rfl⟩) | exact V.y vAuto) ?_)
    | (show VG _ _ _ _ _ _ _ _; refine VG.mk (fun hb => by (try (have hc := And.left hb; have hb := And.right hb; rw [hc])); (try rw [hb]); exact vAuto) ?_)
    | (refine G.mixedA 8 [.go 0, .go 1, .go 2, .go 3, .go 4, .go 5, .go 6, .go 7, .go 8, .pend 13, .go 9, .go 10, .go 11, .go 12, .done, .go 14, .go 15] ?_)
    | (refine nxX ?_)
    | (refine G.condN rfl (fun hc => ?_) (fun hc => ?_) <;> (try first | exact False.elim hc | (exfalso; omega))))
  exact X.ret (vs := [_, _]) rfl ⟨⟨_, _, _, _, rfl, (by exact memA), (by (repeat (first | exact .nil | apply LenIs.cons))), by decide +kernel, rfl⟩, rfl, rfl⟩ rfl (fun w hw => ⟨rfl, hw.ext⟩)
theorem med3_no {v : Value} {l : List FrP} {e : Int} (he : e ≠ 0) (p1 : ContR Tryd.prog [Hl.rd v cF 2 l] 53 [v] (.int .i64 e)) : ContR Tryd.prog [Hl.rd v cF 2 l] 37 [v] (mkV ((0, 0), e)) := fun w hw0 => by
  refine enter Tryd.func37 rfl rfl rfl hw0 ?_
  repeat' (first
    | (show YK _ _ _ _ _ _ _; first | refine YK.mk (y_callRA (p1) ⟨rfl, rfl⟩) ?_)
    | (show YK _ _ _ _ _ _ _; refine YK.ofV vAuto ?_)
    | (show VK _ _ _ _ _ _ _; refine VK.mk vAuto ?_)
    | (show RS _ _ _ _ _ _ _ _; first | (refine nxRS ?_) | (refine nxRS1 fun _ => ?_))
    | (show RM _ _ _ _ _ _ _ _ _ _; first | (refine nxRM ?_) | (refine nxRM1 fun _ => ?_))
    | (show YG _ _ _ _ _ _ _ _; refine YG.mk (fun hb => by (try (have hc := And.left hb; have hb := And.right hb; rw [hc])); (try rw [hb]); first | exact (y_callRA (p1) ⟨rfl, rfl⟩) | exact V.y vAuto) ?_)
    | (show VG _ _ _ _ _ _ _ _; refine VG.mk (fun hb => by (try (have hc := And.left hb; have hb := And.right hb; rw [hc])); (try rw [hb]); exact vAuto) ?_)
    | (refine G.mixedA 8 [.go 0, .go 1, .go 2, .go 3, .go 4, .go 5, .go 6, .go 7, .go 8, .pend 13, .go 9, .go 10, .go 11, .go 12, .done, .go 14, .go 15] ?_)
    | (refine G.mixedA 11 [.go 0, .go 1, .go 2, .go 3, .go 4, .go 5, .go 6] ?_)
    | (refine nxX ?_)
    | (refine G.condN rfl (fun hc => ?_) (fun hc => ?_) <;> (try first | exact False.elim hc | (exfalso; omega))))
  exact X.ret (vs := [_, _]) rfl ⟨⟨_, _, _, _, rfl, (by exact memA), (by (repeat (first | exact .nil | apply LenIs.cons))), by decide +kernel, rfl⟩, rfl, rfl⟩ rfl (fun w hw => ⟨rfl, hw.ext⟩)
theorem median3_c (v : Value) (l : List FrP) (hl : l.length ≤ 3000) (hj : allJ l) : ContR Tryd.prog [Hl.rd v cF 2 l] 37 [v] (mkV (medS l)) := by
  have h1 := given_c v l (by omega) hj
  by_cases he : listS l = 0
  · obtain ⟨hv, hp, hn⟩ := listS_zero he
    have h2 := sortR_of (v := v) hl hv
    have hsl := (sortF_perm hv).length_eq
    rw [he] at h1
    rcases Nat.mod_two_eq_zero_or_one l.length with h0 | h0
    · have v1 := perm_v (sortF_perm hv) hv _ (nth_mem (l := sortF l) (m := (l.length : Int) / 2 - 1) (by omega))
      have v2 := perm_v (sortF_perm hv) hv _ (nth_mem (l := sortF l) (m := (l.length : Int) / 2) (by omega))
      have b1 := validF_bd v1
      have b2 := validF_bd v2
      have q1 := add3_c (a := (nth (sortF l) ((l.length : Int) / 2 - 1)).1) (b := (nth (sortF l) ((l.length : Int) / 2 - 1)).2) (c := (nth (sortF l) ((l.length : Int) / 2)).1) (d := (nth (sortF l) ((l.length : Int) / 2)).2) (by omega)
      have jb := addF_J (nth (sortF l) ((l.length : Int) / 2 - 1)).1 (nth (sortF l) ((l.length : Int) / 2 - 1)).2 (nth (sortF l) ((l.length : Int) / 2)).1 (nth (sortF l) ((l.length : Int) / 2)).2
      unfold medS
      rw [if_neg (by omega), if_neg (by omega)]
      dsimp only
      split
      next hu => exact med3_err hsl (by omega) h1 h2 q1 hu
      next hu => exact med3_even hsl (by omega) h1 h2 q1 (by omega) (div3_c (by omega))
    · unfold medS
      rw [if_neg (by omega), if_pos h0]
      exact med3_odd hsl (by omega) h1 h2
  · unfold medS
    rw [if_pos he]
    exact med3_no he h1
end Go.Proofs.YtnanempkkeokbaaDoor
