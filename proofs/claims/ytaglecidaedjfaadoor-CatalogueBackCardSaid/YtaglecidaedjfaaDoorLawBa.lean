/- CatalogueBack: the walk of the law. -/
import Derived.Test.YtaglecidaedjfaaDoorParP
import Derived.Test.YtaglecidaedjfaaDoorSma
set_option linter.unusedVariables false
set_option maxHeartbeats 4000000
namespace Go.Proofs.YtaglecidaedjfaaDoor
open Go.RowKit
theorem valid_name {l : List StarT} (hv : validS l = true) {i : Nat} (hi : i < l.length) : (nth l (i : Int)).1.length ≤ 20 := by
  have := (validS_t hv).2 i hi
  simp only [okS, nameB, Bool.and_eq_true, decide_eq_true_eq] at this
  omega
theorem catT_len {l : List StarT} (hv : validS l = true) : ∀ k : Nat, k ≤ l.length → (catT l k).length ≤ 249 * k
  | 0, _ => by simp [catT]
  | k + 1, h => by
    have ih := catT_len hv k (by omega)
    have h1 := valid_name hv (i := k) (by omega)
    have h2 := num_of hv (i := k) (by omega)
    have h3 := angL_len (n := 100 * (nth l (k : Int)).2.1) (by omega)
    have h4 := angL_len (n := 100 * (nth l (k : Int)).2.2.1) (by omega)
    have h5 := decL_len (nth l (k : Int)).2.2.2
    have e : catT l (k + 1) = catT l k ++ lineS (nth l (k : Int)) := rfl
    rw [e]
    unfold lineS
    simp only [List.length_append, List.length_singleton]
    omega
theorem catT_fit {l : List StarT} (hv : validS l = true) : (catT l l.length).length ≤ 65536 := by
  have h1 := catT_len hv l.length (Nat.le_refl _)
  have h2 := (validS_t hv).1
  omega
theorem ctext_no {v : Value} {l : List StarT} (pv : ContR Tryd.prog [Hl.rd v cSt 4 l] 9 [v] (.bool false)) : ContR Tryd.prog [Hl.rd v cSt 4 l] 19 [v] (.tuple [strV [], .int .i64 1].toArray) := fun w hw0 => by
  refine enter Tryd.func19 rfl rfl rfl hw0 ?_
  repeat' (first
    | (show YK _ _ _ _ _ _ _; first | refine YK.mk (y_callRA (pv) ⟨rfl, rfl⟩) ?_)
    | (show YK _ _ _ _ _ _ _; refine YK.ofV vAuto ?_)
    | (show VK _ _ _ _ _ _ _; refine VK.mk vAuto ?_)
    | (show RS _ _ _ _ _ _ _ _; first | (refine nxRS ?_) | (refine nxRS1 fun _ => ?_))
    | (show RM _ _ _ _ _ _ _ _ _ _; first | (refine nxRM ?_) | (refine nxRM1 fun _ => ?_))
    | (show YG _ _ _ _ _ _ _ _; refine YG.mk (fun hb => by (try (have hc := And.left hb; have hb := And.right hb; rw [hc])); (try rw [hb]); first | exact (y_callRA (pv) ⟨rfl, rfl⟩) | exact V.y vAuto) ?_)
    | (show VG _ _ _ _ _ _ _ _; refine VG.mk (fun hb => by (try (have hc := And.left hb; have hb := And.right hb; rw [hc])); (try rw [hb]); exact vAuto) ?_)
    | (refine nxVS ?_)
    | (refine nxGS ?_)
    | (refine nxX ?_)
    | (refine G.condN rfl (fun hc => ?_) (fun hc => ?_) <;> (try first | exact False.elim hc | (exfalso; omega))))
  exact X.ret (vs := [_, _]) rfl ⟨rfl, rfl, rfl⟩ rfl (fun w hw => ⟨rfl, hw.ext⟩)
theorem roN {w0 w : World} {H : List Hl} {v : Value} {s : Nat} {α : Type} {f : α → List Value} {l : List α} (hw : St w0 H w) (hm : Hl.nw v f s l ∈ H) : RO w v s l.length (l.flatMap f) := (hw.all _ hm).1
theorem same2_c {v u : Value} {l l' : List StarT} (e : l = l') (hl : l.length ≤ 1000000) : ContR Tryd.prog [Hl.rd v cSt 4 l, Hl.rd u cSt 4 l'] 21 [v, u] (.bool true) := by
  subst e; exact same_c v u l hl
abbrev baP (v : Value) (l : List StarT) (w : World) : Prop := RO w v 4 l.length (l.flatMap cSt) ∧ LaidC w
theorem ba_no {v : Value} {l : List StarT} {s : List UInt8} {b1 : Bool} (hl : l.length ≤ 9223372036854775807) (ps : l.length ≤ 30 → ContR Tryd.prog [Hl.rd v cSt 4 l] 8 [v] (.bool b1)) (hno : 30 < l.length ∨ b1 = false ∨ 3000 < s.length) :
    ContIn Tryd.prog (baP v l) 5 [v, strV s] (.bool true) := fun w0 hw0 => by
  have hI := hw0.2
  refine enter Tryd.func5 rfl rfl rfl (Hp := [Hl.rd v cSt 4 l]) (fun h hm => by
    rcases List.mem_singleton.1 hm with rfl
    exact ⟨⟨hw0.1, fun h => by cases h⟩, rfl⟩) ?_
  repeat' (first
    | (exfalso; rcases hno with z | z | z; omega; (rw [z] at hc; exact absurd hc.1.2 (by decide)); omega)
    | (show YK _ _ _ _ _ _ _; first | refine YK.mk (y_callIn (awake16_c) (fun _ hw => hI.keep hw.ext) rfl (by decide +kernel)) ?_ | refine YK.mk (y_callRA (ps (by simp only [decide_eq_false_iff_not] at hb; omega)) ⟨rfl, rfl⟩) ?_)
    | (show YK _ _ _ _ _ _ _; refine YK.ofV vAuto ?_)
    | (show VK _ _ _ _ _ _ _; refine VK.mk vAuto ?_)
    | (show RS _ _ _ _ _ _ _ _; first | (refine nxRS ?_) | (refine nxRS1 fun _ => ?_))
    | (show RM _ _ _ _ _ _ _ _ _ _; first | (refine nxRM ?_) | (refine nxRM1 fun _ => ?_))
    | (show YG _ _ _ _ _ _ _ _; refine YG.mk (fun hb => by (try (have hc := And.left hb; have hb := And.right hb; rw [hc])); (try rw [hb]); first | exact (y_callIn (awake16_c) (fun _ hw => hI.keep hw.ext) rfl (by decide +kernel)) | exact (y_callRA (ps (by simp only [decide_eq_false_iff_not] at hb; omega)) ⟨rfl, rfl⟩) | exact V.y vAuto) ?_)
    | (show VG _ _ _ _ _ _ _ _; refine VG.mk (fun hb => by (try (have hc := And.left hb; have hb := And.right hb; rw [hc])); (try rw [hb]); exact vAuto) ?_)
    | (refine nxVS ?_)
    | (refine nxGS ?_)
    | (refine nxX ?_)
    | (refine G.condN rfl (fun hc => ?_) (fun hc => ?_) <;> (try first | exact False.elim hc | (exfalso; omega))))
  exact X.ret (vs := [_]) rfl ⟨rfl, rfl⟩ rfl (fun w hw => ⟨rfl, hw.ext⟩)
theorem ba_v {v : Value} {l : List StarT} {s : List UInt8} (h30 : l.length ≤ 30) (hs : s.length ≤ 3000) (hv : validS l = true) (ps : ContR Tryd.prog [Hl.rd v cSt 4 l] 8 [v] (.bool true)) :
    ContIn Tryd.prog (baP v l) 5 [v, strV s] (.bool true) := fun w0 hw0 => by
  have hI := hw0.2
  have p1 := ctext_c v l hv (fun i hi => by have := valid_name hv hi; omega)
  have p2 := cparse_c (catT l l.length) (catT_fit hv)
  have u2 : ∀ z, parPost (catT l l.length) z → l = z.2.1 ∧ z.2.2.2 = 0 ∧ z.2.2.1 = (0, 0) := fun z hz => by
    have := (reads_cat hv).uniq hz.1
    exact ⟨this.1, this.2.symm, hz.2.1 this.2.symm⟩
  have p3 := cparse_c s (by omega)
  generalize catT l l.length = t at p1 p2 u2
  refine enter Tryd.func5 rfl rfl rfl (Hp := [Hl.rd v cSt 4 l]) (fun h hm => by
    rcases List.mem_singleton.1 hm with rfl
    exact ⟨⟨hw0.1, fun h => by cases h⟩, rfl⟩) ?_
  repeat' (first
    | (show YK _ _ _ _ _ ⟨some 35, _, _, _, _, _⟩ _; refine YK.mk (y_callIn (xs := [.tmp 34]) p1 (fun w hw => ⟨hI.keep hw.ext, (hw.all (Hl.rd v cSt 4 l) (by exact memA)).1⟩) ⟨rfl, rfl⟩ (by decide +kernel)) ?_)
    | (show RS _ _ _ _ _ _ _ (⟨some 42, _, _, _, _, _⟩ :: _); refine RS.callI p2 ⟨rfl, rfl⟩ (fun w hw => hI.keep hw.ext) ?_; rintro ⟨x, l1, ⟨a1, b1⟩, e1⟩ hz1; obtain ⟨r1, r2, r3⟩ := u2 _ hz1; dsimp only at r1 r2 r3; subst r1 r2; obtain ⟨rfl, rfl⟩ := Prod.mk.inj r3; clear hz1; dsimp only [List.cons_append, List.nil_append])
    | (show RS _ _ _ _ _ _ _ (⟨some 67, _, _, _, _, _⟩ :: _); refine RS.callI p3 ⟨rfl, rfl⟩ (fun w hw => hI.keep hw.ext) ?_; rintro ⟨y, l2, ⟨a2, b2⟩, e2⟩ ⟨f1, f2, f3⟩; dsimp only at f1 f2 f3; dsimp only [List.cons_append, List.nil_append])
    | (show YK _ _ _ _ _ ⟨some 78, _, _, _, _, _⟩ _; have hv2 : validS l2 = true := f1.valid (by decide +kernel) hc; have hl2 := (validS_t hv2).1; have pv2 := valid_c y.v l2 (by omega) (fun _ i hi => by have := valid_name hv2 hi; omega); rw [hv2] at pv2; refine YK.mk (y_callIn (xs := [.tmp 77]) (ctext_c y.v l2 hv2 (fun i hi => by have := valid_name hv2 hi; omega)) (fun w hw => ⟨hI.keep hw.ext, roN hw (by exact memA)⟩) ⟨rfl, rfl⟩ (by decide +kernel)) ?_)
    | (show RS _ _ _ _ _ _ _ (⟨some 83, _, _, _, _, _⟩ :: _); refine RS.callI (cparse_c (catT l2 l2.length) (catT_fit hv2)) ⟨rfl, rfl⟩ (fun w hw => hI.keep hw.ext) ?_; rintro ⟨z, l3, ⟨a3, b3⟩, e3⟩ hz3; obtain ⟨r1, r2⟩ := (reads_cat hv2).uniq hz3.1; dsimp only at r1 r2; subst r1 r2; clear hz3; dsimp only [List.cons_append, List.nil_append])
    | (show YK _ _ _ _ _ _ _; first | refine YK.mk (y_callIn (awake16_c) (fun _ hw => hI.keep hw.ext) rfl (by decide +kernel)) ?_ | refine YK.mk (y_callRA (ps) ⟨rfl, rfl⟩) ?_ | refine YK.mk (y_callRA (same_c x.v v l (by omega)) ⟨rfl, rfl, rfl⟩) ?_ | refine YK.mk (y_callRA (pv2) ⟨rfl, rfl⟩) ?_ | refine YK.mk (y_callRA (same_c y.v z.v l2 (by omega)) ⟨rfl, rfl, rfl⟩) ?_)
    | (show YK _ _ _ _ _ _ _; refine YK.ofV vAuto ?_)
    | (show VK _ _ _ _ _ _ _; refine VK.mk vAuto ?_)
    | (show RS _ _ _ _ _ _ _ _; first | (refine nxRS ?_) | (refine nxRS1 fun _ => ?_))
    | (show RM _ _ _ _ _ _ _ _ _ _; first | (refine nxRM ?_) | (refine nxRM1 fun _ => ?_))
    | (show YG _ _ _ _ _ _ _ _; refine YG.mk (fun hb => by (try (have hc := And.left hb; have hb := And.right hb; rw [hc])); (try rw [hb]); first | exact (y_callIn (awake16_c) (fun _ hw => hI.keep hw.ext) rfl (by decide +kernel)) | exact (y_callRA (ps) ⟨rfl, rfl⟩) | exact (y_callRA (same_c x.v v l (by omega)) ⟨rfl, rfl, rfl⟩) | exact (y_callRA (pv2) ⟨rfl, rfl⟩) | exact (y_callRA (same_c y.v z.v l2 (by omega)) ⟨rfl, rfl, rfl⟩) | exact V.y vAuto) ?_)
    | (show VG _ _ _ _ _ _ _ _; refine VG.mk (fun hb => by (try (have hc := And.left hb; have hb := And.right hb; rw [hc])); (try rw [hb]); exact vAuto) ?_)
    | (refine nxVS ?_)
    | (refine nxGS ?_)
    | (refine nxX ?_)
    | (refine G.condN rfl (fun hc => ?_) (fun hc => ?_) <;> (try first | exact False.elim hc | (exfalso; omega))))
  · exact X.ret (vs := [_]) rfl ⟨rfl, rfl⟩ rfl (fun w hw => ⟨ret_bool (by rw [f3 hc]; rfl), hw.ext⟩)
  · exact X.ret (vs := [_]) rfl ⟨rfl, rfl⟩ rfl (fun w hw => ⟨ret_bool (by simp), hw.ext⟩)
theorem ba_i {v : Value} {l : List StarT} {s : List UInt8} (h30 : l.length ≤ 30) (hs : s.length ≤ 3000) (pv : ContR Tryd.prog [Hl.rd v cSt 4 l] 9 [v] (.bool false)) (ps : ContR Tryd.prog [Hl.rd v cSt 4 l] 8 [v] (.bool true)) :
    ContIn Tryd.prog (baP v l) 5 [v, strV s] (.bool true) := fun w0 hw0 => by
  have hI := hw0.2
  have p1 := ctext_no pv
  have p3 := cparse_c s (by omega)
  refine enter Tryd.func5 rfl rfl rfl (Hp := [Hl.rd v cSt 4 l]) (fun h hm => by
    rcases List.mem_singleton.1 hm with rfl
    exact ⟨⟨hw0.1, fun h => by cases h⟩, rfl⟩) ?_
  repeat' (first
    | (show RS _ _ _ _ _ _ _ (⟨some 67, _, _, _, _, _⟩ :: _); refine RS.callI p3 ⟨rfl, rfl⟩ (fun w hw => hI.keep hw.ext) ?_; rintro ⟨y, l2, ⟨a2, b2⟩, e2⟩ ⟨f1, f2, f3⟩; dsimp only at f1 f2 f3; dsimp only [List.cons_append, List.nil_append])
    | (show YK _ _ _ _ _ ⟨some 78, _, _, _, _, _⟩ _; have hv2 : validS l2 = true := f1.valid (by decide +kernel) hc; have hl2 := (validS_t hv2).1; have pv2 := valid_c y.v l2 (by omega) (fun _ i hi => by have := valid_name hv2 hi; omega); rw [hv2] at pv2; refine YK.mk (y_callIn (xs := [.tmp 77]) (ctext_c y.v l2 hv2 (fun i hi => by have := valid_name hv2 hi; omega)) (fun w hw => ⟨hI.keep hw.ext, roN hw (by exact memA)⟩) ⟨rfl, rfl⟩ (by decide +kernel)) ?_)
    | (show RS _ _ _ _ _ _ _ (⟨some 83, _, _, _, _, _⟩ :: _); refine RS.callI (cparse_c (catT l2 l2.length) (catT_fit hv2)) ⟨rfl, rfl⟩ (fun w hw => hI.keep hw.ext) ?_; rintro ⟨z, l3, ⟨a3, b3⟩, e3⟩ hz3; obtain ⟨r1, r2⟩ := (reads_cat hv2).uniq hz3.1; dsimp only at r1 r2; subst r1 r2; clear hz3; dsimp only [List.cons_append, List.nil_append])
    | (show YK _ _ _ _ _ _ _; first | refine YK.mk (y_callIn (awake16_c) (fun _ hw => hI.keep hw.ext) rfl (by decide +kernel)) ?_ | refine YK.mk (y_callRA (ps) ⟨rfl, rfl⟩) ?_ | refine YK.mk (y_callRA (p1) ⟨rfl, rfl⟩) ?_ | refine YK.mk (y_callRA (pv) ⟨rfl, rfl⟩) ?_ | refine YK.mk (y_callRA (pv2) ⟨rfl, rfl⟩) ?_ | refine YK.mk (y_callRA (same_c y.v z.v l2 (by omega)) ⟨rfl, rfl, rfl⟩) ?_)
    | (show YK _ _ _ _ _ _ _; refine YK.ofV vAuto ?_)
    | (show VK _ _ _ _ _ _ _; refine VK.mk vAuto ?_)
    | (show RS _ _ _ _ _ _ _ _; first | (refine nxRS ?_) | (refine nxRS1 fun _ => ?_))
    | (show RM _ _ _ _ _ _ _ _ _ _; first | (refine nxRM ?_) | (refine nxRM1 fun _ => ?_))
    | (show YG _ _ _ _ _ _ _ _; refine YG.mk (fun hb => by (try (have hc := And.left hb; have hb := And.right hb; rw [hc])); (try rw [hb]); first | exact (y_callIn (awake16_c) (fun _ hw => hI.keep hw.ext) rfl (by decide +kernel)) | exact (y_callRA (ps) ⟨rfl, rfl⟩) | exact (y_callRA (p1) ⟨rfl, rfl⟩) | exact (y_callRA (pv) ⟨rfl, rfl⟩) | exact (y_callRA (pv2) ⟨rfl, rfl⟩) | exact (y_callRA (same_c y.v z.v l2 (by omega)) ⟨rfl, rfl, rfl⟩) | exact V.y vAuto) ?_)
    | (show VG _ _ _ _ _ _ _ _; refine VG.mk (fun hb => by (try (have hc := And.left hb; have hb := And.right hb; rw [hc])); (try rw [hb]); exact vAuto) ?_)
    | (refine nxVS ?_)
    | (refine nxGS ?_)
    | (refine nxX ?_)
    | (refine G.condN rfl (fun hc => ?_) (fun hc => ?_) <;> (try first | exact False.elim hc | (exfalso; omega))))
  · exact X.ret (vs := [_]) rfl ⟨rfl, rfl⟩ rfl (fun w hw => ⟨ret_bool (by rw [f3 hc]; rfl), hw.ext⟩)
  · exact X.ret (vs := [_]) rfl ⟨rfl, rfl⟩ rfl (fun w hw => ⟨ret_bool (by simp), hw.ext⟩)
/-- CatalogueBack answers true. -/
theorem back_law {A : Option Addr} {n0 c0 : Nat} {l : List StarT} {s : List UInt8} (hl : l.length ≤ 9223372036854775807) : ContIn Tryd.prog (baP (.slice A n0 c0) l) 5 [.slice A n0 c0, strV s] (.bool true) := by
  by_cases h30 : l.length ≤ 30
  · have ps := small_c (.slice A n0 c0) l h30
    by_cases hs : idxL l < 0
    · rw [decide_eq_true hs] at ps
      by_cases h3 : s.length ≤ 3000
      · have pv := valid_c (.slice A n0 c0) l hl (fun _ i hi => by have := idxL_no hs hi; omega)
        cases hv : validS l with
        | false =>
          rw [hv] at pv
          exact ba_i h30 h3 pv ps
        | true => exact ba_v h30 h3 hv ps
      · exact ba_no hl (fun _ => ps) (.inr (.inr (by omega)))
    · rw [decide_eq_false hs] at ps
      exact ba_no hl (fun _ => ps) (.inr (.inl rfl))
  · exact ba_no (b1 := true) hl (fun h => absurd h h30) (.inl (by omega))
end Go.Proofs.YtaglecidaedjfaaDoor
