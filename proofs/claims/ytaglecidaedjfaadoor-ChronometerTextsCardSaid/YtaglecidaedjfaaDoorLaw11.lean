/- ChronometerTexts: the walk of the law. -/
import Derived.Test.YtaglecidaedjfaaDoorTxt11
set_option linter.unusedVariables false
set_option maxHeartbeats 4000000
namespace Go.Proofs.YtaglecidaedjfaaDoor
open Go.RowKit

theorem cpar_big (s : List UInt8) (hs : 65536 < s.length) : ContXI Tryd.prog Laid 24 [strV s] (fun z : ParC => z.2 = ([], (0, 0), 4)) parC (fun z => [Hl.nw z.1.v cC 3 z.2.1]) := fun w hI => by
  refine enter0 Tryd.func24 rfl rfl rfl ?_
  repeat' (first
    | (refine nxV ?_)
    | (show RS _ _ _ _ _ _ _ _; first | (refine nxRS ?_) | (refine nxRS1 fun _ => ?_))
    | (show RM _ _ _ _ _ _ _ _ _ _; first | (refine nxRM ?_) | (refine nxRM1 fun _ => ?_))
    | (refine nxG ?_)
    | (refine nxVS ?_)
    | (refine nxGS ?_)
    | (refine nxX ?_)
    | (refine G.condN rfl (fun hc => ?_) (fun hc => ?_) <;> (try first | exact False.elim hc | (exfalso; omega))))
  exact X.retN (vs := [_, _, _]) ((⟨none, 0, 0⟩, [], (0, 0), 4) : ParC) rfl ⟨rfl, ⟨_, _, _, _, rfl, (by exact memA), (by (repeat (first | exact .nil | apply LenIs.cons))), by decide +kernel, rfl⟩, rfl, rfl⟩ rfl rfl rfl (NewIn.nilS NewIn.nil)
theorem rpar_big (s : List UInt8) (hs : 65536 < s.length) : ContX Tryd.prog [] 25 [strV s] (fun z : ParC => z.2 = ([], (0, 0), 4)) parC (fun z => [Hl.nw z.1.v cC 3 z.2.1]) := fun w hw0 => by
  refine enter Tryd.func25 rfl rfl rfl hw0 ?_
  repeat' (first
    | (refine nxV ?_)
    | (show RS _ _ _ _ _ _ _ _; first | (refine nxRS ?_) | (refine nxRS1 fun _ => ?_))
    | (show RM _ _ _ _ _ _ _ _ _ _; first | (refine nxRM ?_) | (refine nxRM1 fun _ => ?_))
    | (refine nxG ?_)
    | (refine nxVS ?_)
    | (refine nxGS ?_)
    | (refine nxX ?_)
    | (refine G.condN rfl (fun hc => ?_) (fun hc => ?_) <;> (try first | exact False.elim hc | (exfalso; omega))))
  exact X.retN (vs := [_, _, _]) ((⟨none, 0, 0⟩, [], (0, 0), 4) : ParC) rfl ⟨rfl, ⟨_, _, _, _, rfl, (by exact memA), (by (repeat (first | exact .nil | apply LenIs.cons))), by decide +kernel, rfl⟩, rfl, rfl⟩ rfl rfl rfl (NewIn.nilS NewIn.nil)
abbrev l11P (v : Value) (l : List Chk) (w : World) : Prop := RO w v 3 l.length (l.flatMap cC) ∧ Laid w
abbrev C1 (s : List UInt8) (P1 : ParC → Prop) : Prop := ContXI Tryd.prog Laid 24 [strV s] P1 parC (fun z => [Hl.nw z.1.v cC 3 z.2.1])
abbrev C2 (s : List UInt8) (P2 : ParC → Prop) : Prop := ContX Tryd.prog [] 25 [strV s] P2 parC (fun z => [Hl.nw z.1.v cC 3 z.2.1])
theorem l11_no {v : Value} {l : List Chk} {s : List UInt8} {b : Bool} (pm : ContR Tryd.prog [Hl.rd v cC 3 l] 23 [v] (.bool b)) (hno : b = true ∨ 2000 < s.length ∧ s.length ≤ 65536 ∨ 65636 < s.length) :
    ContIn Tryd.prog (l11P v l) 6 [v, strV s] (.bool true) := fun w0 hw0 => by
  have hI := hw0.2
  refine enter Tryd.func6 rfl rfl rfl (Hp := [Hl.rd v cC 3 l]) (fun h hm => by
    rcases List.mem_singleton.1 hm with rfl
    exact ⟨⟨hw0.1, fun h => by cases h⟩, rfl⟩) ?_
  repeat' (first
    | (exfalso; rcases hno with z | z; (rw [z] at hc; exact absurd hc.1.1 (by decide)); omega)
    | (show YK _ _ _ _ _ _ _; first | refine YK.mk (y_callA (awake_c) rfl) ?_ | refine YK.mk (y_callRA (pm) ⟨rfl, rfl⟩) ?_)
    | (show YK _ _ _ _ _ _ _; refine YK.ofV vAuto ?_)
    | (show VK _ _ _ _ _ _ _; refine VK.mk vAuto ?_)
    | (show RS _ _ _ _ _ _ _ _; first | (refine nxRS ?_) | (refine nxRS1 fun _ => ?_))
    | (show RM _ _ _ _ _ _ _ _ _ _; first | (refine nxRM ?_) | (refine nxRM1 fun _ => ?_))
    | (show YG _ _ _ _ _ _ _ _; refine YG.mk (fun hb => by (try (have hc := And.left hb; have hb := And.right hb; rw [hc])); (try rw [hb]); first | exact (y_callA (awake_c) rfl) | exact (y_callRA (pm) ⟨rfl, rfl⟩) | exact V.y vAuto) ?_)
    | (show VG _ _ _ _ _ _ _ _; refine VG.mk (fun hb => by (try (have hc := And.left hb; have hb := And.right hb; rw [hc])); (try rw [hb]); exact vAuto) ?_)
    | (refine nxVS ?_)
    | (refine nxGS ?_)
    | (refine nxX ?_)
    | (refine G.condN rfl (fun hc => ?_) (fun hc => ?_) <;> (try first | exact False.elim hc | (exfalso; omega))))
  exact X.ret (vs := [_]) rfl ⟨rfl, rfl⟩ rfl (fun w hw => ⟨rfl, hw.ext⟩)
theorem l11_v {v : Value} {l : List Chk} {s : List UInt8} {P1 P2 : ParC → Prop} (hs : s.length ≤ 2000 ∨ 65536 < s.length ∧ s.length ≤ 65636) (hv : validC l = true) (h900 : l.length ≤ 900)
    (p1 : C1 s P1) (p2 : C2 s P2) (hu : ∀ z1 z2, P1 z1 → P2 z2 → z1.2.1 = z2.2.1 ∧ z1.2.2.1 = z2.2.2.1 ∧ z1.2.2.2 = z2.2.2.2) (hb : ∀ z, P1 z → z.2.1.length ≤ 1000)
    (pm : ContR Tryd.prog [Hl.rd v cC 3 l] 23 [v] (.bool false)) (pt : ContIn Tryd.prog (fun w => Laid w ∧ RO w v 3 l.length (l.flatMap cC)) 27 [v] (.tuple [strV (txC l l.length), .int .i64 0].toArray)) (pr : ContR Tryd.prog [Hl.rd v cC 3 l] 28 [v] (.bool true))
    (px : ContR Tryd.prog [Hl.rd v cC 3 l] 29 [v] (strV (txC l l.length))) (p3 : C1 (txC l l.length) (fun z => ReadsC [] (txC l l.length) z.2.1 z.2.2.1 z.2.2.2)) (hr : ReadsC [] (txC l l.length) l (0, 0) 0) :
    ContIn Tryd.prog (l11P v l) 6 [v, strV s] (.bool true) := fun w0 hw0 => by
  have hI := hw0.2
  have u3 : ∀ z : ParC, ReadsC [] (txC l l.length) z.2.1 z.2.2.1 z.2.2.2 → l = z.2.1 ∧ z.2.2.2 = 0 := fun z hz => by
    have := hr.uniq hz
    exact ⟨this.1, this.2.2.symm⟩
  clear hr
  generalize txC l l.length = t at pt px p3 u3
  refine enter Tryd.func6 rfl rfl rfl (Hp := [Hl.rd v cC 3 l]) (fun h hm => by
    rcases List.mem_singleton.1 hm with rfl
    exact ⟨⟨hw0.1, fun h => by cases h⟩, rfl⟩) ?_
  repeat' (first
    | (show RS _ _ _ _ _ _ _ (⟨some 37, _, _, _, _, _⟩ :: _); refine RS.callI p1 ⟨rfl, rfl⟩ (fun w hw => hI.keep hw.ext) ?_; rintro ⟨x, l1, ⟨a1, b1⟩, e1⟩ hz1; have hb1 := hb _ hz1; dsimp only at hb1; dsimp only [List.cons_append, List.nil_append])
    | (show RS _ _ _ _ _ _ _ (⟨some 43, _, _, _, _, _⟩ :: _); refine RS.callX p2 ⟨rfl, rfl⟩ ?_; rintro ⟨y, l2, ⟨a2, b2⟩, e2⟩ hz2; obtain ⟨u1, u2, u4⟩ := hu _ _ hz1 hz2; dsimp only at u1 u2 u4; subst u1 u4; obtain ⟨rfl, rfl⟩ := Prod.mk.inj u2; clear hz1 hz2 u2; dsimp only [List.cons_append, List.nil_append])
    | (show YK _ _ _ _ _ ⟨some 63, _, _, _, _, _⟩ _; refine YK.mk (y_callIn (xs := [.tmp 62]) pt (fun w hw => ⟨hI.keep hw.ext, (hw.all (Hl.rd v cC 3 l) (by exact memA)).1⟩) ⟨rfl, rfl⟩ (by decide +kernel)) ?_)
    | (show RS _ _ _ _ _ _ _ (⟨some 85, _, _, _, _, _⟩ :: _); refine RS.callI p3 ⟨rfl, rfl⟩ (fun w hw => hI.keep hw.ext) ?_; rintro ⟨z, l3, ⟨a3, b3⟩, e3⟩ hz3; obtain ⟨u5, u6⟩ := u3 _ hz3; dsimp only at u5 u6; subst u5 u6; clear hz3; dsimp only [List.cons_append, List.nil_append])
    | (show YK _ _ _ _ _ _ _; first | refine YK.mk (y_callA (awake_c) rfl) ?_ | refine YK.mk (y_callRA (pm) ⟨rfl, rfl⟩) ?_ | refine YK.mk (y_callRA (eqK_c x.v y.v l1 (by omega)) ⟨rfl, rfl, rfl⟩) ?_ | refine YK.mk (y_callRA (pr) ⟨rfl, rfl⟩) ?_ | refine YK.mk (y_callRA (px) ⟨rfl, rfl⟩) ?_ | refine YK.mk (y_callRA (eqK_c z.v v l (by omega)) ⟨rfl, rfl, rfl⟩) ?_)
    | (show YK _ _ _ _ _ _ _; refine YK.ofV vAuto ?_)
    | (show VK _ _ _ _ _ _ _; refine VK.mk vAuto ?_)
    | (show RS _ _ _ _ _ _ _ _; first | (refine nxRS ?_) | (refine nxRS1 fun _ => ?_))
    | (show RM _ _ _ _ _ _ _ _ _ _; first | (refine nxRM ?_) | (refine nxRM1 fun _ => ?_))
    | (show YG _ _ _ _ _ _ _ _; refine YG.mk (fun hb => by (try (have hc := And.left hb; have hb := And.right hb; rw [hc])); (try rw [hb]); first | exact (y_callA (awake_c) rfl) | exact (y_callRA (pm) ⟨rfl, rfl⟩) | exact (y_callRA (eqK_c x.v y.v l1 (by omega)) ⟨rfl, rfl, rfl⟩) | exact (y_callRA (pr) ⟨rfl, rfl⟩) | exact (y_callRA (px) ⟨rfl, rfl⟩) | exact (y_callRA (eqK_c z.v v l (by omega)) ⟨rfl, rfl, rfl⟩) | exact V.y vAuto) ?_)
    | (show VG _ _ _ _ _ _ _ _; refine VG.mk (fun hb => by (try (have hc := And.left hb; have hb := And.right hb; rw [hc])); (try rw [hb]); exact vAuto) ?_)
    | (refine nxVS ?_)
    | (refine nxGS ?_)
    | (refine nxX ?_)
    | (refine G.condN rfl (fun hc => ?_) (fun hc => ?_) <;> (try first | exact False.elim hc | (exfalso; omega))))
  exact X.ret (vs := [_]) rfl ⟨rfl, rfl⟩ rfl (fun w hw => ⟨ret_bool (by simp), hw.ext⟩)
theorem l11_i {v : Value} {l : List Chk} {s : List UInt8} {P1 P2 : ParC → Prop} (hs : s.length ≤ 2000 ∨ 65536 < s.length ∧ s.length ≤ 65636)
    (p1 : C1 s P1) (p2 : C2 s P2) (hu : ∀ z1 z2, P1 z1 → P2 z2 → z1.2.1 = z2.2.1 ∧ z1.2.2.1 = z2.2.2.1 ∧ z1.2.2.2 = z2.2.2.2) (hb : ∀ z, P1 z → z.2.1.length ≤ 1000)
    (pm : ContR Tryd.prog [Hl.rd v cC 3 l] 23 [v] (.bool false)) (pt : ContR Tryd.prog [Hl.rd v cC 3 l] 27 [v] (.tuple [strV [], .int .i64 1].toArray)) (pr : ContR Tryd.prog [Hl.rd v cC 3 l] 28 [v] (.bool false)) :
    ContIn Tryd.prog (l11P v l) 6 [v, strV s] (.bool true) := fun w0 hw0 => by
  have hI := hw0.2
  refine enter Tryd.func6 rfl rfl rfl (Hp := [Hl.rd v cC 3 l]) (fun h hm => by
    rcases List.mem_singleton.1 hm with rfl
    exact ⟨⟨hw0.1, fun h => by cases h⟩, rfl⟩) ?_
  repeat' (first
    | (show RS _ _ _ _ _ _ _ (⟨some 37, _, _, _, _, _⟩ :: _); refine RS.callI p1 ⟨rfl, rfl⟩ (fun w hw => hI.keep hw.ext) ?_; rintro ⟨x, l1, ⟨a1, b1⟩, e1⟩ hz1; have hb1 := hb _ hz1; dsimp only at hb1; dsimp only [List.cons_append, List.nil_append])
    | (show RS _ _ _ _ _ _ _ (⟨some 43, _, _, _, _, _⟩ :: _); refine RS.callX p2 ⟨rfl, rfl⟩ ?_; rintro ⟨y, l2, ⟨a2, b2⟩, e2⟩ hz2; obtain ⟨u1, u2, u4⟩ := hu _ _ hz1 hz2; dsimp only at u1 u2 u4; subst u1 u4; obtain ⟨rfl, rfl⟩ := Prod.mk.inj u2; clear hz1 hz2 u2; dsimp only [List.cons_append, List.nil_append])
    | (show YK _ _ _ _ _ _ _; first | refine YK.mk (y_callA (awake_c) rfl) ?_ | refine YK.mk (y_callRA (pm) ⟨rfl, rfl⟩) ?_ | refine YK.mk (y_callRA (eqK_c x.v y.v l1 (by omega)) ⟨rfl, rfl, rfl⟩) ?_ | refine YK.mk (y_callRA (pt) ⟨rfl, rfl⟩) ?_ | refine YK.mk (y_callRA (pr) ⟨rfl, rfl⟩) ?_)
    | (show YK _ _ _ _ _ _ _; refine YK.ofV vAuto ?_)
    | (show VK _ _ _ _ _ _ _; refine VK.mk vAuto ?_)
    | (show RS _ _ _ _ _ _ _ _; first | (refine nxRS ?_) | (refine nxRS1 fun _ => ?_))
    | (show RM _ _ _ _ _ _ _ _ _ _; first | (refine nxRM ?_) | (refine nxRM1 fun _ => ?_))
    | (show YG _ _ _ _ _ _ _ _; refine YG.mk (fun hb => by (try (have hc := And.left hb; have hb := And.right hb; rw [hc])); (try rw [hb]); first | exact (y_callA (awake_c) rfl) | exact (y_callRA (pm) ⟨rfl, rfl⟩) | exact (y_callRA (eqK_c x.v y.v l1 (by omega)) ⟨rfl, rfl, rfl⟩) | exact (y_callRA (pt) ⟨rfl, rfl⟩) | exact (y_callRA (pr) ⟨rfl, rfl⟩) | exact V.y vAuto) ?_)
    | (show VG _ _ _ _ _ _ _ _; refine VG.mk (fun hb => by (try (have hc := And.left hb; have hb := And.right hb; rw [hc])); (try rw [hb]); exact vAuto) ?_)
    | (refine nxVS ?_)
    | (refine nxGS ?_)
    | (refine nxX ?_)
    | (refine G.condN rfl (fun hc => ?_) (fun hc => ?_) <;> (try first | exact False.elim hc | (exfalso; omega))))
  exact X.ret (vs := [_]) rfl ⟨rfl, rfl⟩ rfl (fun w hw => ⟨ret_bool (by simp), hw.ext⟩)
theorem ReadsC.le {out : List Chk} {s : List UInt8} {x : List Chk} {p : Int × Int} {e : Int} (h : ReadsC out s x p e) : x.length ≤ 1000 := by
  induction h with
  | done h1 => exact (validC_no h1).2
  | inval => simp
  | fail => simp
  | next _ _ _ _ ih => exact ih
/-- ChronometerTexts answers true. -/
theorem texts_law {v : Value} {l : List Chk} {s : List UInt8} : ContIn Tryd.prog (l11P v l) 6 [v, strV s] (.bool true) := by
  have pm := many_c v l
  cases hm : manyB l with
  | true => rw [hm] at pm; exact l11_no pm (.inl rfl)
  | false =>
    rw [hm] at pm
    have hl := many_len hm
    by_cases h1 : 2000 < s.length ∧ s.length ≤ 65536
    · exact l11_no pm (.inr (.inl h1))
    by_cases h2 : 65636 < s.length
    · exact l11_no pm (.inr (.inr h2))
    have pr := rvalidt_c v l (by omega)
    have pv := cvalid_c v l (by omega)
    have hs : s.length ≤ 2000 ∨ 65536 < s.length ∧ s.length ≤ 65636 := by omega
    have key : ∃ P1 P2 : ParC → Prop, C1 s P1 ∧ C2 s P2 ∧ (∀ z1 z2, P1 z1 → P2 z2 → z1.2.1 = z2.2.1 ∧ z1.2.2.1 = z2.2.2.1 ∧ z1.2.2.2 = z2.2.2.2) ∧ (∀ z, P1 z → z.2.1.length ≤ 1000) := by
      rcases Nat.lt_or_ge 65536 s.length with g | g
      · exact ⟨_, _, cpar_big s g, rpar_big s g, fun z1 z2 e1 e2 => by rw [e1, e2]; exact ⟨rfl, rfl, rfl⟩, fun z e => by rw [e]; simp⟩
      · exact ⟨_, _, cpar_c s g, rpar_c s g, fun z1 z2 e1 e2 => e1.uniq e2, fun z e => e.le⟩
    obtain ⟨P1, P2, p1, p2, hu, hb⟩ := key
    cases hv : validC l with
    | true =>
      rw [hv] at pr pv
      have h900 : l.length ≤ 900 := by
        have := (validC_no hv).2
        unfold manyB at hm
        have := of_decide_eq_false hm
        omega
      have htl := txC_len hv l.length (Nat.le_refl _)
      exact l11_v hs hv h900 p1 p2 hu hb pm (ctx_c hv h900 pv) pr (rtx_c hv h900) (cpar_c _ (by omega)) (reads_tx hv)
    | false =>
      rw [hv] at pr pv
      exact l11_i hs p1 p2 hu hb pm (ctx_no pv) pr
end Go.Proofs.YtaglecidaedjfaaDoor
