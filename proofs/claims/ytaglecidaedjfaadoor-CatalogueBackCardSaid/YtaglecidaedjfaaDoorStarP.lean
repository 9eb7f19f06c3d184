/- catalogue.star. -/
import Derived.Test.YtaglecidaedjfaaDoorDecP
set_option linter.unusedVariables false
set_option maxHeartbeats 4000000
namespace Go.Proofs.YtaglecidaedjfaaDoor
open Go.RowKit

def idxW (l : List (List UInt8)) (x : List UInt8) : Int := match (List.range l.length).find? (fun i : Nat => decide (x = nth l (i : Int))) with
  | some k => (k : Int)
  | none => -1
theorem indexW_c (v : Value) (l : List (List UInt8)) (x : List UInt8) (hl : l.length ≤ 2000000) : ContR Tryd.prog [Hl.rd v cS 1 l] 104 [v, strV x] (.int .i64 (idxW l x)) := fun w hw0 => by
  refine enter Tryd.func104 rfl rfl rfl hw0 ?_
  repeat' (first
    | (refine nxV ?_)
    | (show RS _ _ _ _ _ _ _ _; first | (refine nxRS ?_) | (refine nxRS1 fun _ => ?_))
    | (show RM _ _ _ _ _ _ _ _ _ _; first | (refine nxRM ?_) | (refine nxRM1 fun _ => ?_))
    | (refine nxG ?_)
    | (refine nxVS ?_)
    | (refine nxGS ?_)
    | (refine nxX ?_)
    | (refine G.condN rfl (fun hc => ?_) (fun hc => ?_) <;> (try first | exact False.elim hc | (exfalso; omega))))
  refine G.loop (ι := Nat) (fun i => [(0, v), (1, strV x), (7, .int .i64 l.length), (8, .int .i64 (i : Int))]) (fun _ => [Hl.rd v cS 1 l]) (fun i => i ≤ l.length ∧ ∀ k : Nat, k < i → decide (x = nth l (k : Int)) = false) (fun i => l.length - i) 0 ⟨by omega, fun k hk => by omega⟩ ⟨rfl, rfl, rfl, rfl, trivial⟩ (fun w h => h) ?_
  rintro i mx ⟨g1, g2⟩ hmx
  have hr : idxW l x = match (List.range l.length).find? (fun i : Nat => decide (x = nth l (i : Int))) with
    | some k => (k : Int)
    | none => -1 := rfl
  rcases Nat.lt_or_ge i l.length with hi | hi
  · repeat' (first
    | (refine nxV ?_)
    | (show RS _ _ _ _ _ _ _ _; first | (refine nxRS ?_) | (refine nxRS1 fun _ => ?_))
    | (show RM _ _ _ _ _ _ _ _ _ _; first | (refine nxRM ?_) | (refine nxRM1 fun _ => ?_))
    | (refine nxG ?_)
    | (refine nxVS ?_)
    | (refine nxGS ?_)
    | (refine nxX ?_)
    | (refine G.condN rfl (fun hc => ?_) (fun hc => ?_) <;> (try first | exact False.elim hc | (exfalso; omega))))
    · rw [findr_some hi g2 (decide_eq_true hc)] at hr
      exact X.ret (vs := [_]) rfl ⟨rfl, rfl⟩ rfl (fun w hw => ⟨ret_int hr.symm, hw.ext⟩)
    · refine X.again (i + 1) ⟨by omega, fun k hk => ?_⟩ (by omega) ⟨rfl, rfl, rfl, rfl, trivial⟩ (by exact fun w h => h.sub (by repeat (first | exact List.Sublist.refl _ | apply List.Sublist.cons_cons | apply List.Sublist.cons)))
      rcases Nat.lt_or_ge k i with h | h
      · exact g2 k h
      · rw [show k = i by omega]; exact decide_eq_false hc
  · repeat' (first
    | (refine nxV ?_)
    | (show RS _ _ _ _ _ _ _ _; first | (refine nxRS ?_) | (refine nxRS1 fun _ => ?_))
    | (show RM _ _ _ _ _ _ _ _ _ _; first | (refine nxRM ?_) | (refine nxRM1 fun _ => ?_))
    | (refine nxG ?_)
    | (refine nxVS ?_)
    | (refine nxGS ?_)
    | (refine nxX ?_)
    | (refine G.condN rfl (fun hc => ?_) (fun hc => ?_) <;> (try first | exact False.elim hc | (exfalso; omega))))
    rw [findr_none (fun k hk => g2 k (by omega))] at hr
    exact X.ret (vs := [_]) rfl ⟨rfl, rfl⟩ rfl (fun w hw => ⟨ret_int hr.symm, hw.ext⟩)
theorem idxW_mem (l : List (List UInt8)) (x : List UInt8) : decide (0 ≤ idxW l x) = decide (x ∈ l) := by
  have hr : idxW l x = match (List.range l.length).find? (fun i : Nat => decide (x = nth l (i : Int))) with
    | some k => (k : Int)
    | none => -1 := rfl
  have hn : ∀ i (h : i < l.length), nth l (i : Int) = l[i] := fun i h => by
    show l.getD i default = l[i]
    rw [List.getD_eq_getElem?_getD, List.getElem?_eq_getElem h]; rfl
  cases hf : (List.range l.length).find? (fun i : Nat => decide (x = nth l (i : Int))) with
  | none =>
    rw [hf] at hr
    rw [hr]
    have := List.find?_eq_none.1 hf
    rw [decide_eq_false (by decide), decide_eq_false]
    intro hm
    obtain ⟨i, hi, e⟩ := List.getElem_of_mem hm
    exact this i (List.mem_range.2 hi) (decide_eq_true (by rw [hn i hi, e]))
  | some k =>
    rw [hf] at hr
    have hr2 : idxW l x = (k : Int) := hr
    rw [hr2]
    have h1 := List.find?_some hf
    have h2 := List.mem_range.1 (List.mem_of_find?_eq_some hf)
    have h3 := of_decide_eq_true h1
    rw [decide_eq_true (by omega), decide_eq_true]
    rw [h3, hn k h2]
    exact List.getElem_mem h2
theorem containsW_c (v : Value) (l : List (List UInt8)) (x : List UInt8) (hl : l.length ≤ 2000000) : ContR Tryd.prog [Hl.rd v cS 1 l] 77 [v, strV x] (.bool (decide (x ∈ l))) := fun w hw0 => by
  have q1 := indexW_c v l x hl
  have q2 := idxW_mem l x
  generalize idxW l x = j at q1 q2
  refine enter Tryd.func77 rfl rfl rfl hw0 ?_
  repeat' (first
    | (show YK _ _ _ _ _ _ _; first | refine YK.mk (y_callRA (q1) ⟨rfl, rfl, rfl⟩) ?_)
    | (show YK _ _ _ _ _ _ _; refine YK.ofV vAuto ?_)
    | (show VK _ _ _ _ _ _ _; refine VK.mk vAuto ?_)
    | (show RS _ _ _ _ _ _ _ _; first | (refine nxRS ?_) | (refine nxRS1 fun _ => ?_))
    | (show RM _ _ _ _ _ _ _ _ _ _; first | (refine nxRM ?_) | (refine nxRM1 fun _ => ?_))
    | (show YG _ _ _ _ _ _ _ _; refine YG.mk (fun hb => by (try (have hc := And.left hb; have hb := And.right hb; rw [hc])); (try rw [hb]); first | exact (y_callRA (q1) ⟨rfl, rfl, rfl⟩) | exact V.y vAuto) ?_)
    | (show VG _ _ _ _ _ _ _ _; refine VG.mk (fun hb => by (try (have hc := And.left hb; have hb := And.right hb; rw [hc])); (try rw [hb]); exact vAuto) ?_)
    | (refine nxVS ?_)
    | (refine nxGS ?_)
    | (refine nxX ?_)
    | (refine G.condN rfl (fun hc => ?_) (fun hc => ?_) <;> (try first | exact False.elim hc | (exfalso; omega))))
  exact X.ret (vs := [_]) rfl ⟨rfl, rfl⟩ rfl (fun w hw => ⟨ret_bool q2, hw.ext⟩)
theorem splitK_len (sep : List UInt8) : ∀ (k : Nat) (s : List UInt8), ∀ x ∈ Lib.splitK sep 0 k s, x.length ≤ s.length
  | 0, s, x, hx => by
    have hx : x ∈ [s] := hx
    rw [List.mem_singleton.1 hx]; exact Nat.le_refl _
  | k + 1, s, x, hx => by
    have hx : x ∈ (if Lib.index s sep == -1 then [s] else s.take ((Lib.index s sep).toNat + 0) :: Lib.splitK sep 0 k (s.drop ((Lib.index s sep).toNat + sep.length))) := hx
    split at hx
    · rw [List.mem_singleton.1 hx]; exact Nat.le_refl _
    · rcases List.mem_cons.1 hx with rfl | hx
      · rw [List.length_take]; omega
      · have := splitK_len sep k _ x hx
        rw [List.length_drop] at this
        omega
theorem splitK_cnt (sep : List UInt8) : ∀ (k : Nat) (s : List UInt8), (Lib.splitK sep 0 k s).length ≤ k + 1
  | 0, s => by show [s].length ≤ 1; simp
  | k + 1, s => by
    show (if Lib.index s sep == -1 then [s] else s.take ((Lib.index s sep).toNat + 0) :: Lib.splitK sep 0 k (s.drop ((Lib.index s sep).toNat + sep.length))).length ≤ k + 1 + 1
    split
    · simp
    · rw [List.length_cons]
      have := splitK_cnt sep k (s.drop ((Lib.index s sep).toNat + sep.length))
      omega
theorem split_cnt (l sep : List UInt8) : (Lib.split l sep).length ≤ l.length + 2 := by
  have h1 := splitK_cnt sep (Lib.count l sep) l
  have h2 := Lib.count_le l sep
  unfold Lib.split
  omega
abbrev badW (w : List (List UInt8)) : Prop := ¬ (w.length : Int) = 4 ∨ [] ∈ w
theorem star_w {l : List UInt8} (hl : l.length ≤ 1000000) (hb : badW (Lib.split l [32])) : ContIn Tryd.prog LaidC 49 [strV l] (.tuple [stV starZ, .int .i64 7].toArray) := fun w hI => by
  have p1 := splitC_c l [32] (by omega) (by decide)
  have hw := split_cnt l [32]
  generalize Lib.split l [32] = ws at p1 hb hw
  have p2 := fun v => containsW_c v ws [] (by omega)
  refine enter0 Tryd.func49 rfl rfl rfl ?_
  repeat' (first
    | (exfalso; rcases hb with z | z; exact z hc.1; exact hc.2 z)
    | (refine RS.callI p1 ⟨rfl, rfl, rfl⟩ (fun w hw => hI.keep hw.ext) ?_; rintro z _)
    | (show YK _ _ _ _ _ _ _; first | refine YK.mk (y_callRA (p2 z.v) ⟨rfl, rfl, rfl⟩) ?_)
    | (show YK _ _ _ _ _ _ _; refine YK.ofV vAuto ?_)
    | (show VK _ _ _ _ _ _ _; refine VK.mk vAuto ?_)
    | (show RS _ _ _ _ _ _ _ _; first | (refine nxRS ?_) | (refine nxRS1 fun _ => ?_))
    | (show RM _ _ _ _ _ _ _ _ _ _; first | (refine nxRM ?_) | (refine nxRM1 fun _ => ?_))
    | (show YG _ _ _ _ _ _ _ _; refine YG.mk (fun hb => by (try (have hc := And.left hb; have hb := And.right hb; rw [hc])); (try rw [hb]); first | exact (y_callRA (p2 z.v) ⟨rfl, rfl, rfl⟩) | exact V.y vAuto) ?_)
    | (show VG _ _ _ _ _ _ _ _; refine VG.mk (fun hb => by (try (have hc := And.left hb; have hb := And.right hb; rw [hc])); (try rw [hb]); exact vAuto) ?_)
    | (refine nxVS ?_)
    | (refine nxGS ?_)
    | (refine nxX ?_)
    | (refine G.condN rfl (fun hc => ?_) (fun hc => ?_) <;> (try first | exact False.elim hc | (exfalso; omega))))
  exact X.ret (vs := [_, _]) rfl ⟨⟨_, _, _, _, rfl, (by exact memA), (by (repeat (first | exact .nil | apply LenIs.cons))), by decide +kernel, rfl⟩, rfl, rfl⟩ rfl (fun w hw => ⟨rfl, hw.ext⟩)
abbrev WPre (ws : List (List UInt8)) (t1 t2 g : Int) (a b : Bool) (e : Int) (nb : Bool) : Prop :=
  ContIn Tryd.prog LaidC 78 [strV (nth ws 1)] (.tuple [.int .i64 t1, .bool a].toArray) ∧
  ContIn Tryd.prog LaidC 78 [strV (nth ws 2)] (.tuple [.int .i64 t2, .bool b].toArray) ∧
  ContIn Tryd.prog LaidC 79 [strV (nth ws 3), .int .i64 1] (.tuple [.int .i64 g, .int .i64 e].toArray) ∧
  Cont Tryd.prog 32 [strV (nth ws 0)] (.bool nb)
theorem star_5 {l : List UInt8} {ws : List (List UInt8)} {t1 t2 g e : Int} {a b nb k : Bool} {r : StarT × Int} (p1 : ContXI Tryd.prog LaidC 76 [strV l, strV [32]] (fun _ : Sl => True) (fun z => z.v) (fun z => [Hl.nw z.v cS 1 ws])) (h4 : ws.length = 4) (hn : ¬ [] ∈ ws) (hp : WPre ws t1 t2 g a b e nb) (he : e = 5)
    (p7 : Cont Tryd.prog 33 [stV (nth ws 0, t1, t2, 1099511627776)] (.bool k))
    (h1 : a = false ∨ b = false → r = (starZ, 7)) (h2 : a = true ∧ b = true → nb = false → r = (starZ, 9)) (h3 : a = true ∧ b = true → nb = true → k = false → r = (starZ, 2)) (h5 : a = true ∧ b = true → nb = true → k = true → r = ((nth ws 0, t1, t2, 1099511627776), 0)) :
    ContIn Tryd.prog LaidC 49 [strV l] (.tuple [stV r.1, .int .i64 r.2].toArray) := fun w hI => by
  obtain ⟨q1, q2, q3, q4⟩ := hp
  subst he
  have p2 := fun v => containsW_c v ws [] (by omega)
  refine enter0 Tryd.func49 rfl rfl rfl ?_
  repeat' (first
    | (exfalso; rcases hc with z | z; exact z (by omega); exact hn z)
    | (refine RS.callI p1 ⟨rfl, rfl, rfl⟩ (fun w hw => hI.keep hw.ext) ?_; rintro z _)
    | (show YK _ _ _ _ _ _ _; first | refine YK.mk (y_callRA (p2 z.v) ⟨rfl, rfl, rfl⟩) ?_ | refine YK.mk (y_callIn (q1) (fun _ hw => hI.keep hw.ext) ⟨rfl, rfl⟩ (by decide +kernel)) ?_ | refine YK.mk (y_callIn (q2) (fun _ hw => hI.keep hw.ext) ⟨rfl, rfl⟩ (by decide +kernel)) ?_ | refine YK.mk (y_callIn (q3) (fun _ hw => hI.keep hw.ext) ⟨rfl, rfl, rfl⟩ (by decide +kernel)) ?_ | refine YK.mk (y_callA (q4) ⟨rfl, rfl⟩) ?_ | refine YK.mk (y_callA (p7) ⟨rfl, rfl⟩) ?_)
    | (show YK _ _ _ _ _ _ _; refine YK.ofV vAuto ?_)
    | (show VK _ _ _ _ _ _ _; refine VK.mk vAuto ?_)
    | (show RS _ _ _ _ _ _ _ _; first | (refine nxRS ?_) | (refine nxRS1 fun _ => ?_))
    | (show RM _ _ _ _ _ _ _ _ _ _; first | (refine nxRM ?_) | (refine nxRM1 fun _ => ?_))
    | (show YG _ _ _ _ _ _ _ _; refine YG.mk (fun hb => by (try (have hc := And.left hb; have hb := And.right hb; rw [hc])); (try rw [hb]); first | exact (y_callRA (p2 z.v) ⟨rfl, rfl, rfl⟩) | exact (y_callIn (q1) (fun _ hw => hI.keep hw.ext) ⟨rfl, rfl⟩ (by decide +kernel)) | exact (y_callIn (q2) (fun _ hw => hI.keep hw.ext) ⟨rfl, rfl⟩ (by decide +kernel)) | exact (y_callIn (q3) (fun _ hw => hI.keep hw.ext) ⟨rfl, rfl, rfl⟩ (by decide +kernel)) | exact (y_callA (q4) ⟨rfl, rfl⟩) | exact (y_callA (p7) ⟨rfl, rfl⟩) | exact V.y vAuto) ?_)
    | (show VG _ _ _ _ _ _ _ _; refine VG.mk (fun hb => by (try (have hc := And.left hb; have hb := And.right hb; rw [hc])); (try rw [hb]); exact vAuto) ?_)
    | (refine nxVS ?_)
    | (refine nxGS ?_)
    | (refine nxX ?_)
    | (refine G.condN rfl (fun hc => ?_) (fun hc => ?_) <;> (try first | exact False.elim hc | (exfalso; omega))))
  · exact X.ret (vs := [_, _]) rfl ⟨⟨_, _, _, _, rfl, (by exact memA), (by (repeat (first | exact .nil | apply LenIs.cons))), by decide +kernel, rfl⟩, rfl, rfl⟩ rfl (fun w hw => ⟨by rw [h1 hc] <;> rfl, hw.ext⟩)
  · exact X.ret (vs := [_, _]) rfl ⟨⟨_, _, _, _, rfl, (by exact memA), (by (repeat (first | exact .nil | apply LenIs.cons))), by decide +kernel, rfl⟩, rfl, rfl⟩ rfl (fun w hw => ⟨by rw [h2 (by assumption) hc] <;> rfl, hw.ext⟩)
  · exact X.ret (vs := [_, _]) rfl ⟨⟨_, _, _, _, rfl, (by exact memA), (by (repeat (first | exact .nil | apply LenIs.cons))), by decide +kernel, rfl⟩, rfl, rfl⟩ rfl (fun w hw => ⟨by rw [h3 (by assumption) (by assumption) hc] <;> rfl, hw.ext⟩)
  · exact X.ret (vs := [_, _]) rfl ⟨⟨_, _, _, _, rfl, (by exact memA), (by (repeat (first | exact .nil | apply LenIs.cons))), by decide +kernel, rfl⟩, rfl, rfl⟩ rfl (fun w hw => ⟨by rw [h5 (by assumption) (by assumption) hc] <;> rfl, hw.ext⟩)
theorem star_n {l : List UInt8} {ws : List (List UInt8)} {t1 t2 g e : Int} {a b nb k : Bool} {r : StarT × Int} (p1 : ContXI Tryd.prog LaidC 76 [strV l, strV [32]] (fun _ : Sl => True) (fun z => z.v) (fun z => [Hl.nw z.v cS 1 ws])) (h4 : ws.length = 4) (hn : ¬ [] ∈ ws) (hp : WPre ws t1 t2 g a b e nb) (he : ¬ e = 5)
    (p7 : Cont Tryd.prog 33 [stV (nth ws 0, t1, t2, g)] (.bool k))
    (h1 : (a = false ∨ b = false) ∨ ¬ e = 0 → r = (starZ, 7)) (h2 : (a = true ∧ b = true) ∧ e = 0 → nb = false → r = (starZ, 9)) (h3 : (a = true ∧ b = true) ∧ e = 0 → nb = true → k = false → r = (starZ, 2)) (h5 : (a = true ∧ b = true) ∧ e = 0 → nb = true → k = true → r = ((nth ws 0, t1, t2, g), 0)) :
    ContIn Tryd.prog LaidC 49 [strV l] (.tuple [stV r.1, .int .i64 r.2].toArray) := fun w hI => by
  obtain ⟨q1, q2, q3, q4⟩ := hp
  have p2 := fun v => containsW_c v ws [] (by omega)
  refine enter0 Tryd.func49 rfl rfl rfl ?_
  repeat' (first
    | (exfalso; rcases hc with z | z; exact z (by omega); exact hn z)
    | (refine RS.callI p1 ⟨rfl, rfl, rfl⟩ (fun w hw => hI.keep hw.ext) ?_; rintro z _)
    | (show YK _ _ _ _ _ _ _; first | refine YK.mk (y_callRA (p2 z.v) ⟨rfl, rfl, rfl⟩) ?_ | refine YK.mk (y_callIn (q1) (fun _ hw => hI.keep hw.ext) ⟨rfl, rfl⟩ (by decide +kernel)) ?_ | refine YK.mk (y_callIn (q2) (fun _ hw => hI.keep hw.ext) ⟨rfl, rfl⟩ (by decide +kernel)) ?_ | refine YK.mk (y_callIn (q3) (fun _ hw => hI.keep hw.ext) ⟨rfl, rfl, rfl⟩ (by decide +kernel)) ?_ | refine YK.mk (y_callA (q4) ⟨rfl, rfl⟩) ?_ | refine YK.mk (y_callA (p7) ⟨rfl, rfl⟩) ?_)
    | (show YK _ _ _ _ _ _ _; refine YK.ofV vAuto ?_)
    | (show VK _ _ _ _ _ _ _; refine VK.mk vAuto ?_)
    | (show RS _ _ _ _ _ _ _ _; first | (refine nxRS ?_) | (refine nxRS1 fun _ => ?_))
    | (show RM _ _ _ _ _ _ _ _ _ _; first | (refine nxRM ?_) | (refine nxRM1 fun _ => ?_))
    | (show YG _ _ _ _ _ _ _ _; refine YG.mk (fun hb => by (try (have hc := And.left hb; have hb := And.right hb; rw [hc])); (try rw [hb]); first | exact (y_callRA (p2 z.v) ⟨rfl, rfl, rfl⟩) | exact (y_callIn (q1) (fun _ hw => hI.keep hw.ext) ⟨rfl, rfl⟩ (by decide +kernel)) | exact (y_callIn (q2) (fun _ hw => hI.keep hw.ext) ⟨rfl, rfl⟩ (by decide +kernel)) | exact (y_callIn (q3) (fun _ hw => hI.keep hw.ext) ⟨rfl, rfl, rfl⟩ (by decide +kernel)) | exact (y_callA (q4) ⟨rfl, rfl⟩) | exact (y_callA (p7) ⟨rfl, rfl⟩) | exact V.y vAuto) ?_)
    | (show VG _ _ _ _ _ _ _ _; refine VG.mk (fun hb => by (try (have hc := And.left hb; have hb := And.right hb; rw [hc])); (try rw [hb]); exact vAuto) ?_)
    | (refine nxVS ?_)
    | (refine nxGS ?_)
    | (refine nxX ?_)
    | (refine G.condN rfl (fun hc => ?_) (fun hc => ?_) <;> (try first | exact False.elim hc | (exfalso; omega))))
  · exact X.ret (vs := [_, _]) rfl ⟨⟨_, _, _, _, rfl, (by exact memA), (by (repeat (first | exact .nil | apply LenIs.cons))), by decide +kernel, rfl⟩, rfl, rfl⟩ rfl (fun w hw => ⟨by rw [h1 hc] <;> rfl, hw.ext⟩)
  · exact X.ret (vs := [_, _]) rfl ⟨⟨_, _, _, _, rfl, (by exact memA), (by (repeat (first | exact .nil | apply LenIs.cons))), by decide +kernel, rfl⟩, rfl, rfl⟩ rfl (fun w hw => ⟨by rw [h2 (by assumption) hc] <;> rfl, hw.ext⟩)
  · exact X.ret (vs := [_, _]) rfl ⟨⟨_, _, _, _, rfl, (by exact memA), (by (repeat (first | exact .nil | apply LenIs.cons))), by decide +kernel, rfl⟩, rfl, rfl⟩ rfl (fun w hw => ⟨by rw [h3 (by assumption) (by assumption) hc] <;> rfl, hw.ext⟩)
  · exact X.ret (vs := [_, _]) rfl ⟨⟨_, _, _, _, rfl, (by exact memA), (by (repeat (first | exact .nil | apply LenIs.cons))), by decide +kernel, rfl⟩, rfl, rfl⟩ rfl (fun w hw => ⟨by rw [h5 (by assumption) (by assumption) hc] <;> rfl, hw.ext⟩)
theorem star_c (l : List UInt8) (hl : l.length ≤ 1000000) : ContIn Tryd.prog LaidC 49 [strV l] (.tuple [stV (starP l).1, .int .i64 (starP l).2].toArray) := by
  by_cases hb : badW (Lib.split l [32])
  · have e : starP l = (starZ, 7) := by
      unfold starP starQ
      rw [if_pos]
      unfold badW at hb
      simp only [Bool.or_eq_true, decide_eq_true_eq]
      rcases hb with h | h
      · exact .inl (by omega)
      · exact .inr h
    rw [e]
    exact star_w hl hb
  · have p1 := splitC_c l [32] (by omega) (by decide)
    have hlen : ∀ x ∈ Lib.split l [32], x.length ≤ 1000000 := fun x hx => by have := splitK_len [32] _ l x hx; omega
    have hb2 : (Lib.split l [32]).length = 4 ∧ ¬ [] ∈ Lib.split l [32] := by
      unfold badW at hb
      rw [not_or] at hb
      exact ⟨by omega, hb.2⟩
    have e : starP l = starQ (Lib.split l [32]) := rfl
    rw [e]
    generalize Lib.split l [32] = ws at p1 hlen hb2 ⊢
    have hw : ∀ i : Nat, i < 4 → (nth ws (i : Int)).length ≤ 1000000 := fun i hi => hlen _ (List.mem_of_getElem? (nth_some (by omega) (by omega)))
    have q1 := tenths_c (nth ws 1) (hw 1 (by decide))
    have q2 := tenths_c (nth ws 2) (hw 2 (by decide))
    have q3 := decParse_c (nth ws 3) (hw 3 (by decide))
    have q4 := isName_c (nth ws 0) (hw 0 (by decide))
    have hq : starQ ws = if (!(tenP (nth ws 1)).2 || !(tenP (nth ws 2)).2 || !(decide ((decP (nth ws 3)).2 = 0) || decide ((decP (nth ws 3)).2 = 5))) = true then (starZ, 7)
        else if (!nameB (nth ws 0)) = true then (starZ, 9)
        else if (!numB (nth ws 0, (tenP (nth ws 1)).1, (tenP (nth ws 2)).1, if (decP (nth ws 3)).2 = 5 then 1099511627776 else (decP (nth ws 3)).1)) = true then (starZ, 2)
        else ((nth ws 0, (tenP (nth ws 1)).1, (tenP (nth ws 2)).1, if (decP (nth ws 3)).2 = 5 then 1099511627776 else (decP (nth ws 3)).1), 0) := by
      have h : starQ ws = if (decide (¬ ws.length = 4) || decide ([] ∈ ws)) = true then (starZ, 7) else _ := rfl
      rw [h, if_neg (by simp [hb2.1, hb2.2])]; rfl
    rw [hq]
    clear hq e hw hlen
    generalize tenP (nth ws 1) = T1 at q1 ⊢
    generalize tenP (nth ws 2) = T2 at q2 ⊢
    generalize decP (nth ws 3) = G at q3 ⊢
    generalize nameB (nth ws 0) = nb at q4 ⊢
    obtain ⟨t1, a⟩ := T1
    obtain ⟨t2, b⟩ := T2
    obtain ⟨g, e⟩ := G
    dsimp only at q1 q2 q3 ⊢
    by_cases he : e = 5
    · rw [if_pos he]
      have p7 := numbers_c (nth ws 0, t1, t2, 1099511627776)
      generalize numB (nth ws 0, t1, t2, 1099511627776) = k at p7 ⊢
      subst he
      refine star_5 p1 hb2.1 hb2.2 ⟨q1, q2, q3, q4⟩ rfl p7 (fun h => ?_) (fun h h2 => ?_) (fun h h2 h3 => ?_) (fun h h2 h3 => ?_)
      · rcases h with rfl | rfl <;> simp
      · obtain ⟨rfl, rfl⟩ := h; subst h2; rfl
      · obtain ⟨rfl, rfl⟩ := h; subst h2 h3; rfl
      · obtain ⟨rfl, rfl⟩ := h; subst h2 h3; rfl
    · rw [if_neg he]
      have p7 := numbers_c (nth ws 0, t1, t2, g)
      generalize numB (nth ws 0, t1, t2, g) = k at p7 ⊢
      refine star_n p1 hb2.1 hb2.2 ⟨q1, q2, q3, q4⟩ he p7 (fun h => ?_) (fun h h2 => ?_) (fun h h2 h3 => ?_) (fun h h2 h3 => ?_)
      · rcases h with (rfl | rfl) | h
        · simp
        · simp
        · simp [h, he]
      · obtain ⟨⟨rfl, rfl⟩, rfl⟩ := h; subst h2; rfl
      · obtain ⟨⟨rfl, rfl⟩, rfl⟩ := h; subst h2 h3; rfl
      · obtain ⟨⟨rfl, rfl⟩, rfl⟩ := h; subst h2 h3; rfl
end Go.Proofs.YtaglecidaedjfaaDoor
