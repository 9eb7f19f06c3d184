/- CatalogueBright: the walk of the law. -/
import Derived.Test.YtaglecidaedjfaaDoorBriP
import Derived.Test.YtaglecidaedjfaaDoorSma
import Derived.Test.YtaglecidaedjfaaDoorConv
import Derived.Test.YtaglecidaedjfaaDoorAwk16
set_option linter.unusedVariables false
set_option maxHeartbeats 4000000
namespace Go.Proofs.YtaglecidaedjfaaDoor
open Go.RowKit
abbrev brP (v : Value) (l : List StarT) (w : World) : Prop := RO w v 4 l.length (l.flatMap cSt) ∧ LaidC w
theorem br_no {v : Value} {l : List StarT} {n lat : Int} {b1 b2 : Bool} (hn : 0 ≤ n ∧ n ≤ 255) (hl : l.length ≤ 9223372036854775807) (ps : l.length ≤ 30 → ContR Tryd.prog [Hl.rd v cSt 4 l] 8 [v] (.bool b1)) (pv : l.length ≤ 30 → b1 = true → ContR Tryd.prog [Hl.rd v cSt 4 l] 9 [v] (.bool b2)) (hno : 30 < l.length ∨ b1 = false ∨ b2 = false ∨ lat < -5400000 ∨ 5400000 < lat) :
    ContIn Tryd.prog (brP v l) 3 [v, .int .u8 n, .int .i64 lat] (.bool true) := fun w0 hw0 => by
  have hI := hw0.2
  refine enter Tryd.func3 rfl rfl rfl (Hp := [Hl.rd v cSt 4 l]) (fun h hm => by
    rcases List.mem_singleton.1 hm with rfl
    exact ⟨⟨hw0.1, fun h => by cases h⟩, rfl⟩) ?_
  repeat' (first
    | (show YK _ _ _ _ _ _ _; first | refine YK.mk (y_callIn (awake16_c) (fun _ hw => hI.keep hw.ext) rfl (by decide +kernel)) ?_ | refine YK.mk (y_callRA (ps (by simp only [Bool.or_eq_false_iff, decide_eq_false_iff_not] at hb; omega)) ⟨rfl, rfl⟩) ?_ | refine YK.mk (y_callRA (pv (by simp only [Bool.or_eq_false_iff, decide_eq_false_iff_not] at hb; omega) (by simp only [Bool.or_eq_false_iff, Bool.not_eq_false'] at hb; exact hb.2)) ⟨rfl, rfl⟩) ?_)
    | (show YK _ _ _ _ _ _ _; refine YK.ofV vAuto ?_)
    | (show VK _ _ _ _ _ _ _; refine VK.mk vAuto ?_)
    | (show RS _ _ _ _ _ _ _ _; first | (refine nxRS ?_) | (refine nxRS1 fun _ => ?_))
    | (show RM _ _ _ _ _ _ _ _ _ _; first | (refine nxRM ?_) | (refine nxRM1 fun _ => ?_))
    | (show YG _ _ _ _ _ _ _ _; refine YG.mk (fun hb => by (try (have hc := And.left hb; have hb := And.right hb; rw [hc])); (try rw [hb]); first | exact (y_callIn (awake16_c) (fun _ hw => hI.keep hw.ext) rfl (by decide +kernel)) | exact (y_callRA (ps (by simp only [Bool.or_eq_false_iff, decide_eq_false_iff_not] at hb; omega)) ⟨rfl, rfl⟩) | exact (y_callRA (pv (by simp only [Bool.or_eq_false_iff, decide_eq_false_iff_not] at hb; omega) (by simp only [Bool.or_eq_false_iff, Bool.not_eq_false'] at hb; exact hb.2)) ⟨rfl, rfl⟩) | exact V.y vAuto) ?_)
    | (show VG _ _ _ _ _ _ _ _; refine VG.mk (fun hb => by (try (have hc := And.left hb; have hb := And.right hb; rw [hc])); (try rw [hb]); exact vAuto) ?_)
    | (refine nxX ?_)
    | (refine G.condN rfl (fun hc => ?_) (fun hc => ?_) <;> (try first | exact False.elim hc | (exfalso; omega))))
  · exact X.ret (vs := [_]) rfl ⟨rfl, rfl⟩ rfl (fun w hw => ⟨rfl, hw.ext⟩)
  · exfalso
    rcases hno with z | z | z | z | z
    · omega
    · rw [z] at hc; exact absurd hc.1.1.1.2 (by decide)
    · rw [z] at hc; exact absurd hc.1.1.2 (by decide)
    · omega
    · omega
theorem br_main {A : Option Addr} {n0 c0 : Nat} {l : List StarT} {n lat : Int} (hn : 0 ≤ n ∧ n ≤ 255) (h30 : l.length ≤ 30) (hlat : -5400000 ≤ lat ∧ lat ≤ 5400000) (hv : validS l = true)
    (ps : ContR Tryd.prog [Hl.rd (.slice A n0 c0) cSt 4 l] 8 [.slice A n0 c0] (.bool true)) (pv : ContR Tryd.prog [Hl.rd (.slice A n0 c0) cSt 4 l] 9 [.slice A n0 c0] (.bool true)) :
    ContIn Tryd.prog (brP (.slice A n0 c0) l) 3 [.slice A n0 c0, .int .u8 n, .int .i64 lat] (.bool true) := fun w0 hw0 => by
  have hI := hw0.2
  have r1 := Int.emod_nonneg n (show (40 : Int) ≠ 0 by decide)
  have r2 := Int.emod_lt_of_pos n (show (0 : Int) < 40 by decide)
  have pb := bright_c (A0 := A) (n0 := n0) (c0 := c0) (n := n % 40) hv (by omega) pv (by omega)
  have p1 := between_c (v := .slice A n0 c0) (so := -5400000) (no := 5400000) hv pv (by omega)
  have p2 := between_c (v := .slice A n0 c0) (so := -5400000) (no := lat) hv pv (by omega)
  have p3 := between_c (v := .slice A n0 c0) (so := lat) (no := 5400000) hv pv (by omega)
  have k1 := bet_all hv
  refine enter Tryd.func3 rfl rfl rfl (Hp := [Hl.rd (.slice A n0 c0) cSt 4 l]) (fun h hm => by
    rcases List.mem_singleton.1 hm with rfl
    exact ⟨⟨hw0.1, fun h => by cases h⟩, rfl⟩) ?_
  repeat' (first
    | (show RS _ _ _ _ _ _ _ (⟨_, .makeSlice _ _ _, _, _, _, _⟩ :: _); refine RS.makeO ?_; intro y)
    | (show YK _ _ _ _ _ _ _; first | refine YK.mk (y_callIn (awake16_c) (fun _ hw => hI.keep hw.ext) rfl (by decide +kernel)) ?_ | refine YK.mk (y_callRA (ps) ⟨rfl, rfl⟩) ?_ | refine YK.mk (y_callRA (pv) ⟨rfl, rfl⟩) ?_)
    | (show YK _ _ _ _ _ _ _; refine YK.ofV vAuto ?_)
    | (show VK _ _ _ _ _ _ _; refine VK.mk vAuto ?_)
    | (show RS _ _ _ _ _ _ _ _; first | (refine RS.callX (p3) ⟨rfl, rfl, rfl, rfl⟩ ?_; rintro x3 _) | (refine RS.callXG (fun _ : True => p3) ⟨rfl, rfl, rfl, rfl⟩ ?_; rintro x3 _) | (refine RS.callX (p2) ⟨rfl, rfl, rfl, rfl⟩ ?_; rintro x2 _) | (refine RS.callXG (fun _ : True => p2) ⟨rfl, rfl, rfl, rfl⟩ ?_; rintro x2 _) | (refine RS.callX (p1) ⟨rfl, rfl, rfl, rfl⟩ ?_; rintro x1 _) | (refine RS.callXG (fun _ : True => p1) ⟨rfl, rfl, rfl, rfl⟩ ?_; rintro x1 _) | (refine RS.callX (pb) ⟨rfl, rfl, rfl⟩ ?_; rintro z hz) | (refine RS.callXG (fun _ : True => pb) ⟨rfl, rfl, rfl⟩ ?_; rintro z hz) | (refine nxRS ?_) | (refine nxRS1 fun _ => ?_))
    | (show RM _ _ _ _ _ _ _ _ _ _; first | (refine RM.callX (p3) ?_; rintro x3 _) | (refine RM.callXG (fun _ : True => p3) ?_; rintro x3 _) | (refine RM.callX (p2) ?_; rintro x2 _) | (refine RM.callXG (fun _ : True => p2) ?_; rintro x2 _) | (refine RM.callX (p1) ?_; rintro x1 _) | (refine RM.callXG (fun _ : True => p1) ?_; rintro x1 _) | (refine RM.callX (pb) ?_; rintro z hz) | (refine RM.callXG (fun _ : True => pb) ?_; rintro z hz) | (refine nxRM ?_) | (refine nxRM1 fun _ => ?_))
    | (show YG _ _ _ _ _ _ _ _; refine YG.mk (fun hb => by (try (have hc := And.left hb; have hb := And.right hb; rw [hc])); (try rw [hb]); first | exact (y_callIn (awake16_c) (fun _ hw => hI.keep hw.ext) rfl (by decide +kernel)) | exact (y_callRA (ps) ⟨rfl, rfl⟩) | exact (y_callRA (pv) ⟨rfl, rfl⟩) | exact V.y vAuto) ?_)
    | (show VG _ _ _ _ _ _ _ _; refine VG.mk (fun hb => by (try (have hc := And.left hb; have hb := And.right hb; rw [hc])); (try rw [hb]); exact vAuto) ?_)
    | (refine nxX ?_)
    | (refine G.condN rfl (fun hc => ?_) (fun hc => ?_) <;> (try first | exact False.elim hc | (exfalso; omega))))
  · exfalso
    have hl := done_len hz
    have e1 : (z.2.take (min (n % 40) (l.length : Int)).toNat).length = (min (n % 40) (l.length : Int)).toNat := by rw [List.length_take]; omega
    omega
  have hl := done_len hz
  have e1 : (z.2.take (min (n % 40) (l.length : Int)).toNat).length = (min (n % 40) (l.length : Int)).toNat := by rw [List.length_take]; omega
  have e2 : ∀ j : Nat, j < (min (n % 40) (l.length : Int)).toNat → nth (z.2.take (min (n % 40) (l.length : Int)).toNat) (j : Int) = gt0 z.2 j := fun j hj => take_nth ⟨hj, by omega⟩
  clear hc
  generalize hts : z.2.take (min (n % 40) (l.length : Int)).toNat = ts at e1 e2 ⊢
  have e3 : ts.length ≤ l.length := by omega
  rw [← e1] at e2
  clear hts e1
  refine G.loop (ι := Nat × Int × List Bool) (fun a => [(0, .slice A n0 c0), (2, .int .i64 lat), (8, z.1.v), (12, x2.v), (14, x3.v), (16, y.v), (17, .int .i64 a.2.1), (107, z.1.v), (108, .int .i64 ts.length), (109, .int .i64 (a.1 : Int))]) (fun a => [Hl.rw y.v 4 cO 1 a.2.2, Hl.nw x3.v cI 1 (betL l lat 5400000 l.length), Hl.nw x2.v cI 1 (betL l (-5400000) lat l.length), Hl.nw z.1.v cI 1 ts, Hl.rd (.slice A n0 c0) cSt 4 l]) (fun a => a.1 ≤ ts.length ∧ a.2.1 = lastM (magS l) z.2 a.1 ∧ a.2.2 = markL z.2 l.length a.1) (fun a => ts.length - a.1) (0, -1000, List.replicate (l.length : Int).toNat false) ⟨Nat.zero_le _, rfl, by rw [markL_0]; rfl⟩ ⟨rfl, rfl, rfl, rfl, rfl, rfl, rfl, rfl, rfl, rfl, trivial⟩ (by exact fun w h => h.sub (by repeat (first | exact List.Sublist.refl _ | apply List.Sublist.cons_cons | apply List.Sublist.cons))) ?_
  rintro ⟨j, la, ms⟩ mx ⟨g1, g2, g3⟩ hmx
  dsimp only at g1 g2 g3 hmx ⊢
  have hml : ms.length = l.length := by rw [g3, markL_len]
  rcases Nat.lt_or_ge j ts.length with hj | hj
  · have hjn : j < l.length := by omega
    have e4 := e2 j hj
    have hin := done_in hz hjn
    have h1 : 0 ≤ nth ts (j : Int) ∧ nth ts (j : Int) < l.length := by rw [e4]; exact hin
    have hm : nth ms (nth ts (j : Int)) = false := by rw [e4, g3]; exact not_marked hz hjn
    have hla : la ≤ (nth l (nth ts (j : Int))).2.2.2 := by
      rw [e4, g2]
      exact last_le hz (fun i hi => by have := (num_of hv hi).2.2.1; show -1000 ≤ (nth l (i : Int)).2.2.2; omega) hjn
    repeat' (first
    | (show RS _ _ _ _ _ _ _ (⟨none, .store 4 _ _, _, _, _, _⟩ :: _); refine RS.storeO ?_)
    | (refine nxV ?_)
    | (show RS _ _ _ _ _ _ _ _; first | (refine nxRS ?_) | (refine nxRS1 fun _ => ?_))
    | (show RM _ _ _ _ _ _ _ _ _ _; first | (refine nxRM ?_) | (refine nxRM1 fun _ => ?_))
    | (refine nxG ?_)
    | (refine nxX ?_)
    | (refine G.condN rfl (fun hc => ?_) (fun hc => ?_) <;> (try first | exact False.elim hc | (exfalso; omega))))
    · exfalso
      rw [hm] at hc
      simp only [Bool.false_eq_true, or_false] at hc
      omega
    · refine X.again (j + 1, (nth l (nth ts (j : Int))).2.2.2, ms.set (nth ts (j : Int)).toNat true) ⟨by dsimp only; omega, ?_, ?_⟩ (by dsimp only; omega) ⟨rfl, rfl, rfl, rfl, rfl, rfl, rfl, rfl, rfl, rfl, trivial⟩ (by exact fun w h => h.sub (by repeat (first | exact List.Sublist.refl _ | apply List.Sublist.cons_cons | apply List.Sublist.cons)))
      · dsimp only
        rw [last_succ, e4]; rfl
      · dsimp only
        rw [g3, e4]; exact markL_set hz hjn
  · obtain rfl : j = ts.length := by omega
    have hout : ∀ i : Nat, i < l.length → 0 < ts.length → nth ms (i : Int) = false → la ≤ (nth l (i : Int)).2.2.2 := fun i hi h0 hf => by
      rw [g3] at hf
      rw [g2]
      exact last_out hz ⟨h0, e3⟩ hi hf
    have b2 := betL_len l (-5400000) lat l.length
    have b3 := betL_len l lat 5400000 l.length
    repeat' (first
    | (refine nxV ?_)
    | (show RS _ _ _ _ _ _ _ _; first | (refine nxRS ?_) | (refine nxRS1 fun _ => ?_))
    | (show RM _ _ _ _ _ _ _ _ _ _; first | (refine nxRM ?_) | (refine nxRM1 fun _ => ?_))
    | (refine nxG ?_)
    | (refine nxX ?_)
    | (refine G.condN rfl (fun hc => ?_) (fun hc => ?_) <;> (try first | exact False.elim hc | (exfalso; omega))))
    refine G.loop (ι := Nat) (fun i => [(0, .slice A n0 c0), (2, .int .i64 lat), (8, z.1.v), (12, x2.v), (14, x3.v), (16, y.v), (17, .int .i64 la), (145, .slice A n0 c0), (146, .int .i64 l.length), (147, .int .i64 (i : Int))]) (fun i => [Hl.rw y.v 4 cO 1 ms, Hl.nw x3.v cI 1 (betL l lat 5400000 l.length), Hl.nw x2.v cI 1 (betL l (-5400000) lat l.length), Hl.nw z.1.v cI 1 ts, Hl.rd (.slice A n0 c0) cSt 4 l]) (fun i => i ≤ l.length) (fun i => l.length - i) 0 (Nat.zero_le _) ⟨rfl, rfl, rfl, rfl, rfl, rfl, rfl, rfl, rfl, rfl, trivial⟩ (by exact fun w h => h.sub (by repeat (first | exact List.Sublist.refl _ | apply List.Sublist.cons_cons | apply List.Sublist.cons))) ?_
    rintro i my f1 hmy
    rcases Nat.lt_or_ge i l.length with hi | hi
    · have hnum := num_of hv hi
      have h2 := hout i hi
      have q2 := contains_c x2.v (betL l (-5400000) lat l.length) (i : Int) (by omega)
      have q3 := contains_c x3.v (betL l lat 5400000 l.length) (i : Int) (by omega)
      have m2 : decide ((i : Int) ∈ betL l (-5400000) lat l.length) = decide (100 * (nth l (i : Int)).2.2.1 - lat ≤ 50) := decide_eq_decide.2 (by
        rw [bet_mem l _ _ hi]
        unfold inB
        simp only [Bool.and_eq_true, decide_eq_true_eq]
        omega)
      have m3 : decide ((i : Int) ∈ betL l lat 5400000 l.length) = decide (-50 ≤ 100 * (nth l (i : Int)).2.2.1 - lat) := decide_eq_decide.2 (by
        rw [bet_mem l _ _ hi]
        unfold inB
        simp only [Bool.and_eq_true, decide_eq_true_eq]
        omega)
      rw [m2] at q2
      rw [m3] at q3
      clear m2 m3
      repeat' (first
    | (show YK _ _ _ _ _ _ _; first | refine YK.mk (y_callRA (q2) ⟨rfl, rfl, rfl⟩) ?_ | refine YK.mk (y_callRA (q3) ⟨rfl, rfl, rfl⟩) ?_)
    | (show YK _ _ _ _ _ _ _; refine YK.ofV vAuto ?_)
    | (show VK _ _ _ _ _ _ _; refine VK.mk vAuto ?_)
    | (show RS _ _ _ _ _ _ _ _; first | (refine nxRS ?_) | (refine nxRS1 fun _ => ?_))
    | (show RM _ _ _ _ _ _ _ _ _ _; first | (refine nxRM ?_) | (refine nxRM1 fun _ => ?_))
    | (show YG _ _ _ _ _ _ _ _; refine YG.mk (fun hb => by (try (have hc := And.left hb; have hb := And.right hb; rw [hc])); (try rw [hb]); first | exact (y_callRA (q2) ⟨rfl, rfl, rfl⟩) | exact (y_callRA (q3) ⟨rfl, rfl, rfl⟩) | exact V.y vAuto) ?_)
    | (show VG _ _ _ _ _ _ _ _; refine VG.mk (fun hb => by (try (have hc := And.left hb; have hb := And.right hb; rw [hc])); (try rw [hb]); exact vAuto) ?_)
    | (refine nxVS ?_)
    | (refine nxGS ?_)
    | (refine nxX ?_)
    | (refine G.condN rfl (fun hc => ?_) (fun hc => ?_) <;> (try first | exact False.elim hc | (exfalso; omega))))
      · exfalso
        have := h2 (by omega) hc.1.2
        omega
      · exact X.again (i + 1) (by omega) (by omega) ⟨rfl, rfl, rfl, rfl, rfl, rfl, rfl, rfl, rfl, rfl, trivial⟩ (by exact fun w h => h.sub (by repeat (first | exact List.Sublist.refl _ | apply List.Sublist.cons_cons | apply List.Sublist.cons)))
    · repeat' (first
    | (refine nxV ?_)
    | (show RS _ _ _ _ _ _ _ _; first | (refine nxRS ?_) | (refine nxRS1 fun _ => ?_))
    | (show RM _ _ _ _ _ _ _ _ _ _; first | (refine nxRM ?_) | (refine nxRM1 fun _ => ?_))
    | (refine nxG ?_)
    | (refine nxX ?_)
    | (refine G.condN rfl (fun hc => ?_) (fun hc => ?_) <;> (try first | exact False.elim hc | (exfalso; omega))))
      exact X.ret (vs := [_]) rfl ⟨rfl, rfl⟩ rfl (fun w hw => ⟨rfl, hw.ext⟩)
/-- CatalogueBright answers true. -/
theorem bright_law {A : Option Addr} {n0 c0 : Nat} {l : List StarT} {n lat : Int} (hn : 0 ≤ n ∧ n ≤ 255) (hl : l.length ≤ 9223372036854775807) : ContIn Tryd.prog (brP (.slice A n0 c0) l) 3 [.slice A n0 c0, .int .u8 n, .int .i64 lat] (.bool true) := by
  by_cases h30 : l.length ≤ 30
  · have ps := small_c (.slice A n0 c0) l h30
    by_cases hs : idxL l < 0
    · rw [decide_eq_true hs] at ps
      have pv := valid_c (.slice A n0 c0) l hl (fun _ i hi => by have := idxL_no hs hi; omega)
      cases hv : validS l with
      | false =>
        rw [hv] at pv
        exact br_no hn hl (fun _ => ps) (fun _ _ => pv) (.inr (.inr (.inl rfl)))
      | true =>
        rw [hv] at pv
        by_cases hlat : -5400000 ≤ lat ∧ lat ≤ 5400000
        · exact br_main hn h30 hlat hv ps pv
        · exact br_no hn hl (fun _ => ps) (fun _ _ => pv) (by omega)
    · rw [decide_eq_false hs] at ps
      exact br_no (b2 := true) hn hl (fun _ => ps) (fun _ h => by cases h) (.inr (.inl rfl))
  · exact br_no (b1 := true) (b2 := true) hn hl (fun h => absurd h h30) (fun h => absurd h h30) (.inl (by omega))
end Go.Proofs.YtaglecidaedjfaaDoor
