/- The reference's chronometer. -/
import Derived.Test.YtcjganfppcjdfaaRefC
import Derived.Test.YtcjganfppcjdfaaChron
import Derived.Test.YtcjganfppcjdfaaRate
set_option linter.unusedVariables false
set_option maxHeartbeats 4000000
namespace Go.Proofs.Ytcjganfppcjdfaa
open Go.RowKit

theorem rtime_c (n : Int) : Cont Try.prog 31 [.int .i64 n] (.bool (timeB n)) := fun w => by
  refine enter0 Try.func31 rfl rfl rfl ?_
  repeat' (first
    | (refine nxV ?_)
    | (show RS _ _ _ _ _ _ _ _; first | (refine nxRS ?_) | (refine nxRS1 fun _ => ?_))
    | (show RM _ _ _ _ _ _ _ _ _ _; first | (refine nxRM ?_) | (refine nxRM1 fun _ => ?_))
    | (refine nxG ?_)
    | (refine nxX ?_)
    | (refine G.condN rfl (fun hc => ?_) (fun hc => ?_) <;> (try first | exact False.elim hc | (exfalso; omega))))
  exact X.ret (vs := [_]) rfl ⟨rfl, rfl⟩ rfl (fun w hw => ⟨rfl, hw.ext⟩)
theorem rdrift_c {n d : Int} (h : (-9223372036854775808 ≤ n ∧ n ≤ 9223372036854775807) ∧ -9223372036854775808 ≤ d ∧ d ≤ 9223372036854775807) : Cont Try.prog 19 [fracV n d] (.bool (driftB n d)) := fun w => by
  refine enter0 Try.func19 rfl rfl rfl ?_
  repeat' (first
    | (show YK _ _ _ _ _ _ _; first | refine YK.mk (y_callP valid3_c ⟨rfl, rfl⟩) ?_)
    | (show YK _ _ _ _ _ _ _; refine YK.ofV vAuto ?_)
    | (show VK _ _ _ _ _ _ _; refine VK.mk vAuto ?_)
    | (show RS _ _ _ _ _ _ _ _; first | (refine nxRS ?_) | (refine nxRS1 fun _ => ?_))
    | (show RM _ _ _ _ _ _ _ _ _ _; first | (refine nxRM ?_) | (refine nxRM1 fun _ => ?_))
    | (show YG _ _ _ _ _ _ _ _; refine YG.mk (fun hb => by (try (have hc := And.left hb; have hb := And.right hb; rw [hc])); (try rw [hb]); first | exact (y_callP valid3_c ⟨rfl, rfl⟩) | exact V.y vAuto) ?_)
    | (show VG _ _ _ _ _ _ _ _; refine VG.mk (fun hb => by (try (have hc := And.left hb; have hb := And.right hb; rw [hc])); (try rw [hb]); exact vAuto) ?_)
    | (refine nxX ?_)
    | (refine G.condN rfl (fun hc => ?_) (fun hc => ?_) <;> (try first | exact False.elim hc | (exfalso; omega))))
  exact X.ret (vs := [_]) rfl ⟨rfl, rfl⟩ rfl (fun w hw => ⟨rfl, hw.ext⟩)
theorem distance_c {a b : Int} (h : (-9223372036854775808 ≤ a - b ∧ a - b ≤ 9223372036854775807) ∧ -9223372036854775808 ≤ b - a ∧ b - a ≤ 9223372036854775807) : Cont Try.prog 55 [.int .i64 a, .int .i64 b] (.int .i64 (max (a - b) (b - a))) := fun w => by
  refine enter0 Try.func55 rfl rfl rfl ?_
  repeat' (first
    | (refine nxV ?_)
    | (show RS _ _ _ _ _ _ _ _; first | (refine nxRS ?_) | (refine nxRS1 fun _ => ?_))
    | (show RM _ _ _ _ _ _ _ _ _ _; first | (refine nxRM ?_) | (refine nxRM1 fun _ => ?_))
    | (refine nxG ?_)
    | (refine nxX ?_)
    | (refine G.condN rfl (fun hc => ?_) (fun hc => ?_) <;> (try first | exact False.elim hc | (exfalso; omega))))
  · exact X.ret (vs := [_]) rfl ⟨rfl, rfl⟩ rfl (fun w hw => ⟨ret_int (by omega), hw.ext⟩)
  · exact X.ret (vs := [_]) rfl ⟨rfl, rfl⟩ rfl (fun w hw => ⟨ret_int (by omega), hw.ext⟩)
theorem num_c {n : Int} (h : -9223372036854775808 ≤ n ∧ n ≤ 9223372036854775807) : ContX Try.prog [] 51 [.int .i64 n] (fun _ : Sl => True) (fun s => numV s (nb n)) (fun s => [Hl.nw s.v cI 1 (D n.natAbs)]) := fun w hw0 => by
  refine enter Try.func51 rfl rfl rfl hw0 ?_
  repeat' (first
    | (refine nxV ?_)
    | (show RS _ _ _ _ _ _ _ _; first | (refine RS.callP ofint_c ⟨rfl, rfl⟩ ?_; rintro s _) | (refine RS.callXG ofint_c ⟨rfl, rfl⟩ ?_; rintro s _) | (refine nxRS ?_) | (refine nxRS1 fun _ => ?_))
    | (show RM _ _ _ _ _ _ _ _ _ _; first | (refine RM.callP ofint_c ?_; rintro s _) | (refine RM.callXG ofint_c ?_; rintro s _) | (refine nxRM ?_) | (refine nxRM1 fun _ => ?_))
    | (refine nxG ?_)
    | (refine nxX ?_)
    | (refine G.condN rfl (fun hc => ?_) (fun hc => ?_) <;> (try first | exact False.elim hc | (exfalso; omega))))
  exact X.retN (vs := [_]) s rfl ⟨⟨_, _, _, _, rfl, (by exact memA), (by (repeat (first | exact .nil | apply LenIs.cons))), by decide +kernel, rfl⟩, rfl⟩ rfl trivial rfl (NewIn.nw (by exact memA) NewIn.nil)
/-- The scale: den * Day. -/
theorem scale_c {n d : Int} (h : 1 ≤ d ∧ d ≤ 1073741824) : ContX Try.prog [] 38 [fracV n d] (fun _ : Sl => True) (fun s => numV s (nb (d * 86400000))) (fun s => [Hl.nw s.v cI 1 (D (d * 86400000).natAbs)]) := fun w hw0 => by
  have s1 : Sz d := Sz.small (by omega)
  have s2 : Sz 86400000 := Sz.small (by decide)
  refine enter Try.func38 rfl rfl rfl hw0 ?_
  repeat' (first
    | (refine nxV ?_)
    | (show RS _ _ _ _ _ _ _ _; first | (refine RS.callP mul_c ⟨rfl, rfl, rfl⟩ ?_; rintro t _) | (refine RS.callXG mul_c ⟨rfl, rfl, rfl⟩ ?_; rintro t _) | (refine RS.callP num_c ⟨rfl, rfl⟩ ?_; rintro s _) | (refine RS.callXG num_c ⟨rfl, rfl⟩ ?_; rintro s _) | (refine nxRS ?_) | (refine nxRS1 fun _ => ?_))
    | (show RM _ _ _ _ _ _ _ _ _ _; first | (refine RM.callP mul_c ?_; rintro t _) | (refine RM.callXG mul_c ?_; rintro t _) | (refine RM.callP num_c ?_; rintro s _) | (refine RM.callXG num_c ?_; rintro s _) | (refine nxRM ?_) | (refine nxRM1 fun _ => ?_))
    | (refine nxG ?_)
    | (refine nxX ?_)
    | (refine G.condN rfl (fun hc => ?_) (fun hc => ?_) <;> (try first | exact False.elim hc | (exfalso; omega))))
  exact X.retN (vs := [_]) t rfl ⟨⟨_, _, _, _, rfl, (by exact memA), (by (repeat (first | exact .nil | apply LenIs.cons))), by decide +kernel, rfl⟩, rfl⟩ rfl trivial rfl (NewIn.nw (by exact memA) NewIn.nil)
theorem spread_c {n d t : Int} (h : (0 ≤ n ∧ n ≤ 1073741824) ∧ 0 ≤ t ∧ t ≤ 1125899906842624) : ContX Try.prog [] 54 [fracV n d, .int .i64 t] (fun _ : Sl => True) (fun s => numV s (nb (n * t))) (fun s => [Hl.nw s.v cI 1 (D (n * t).natAbs)]) := fun w hw0 => by
  have s1 : Sz n := Sz.small (by omega)
  have s2 : Sz t := Sz.small (by omega)
  refine enter Try.func54 rfl rfl rfl hw0 ?_
  repeat' (first
    | (refine nxV ?_)
    | (show RS _ _ _ _ _ _ _ _; first | (refine RS.callP mul_c ⟨rfl, rfl, rfl⟩ ?_; rintro t _) | (refine RS.callXG mul_c ⟨rfl, rfl, rfl⟩ ?_; rintro t _) | (refine RS.callP num_c ⟨rfl, rfl⟩ ?_; rintro s _) | (refine RS.callXG num_c ⟨rfl, rfl⟩ ?_; rintro s _) | (refine nxRS ?_) | (refine nxRS1 fun _ => ?_))
    | (show RM _ _ _ _ _ _ _ _ _ _; first | (refine RM.callP mul_c ?_; rintro t _) | (refine RM.callXG mul_c ?_; rintro t _) | (refine RM.callP num_c ?_; rintro s _) | (refine RM.callXG num_c ?_; rintro s _) | (refine nxRM ?_) | (refine nxRM1 fun _ => ?_))
    | (refine nxG ?_)
    | (refine nxX ?_)
    | (refine G.condN rfl (fun hc => ?_) (fun hc => ?_) <;> (try first | exact False.elim hc | (exfalso; omega))))
  exact X.retN (vs := [_]) t rfl ⟨⟨_, _, _, _, rfl, (by exact memA), (by (repeat (first | exact .nil | apply LenIs.cons))), by decide +kernel, rfl⟩, rfl⟩ rfl trivial rfl (NewIn.nw (by exact memA) NewIn.nil)
theorem rvalidt_c (v : Value) (l : List Chk) (hl : l.length ≤ 1000000) : ContR Try.prog [Hl.rd v cC 3 l] 14 [v] (.bool (validC l)) := fun w hw0 => by
  refine enter Try.func14 rfl rfl rfl hw0 ?_
  repeat' (first
    | (show YK _ _ _ _ _ _ _; first | refine YK.mk (y_callA (rtime_c _) ⟨rfl, rfl⟩) ?_)
    | (show YK _ _ _ _ _ _ _; refine YK.ofV vAuto ?_)
    | (show VK _ _ _ _ _ _ _; refine VK.mk vAuto ?_)
    | (show RS _ _ _ _ _ _ _ _; first | (refine nxRS ?_) | (refine nxRS1 fun _ => ?_))
    | (show RM _ _ _ _ _ _ _ _ _ _; first | (refine nxRM ?_) | (refine nxRM1 fun _ => ?_))
    | (show YG _ _ _ _ _ _ _ _; refine YG.mk (fun hb => by (try (have hc := And.left hb; have hb := And.right hb; rw [hc])); (try rw [hb]); first | exact (y_callA (rtime_c _) ⟨rfl, rfl⟩) | exact V.y vAuto) ?_)
    | (show VG _ _ _ _ _ _ _ _; refine VG.mk (fun hb => by (try (have hc := And.left hb; have hb := And.right hb; rw [hc])); (try rw [hb]); exact vAuto) ?_)
    | (refine G.mixedA 8 [.go 0, .go 1, .go 2, .go 3, .go 4, .go 5, .go 6, .go 7, .go 8, .go 9, .go 10, .go 11, .go 12, .go 13, .go 14, .go 15, .go 16, .go 17, .go 18, .go 19, .go 20, .go 21, .go 22, .go 23, .go 24, .go 25, .go 26, .go 27, .go 28, .go 29] ?_)
    | (refine nxX ?_)
    | (refine G.condN rfl (fun hc => ?_) (fun hc => ?_) <;> (try first | exact False.elim hc | (exfalso; omega))))
  · exact X.ret (vs := [_]) rfl ⟨rfl, rfl⟩ rfl (fun w hw => ⟨ret_bool (validC_len (by omega)).symm, hw.ext⟩)
  refine G.loop (ι := Int) (fun i => [(0, v), (3, .int .i64 i)]) (fun _ => [Hl.rd v cC 3 l]) (fun i => 0 ≤ i ∧ i ≤ l.length ∧ ∀ j : Int, 0 ≤ j → j < i → okB l j = true) (fun i => (l.length - i).toNat) 0 ⟨by omega, by omega, fun j h1 h2 => by omega⟩ ⟨rfl, rfl, trivial⟩ (fun w h => h) ?_
  rintro i mx ⟨h1, h2, h3⟩ hmx
  repeat' (first
    | (show YK _ _ _ _ _ _ _; first | refine YK.mk (y_callA (rtime_c _) ⟨rfl, rfl⟩) ?_)
    | (show YK _ _ _ _ _ _ _; refine YK.ofV vAuto ?_)
    | (show VK _ _ _ _ _ _ _; refine VK.mk vAuto ?_)
    | (show RS _ _ _ _ _ _ _ _; first | (refine nxRS ?_) | (refine nxRS1 fun _ => ?_))
    | (show RM _ _ _ _ _ _ _ _ _ _; first | (refine nxRM ?_) | (refine nxRM1 fun _ => ?_))
    | (show YG _ _ _ _ _ _ _ _; refine YG.mk (fun hb => by (try (have hc := And.left hb; have hb := And.right hb; rw [hc])); (try rw [hb]); first | exact (y_callA (rtime_c _) ⟨rfl, rfl⟩) | exact V.y vAuto) ?_)
    | (show VG _ _ _ _ _ _ _ _; refine VG.mk (fun hb => by (try (have hc := And.left hb; have hb := And.right hb; rw [hc])); (try rw [hb]); exact vAuto) ?_)
    | (refine G.mixedA 8 [.go 0, .go 1, .go 2, .go 3, .go 4, .go 5, .go 6, .go 7, .go 8, .go 9, .go 10, .go 11, .go 12, .go 13, .go 14, .go 15, .go 16, .go 17, .go 18, .go 19, .go 20, .go 21, .go 22, .go 23, .go 24, .go 25, .go 26, .go 27, .go 28, .go 29] ?_)
    | (refine nxX ?_)
    | (refine G.condN rfl (fun hc => ?_) (fun hc => ?_) <;> (try first | exact False.elim hc | (exfalso; omega))))
  · have e : okB l i = false := by
      rw [Bool.eq_false_iff]
      intro hv
      simp only [okB, Bool.and_eq_true, Bool.or_eq_true, decide_eq_true_eq] at hv
      simp [hv.1.1.1.1, hv.1.1.1.2] at hc
      omega
    exact X.ret (vs := [_]) rfl ⟨rfl, rfl⟩ rfl (fun w hw => ⟨ret_bool (validC_false h1 (by assumption) e).symm, hw.ext⟩)
  · rename_i h5
    have e : okB l i = false := by
      rw [Bool.eq_false_iff]
      intro hv
      simp only [okB, Bool.and_eq_true, Bool.or_eq_true, decide_eq_true_eq] at hv
      omega
    exact X.ret (vs := [_]) rfl ⟨rfl, rfl⟩ rfl (fun w hw => ⟨ret_bool (validC_false h1 (by assumption) e).symm, hw.ext⟩)
  · rename_i h5
    have e : okB l i = true := by
      simp only [okB, Bool.and_eq_true, Bool.or_eq_true, decide_eq_true_eq]
      obtain ⟨⟨⟨g1, g2⟩, g3⟩, g4⟩ := h5
      refine ⟨⟨⟨⟨g1, g2⟩, by omega⟩, by omega⟩, by omega⟩
    refine X.again (i + 1) ⟨by omega, by omega, fun j j1 j2 => ?_⟩ (by omega) ⟨rfl, rfl, trivial⟩ (by exact fun w h => h.sub (by repeat (first | exact List.Sublist.refl _ | apply List.Sublist.cons_cons | apply List.Sublist.cons)))
    rcases Int.lt_or_eq_of_le (show j ≤ i by omega) with h | h
    · exact h3 j j1 h
    · rw [h]; exact e
  · exact X.ret (vs := [_]) rfl ⟨rfl, rfl⟩ rfl (fun w hw => ⟨ret_bool (validC_iff.2 ⟨by omega, fun j j1 j2 => h3 j j1 (by omega)⟩).symm, hw.ext⟩)
theorem isint_ok {A : Option Addr} {m c : Nat} {z : Int} (h : Sz z ∧ in64 z = true) : ContR Try.prog [Hl.rd (.slice A m c) cI 1 (D z.natAbs)] 39 [.agg [.slice A m c, .bool (nb z)].toArray] (.tuple [.int .i64 z, .bool true].toArray) := by
  have := isint_c (A := A) (m := m) (c := c) h.1
  rwa [h.2] at this
theorem isint_no {A : Option Addr} {m c : Nat} {z : Int} (h : Sz z ∧ in64 z = false) : ContR Try.prog [Hl.rd (.slice A m c) cI 1 (D z.natAbs)] 39 [.agg [.slice A m c, .bool (nb z)].toArray] (.tuple [.int .i64 0, .bool false].toArray) := by
  have := isint_c (A := A) (m := m) (c := c) h.1
  rwa [h.2] at this
theorem in64_iff {z : Int} : in64 z = true ↔ -9223372036854775808 ≤ z ∧ z ≤ 9223372036854775807 := by simp [in64]
theorem ediv_bd {a b k : Int} (hb : 0 < b) (h1 : -k ≤ a) (h2 : a ≤ k) : -k ≤ a / b ∧ a / b ≤ k := by
  constructor
  · refine Int.le_ediv_of_mul_le hb ?_
    have : k * 1 ≤ k * b := Int.mul_le_mul_of_nonneg_left (by omega) (by omega)
    rw [Int.neg_mul]; omega
  · refine Int.ediv_le_of_le_mul hb ?_
    have : k * 1 ≤ k * b := Int.mul_le_mul_of_nonneg_left (by omega) (by omega)
    omega
theorem thousandth_c {n d : Int} {up : Bool} (h : (-1125899906842624 ≤ n ∧ n ≤ 1125899906842624) ∧ 0 < d ∧ d ≤ 1125899906842624) : Cont Try.prog 29 [.int .i64 n, .int .i64 d, .bool up] (mkV (makeF (if up = true then -(-(n * 86400000 * 1000) / d) else n * 86400000 * 1000 / d) 1000)) := fun w => by
  obtain ⟨⟨h1, h2⟩, h3, h4⟩ := h
  have s1 : Sz n := Sz.small (by omega)
  have s2 : Sz 86400000 := Sz.small (by decide)
  have s3 : Sz 1000 := Sz.small (by decide)
  have s4 : Sz (n * 86400000) := Sz.small (by omega)
  have s5 : Sz (n * 86400000 * 1000) := Sz.small (by omega)
  have s6 : Sz d := Sz.small (by omega)
  have q1 := ediv_bd (k := 97277751951202713600000000) h3 (show _ ≤ n * 86400000 * 1000 by omega) (by omega)
  have q2 := ediv_bd (k := 97277751951202713600000000) h3 (show _ ≤ -(n * 86400000 * 1000) by omega) (by omega)
  have s7 : Sz (n * 86400000 * 1000 / d) := Sz.small (by omega)
  have s8 : Sz (-(-(n * 86400000 * 1000) / d)) := Sz.small (by omega)
  cases up with
  | false =>
    rw [if_neg (by decide)]
    cases hq : in64 (n * 86400000 * 1000 / d) with
    | true =>
      have hqi := in64_iff.1 hq
      refine enter0 Try.func29 rfl rfl rfl ?_
      repeat' (first
    | (show YK _ _ _ _ _ _ _; first | refine YK.mk (y_callRP isint_ok ⟨rfl, rfl⟩) ?_ | refine YK.mk (y_callP make3_c ⟨rfl, rfl, rfl⟩) ?_)
    | (show YK _ _ _ _ _ _ _; refine YK.ofV vAuto ?_)
    | (show VK _ _ _ _ _ _ _; refine VK.mk vAuto ?_)
    | (show RS _ _ _ _ _ _ _ _; first | (refine RS.callP down_c ⟨rfl, rfl, rfl⟩ ?_; rintro s _) | (refine RS.callXG down_c ⟨rfl, rfl, rfl⟩ ?_; rintro s _) | (refine RS.callP mul_c ⟨rfl, rfl, rfl⟩ ?_; rintro s _) | (refine RS.callXG mul_c ⟨rfl, rfl, rfl⟩ ?_; rintro s _) | (refine RS.callP num_c ⟨rfl, rfl⟩ ?_; rintro s _) | (refine RS.callXG num_c ⟨rfl, rfl⟩ ?_; rintro s _) | (refine nxRS ?_) | (refine nxRS1 fun _ => ?_))
    | (show RM _ _ _ _ _ _ _ _ _ _; first | (refine RM.callP down_c ?_; rintro s _) | (refine RM.callXG down_c ?_; rintro s _) | (refine RM.callP mul_c ?_; rintro s _) | (refine RM.callXG mul_c ?_; rintro s _) | (refine RM.callP num_c ?_; rintro s _) | (refine RM.callXG num_c ?_; rintro s _) | (refine nxRM ?_) | (refine nxRM1 fun _ => ?_))
    | (show YG _ _ _ _ _ _ _ _; refine YG.mk (fun hb => by (try (have hc := And.left hb; have hb := And.right hb; rw [hc])); (try rw [hb]); first | exact (y_callRP isint_ok ⟨rfl, rfl⟩) | exact (y_callP make3_c ⟨rfl, rfl, rfl⟩) | exact V.y vAuto) ?_)
    | (show VG _ _ _ _ _ _ _ _; refine VG.mk (fun hb => by (try (have hc := And.left hb; have hb := And.right hb; rw [hc])); (try rw [hb]); exact vAuto) ?_)
    | (refine G.mixedA 2 [.go 0, .go 1, .pend 4, .go 2, .go 3, .done, .go 5] ?_)
    | (refine G.mixedA 4 [.go 0, .go 1, .go 2, .go 3, .go 4] ?_)
    | (refine nxX ?_)
    | (refine G.condN rfl (fun hc => ?_) (fun hc => ?_) <;> (try first | exact False.elim hc | (exfalso; omega))))
      exact X.ret (vs := [_, _]) rfl ⟨⟨_, _, _, _, rfl, (by exact memA), (by (repeat (first | exact .nil | apply LenIs.cons))), by decide +kernel, rfl⟩, rfl, rfl⟩ rfl (fun w hw => ⟨rfl, hw.ext⟩)
    | false =>
      have hb : makeF (n * 86400000 * 1000 / d) 1000 = ((0, 0), 5) := makeF_big (by have := mt in64_iff.2 (by rw [hq]; decide); omega)
      rw [hb]
      refine enter0 Try.func29 rfl rfl rfl ?_
      repeat' (first
    | (show YK _ _ _ _ _ _ _; first | refine YK.mk (y_callRP isint_no ⟨rfl, rfl⟩) ?_ | refine YK.mk (y_callP make3_c ⟨rfl, rfl, rfl⟩) ?_)
    | (show YK _ _ _ _ _ _ _; refine YK.ofV vAuto ?_)
    | (show VK _ _ _ _ _ _ _; refine VK.mk vAuto ?_)
    | (show RS _ _ _ _ _ _ _ _; first | (refine RS.callP down_c ⟨rfl, rfl, rfl⟩ ?_; rintro s _) | (refine RS.callXG down_c ⟨rfl, rfl, rfl⟩ ?_; rintro s _) | (refine RS.callP mul_c ⟨rfl, rfl, rfl⟩ ?_; rintro s _) | (refine RS.callXG mul_c ⟨rfl, rfl, rfl⟩ ?_; rintro s _) | (refine RS.callP num_c ⟨rfl, rfl⟩ ?_; rintro s _) | (refine RS.callXG num_c ⟨rfl, rfl⟩ ?_; rintro s _) | (refine nxRS ?_) | (refine nxRS1 fun _ => ?_))
    | (show RM _ _ _ _ _ _ _ _ _ _; first | (refine RM.callP down_c ?_; rintro s _) | (refine RM.callXG down_c ?_; rintro s _) | (refine RM.callP mul_c ?_; rintro s _) | (refine RM.callXG mul_c ?_; rintro s _) | (refine RM.callP num_c ?_; rintro s _) | (refine RM.callXG num_c ?_; rintro s _) | (refine nxRM ?_) | (refine nxRM1 fun _ => ?_))
    | (show YG _ _ _ _ _ _ _ _; refine YG.mk (fun hb => by (try (have hc := And.left hb; have hb := And.right hb; rw [hc])); (try rw [hb]); first | exact (y_callRP isint_no ⟨rfl, rfl⟩) | exact (y_callP make3_c ⟨rfl, rfl, rfl⟩) | exact V.y vAuto) ?_)
    | (show VG _ _ _ _ _ _ _ _; refine VG.mk (fun hb => by (try (have hc := And.left hb; have hb := And.right hb; rw [hc])); (try rw [hb]); exact vAuto) ?_)
    | (refine G.mixedA 2 [.go 0, .go 1, .pend 4, .go 2, .go 3, .done, .go 5] ?_)
    | (refine G.mixedA 4 [.go 0, .go 1, .go 2, .go 3, .go 4] ?_)
    | (refine nxX ?_)
    | (refine G.condN rfl (fun hc => ?_) (fun hc => ?_) <;> (try first | exact False.elim hc | (exfalso; omega))))
      exact X.ret (vs := [_, _]) rfl ⟨⟨_, _, _, _, rfl, (by exact memA), (by (repeat (first | exact .nil | apply LenIs.cons))), by decide +kernel, rfl⟩, rfl, rfl⟩ rfl (fun w hw => ⟨rfl, hw.ext⟩)
  | true =>
    rw [if_pos rfl]
    cases hq : in64 (-(-(n * 86400000 * 1000) / d)) with
    | true =>
      have hqi := in64_iff.1 hq
      refine enter0 Try.func29 rfl rfl rfl ?_
      repeat' (first
    | (show YK _ _ _ _ _ _ _; first | refine YK.mk (y_callRP isint_ok ⟨rfl, rfl⟩) ?_ | refine YK.mk (y_callP make3_c ⟨rfl, rfl, rfl⟩) ?_)
    | (show YK _ _ _ _ _ _ _; refine YK.ofV vAuto ?_)
    | (show VK _ _ _ _ _ _ _; refine VK.mk vAuto ?_)
    | (show RS _ _ _ _ _ _ _ _; first | (refine RS.callP up_c ⟨rfl, rfl, rfl⟩ ?_; rintro s _) | (refine RS.callXG up_c ⟨rfl, rfl, rfl⟩ ?_; rintro s _) | (refine RS.callP down_c ⟨rfl, rfl, rfl⟩ ?_; rintro s _) | (refine RS.callXG down_c ⟨rfl, rfl, rfl⟩ ?_; rintro s _) | (refine RS.callP mul_c ⟨rfl, rfl, rfl⟩ ?_; rintro s _) | (refine RS.callXG mul_c ⟨rfl, rfl, rfl⟩ ?_; rintro s _) | (refine RS.callP num_c ⟨rfl, rfl⟩ ?_; rintro s _) | (refine RS.callXG num_c ⟨rfl, rfl⟩ ?_; rintro s _) | (refine nxRS ?_) | (refine nxRS1 fun _ => ?_))
    | (show RM _ _ _ _ _ _ _ _ _ _; first | (refine RM.callP up_c ?_; rintro s _) | (refine RM.callXG up_c ?_; rintro s _) | (refine RM.callP down_c ?_; rintro s _) | (refine RM.callXG down_c ?_; rintro s _) | (refine RM.callP mul_c ?_; rintro s _) | (refine RM.callXG mul_c ?_; rintro s _) | (refine RM.callP num_c ?_; rintro s _) | (refine RM.callXG num_c ?_; rintro s _) | (refine nxRM ?_) | (refine nxRM1 fun _ => ?_))
    | (show YG _ _ _ _ _ _ _ _; refine YG.mk (fun hb => by (try (have hc := And.left hb; have hb := And.right hb; rw [hc])); (try rw [hb]); first | exact (y_callRP isint_ok ⟨rfl, rfl⟩) | exact (y_callP make3_c ⟨rfl, rfl, rfl⟩) | exact V.y vAuto) ?_)
    | (show VG _ _ _ _ _ _ _ _; refine VG.mk (fun hb => by (try (have hc := And.left hb; have hb := And.right hb; rw [hc])); (try rw [hb]); exact vAuto) ?_)
    | (refine G.mixedA 2 [.go 0, .go 1, .pend 4, .go 2, .go 3, .done, .go 5] ?_)
    | (refine G.mixedA 4 [.go 0, .go 1, .go 2, .go 3, .go 4] ?_)
    | (refine nxX ?_)
    | (refine G.condN rfl (fun hc => ?_) (fun hc => ?_) <;> (try first | exact False.elim hc | (exfalso; omega))))
      exact X.ret (vs := [_, _]) rfl ⟨⟨_, _, _, _, rfl, (by exact memA), (by (repeat (first | exact .nil | apply LenIs.cons))), by decide +kernel, rfl⟩, rfl, rfl⟩ rfl (fun w hw => ⟨rfl, hw.ext⟩)
    | false =>
      have hb : makeF (-(-(n * 86400000 * 1000) / d)) 1000 = ((0, 0), 5) := makeF_big (by have := mt in64_iff.2 (by rw [hq]; decide); omega)
      rw [hb]
      refine enter0 Try.func29 rfl rfl rfl ?_
      repeat' (first
    | (show YK _ _ _ _ _ _ _; first | refine YK.mk (y_callRP isint_no ⟨rfl, rfl⟩) ?_ | refine YK.mk (y_callP make3_c ⟨rfl, rfl, rfl⟩) ?_)
    | (show YK _ _ _ _ _ _ _; refine YK.ofV vAuto ?_)
    | (show VK _ _ _ _ _ _ _; refine VK.mk vAuto ?_)
    | (show RS _ _ _ _ _ _ _ _; first | (refine RS.callP up_c ⟨rfl, rfl, rfl⟩ ?_; rintro s _) | (refine RS.callXG up_c ⟨rfl, rfl, rfl⟩ ?_; rintro s _) | (refine RS.callP down_c ⟨rfl, rfl, rfl⟩ ?_; rintro s _) | (refine RS.callXG down_c ⟨rfl, rfl, rfl⟩ ?_; rintro s _) | (refine RS.callP mul_c ⟨rfl, rfl, rfl⟩ ?_; rintro s _) | (refine RS.callXG mul_c ⟨rfl, rfl, rfl⟩ ?_; rintro s _) | (refine RS.callP num_c ⟨rfl, rfl⟩ ?_; rintro s _) | (refine RS.callXG num_c ⟨rfl, rfl⟩ ?_; rintro s _) | (refine nxRS ?_) | (refine nxRS1 fun _ => ?_))
    | (show RM _ _ _ _ _ _ _ _ _ _; first | (refine RM.callP up_c ?_; rintro s _) | (refine RM.callXG up_c ?_; rintro s _) | (refine RM.callP down_c ?_; rintro s _) | (refine RM.callXG down_c ?_; rintro s _) | (refine RM.callP mul_c ?_; rintro s _) | (refine RM.callXG mul_c ?_; rintro s _) | (refine RM.callP num_c ?_; rintro s _) | (refine RM.callXG num_c ?_; rintro s _) | (refine nxRM ?_) | (refine nxRM1 fun _ => ?_))
    | (show YG _ _ _ _ _ _ _ _; refine YG.mk (fun hb => by (try (have hc := And.left hb; have hb := And.right hb; rw [hc])); (try rw [hb]); first | exact (y_callRP isint_no ⟨rfl, rfl⟩) | exact (y_callP make3_c ⟨rfl, rfl, rfl⟩) | exact V.y vAuto) ?_)
    | (show VG _ _ _ _ _ _ _ _; refine VG.mk (fun hb => by (try (have hc := And.left hb; have hb := And.right hb; rw [hc])); (try rw [hb]); exact vAuto) ?_)
    | (refine G.mixedA 2 [.go 0, .go 1, .pend 4, .go 2, .go 3, .done, .go 5] ?_)
    | (refine G.mixedA 4 [.go 0, .go 1, .go 2, .go 3, .go 4] ?_)
    | (refine nxX ?_)
    | (refine G.condN rfl (fun hc => ?_) (fun hc => ?_) <;> (try first | exact False.elim hc | (exfalso; omega))))
      exact X.ret (vs := [_, _]) rfl ⟨⟨_, _, _, _, rfl, (by exact memA), (by (repeat (first | exact .nil | apply LenIs.cons))), by decide +kernel, rfl⟩, rfl, rfl⟩ rfl (fun w hw => ⟨rfl, hw.ext⟩)
theorem thF_c {n d : Int} (h : (-1125899906842624 ≤ n ∧ n ≤ 1125899906842624) ∧ 0 < d ∧ d ≤ 1125899906842624) : Cont Try.prog 29 [.int .i64 n, .int .i64 d, .bool false] (mkV (makeF (kF n d) 1000)) := by
  have := thousandth_c (up := false) h
  rwa [if_neg (by decide), show n * 86400000 * 1000 / d = kF n d by unfold kF; congr 1; omega] at this
theorem thT_c {n d : Int} (h : (-1125899906842624 ≤ n ∧ n ≤ 1125899906842624) ∧ 0 < d ∧ d ≤ 1125899906842624) : Cont Try.prog 29 [.int .i64 n, .int .i64 d, .bool true] (mkV (makeF (-kF (-n) d) 1000)) := by
  have := thousandth_c (up := true) h
  rwa [if_pos rfl, show -(n * 86400000 * 1000) / d = kF (-n) d by unfold kF; congr 1; omega] at this
theorem rrate_c (v : Value) (l : List Chk) (hl : l.length ≤ 1000000) : ContR Try.prog [Hl.rd v cC 3 l] 12 [v] (rateV (rateS l)) := fun w hw0 => by
  have hcv := rvalidt_c v l hl
  cases hv : validC l with
  | false =>
    have hr : rateS l = (((0, 0), 0, 0), 1) := by unfold rateS; rw [if_pos hv]
    rw [hv] at hcv
    refine enter Try.func12 rfl rfl rfl hw0 ?_
    repeat' (first
    | (show YK _ _ _ _ _ _ _; first | refine YK.mk (y_callRA (hcv) ⟨rfl, rfl⟩) ?_)
    | (show YK _ _ _ _ _ _ _; refine YK.ofV vAuto ?_)
    | (show VK _ _ _ _ _ _ _; refine VK.mk vAuto ?_)
    | (show RS _ _ _ _ _ _ _ _; first | (refine nxRS ?_) | (refine nxRS1 fun _ => ?_))
    | (show RM _ _ _ _ _ _ _ _ _ _; first | (refine nxRM ?_) | (refine nxRM1 fun _ => ?_))
    | (show YG _ _ _ _ _ _ _ _; refine YG.mk (fun hb => by (try (have hc := And.left hb; have hb := And.right hb; rw [hc])); (try rw [hb]); first | exact (y_callRA (hcv) ⟨rfl, rfl⟩) | exact V.y vAuto) ?_)
    | (show VG _ _ _ _ _ _ _ _; refine VG.mk (fun hb => by (try (have hc := And.left hb; have hb := And.right hb; rw [hc])); (try rw [hb]); exact vAuto) ?_)
    | (refine G.mixedA 13 [.go 0, .go 1, .go 2, .go 3, .go 4] ?_)
    | (refine nxX ?_)
    | (refine G.condN rfl (fun hc => ?_) (fun hc => ?_) <;> (try first | exact False.elim hc | (exfalso; omega))))
    exact X.ret (vs := [_, _, _]) rfl ⟨⟨_, _, _, _, rfl, (by exact memA), (by (repeat (first | exact .nil | apply LenIs.cons))), by decide +kernel, rfl⟩, ⟨_, _, _, _, rfl, (by exact memA), (by (repeat (first | exact .nil | apply LenIs.cons))), by decide +kernel, rfl⟩, rfl, rfl⟩ rfl (fun w hw => ⟨by rw [hr], hw.ext⟩)
  | true =>
    have hlen := (validC_iff.1 hv).1
    rw [hv] at hcv
    by_cases h1 : l.length = 1
    · have hr : rateS l = (((0, 0), 0, 0), 3) := by unfold rateS; rw [if_neg (by rw [hv]; decide), if_pos h1]
      refine enter Try.func12 rfl rfl rfl hw0 ?_
      repeat' (first
    | (show YK _ _ _ _ _ _ _; first | refine YK.mk (y_callRA (hcv) ⟨rfl, rfl⟩) ?_)
    | (show YK _ _ _ _ _ _ _; refine YK.ofV vAuto ?_)
    | (show VK _ _ _ _ _ _ _; refine VK.mk vAuto ?_)
    | (show RS _ _ _ _ _ _ _ _; first | (refine nxRS ?_) | (refine nxRS1 fun _ => ?_))
    | (show RM _ _ _ _ _ _ _ _ _ _; first | (refine nxRM ?_) | (refine nxRM1 fun _ => ?_))
    | (show YG _ _ _ _ _ _ _ _; refine YG.mk (fun hb => by (try (have hc := And.left hb; have hb := And.right hb; rw [hc])); (try rw [hb]); first | exact (y_callRA (hcv) ⟨rfl, rfl⟩) | exact V.y vAuto) ?_)
    | (show VG _ _ _ _ _ _ _ _; refine VG.mk (fun hb => by (try (have hc := And.left hb; have hb := And.right hb; rw [hc])); (try rw [hb]); exact vAuto) ?_)
    | (refine G.mixedA 13 [.go 0, .go 1, .go 2, .go 3, .go 4] ?_)
    | (refine nxX ?_)
    | (refine G.condN rfl (fun hc => ?_) (fun hc => ?_) <;> (try first | exact False.elim hc | (exfalso; omega))))
      exact X.ret (vs := [_, _, _]) rfl ⟨⟨_, _, _, _, rfl, (by exact memA), (by (repeat (first | exact .nil | apply LenIs.cons))), by decide +kernel, rfl⟩, ⟨_, _, _, _, rfl, (by exact memA), (by (repeat (first | exact .nil | apply LenIs.cons))), by decide +kernel, rfl⟩, rfl, rfl⟩ rfl (fun w hw => ⟨by rw [hr], hw.ext⟩)
    · have b0 := valid_at hv (i := 0) (by omega) (by omega)
      have b1 := valid_at hv (i := (l.length : Int) - 1) (by omega) (by omega)
      have b2 := (valid_lt hv (i := 0) (j := (l.length : Int) - 1) (by omega) (by omega) (by omega)).1
      refine enter Try.func12 rfl rfl rfl hw0 ?_
      repeat' (first
    | (refine G.mixedM 13 [.go 0, .go 1, .go 2, .go 3, .go 4] [true, true, false, false, false, false] ?_; dsimp only [maskH])
    | (show YK _ _ _ _ _ _ _; first | refine YK.mk (y_callRA (hcv) ⟨rfl, rfl⟩) ?_ | refine YK.mk (y_callP thF_c ⟨rfl, rfl, rfl, rfl⟩) ?_ | refine YK.mk (y_callP thT_c ⟨rfl, rfl, rfl, rfl⟩) ?_)
    | (show YK _ _ _ _ _ _ _; refine YK.ofV vAuto ?_)
    | (show VK _ _ _ _ _ _ _; refine VK.mk vAuto ?_)
    | (show RS _ _ _ _ _ _ _ _; first | (refine nxRS ?_) | (refine nxRS1 fun _ => ?_))
    | (show RM _ _ _ _ _ _ _ _ _ _; first | (refine nxRM ?_) | (refine nxRM1 fun _ => ?_))
    | (show YG _ _ _ _ _ _ _ _; refine YG.mk (fun hb => by (try (have hc := And.left hb; have hb := And.right hb; rw [hc])); (try rw [hb]); first | exact (y_callRA (hcv) ⟨rfl, rfl⟩) | exact (y_callP thF_c ⟨rfl, rfl, rfl, rfl⟩) | exact (y_callP thT_c ⟨rfl, rfl, rfl, rfl⟩) | exact V.y vAuto) ?_)
    | (show VG _ _ _ _ _ _ _ _; refine VG.mk (fun hb => by (try (have hc := And.left hb; have hb := And.right hb; rw [hc])); (try rw [hb]); exact vAuto) ?_)
    | (refine nxX ?_)
    | (refine G.condN rfl (fun hc => ?_) (fun hc => ?_) <;> (try first | exact False.elim hc | (exfalso; omega))))
      · have hr : rateS l = (((0, 0), 0, 0), 5) := by
          unfold rateS
          rw [if_neg (by rw [hv]; decide), if_neg h1]; dsimp only
          rw [Int.neg_add] at hc
          rw [if_pos (by simpa [Int.sub_eq_add_neg] using hc)]
        exact X.ret (vs := [_, _, _]) rfl ⟨⟨_, _, _, _, rfl, (by exact memA), (by (repeat (first | exact .nil | apply LenIs.cons))), by decide +kernel, rfl⟩, ⟨_, _, _, _, rfl, (by exact memA), (by (repeat (first | exact .nil | apply LenIs.cons))), by decide +kernel, rfl⟩, rfl, rfl⟩ rfl (fun w hw => ⟨by rw [hr], hw.ext⟩)
      · refine X.ret (vs := [_, _, _]) rfl ⟨⟨_, _, _, _, rfl, (by exact memA), (by (repeat (first | exact .nil | apply LenIs.cons))), by decide +kernel, rfl⟩, ⟨_, _, _, _, rfl, (by exact memA), (by (repeat (first | exact .nil | apply LenIs.cons))), by decide +kernel, rfl⟩, rfl, rfl⟩ rfl (fun w hw => ⟨?_, hw.ext⟩)
        unfold rateS
        rw [if_neg (by rw [hv]; decide), if_neg h1]; dsimp only
        rw [Int.neg_add] at hc ⊢
        rw [if_neg (by simpa [Int.sub_eq_add_neg] using hc)]
        rfl
end Go.Proofs.Ytcjganfppcjdfaa
