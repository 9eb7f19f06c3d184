/- ChronometerMisses: the walk of the law. -/
import Derived.Test.YtcjganfppcjdfaaMiss
set_option linter.unusedVariables false
set_option maxHeartbeats 4000000
namespace Go.Proofs.Ytcjganfppcjdfaa
open Go.RowKit

theorem prod30 {a b : Int} (h1 : -1073741824 ≤ a ∧ a ≤ 1073741824) (h2 : -1073741824 ≤ b ∧ b ≤ 1073741824) : -1152921504606846976 ≤ a * b ∧ a * b ≤ 1152921504606846976 := by
  have : (a * b).natAbs ≤ 1073741824 * 1073741824 := by
    rw [Int.natAbs_mul]; exact Nat.mul_le_mul (by omega) (by omega)
  omega
theorem rate_bd (l : List Chk) : ((-1073741824 ≤ (rateS l).1.1.1 ∧ (rateS l).1.1.1 ≤ 1073741824) ∧ -1073741824 ≤ (rateS l).1.1.2 ∧ (rateS l).1.1.2 ≤ 1073741824) ∧ (-1073741824 ≤ (rateS l).1.2.1 ∧ (rateS l).1.2.1 ≤ 1073741824) ∧ -1073741824 ≤ (rateS l).1.2.2 ∧ (rateS l).1.2.2 ≤ 1073741824 := by
  unfold rateS
  split
  · decide
  split
  · decide
  dsimp only
  split
  · decide
  next hxy =>
  obtain ⟨p1, p2⟩ := not_or.1 hxy
  obtain ⟨x1, x2, x3⟩ := makeF_val (m := 1000) (by decide) (Decidable.not_not.1 p1)
  obtain ⟨y1, y2, y3⟩ := makeF_val (m := 1000) (by decide) (Decidable.not_not.1 p2)
  dsimp only
  omega
theorem misses_law (haw : Cont Try.prog 9 [] (.bool true)) (v : Value) (l : List Chk) {n d face : Int} (h : ((-9223372036854775808 ≤ n ∧ n ≤ 9223372036854775807) ∧ -9223372036854775808 ≤ d ∧ d ≤ 9223372036854775807)) : ContR Try.prog [Hl.rd v cC 3 l] 6 [v, .int .i64 face, fracV n d] (.bool true) := fun w hw0 => by
  have hmn := many_c v l
  cases hm : manyB l with
  | true =>
    rw [hm] at hmn
    refine enter Try.func6 rfl rfl rfl hw0 ?_
    repeat' (first
    | (show YK _ _ _ _ _ _ _; first | refine YK.mk (y_callA (haw) rfl) ?_ | refine YK.mk (y_callRA (hmn) ⟨rfl, rfl⟩) ?_)
    | (show YK _ _ _ _ _ _ _; refine YK.ofV vAuto ?_)
    | (show VK _ _ _ _ _ _ _; refine VK.mk vAuto ?_)
    | (show RS _ _ _ _ _ _ _ _; first | (refine nxRS ?_) | (refine nxRS1 fun _ => ?_))
    | (show RM _ _ _ _ _ _ _ _ _ _; first | (refine nxRM ?_) | (refine nxRM1 fun _ => ?_))
    | (show YG _ _ _ _ _ _ _ _; refine YG.mk (fun hb => by (try (have hc := And.left hb; have hb := And.right hb; rw [hc])); (try rw [hb]); first | exact (y_callA (haw) rfl) | exact (y_callRA (hmn) ⟨rfl, rfl⟩) | exact V.y vAuto) ?_)
    | (show VG _ _ _ _ _ _ _ _; refine VG.mk (fun hb => by (try (have hc := And.left hb; have hb := And.right hb; rw [hc])); (try rw [hb]); exact vAuto) ?_)
    | (refine G.mixedA 12 [.go 0, .go 1, .go 2, .go 3, .go 4, .go 5, .go 6, .go 7, .go 8, .go 9, .go 10, .go 11, .go 12, .go 13, .go 14] ?_)
    | (refine nxX ?_)
    | (refine G.condN rfl (fun hc => ?_) (fun hc => ?_) <;> (try first | exact False.elim hc | (exfalso; omega))))
    exact X.ret (vs := [_]) rfl ⟨rfl, rfl⟩ rfl (fun w hw => ⟨rfl, hw.ext⟩)
  | false =>
    rw [hm] at hmn
    have hl : l.length ≤ 1000000 := by have := many_len hm; omega
    have hrv := rvalidt_c v l hl
    have hrd := rdrift_c h
    cases hv : validC l with
    | false =>
      rw [hv] at hrv
      refine enter Try.func6 rfl rfl rfl hw0 ?_
      repeat' (first
    | (show YK _ _ _ _ _ _ _; first | refine YK.mk (y_callA (haw) rfl) ?_ | refine YK.mk (y_callRA (hmn) ⟨rfl, rfl⟩) ?_ | refine YK.mk (y_callRA (hrv) ⟨rfl, rfl⟩) ?_)
    | (show YK _ _ _ _ _ _ _; refine YK.ofV vAuto ?_)
    | (show VK _ _ _ _ _ _ _; refine VK.mk vAuto ?_)
    | (show RS _ _ _ _ _ _ _ _; first | (refine nxRS ?_) | (refine nxRS1 fun _ => ?_))
    | (show RM _ _ _ _ _ _ _ _ _ _; first | (refine nxRM ?_) | (refine nxRM1 fun _ => ?_))
    | (show YG _ _ _ _ _ _ _ _; refine YG.mk (fun hb => by (try (have hc := And.left hb; have hb := And.right hb; rw [hc])); (try rw [hb]); first | exact (y_callA (haw) rfl) | exact (y_callRA (hmn) ⟨rfl, rfl⟩) | exact (y_callRA (hrv) ⟨rfl, rfl⟩) | exact V.y vAuto) ?_)
    | (show VG _ _ _ _ _ _ _ _; refine VG.mk (fun hb => by (try (have hc := And.left hb; have hb := And.right hb; rw [hc])); (try rw [hb]); exact vAuto) ?_)
    | (refine G.mixedA 12 [.go 0, .go 1, .go 2, .go 3, .go 4, .go 5, .go 6, .go 7, .go 8, .go 9, .go 10, .go 11, .go 12, .go 13, .go 14] ?_)
    | (refine nxX ?_)
    | (refine G.condN rfl (fun hc => ?_) (fun hc => ?_) <;> (try first | exact False.elim hc | (exfalso; omega))))
      exact X.ret (vs := [_]) rfl ⟨rfl, rfl⟩ rfl (fun w hw => ⟨rfl, hw.ext⟩)
    | true =>
    rw [hv] at hrv
    cases hd : driftB n d with
    | false =>
      rw [hd] at hrd
      refine enter Try.func6 rfl rfl rfl hw0 ?_
      repeat' (first
    | (show YK _ _ _ _ _ _ _; first | refine YK.mk (y_callA (haw) rfl) ?_ | refine YK.mk (y_callRA (hmn) ⟨rfl, rfl⟩) ?_ | refine YK.mk (y_callRA (hrv) ⟨rfl, rfl⟩) ?_ | refine YK.mk (y_callA (hrd) ⟨rfl, rfl⟩) ?_)
    | (show YK _ _ _ _ _ _ _; refine YK.ofV vAuto ?_)
    | (show VK _ _ _ _ _ _ _; refine VK.mk vAuto ?_)
    | (show RS _ _ _ _ _ _ _ _; first | (refine nxRS ?_) | (refine nxRS1 fun _ => ?_))
    | (show RM _ _ _ _ _ _ _ _ _ _; first | (refine nxRM ?_) | (refine nxRM1 fun _ => ?_))
    | (show YG _ _ _ _ _ _ _ _; refine YG.mk (fun hb => by (try (have hc := And.left hb; have hb := And.right hb; rw [hc])); (try rw [hb]); first | exact (y_callA (haw) rfl) | exact (y_callRA (hmn) ⟨rfl, rfl⟩) | exact (y_callRA (hrv) ⟨rfl, rfl⟩) | exact (y_callA (hrd) ⟨rfl, rfl⟩) | exact V.y vAuto) ?_)
    | (show VG _ _ _ _ _ _ _ _; refine VG.mk (fun hb => by (try (have hc := And.left hb; have hb := And.right hb; rw [hc])); (try rw [hb]); exact vAuto) ?_)
    | (refine G.mixedA 12 [.go 0, .go 1, .go 2, .go 3, .go 4, .go 5, .go 6, .go 7, .go 8, .go 9, .go 10, .go 11, .go 12, .go 13, .go 14] ?_)
    | (refine nxX ?_)
    | (refine G.condN rfl (fun hc => ?_) (fun hc => ?_) <;> (try first | exact False.elim hc | (exfalso; omega))))
      exact X.ret (vs := [_]) rfl ⟨rfl, rfl⟩ rfl (fun w hw => ⟨rfl, hw.ext⟩)
    | true =>
    rw [hd] at hrd
    obtain ⟨⟨d1, d2⟩, d3, d4⟩ := drift_iff hd
    have h1 := cons_c v l hl h
    have h2 := cut_c v l hl (face := face) h
    have h3 := crate_c v l hl
    obtain ⟨⟨b1, b2⟩, b3, b4⟩ := rate_bd l
    have q1 := prod30 b1 (b := d) (by omega)
    have q2 := prod30 (a := n) (by omega) b2
    have q3 := prod30 b3 (b := d) (by omega)
    have q4 := prod30 (a := -n) (by omega) b4
    refine enter Try.func6 rfl rfl rfl hw0 ?_
    repeat' (first
    | (show YK _ _ _ _ _ _ _; first | refine YK.mk (y_callA (haw) rfl) ?_ | refine YK.mk (y_callRA (hmn) ⟨rfl, rfl⟩) ?_ | refine YK.mk (y_callRA (hrv) ⟨rfl, rfl⟩) ?_ | refine YK.mk (y_callA (hrd) ⟨rfl, rfl⟩) ?_ | refine YK.mk (y_callRA (h1) ⟨rfl, rfl, rfl⟩) ?_ | refine YK.mk (y_callRA (h2) ⟨rfl, rfl, rfl, rfl⟩) ?_ | refine YK.mk (y_callRA (h3) ⟨rfl, rfl⟩) ?_ | refine YK.mk (y_callP cmp3_c ⟨rfl, rfl, rfl⟩) ?_ | refine YK.mk (y_callP neg3_c ⟨rfl, rfl⟩) ?_)
    | (show YK _ _ _ _ _ _ _; refine YK.ofV vAuto ?_)
    | (show VK _ _ _ _ _ _ _; refine VK.mk vAuto ?_)
    | (show RS _ _ _ _ _ _ _ _; first | (refine nxRS ?_) | (refine nxRS1 fun _ => ?_))
    | (show RM _ _ _ _ _ _ _ _ _ _; first | (refine nxRM ?_) | (refine nxRM1 fun _ => ?_))
    | (show YG _ _ _ _ _ _ _ _; refine YG.mk (fun hb => by (try (have hc := And.left hb; have hb := And.right hb; rw [hc])); (try rw [hb]); first | exact (y_callA (haw) rfl) | exact (y_callRA (hmn) ⟨rfl, rfl⟩) | exact (y_callRA (hrv) ⟨rfl, rfl⟩) | exact (y_callA (hrd) ⟨rfl, rfl⟩) | exact (y_callRA (h1) ⟨rfl, rfl, rfl⟩) | exact (y_callRA (h2) ⟨rfl, rfl, rfl, rfl⟩) | exact (y_callRA (h3) ⟨rfl, rfl⟩) | exact (y_callP cmp3_c ⟨rfl, rfl, rfl⟩) | exact (y_callP neg3_c ⟨rfl, rfl⟩) | exact V.y vAuto) ?_)
    | (show VG _ _ _ _ _ _ _ _; refine VG.mk (fun hb => by (try (have hc := And.left hb; have hb := And.right hb; rw [hc])); (try rw [hb]); exact vAuto) ?_)
    | (refine G.mixedA 12 [.go 0, .go 1, .go 2, .go 3, .go 4, .go 5, .go 6, .go 7, .go 8, .go 9, .go 10, .go 11, .go 12, .go 13, .go 14] ?_)
    | (refine nxX ?_)
    | (refine G.condN rfl (fun hc => ?_) (fun hc => ?_) <;> (try first | exact False.elim hc | (exfalso; omega))))
    · exact X.ret (vs := [_]) rfl ⟨rfl, rfl⟩ rfl (fun w hw => ⟨rfl, hw.ext⟩)
    · rename_i g _
      exfalso
      have e1 := cons_code hv hd
      have e2 := ut_codes hv hd (timeB_iff.2 (show -70368744177664 ≤ face ∧ face ≤ 70368744177664 from g))
      omega
    · exact X.ret (vs := [_]) rfl ⟨rfl, rfl⟩ rfl (fun w hw => ⟨rfl, hw.ext⟩)
    · rename_i g _ _
      exfalso
      have e1 := rate_in g (by omega)
      omega
    · rename_i g1 _ _ g _ _
      refine X.ret (vs := [_]) rfl ⟨rfl, rfl⟩ rfl (fun w hw => ⟨ret_bool ?_, hw.ext⟩)
      have e1 := no_miss g face
      have e2 : (utS l n d face).2 ≠ 23 := by
        unfold utS
        split
        · decide
        split
        · decide
        split
        next e => rw [e1] at e; cases e
        split
        · exact (by decide : (0 : Int) ≠ 23)
        · exact (by decide : (20 : Int) ≠ 23)
      simp [e2]
end Go.Proofs.Ytcjganfppcjdfaa
