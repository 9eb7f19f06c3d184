/- ChronometerShrinks: the walk of the law. -/
import Derived.Test.YtcjganfppcjdfaaShrink
import Derived.Test.YtcjganfppcjdfaaMut2
import Derived.Test.YtcjganfppcjdfaaMissL
set_option linter.unusedVariables false
set_option maxHeartbeats 8000000
namespace Go.Proofs.Ytcjganfppcjdfaa
open Go.RowKit

abbrev cU8 (x : Int) : List Value := [.int .u8 x]
theorem shrinks_law (haw : Cont Try.prog 9 [] (.bool true)) (v v4 : Value) (l : List Chk) (gone : List Int) {n d n' d' face : Int} (h : ((-9223372036854775808 ≤ n ∧ n ≤ 9223372036854775807) ∧ -9223372036854775808 ≤ d ∧ d ≤ 9223372036854775807)) (h' : ((-9223372036854775808 ≤ n' ∧ n' ≤ 9223372036854775807) ∧ -9223372036854775808 ≤ d' ∧ d' ≤ 9223372036854775807))
    (hgo : ∀ x ∈ gone, 0 ≤ x ∧ x ≤ 255) : ContR Try.prog [Hl.rd v cC 3 l, Hl.rd v4 cU8 1 gone] 8 [v, .int .i64 face, fracV n d, fracV n' d', v4] (.bool true) := fun w hw0 => by
  have hmn := many_c v l
  cases hm : manyB l with
  | true =>
    rw [hm] at hmn
    refine enter Try.func8 rfl rfl rfl hw0 ?_
    repeat' (first
    | (show YK _ _ _ _ _ _ _; first | refine YK.mk (y_callA (haw) rfl) ?_ | refine YK.mk (y_callRA (hmn) ⟨rfl, rfl⟩) ?_)
    | (show YK _ _ _ _ _ _ _; refine YK.ofV vAuto ?_)
    | (show VK _ _ _ _ _ _ _; refine VK.mk vAuto ?_)
    | (show RS _ _ _ _ _ _ _ _; first | (refine nxRS ?_) | (refine nxRS1 fun _ => ?_))
    | (show RM _ _ _ _ _ _ _ _ _ _; first | (refine nxRM ?_) | (refine nxRM1 fun _ => ?_))
    | (show YG _ _ _ _ _ _ _ _; refine YG.mk (fun hb => by (try (have hc := And.left hb; have hb := And.right hb; rw [hc])); (try rw [hb]); first | exact (y_callA (haw) rfl) | exact (y_callRA (hmn) ⟨rfl, rfl⟩) | exact V.y vAuto) ?_)
    | (show VG _ _ _ _ _ _ _ _; refine VG.mk (fun hb => by (try (have hc := And.left hb; have hb := And.right hb; rw [hc])); (try rw [hb]); exact vAuto) ?_)
    | (refine nxX ?_)
    | (refine G.condN rfl (fun hc => ?_) (fun hc => ?_) <;> (try first | exact False.elim hc | (exfalso; omega))))
    exact X.ret (vs := [_]) rfl ⟨rfl, rfl⟩ rfl (fun w hw => ⟨rfl, hw.ext⟩)
  | false =>
    rw [hm] at hmn
    have hl : l.length ≤ 1000000 := by have := many_len hm; omega
    have hrv := rvalidt_c v l hl
    have hrd := rdrift_c h
    have hrd' := rdrift_c h'
    cases hv : validC l with
    | false =>
      rw [hv] at hrv
      refine enter Try.func8 rfl rfl rfl hw0 ?_
      repeat' (first
    | (show YK _ _ _ _ _ _ _; first | refine YK.mk (y_callA (haw) rfl) ?_ | refine YK.mk (y_callRA (hmn) ⟨rfl, rfl⟩) ?_ | refine YK.mk (y_callRA (hrv) ⟨rfl, rfl⟩) ?_)
    | (show YK _ _ _ _ _ _ _; refine YK.ofV vAuto ?_)
    | (show VK _ _ _ _ _ _ _; refine VK.mk vAuto ?_)
    | (show RS _ _ _ _ _ _ _ _; first | (refine RS.spl 30 rfl (fun hq => ?_) (fun hq => ?_)) | (refine nxRS ?_) | (refine nxRS1 fun _ => ?_))
    | (show RM _ _ _ _ _ _ _ _ _ _; first | (refine RM.spl 30 rfl (fun hq => ?_) (fun hq => ?_)) | (refine nxRM ?_) | (refine nxRM1 fun _ => ?_))
    | (show YG _ _ _ _ _ _ _ _; refine YG.mk (fun hb => by (try (have hc := And.left hb; have hb := And.right hb; rw [hc])); (try rw [hb]); first | exact (y_callA (haw) rfl) | exact (y_callRA (hmn) ⟨rfl, rfl⟩) | exact (y_callRA (hrv) ⟨rfl, rfl⟩) | exact V.y vAuto) ?_)
    | (show VG _ _ _ _ _ _ _ _; refine VG.mk (fun hb => by (try (have hc := And.left hb; have hb := And.right hb; rw [hc])); (try rw [hb]); exact vAuto) ?_)
    | (refine nxX ?_)
    | (refine G.condN rfl (fun hc => ?_) (fun hc => ?_) <;> (try first | exact False.elim hc | (exfalso; omega))))
      · exact X.ret (vs := [_]) rfl ⟨rfl, rfl⟩ rfl (fun w hw => ⟨rfl, hw.ext⟩)
      · exact X.ret (vs := [_]) rfl ⟨rfl, rfl⟩ rfl (fun w hw => ⟨rfl, hw.ext⟩)
    | true =>
    rw [hv] at hrv
    cases hd : driftB n d with
    | false =>
      rw [hd] at hrd
      refine enter Try.func8 rfl rfl rfl hw0 ?_
      repeat' (first
    | (show YK _ _ _ _ _ _ _; first | refine YK.mk (y_callA (haw) rfl) ?_ | refine YK.mk (y_callRA (hmn) ⟨rfl, rfl⟩) ?_ | refine YK.mk (y_callRA (hrv) ⟨rfl, rfl⟩) ?_ | refine YK.mk (y_callA (hrd) ⟨rfl, rfl⟩) ?_)
    | (show YK _ _ _ _ _ _ _; refine YK.ofV vAuto ?_)
    | (show VK _ _ _ _ _ _ _; refine VK.mk vAuto ?_)
    | (show RS _ _ _ _ _ _ _ _; first | (refine RS.spl 30 rfl (fun hq => ?_) (fun hq => ?_)) | (refine nxRS ?_) | (refine nxRS1 fun _ => ?_))
    | (show RM _ _ _ _ _ _ _ _ _ _; first | (refine RM.spl 30 rfl (fun hq => ?_) (fun hq => ?_)) | (refine nxRM ?_) | (refine nxRM1 fun _ => ?_))
    | (show YG _ _ _ _ _ _ _ _; refine YG.mk (fun hb => by (try (have hc := And.left hb; have hb := And.right hb; rw [hc])); (try rw [hb]); first | exact (y_callA (haw) rfl) | exact (y_callRA (hmn) ⟨rfl, rfl⟩) | exact (y_callRA (hrv) ⟨rfl, rfl⟩) | exact (y_callA (hrd) ⟨rfl, rfl⟩) | exact V.y vAuto) ?_)
    | (show VG _ _ _ _ _ _ _ _; refine VG.mk (fun hb => by (try (have hc := And.left hb; have hb := And.right hb; rw [hc])); (try rw [hb]); exact vAuto) ?_)
    | (refine nxX ?_)
    | (refine G.condN rfl (fun hc => ?_) (fun hc => ?_) <;> (try first | exact False.elim hc | (exfalso; omega))))
      · exact X.ret (vs := [_]) rfl ⟨rfl, rfl⟩ rfl (fun w hw => ⟨rfl, hw.ext⟩)
      · exact X.ret (vs := [_]) rfl ⟨rfl, rfl⟩ rfl (fun w hw => ⟨rfl, hw.ext⟩)
    | true =>
    rw [hd] at hrd
    cases hd' : driftB n' d' with
    | false =>
      rw [hd'] at hrd'
      refine enter Try.func8 rfl rfl rfl hw0 ?_
      repeat' (first
    | (show YK _ _ _ _ _ _ _; first | refine YK.mk (y_callA (haw) rfl) ?_ | refine YK.mk (y_callRA (hmn) ⟨rfl, rfl⟩) ?_ | refine YK.mk (y_callRA (hrv) ⟨rfl, rfl⟩) ?_ | refine YK.mk (y_callA (hrd) ⟨rfl, rfl⟩) ?_ | refine YK.mk (y_callA (hrd') ⟨rfl, rfl⟩) ?_)
    | (show YK _ _ _ _ _ _ _; refine YK.ofV vAuto ?_)
    | (show VK _ _ _ _ _ _ _; refine VK.mk vAuto ?_)
    | (show RS _ _ _ _ _ _ _ _; first | (refine RS.spl 30 rfl (fun hq => ?_) (fun hq => ?_)) | (refine nxRS ?_) | (refine nxRS1 fun _ => ?_))
    | (show RM _ _ _ _ _ _ _ _ _ _; first | (refine RM.spl 30 rfl (fun hq => ?_) (fun hq => ?_)) | (refine nxRM ?_) | (refine nxRM1 fun _ => ?_))
    | (show YG _ _ _ _ _ _ _ _; refine YG.mk (fun hb => by (try (have hc := And.left hb; have hb := And.right hb; rw [hc])); (try rw [hb]); first | exact (y_callA (haw) rfl) | exact (y_callRA (hmn) ⟨rfl, rfl⟩) | exact (y_callRA (hrv) ⟨rfl, rfl⟩) | exact (y_callA (hrd) ⟨rfl, rfl⟩) | exact (y_callA (hrd') ⟨rfl, rfl⟩) | exact V.y vAuto) ?_)
    | (show VG _ _ _ _ _ _ _ _; refine VG.mk (fun hb => by (try (have hc := And.left hb; have hb := And.right hb; rw [hc])); (try rw [hb]); exact vAuto) ?_)
    | (refine nxX ?_)
    | (refine G.condN rfl (fun hc => ?_) (fun hc => ?_) <;> (try first | exact False.elim hc | (exfalso; omega))))
      · exact X.ret (vs := [_]) rfl ⟨rfl, rfl⟩ rfl (fun w hw => ⟨rfl, hw.ext⟩)
      · exact X.ret (vs := [_]) rfl ⟨rfl, rfl⟩ rfl (fun w hw => ⟨rfl, hw.ext⟩)
    | true =>
    rw [hd'] at hrd'
    obtain ⟨⟨d1, d2⟩, d3, d4⟩ := drift_iff hd
    obtain ⟨⟨d1', d2'⟩, d3', d4'⟩ := drift_iff hd'
    have q1 := prod30 (a := n) (b := d') (by omega) (by omega)
    have q2 := prod30 (a := n') (b := d) (by omega) (by omega)
    have hlv := (validC_iff.1 hv).1
    have h1 := cut_c v l hl (face := face) h
    refine enter Try.func8 rfl rfl rfl hw0 ?_
    repeat' (first
    | (refine RS.callU (clone_c v l (by omega)) ⟨rfl, rfl⟩ ?_; rintro z0 _; dsimp only [List.cons_append, List.nil_append])
    | (show YK _ _ _ _ _ _ _; first | refine YK.mk (y_callA (haw) rfl) ?_ | refine YK.mk (y_callRA (hmn) ⟨rfl, rfl⟩) ?_ | refine YK.mk (y_callRA (hrv) ⟨rfl, rfl⟩) ?_ | refine YK.mk (y_callA (hrd) ⟨rfl, rfl⟩) ?_ | refine YK.mk (y_callA (hrd') ⟨rfl, rfl⟩) ?_ | refine YK.mk (y_callP cmp3_c ⟨rfl, rfl, rfl⟩) ?_ | refine YK.mk (y_callRA (h1) ⟨rfl, rfl, rfl, rfl⟩) ?_)
    | (show YK _ _ _ _ _ _ _; refine YK.ofV vAuto ?_)
    | (show VK _ _ _ _ _ _ _; refine VK.mk vAuto ?_)
    | (show RS _ _ _ _ _ _ _ _; first | (refine RS.spl 30 rfl (fun hq => ?_) (fun hq => ?_)) | (refine nxRS ?_) | (refine nxRS1 fun _ => ?_))
    | (show RM _ _ _ _ _ _ _ _ _ _; first | (refine RM.spl 30 rfl (fun hq => ?_) (fun hq => ?_)) | (refine nxRM ?_) | (refine nxRM1 fun _ => ?_))
    | (show YG _ _ _ _ _ _ _ _; refine YG.mk (fun hb => by (try (have hc := And.left hb; have hb := And.right hb; rw [hc])); (try rw [hb]); first | exact (y_callA (haw) rfl) | exact (y_callRA (hmn) ⟨rfl, rfl⟩) | exact (y_callRA (hrv) ⟨rfl, rfl⟩) | exact (y_callA (hrd) ⟨rfl, rfl⟩) | exact (y_callA (hrd') ⟨rfl, rfl⟩) | exact (y_callP cmp3_c ⟨rfl, rfl, rfl⟩) | exact (y_callRA (h1) ⟨rfl, rfl, rfl, rfl⟩) | exact V.y vAuto) ?_)
    | (show VG _ _ _ _ _ _ _ _; refine VG.mk (fun hb => by (try (have hc := And.left hb; have hb := And.right hb; rw [hc])); (try rw [hb]); exact vAuto) ?_)
    | (refine nxX ?_)
    | (refine G.condN rfl (fun hc => ?_) (fun hc => ?_) <;> (try first | exact False.elim hc | (exfalso; omega))))
    · exact X.ret (vs := [_]) rfl ⟨rfl, rfl⟩ rfl (fun w hw => ⟨rfl, hw.ext⟩)
    · exact X.ret (vs := [_]) rfl ⟨rfl, rfl⟩ rfl (fun w hw => ⟨rfl, hw.ext⟩)
    rename_i b7 b8 _ b11 _
    have hn : n * d' ≤ n' * d := by
      unfold cmpF at hc
      split at hc
      · omega
      · split at hc <;> omega
    refine G.loop (ι := Nat × Sl × List Chk) (fun x => [(0, v), (1, .int .i64 face), (7, .pointer (some ⟨b7, 0, none⟩)), (8, .pointer (some ⟨b8, 0, none⟩)), (11, .pointer (some ⟨b11, 0, none⟩)), (12, .int .i64 (utS l n d face).2), (13, x.2.1.v), (62, v4), (63, .int .i64 gone.length), (64, .int .i64 (x.1 : Int))])
      (fun x => [Hl.rw x.2.1.v 54 cC 3 x.2.2, Hl.rd v cC 3 l, Hl.blk b11 33 [.int .i64 (utS l n d face).1.1, .int .i64 (utS l n d face).1.2], Hl.blk b8 26 [.int .i64 n', .int .i64 d'], Hl.blk b7 26 [.int .i64 n, .int .i64 d], Hl.rd v4 cU8 1 gone])
      (fun x => x.1 ≤ gone.length ∧ x.2.2.Sublist l ∧ 1 ≤ x.2.2.length) (fun x => gone.length - x.1) (0, z0, l) ⟨Nat.zero_le _, List.Sublist.refl _, hlv.1⟩ ⟨rfl, rfl, rfl, rfl, rfl, rfl, rfl, rfl, rfl, rfl, trivial⟩ (fun w h => h) ?_
    rintro ⟨k, z, l2⟩ mx ⟨g1, g2, g3⟩ hmx
    dsimp only at g1 g2 g3 hmx ⊢
    have hl2 : l2.length ≤ 1000000 := by have := g2.length_le; omega
    rcases Nat.lt_or_ge k gone.length with hk | hk
    · have hgk := hgo (nth gone (k : Int)) (List.mem_of_getElem? (nth_some (l := gone) (m := (k : Int)) (by omega) (by omega)))
      obtain ⟨i, hi⟩ : ∃ i, nth gone (k : Int) % (l2.length : Int) = i := ⟨_, rfl⟩
      have hi0 : 0 ≤ i := by rw [← hi]; exact Int.emod_nonneg _ (by omega)
      have hi1 : i < l2.length := by rw [← hi]; exact Int.emod_lt_of_pos _ (by omega)
      have hdel := delete_c z l2 hl2 ⟨hi0, hi1⟩
      rw [← hi] at hdel
      rw [← hi] at hi0 hi1
      repeat' (first
    | (refine RS.callU hdel ⟨rfl, rfl, rfl, rfl⟩ ?_; rintro z2 _; dsimp only [List.cons_append, List.nil_append])
    | (refine nxV ?_)
    | (show RS _ _ _ _ _ _ _ _; first | (refine nxRS ?_) | (refine nxRS1 fun _ => ?_))
    | (show RM _ _ _ _ _ _ _ _ _ _; first | (refine nxRM ?_) | (refine nxRM1 fun _ => ?_))
    | (refine nxG ?_)
    | (refine nxX ?_)
    | (refine G.condN rfl (fun hc => ?_) (fun hc => ?_) <;> (try first | exact False.elim hc | (exfalso; omega))))
      · have es : (l2.take (nth gone (k : Int) % (l2.length : Int)).toNat ++ l2.drop (nth gone (k : Int) % (l2.length : Int) + 1).toNat).Sublist l2 := by
          rw [show (nth gone (k : Int) % (l2.length : Int) + 1).toNat = (nth gone (k : Int) % (l2.length : Int)).toNat + 1 by omega, ← List.eraseIdx_eq_take_drop_succ]
          exact List.eraseIdx_sublist _ _
        refine X.again (k + 1, z2, l2.take (nth gone (k : Int) % (l2.length : Int)).toNat ++ l2.drop (nth gone (k : Int) % (l2.length : Int) + 1).toNat) ⟨by dsimp only; omega, es.trans g2, ?_⟩ (by dsimp only; omega) ⟨rfl, rfl, rfl, rfl, rfl, rfl, rfl, rfl, rfl, rfl, trivial⟩ (by exact fun w h => h.sub (by repeat (first | exact List.Sublist.refl _ | apply List.Sublist.cons_cons | apply List.Sublist.cons)))
        dsimp only
        rw [List.length_append, List.length_take, List.length_drop]; omega
      · exact X.again (k + 1, z, l2) ⟨by dsimp only; omega, g2, g3⟩ (by dsimp only; omega) ⟨rfl, rfl, rfl, rfl, rfl, rfl, rfl, rfl, rfl, rfl, trivial⟩ (by exact fun w h => h.sub (by repeat (first | exact List.Sublist.refl _ | apply List.Sublist.cons_cons | apply List.Sublist.cons)))
    · have h2 := cut_c z.v l2 hl2 (face := face) h'
      have hmore := ut_more d3 d3' hn g2 g3 hv hd' (face := face)
      repeat' (first
    | (show YK _ _ _ _ _ _ _; first | refine YK.mk (y_callRA (h2) ⟨rfl, rfl, rfl, rfl⟩) ?_)
    | (show YK _ _ _ _ _ _ _; refine YK.ofV vAuto ?_)
    | (show VK _ _ _ _ _ _ _; refine VK.mk vAuto ?_)
    | (show RS _ _ _ _ _ _ _ _; first | (refine nxRS ?_) | (refine nxRS1 fun _ => ?_))
    | (show RM _ _ _ _ _ _ _ _ _ _; first | (refine nxRM ?_) | (refine nxRM1 fun _ => ?_))
    | (show YG _ _ _ _ _ _ _ _; refine YG.mk (fun hb => by (try (have hc := And.left hb; have hb := And.right hb; rw [hc])); (try rw [hb]); first | exact (y_callRA (h2) ⟨rfl, rfl, rfl, rfl⟩) | exact V.y vAuto) ?_)
    | (show VG _ _ _ _ _ _ _ _; refine VG.mk (fun hb => by (try (have hc := And.left hb; have hb := And.right hb; rw [hc])); (try rw [hb]); exact vAuto) ?_)
    | (refine nxX ?_)
    | (refine G.condN rfl (fun hc => ?_) (fun hc => ?_) <;> (try first | exact False.elim hc | (exfalso; omega))))
      refine G.loop (ι := Nat) (fun j => [(0, v), (7, .pointer (some ⟨b7, 0, none⟩)), (117, v), (118, .int .i64 l.length), (119, .int .i64 (j : Int))]) (fun j => [Hl.rd v cC 3 l, Hl.blk b7 26 [.int .i64 n, .int .i64 d]]) (fun j => j ≤ l.length) (fun j => l.length - j) 0 (Nat.zero_le _) ⟨rfl, rfl, rfl, rfl, rfl, trivial⟩ (by exact fun w h => h.sub (by repeat (first | exact List.Sublist.refl _ | apply List.Sublist.cons_cons | apply List.Sublist.cons))) ?_
      rintro j mx2 g4 hmx2
      rcases Nat.lt_or_ge j l.length with hj | hj
      · have h3 := cut_c v l hl (face := (nth l j).face) h
        have bj := valid_at hv (i := j) (by omega) (by omega)
        have hat := fun e => ut_at (n := n) (d := d) (nth_mem (l := l) (i := j) (by omega) (by omega)) e
        repeat' (first
    | (show YK _ _ _ _ _ _ _; first | refine YK.mk (y_callRA (h3) ⟨rfl, rfl, rfl, rfl⟩) ?_)
    | (show YK _ _ _ _ _ _ _; refine YK.ofV vAuto ?_)
    | (show VK _ _ _ _ _ _ _; refine VK.mk vAuto ?_)
    | (show RS _ _ _ _ _ _ _ _; first | (refine nxRS ?_) | (refine nxRS1 fun _ => ?_))
    | (show RM _ _ _ _ _ _ _ _ _ _; first | (refine nxRM ?_) | (refine nxRM1 fun _ => ?_))
    | (show YG _ _ _ _ _ _ _ _; refine YG.mk (fun hb => by (try (have hc := And.left hb; have hb := And.right hb; rw [hc])); (try rw [hb]); first | exact (y_callRA (h3) ⟨rfl, rfl, rfl, rfl⟩) | exact V.y vAuto) ?_)
    | (show VG _ _ _ _ _ _ _ _; refine VG.mk (fun hb => by (try (have hc := And.left hb; have hb := And.right hb; rw [hc])); (try rw [hb]); exact vAuto) ?_)
    | (refine nxX ?_)
    | (refine G.condN rfl (fun hc => ?_) (fun hc => ?_) <;> (try first | exact False.elim hc | (exfalso; omega))))
        exact X.again (j + 1) (by omega) (by omega) ⟨rfl, rfl, rfl, rfl, rfl, trivial⟩ (by exact fun w h => h.sub (by repeat (first | exact List.Sublist.refl _ | apply List.Sublist.cons_cons | apply List.Sublist.cons)))
      · repeat' (first
    | (refine nxV ?_)
    | (show RS _ _ _ _ _ _ _ _; first | (refine nxRS ?_) | (refine nxRS1 fun _ => ?_))
    | (show RM _ _ _ _ _ _ _ _ _ _; first | (refine nxRM ?_) | (refine nxRM1 fun _ => ?_))
    | (refine nxG ?_)
    | (refine nxX ?_)
    | (refine G.condN rfl (fun hc => ?_) (fun hc => ?_) <;> (try first | exact False.elim hc | (exfalso; omega))))
        exact X.ret (vs := [_]) rfl ⟨rfl, rfl⟩ rfl (fun w hw => ⟨rfl, hw.ext⟩)
end Go.Proofs.Ytcjganfppcjdfaa
