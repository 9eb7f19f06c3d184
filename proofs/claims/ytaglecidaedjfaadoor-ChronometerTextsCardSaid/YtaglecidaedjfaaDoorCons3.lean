/- The chronometer's Consistent gives consS. -/
import Derived.Test.YtaglecidaedjfaaDoorCons2
set_option linter.unusedVariables false
set_option maxHeartbeats 4000000
namespace Go.Proofs.YtaglecidaedjfaaDoor
open Go.RowKit

theorem nth_take {l : List Chk} {j i : Nat} (h : i < j) : nth (l.take j) (i : Int) = nth l (i : Int) := by
  unfold nth
  simp only [Int.toNat_natCast]
  rw [List.getD_eq_getElem?_getD, List.getD_eq_getElem?_getD, List.getElem?_take_of_lt h]
theorem cons_c (v : Value) (l : List Chk) (hl : l.length ≤ 1000000) {n d : Int} (h : ((-9223372036854775808 ≤ n ∧ n ≤ 9223372036854775807) ∧ -9223372036854775808 ≤ d ∧ d ≤ 9223372036854775807)) : ContR Tryd.prog [Hl.rd v cC 3 l] 53 [v, fracV n d] (consV (consS l n d)) := fun w hw0 => by
  have hcv := cvalid_c v l hl
  have hdr := drifts_c h
  cases hv : validC l with
  | false =>
    have hr : consS l n d = (false, 0, 1) := by unfold consS; rw [if_pos (.inl hv)]
    rw [hv] at hcv
    refine enter Tryd.func53 rfl rfl rfl hw0 ?_
    repeat' (first
    | (show YK _ _ _ _ _ _ _; first | refine YK.mk (y_callRA (hcv) ⟨rfl, rfl⟩) ?_ | refine YK.mk (y_callA (hdr) ⟨rfl, rfl⟩) ?_)
    | (show YK _ _ _ _ _ _ _; refine YK.ofV vAuto ?_)
    | (show VK _ _ _ _ _ _ _; refine VK.mk vAuto ?_)
    | (show RS _ _ _ _ _ _ _ _; first | (refine nxRS ?_) | (refine nxRS1 fun _ => ?_))
    | (show RM _ _ _ _ _ _ _ _ _ _; first | (refine nxRM ?_) | (refine nxRM1 fun _ => ?_))
    | (show YG _ _ _ _ _ _ _ _; refine YG.mk (fun hb => by (try (have hc := And.left hb; have hb := And.right hb; rw [hc])); (try rw [hb]); first | exact (y_callRA (hcv) ⟨rfl, rfl⟩) | exact (y_callA (hdr) ⟨rfl, rfl⟩) | exact V.y vAuto) ?_)
    | (show VG _ _ _ _ _ _ _ _; refine VG.mk (fun hb => by (try (have hc := And.left hb; have hb := And.right hb; rw [hc])); (try rw [hb]); exact vAuto) ?_)
    | (refine nxX ?_)
    | (refine G.condN rfl (fun hc => ?_) (fun hc => ?_) <;> (try first | exact False.elim hc | (exfalso; omega))))
    exact X.ret (vs := [_, _, _]) rfl ⟨rfl, rfl, rfl, rfl⟩ rfl (fun w hw => ⟨by rw [hr], hw.ext⟩)
  | true =>
  rw [hv] at hcv
  cases hd : driftB n d with
  | false =>
    have hr : consS l n d = (false, 0, 1) := by unfold consS; rw [if_pos (.inr hd)]
    rw [hd] at hdr
    refine enter Tryd.func53 rfl rfl rfl hw0 ?_
    repeat' (first
    | (show YK _ _ _ _ _ _ _; first | refine YK.mk (y_callRA (hcv) ⟨rfl, rfl⟩) ?_ | refine YK.mk (y_callA (hdr) ⟨rfl, rfl⟩) ?_)
    | (show YK _ _ _ _ _ _ _; refine YK.ofV vAuto ?_)
    | (show VK _ _ _ _ _ _ _; refine VK.mk vAuto ?_)
    | (show RS _ _ _ _ _ _ _ _; first | (refine nxRS ?_) | (refine nxRS1 fun _ => ?_))
    | (show RM _ _ _ _ _ _ _ _ _ _; first | (refine nxRM ?_) | (refine nxRM1 fun _ => ?_))
    | (show YG _ _ _ _ _ _ _ _; refine YG.mk (fun hb => by (try (have hc := And.left hb; have hb := And.right hb; rw [hc])); (try rw [hb]); first | exact (y_callRA (hcv) ⟨rfl, rfl⟩) | exact (y_callA (hdr) ⟨rfl, rfl⟩) | exact V.y vAuto) ?_)
    | (show VG _ _ _ _ _ _ _ _; refine VG.mk (fun hb => by (try (have hc := And.left hb; have hb := And.right hb; rw [hc])); (try rw [hb]); exact vAuto) ?_)
    | (refine nxX ?_)
    | (refine G.condN rfl (fun hc => ?_) (fun hc => ?_) <;> (try first | exact False.elim hc | (exfalso; omega))))
    exact X.ret (vs := [_, _, _]) rfl ⟨rfl, rfl, rfl, rfl⟩ rfl (fun w hw => ⟨by rw [hr], hw.ext⟩)
  | true =>
  rw [hd] at hdr
  have hnd := drift_iff hd
  have hlen := (validC_iff.1 hv).1
  have hu : consS l n d = match (List.range l.length).find? (firstBad l n d) with
      | some k => (false, (k : Int), 0)
      | none => (true, -1, 0) := by unfold consS; rw [if_neg (by rw [hv, hd]; decide)]; rfl
  refine enter Tryd.func53 rfl rfl rfl hw0 ?_
  repeat' (first
    | (show YK _ _ _ _ _ _ _; first | refine YK.mk (y_callRA (hcv) ⟨rfl, rfl⟩) ?_ | refine YK.mk (y_callA (hdr) ⟨rfl, rfl⟩) ?_)
    | (show YK _ _ _ _ _ _ _; refine YK.ofV vAuto ?_)
    | (show VK _ _ _ _ _ _ _; refine VK.mk vAuto ?_)
    | (show RS _ _ _ _ _ _ _ _; first | (refine nxRS ?_) | (refine nxRS1 fun _ => ?_))
    | (show RM _ _ _ _ _ _ _ _ _ _; first | (refine nxRM ?_) | (refine nxRM1 fun _ => ?_))
    | (show YG _ _ _ _ _ _ _ _; refine YG.mk (fun hb => by (try (have hc := And.left hb; have hb := And.right hb; rw [hc])); (try rw [hb]); first | exact (y_callRA (hcv) ⟨rfl, rfl⟩) | exact (y_callA (hdr) ⟨rfl, rfl⟩) | exact V.y vAuto) ?_)
    | (show VG _ _ _ _ _ _ _ _; refine VG.mk (fun hb => by (try (have hc := And.left hb; have hb := And.right hb; rw [hc])); (try rw [hb]); exact vAuto) ?_)
    | (refine nxX ?_)
    | (refine G.condN rfl (fun hc => ?_) (fun hc => ?_) <;> (try first | exact False.elim hc | (exfalso; omega))))
  rename_i b3
  refine G.loop (ι := Nat) (fun j => [(0, v), (3, .pointer (some ⟨b3, 0, none⟩)), (17, v), (18, .int .i64 l.length), (19, .int .i64 (j : Int))]) (fun j => [Hl.blk b3 89 [.int .i64 n, .int .i64 d], Hl.rd v cC 3 l]) (fun j => j ≤ l.length ∧ ∀ k, k < j → firstBad l n d k = false) (fun j => l.length - j) 0 ⟨by omega, fun k hk => by omega⟩ ⟨rfl, rfl, rfl, rfl, rfl, trivial⟩ (fun w h => h) ?_
  rintro j mx ⟨g1, g2⟩ hmx
  rcases Nat.lt_or_ge j l.length with hj | hj
  · have bj := valid_at hv (i := j) (by omega) (by omega)
    repeat' (first
    | (refine nxV ?_)
    | (show RS _ _ _ _ _ _ _ _; first | (refine nxRS ?_) | (refine nxRS1 fun _ => ?_))
    | (show RM _ _ _ _ _ _ _ _ _ _; first | (refine nxRM ?_) | (refine nxRM1 fun _ => ?_))
    | (refine nxG ?_)
    | (refine nxX ?_)
    | (refine G.condN rfl (fun hc => ?_) (fun hc => ?_) <;> (try first | exact False.elim hc | (exfalso; omega))))
    rename_i b8
    have hcut := (RdT.rd (H := [Hl.blk b8 58 [.int .i64 (nth l j).face, .int .i64 (nth l j).ut, .int .i64 (nth l j).within], Hl.blk b3 89 [.int .i64 n, .int .i64 d], Hl.rd v cC 3 l]) (List.Mem.tail _ (List.Mem.tail _ (List.Mem.head _)))).cut (i := 0) (j := j) (fun _ => rfl) (by omega) (by omega)
    have eany : ((List.range (l.take j).length).any fun i : Nat => !nearB n d (nth (l.take j) i) (nth l j)) = firstBad l n d j := by
      unfold firstBad
      rw [List.length_take, Nat.min_eq_left (by omega), Bool.eq_iff_iff]
      simp only [List.any_eq_true, List.mem_range]
      constructor
      · rintro ⟨i, hi, hf⟩
        rw [nth_take hi] at hf
        exact ⟨i, hi, hf⟩
      · rintro ⟨i, hi, hf⟩
        exact ⟨i, hi, by rw [nth_take hi]; exact hf⟩
    have hx := containsF_c (I := fun w => Has w b3 [.int .i64 n, .int .i64 d] ∧ Has w b8 [.int .i64 (nth l j).face, .int .i64 (nth l j).ut, .int .i64 (nth l j).within]) (fun _ _ h hb => ⟨h.1.keep hb, h.2.keep hb⟩) (f := 89) (cap := [.pointer (some ⟨b3, 0, none⟩), .pointer (some ⟨b8, 0, none⟩)]) (by decide +kernel) (fun c => !nearB n d c (nth l j)) (cutV v 3 0 j) (l.take j) (by simp; omega) (fun i hi => by
      have hi : i < j := by simp at hi; omega
      rw [nth_take hi]
      exact near_c ⟨⟨valid_at hv (by omega) (by omega), bj⟩, hnd, (valid_lt hv (by omega) (by omega) (by omega)).1⟩)
    repeat' (first
    | (refine YK.mk (y_callIn hx (fun w hw => ⟨hcut _ _ (hw), hw.has (List.Mem.tail _ (List.Mem.head _)), hw.has (List.Mem.head _)⟩) ⟨rfl, rfl, rfl⟩ (by decide +kernel)) ?_)
    | (refine nxV ?_)
    | (show RS _ _ _ _ _ _ _ _; first | (refine nxRS ?_) | (refine nxRS1 fun _ => ?_))
    | (show RM _ _ _ _ _ _ _ _ _ _; first | (refine nxRM ?_) | (refine nxRM1 fun _ => ?_))
    | (refine nxG ?_)
    | (refine nxX ?_)
    | (refine G.condN rfl (fun hc => ?_) (fun hc => ?_) <;> (try first | exact False.elim hc | (exfalso; omega))))
    · rw [eany] at hc
      rw [find_some hj g2 hc] at hu
      exact X.ret (vs := [_, _, _]) rfl ⟨rfl, rfl, rfl, rfl⟩ rfl (fun w hw => ⟨by rw [hu], hw.ext⟩)
    · rw [eany] at hc
      refine X.again (j + 1) ⟨by omega, fun k hk => ?_⟩ (by omega) ⟨rfl, rfl, rfl, rfl, rfl, trivial⟩ (by exact fun w h => h.sub (by repeat (first | exact List.Sublist.refl _ | apply List.Sublist.cons_cons | apply List.Sublist.cons)))
      rcases Nat.lt_or_ge k j with h | h
      · exact g2 k h
      · rw [show k = j by omega]; exact hc
  · repeat' (first
    | (refine nxV ?_)
    | (show RS _ _ _ _ _ _ _ _; first | (refine nxRS ?_) | (refine nxRS1 fun _ => ?_))
    | (show RM _ _ _ _ _ _ _ _ _ _; first | (refine nxRM ?_) | (refine nxRM1 fun _ => ?_))
    | (refine nxG ?_)
    | (refine nxX ?_)
    | (refine G.condN rfl (fun hc => ?_) (fun hc => ?_) <;> (try first | exact False.elim hc | (exfalso; omega))))
    rw [find_none (fun k hk => g2 k (by omega))] at hu
    exact X.ret (vs := [_, _, _]) rfl ⟨rfl, rfl, rfl, rfl⟩ rfl (fun w hw => ⟨by rw [hu], hw.ext⟩)
end Go.Proofs.YtaglecidaedjfaaDoor
