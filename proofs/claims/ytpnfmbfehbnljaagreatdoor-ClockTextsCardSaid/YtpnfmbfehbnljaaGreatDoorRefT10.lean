/- The clock's reference on texts: digits, number, Text. -/
import Derived.Test.YtpnfmbfehbnljaaGreatDoorRefP
import Derived.Test.YtpnfmbfehbnljaaGreatDoorRefZ
set_option linter.unusedVariables false
set_option maxHeartbeats 4000000
namespace Go.Proofs.YtpnfmbfehbnljaaGreatDoor
open Go.RowKit

theorem rdig10_c {n l : Nat} (h : n ≤ 1000000000 ∧ l ≤ 20) : Cont Tryz.prog 28 [.int .i64 (n : Int), .int .i64 (l : Int)] (strV (rD n l)) := fun w => by
  refine enter0 Tryz.func28 rfl rfl rfl ?_
  repeat' (first
    | (refine nxV ?_)
    | (show RS _ _ _ _ _ _ _ _; first | (refine nxRS ?_) | (refine nxRS1 fun _ => ?_))
    | (show RM _ _ _ _ _ _ _ _ _ _; first | (refine nxRM ?_) | (refine nxRM1 fun _ => ?_))
    | (refine nxG ?_)
    | (refine nxVS ?_)
    | (refine nxGS ?_)
    | (refine nxX ?_)
    | (refine G.condN rfl (fun hc => ?_) (fun hc => ?_) <;> (try first | exact False.elim hc | (exfalso; omega))))
  refine G.loop (ι := Nat × List UInt8) (fun x => [(0, .int .i64 (x.1 : Int)), (1, .int .i64 (l : Int)), (5, strV x.2)]) (fun _ => []) (fun x => x.1 ≤ 1000000000 ∧ x.2.length + x.1 + (l - x.2.length) ≤ 1000000020 ∧ rD x.1 (l - x.2.length) ++ x.2 = rD n l) (fun x => x.1 + (l - x.2.length)) (n, []) ⟨h.1, by dsimp only [List.length_nil]; omega, by simp⟩ ⟨rfl, rfl, rfl, trivial⟩ (fun w h => h) ?_
  rintro ⟨a, s⟩ mx ⟨g2, g3, g4⟩ hmx
  dsimp only at g2 g3 g4 hmx ⊢
  by_cases hz : (a : Int) ≤ 0 ∧ (l : Int) ≤ s.length
  · have e : rD n l = s := by rw [← g4, show a = 0 by omega, show l - s.length = 0 by omega, rD_zero, List.nil_append]
    repeat' (first
    | (refine nxV ?_)
    | (show RS _ _ _ _ _ _ _ _; first | (refine nxRS ?_) | (refine nxRS1 fun _ => ?_))
    | (show RM _ _ _ _ _ _ _ _ _ _; first | (refine nxRM ?_) | (refine nxRM1 fun _ => ?_))
    | (refine nxG ?_)
    | (refine nxVS ?_)
    | (refine nxGS ?_)
    | (refine nxX ?_)
    | (refine G.condN rfl (fun hc => ?_) (fun hc => ?_) <;> (try first | exact False.elim hc | (exfalso; omega))))
    exact X.ret (vs := [_]) rfl ⟨rfl, rfl⟩ rfl (fun w hw => ⟨by rw [e], hw.ext⟩)
  · have hb : (UInt8.ofNat (48 + (a : Int) % 10).toNat) = dg (a % 10) := by unfold dg; congr 1 <;> omega
    rw [rD_step (by omega), List.append_assoc] at g4
    have hc1 : 0 ≤ 48 + (a : Int) % 10 ∧ 48 + (a : Int) % 10 ≤ 255 := by omega
    repeat' (first
    | (show RS _ _ _ _ _ _ _ (⟨some _, .buildSlice _ _ _, _, _, _, _⟩ :: _); refine RS.lit1B (fun v' => ?_))
    | (show YK _ _ _ _ _ ⟨_, .convert 78 _ _, _, _, _, _⟩ _; refine YK.ofV (y_strOf1 (e := 5) (b := 48 + (a : Int) % 10) (by rfl) (by exact rdA) (by kernel_rfl) (by kernel_rfl) (by kernel_rfl) hb) ?_)
    | (refine nxV ?_)
    | (show RS _ _ _ _ _ _ _ _; first | (refine nxRS ?_) | (refine nxRS1 fun _ => ?_))
    | (show RM _ _ _ _ _ _ _ _ _ _; first | (refine nxRM ?_) | (refine nxRM1 fun _ => ?_))
    | (refine nxG ?_)
    | (refine nxVS ?_)
    | (refine nxGS ?_)
    | (refine nxX ?_)
    | (refine G.condN rfl (fun hc => ?_) (fun hc => ?_) <;> (try first | exact False.elim hc | (exfalso; omega))))
    refine X.again (a / 10, dg (a % 10) :: s) ⟨by dsimp only; omega, by dsimp only [List.length_cons]; omega, by dsimp only [List.length_cons]; rw [show l - (s.length + 1) = l - s.length - 1 by omega]; exact g4⟩ (by dsimp only [List.length_cons]; omega) ⟨rfl, rfl, rfl, trivial⟩ ?_
    exact fun w h => h.sub (by repeat (first | exact List.Sublist.refl _ | apply List.Sublist.cons_cons | apply List.Sublist.cons))
theorem rD2 {n : Nat} (h : n < 100) : rD n 2 = digS (n : Int) 2 := by
  rw [digS2 h, rD_step (by omega), rD_step (by omega), show n / 10 / 10 = 0 by omega, rD_zero, show n / 10 % 10 = n / 10 by omega]; rfl
theorem rD3 {n : Nat} (h : n < 1000) : rD n 3 = digS (n : Int) 3 := by
  rw [digS3 h, rD_step (by omega), rD_step (by omega), rD_step (by omega), show n / 10 / 10 / 10 = 0 by omega, rD_zero, show n / 10 / 10 % 10 = n / 100 by omega]; rfl
theorem rdig2_c {x : Int} (h : 0 ≤ x ∧ x < 100) : Cont Tryz.prog 28 [.int .i64 x, .int .i64 2] (strV (digS x 2)) := by
  obtain ⟨n, rfl⟩ := Int.eq_ofNat_of_zero_le h.1
  have g := rdig10_c (n := n) (l := 2) (by omega)
  rw [rD2 (by omega)] at g
  exact g
theorem rdig3_c {x : Int} (h : 0 ≤ x ∧ x < 1000) : Cont Tryz.prog 28 [.int .i64 x, .int .i64 3] (strV (digS x 3)) := by
  obtain ⟨n, rfl⟩ := Int.eq_ofNat_of_zero_le h.1
  have g := rdig10_c (n := n) (l := 3) (by omega)
  rw [rD3 (by omega)] at g
  exact g
theorem rText10_t {t y m d : Int} (hb : instB t = true) (hv : validB y m d = true) (hn : num y m d = t / 86400000) : Cont Tryz.prog 8 [.int .i64 t] (.tuple [strV (textS y m d (t % 86400000)), .int .i64 0].toArray) := fun w => by
  have h1 := rsplit_t hb hv hn
  have h2 := rtext_c hv
  have hl := dateL_len hv
  have hmb : 0 ≤ t % 86400000 ∧ t % 86400000 < 86400000 := by omega
  generalize t % 86400000 = ms at h1 hmb ⊢
  clear hb hn
  have e1 : ms / 1000 / 3600 = ms / 3600000 := by omega
  have e2 : ms / 1000 / 60 % 60 = ms / 60000 % 60 := by omega
  have h3 := rdig2_c (x := ms / 3600000) (by omega)
  have h4 := rdig2_c (x := ms / 60000 % 60) (by omega)
  have h5 := rdig2_c (x := ms / 1000 % 60) (by omega)
  have h6 := rdig3_c (x := ms % 1000) (by omega)
  have l3 := digS_len (ms / 3600000) 2
  have l4 := digS_len (ms / 60000 % 60) 2
  have l5 := digS_len (ms / 1000 % 60) 2
  have l6 := digS_len (ms % 1000) 3
  unfold textS
  rw [e1, e2]
  clear e1 e2 hv
  generalize dateL y m d = D at h2 hl ⊢
  generalize digS (ms / 3600000) 2 = D1 at h3 l3 ⊢
  generalize digS (ms / 60000 % 60) 2 = D2 at h4 l4 ⊢
  generalize digS (ms / 1000 % 60) 2 = D3 at h5 l5 ⊢
  generalize digS (ms % 1000) 3 = D4 at h6 l6 ⊢
  refine enter0 Tryz.func8 rfl rfl rfl ?_
  repeat' (first
    | (show YK _ _ _ _ _ _ _; first | refine YK.mk (y_callA (h1) ⟨rfl, rfl⟩) ?_ | refine YK.mk (y_callA (h2) ⟨rfl, rfl⟩) ?_ | refine YK.mk (y_callA (h3) ⟨rfl, rfl, rfl⟩) ?_ | refine YK.mk (y_callA (h4) ⟨rfl, rfl, rfl⟩) ?_ | refine YK.mk (y_callA (h5) ⟨rfl, rfl, rfl⟩) ?_ | refine YK.mk (y_callA (h6) ⟨rfl, rfl, rfl⟩) ?_)
    | (show YK _ _ _ _ _ _ _; refine YK.ofV vAuto ?_)
    | (show VK _ _ _ _ _ _ _; refine VK.mk vAuto ?_)
    | (show RS _ _ _ _ _ _ _ _; first | (refine nxRS ?_) | (refine nxRS1 fun _ => ?_))
    | (show RM _ _ _ _ _ _ _ _ _ _; first | (refine nxRM ?_) | (refine nxRM1 fun _ => ?_))
    | (show YG _ _ _ _ _ _ _ _; refine YG.mk (fun hb => by (try (have hc := And.left hb; have hb := And.right hb; rw [hc])); (try rw [hb]); first | exact (y_callA (h1) ⟨rfl, rfl⟩) | exact (y_callA (h2) ⟨rfl, rfl⟩) | exact (y_callA (h3) ⟨rfl, rfl, rfl⟩) | exact (y_callA (h4) ⟨rfl, rfl, rfl⟩) | exact (y_callA (h5) ⟨rfl, rfl, rfl⟩) | exact (y_callA (h6) ⟨rfl, rfl, rfl⟩) | exact V.y vAuto) ?_)
    | (show VG _ _ _ _ _ _ _ _; refine VG.mk (fun hb => by (try (have hc := And.left hb; have hb := And.right hb; rw [hc])); (try rw [hb]); exact vAuto) ?_)
    | (refine nxVS ?_)
    | (refine nxGS ?_)
    | (refine nxX ?_)
    | (refine G.condN rfl (fun hc => ?_) (fun hc => ?_) <;> (try first | exact False.elim hc | (exfalso; omega))))
  · exact X.ret (vs := [_, _]) rfl ⟨rfl, rfl, rfl⟩ rfl (fun w hw => ⟨by dsimp only; rw [if_pos (by omega)]; simp only [List.append_assoc], hw.ext⟩)
  · exact X.ret (vs := [_, _]) rfl ⟨rfl, rfl, rfl⟩ rfl (fun w hw => ⟨by dsimp only; rw [if_neg (by omega)], hw.ext⟩)
theorem rText10_e {t e : Int} (he : e ≠ 0) (h1 : Cont Tryz.prog 14 [.int .i64 t] (splitV 0 0 0 0 e)) : Cont Tryz.prog 8 [.int .i64 t] (.tuple [strV [], .int .i64 e].toArray) := fun w => by
  refine enter0 Tryz.func8 rfl rfl rfl ?_
  repeat' (first
    | (show YK _ _ _ _ _ _ _; first | refine YK.mk (y_callA (h1) ⟨rfl, rfl⟩) ?_)
    | (show YK _ _ _ _ _ _ _; refine YK.ofV vAuto ?_)
    | (show VK _ _ _ _ _ _ _; refine VK.mk vAuto ?_)
    | (show RS _ _ _ _ _ _ _ _; first | (refine nxRS ?_) | (refine nxRS1 fun _ => ?_))
    | (show RM _ _ _ _ _ _ _ _ _ _; first | (refine nxRM ?_) | (refine nxRM1 fun _ => ?_))
    | (show YG _ _ _ _ _ _ _ _; refine YG.mk (fun hb => by (try (have hc := And.left hb; have hb := And.right hb; rw [hc])); (try rw [hb]); first | exact (y_callA (h1) ⟨rfl, rfl⟩) | exact V.y vAuto) ?_)
    | (show VG _ _ _ _ _ _ _ _; refine VG.mk (fun hb => by (try (have hc := And.left hb; have hb := And.right hb; rw [hc])); (try rw [hb]); exact vAuto) ?_)
    | (refine nxVS ?_)
    | (refine nxGS ?_)
    | (refine nxX ?_)
    | (refine G.condN rfl (fun hc => ?_) (fun hc => ?_) <;> (try first | exact False.elim hc | (exfalso; omega))))
  exact X.ret (vs := [_, _]) rfl ⟨rfl, rfl, rfl⟩ rfl (fun w hw => ⟨rfl, hw.ext⟩)
def num10 (l : List UInt8) (c : Int) : Int × Bool := if (l.length : Int) = c ∧ 0 ≤ numQ 0 l then (numQ 0 l, true) else (0, false)
theorem rnum10_c (l : List UInt8) {c : Int} (hc0 : 0 ≤ c ∧ c ≤ 10) : Cont Tryz.prog 33 [strV l, .int .i64 c] (.tuple [.int .i64 (num10 l c).1, .bool (num10 l c).2].toArray) := fun w => by
  by_cases hl : (l.length : Int) = c
  · subst hl
    refine enter0 Tryz.func33 rfl rfl rfl ?_
    repeat' (first
    | (refine nxV ?_)
    | (show RS _ _ _ _ _ _ _ _; first | (refine nxRS ?_) | (refine nxRS1 fun _ => ?_))
    | (show RM _ _ _ _ _ _ _ _ _ _; first | (refine nxRM ?_) | (refine nxRM1 fun _ => ?_))
    | (refine nxG ?_)
    | (refine nxVS ?_)
    | (refine nxGS ?_)
    | (refine nxX ?_)
    | (refine G.condN rfl (fun hc => ?_) (fun hc => ?_) <;> (try first | exact False.elim hc | (exfalso; omega))))
    refine G.loop (ι := Nat × Int) (fun x => [(0, strV l), (1, .int .i64 (l.length : Int)), (6, .int .i64 x.2), (7, .int .i64 (x.1 : Int))]) (fun _ => []) (fun x => x.1 ≤ l.length ∧ (0 ≤ x.2 ∧ x.2 < 10 ^ x.1) ∧ numQ x.2 (l.drop x.1) = numQ 0 l) (fun x => l.length - x.1) (0, 0) ⟨Nat.zero_le _, by decide, rfl⟩ ⟨rfl, rfl, rfl, rfl, trivial⟩ (fun w h => h) ?_
    rintro ⟨i, acc⟩ mx ⟨g1, g2, g3⟩ hmx
    dsimp only at g1 g2 g3 hmx ⊢
    have hp : (10 : Int) ^ i ≤ 10000000000 := by
      have : (10 : Nat) ^ i ≤ 10000000000 := Nat.pow_le_pow_right (n := 10) (by decide) (show i ≤ 10 by omega)
      have h2 : ((10 ^ i : Nat) : Int) = (10 : Int) ^ i := by simp
      have h3 : ((10 ^ i : Nat) : Int) ≤ ((10000000000 : Nat) : Int) := Int.ofNat_le.2 this
      rw [← h2]; omega
    rcases Nat.lt_or_ge i l.length with hi | hi
    · rw [drop_cons hi] at g3
      have hb : (nth l (i : Int)).toNat < 256 := UInt8.toNat_lt _
      repeat' (first
    | (show YK _ _ _ _ _ ⟨_, .binOp .sub 5 _ _ _, _, _, _, _⟩ _; refine YK.ofV (V.int_ (y_sub (by rfl) (by rfl)) (IntWalk.u8_in _ (by omega))) ?_)
    | (refine nxV ?_)
    | (show RS _ _ _ _ _ _ _ _; first | (refine nxRS ?_) | (refine nxRS1 fun _ => ?_))
    | (show RM _ _ _ _ _ _ _ _ _ _; first | (refine nxRM ?_) | (refine nxRM1 fun _ => ?_))
    | (refine nxG ?_)
    | (refine nxVS ?_)
    | (refine nxGS ?_)
    | (refine nxX ?_)
    | (refine G.condN rfl (fun hc => ?_) (fun hc => ?_) <;> (try first | exact False.elim hc | (exfalso; omega))))
      · have e : numQ 0 l = -1 := by rw [← g3]; unfold numQ; rw [if_pos hc]
        exact X.ret (vs := [_, _]) rfl ⟨rfl, rfl, rfl⟩ rfl (fun w hw => ⟨by unfold num10; rw [e, if_neg (by omega)], hw.ext⟩)
      · have e : numQ (10 * acc + (((nth l (i : Int)).toNat : Int) - 48)) (l.drop (i + 1)) = numQ 0 l := by
          rw [← g3]
          conv => rhs; unfold numQ
          rw [if_neg (by omega)]
        refine X.again (i + 1, 10 * acc + (((nth l (i : Int)).toNat : Int) - 48)) ⟨by dsimp only; omega, by dsimp only; rw [Int.pow_succ]; omega, e⟩ (by dsimp only; omega) ⟨rfl, rfl, rfl, rfl, trivial⟩ ?_
        exact fun w h => h.sub (by repeat (first | exact List.Sublist.refl _ | apply List.Sublist.cons_cons | apply List.Sublist.cons))
    · obtain rfl : i = l.length := by omega
      rw [List.drop_length] at g3
      have e : numQ 0 l = acc := g3.symm
      repeat' (first
    | (refine nxV ?_)
    | (show RS _ _ _ _ _ _ _ _; first | (refine nxRS ?_) | (refine nxRS1 fun _ => ?_))
    | (show RM _ _ _ _ _ _ _ _ _ _; first | (refine nxRM ?_) | (refine nxRM1 fun _ => ?_))
    | (refine nxG ?_)
    | (refine nxVS ?_)
    | (refine nxGS ?_)
    | (refine nxX ?_)
    | (refine G.condN rfl (fun hc => ?_) (fun hc => ?_) <;> (try first | exact False.elim hc | (exfalso; omega))))
      exact X.ret (vs := [_, _]) rfl ⟨rfl, rfl, rfl⟩ rfl (fun w hw => ⟨by unfold num10; rw [e, if_pos ⟨rfl, g2.1⟩], hw.ext⟩)
  · have e : num10 l c = (0, false) := by unfold num10; rw [if_neg (fun g => hl g.1)]
    refine enter0 Tryz.func33 rfl rfl rfl ?_
    repeat' (first
    | (refine nxV ?_)
    | (show RS _ _ _ _ _ _ _ _; first | (refine nxRS ?_) | (refine nxRS1 fun _ => ?_))
    | (show RM _ _ _ _ _ _ _ _ _ _; first | (refine nxRM ?_) | (refine nxRM1 fun _ => ?_))
    | (refine nxG ?_)
    | (refine nxVS ?_)
    | (refine nxGS ?_)
    | (refine nxX ?_)
    | (refine G.condN rfl (fun hc => ?_) (fun hc => ?_) <;> (try first | exact False.elim hc | (exfalso; omega))))
    exact X.ret (vs := [_, _]) rfl ⟨rfl, rfl, rfl⟩ rfl (fun w hw => ⟨by rw [e], hw.ext⟩)
end Go.Proofs.YtpnfmbfehbnljaaGreatDoor
