/- The clock's reference Parse; ClockTexts gives true. -/
import Derived.Test.YtpnfmbfehbnljaaGreatDoorRefW10
import Derived.Test.YtpnfmbfehbnljaaGreatDoorAwk10
set_option linter.unusedVariables false
set_option maxHeartbeats 4000000
namespace Go.Proofs.YtpnfmbfehbnljaaGreatDoor
open Go.RowKit

theorem num10_2 {x y : Nat} (hx : x < 10) (hy : y < 10) : num10 [dg x, dg y] 2 = (((10 * x + y : Nat) : Int), true) := by
  have e : numQ 0 [dg x, dg y] = ((10 * x + y : Nat) : Int) := by
    rw [numQ_dg hx, numQ_dg hy]; unfold numQ; omega
  unfold num10
  rw [e, if_pos ⟨rfl, by omega⟩]
theorem num10_3 {x y z : Nat} (hx : x < 10) (hy : y < 10) (hz : z < 10) : num10 [dg x, dg y, dg z] 3 = (((100 * x + 10 * y + z : Nat) : Int), true) := by
  have e : numQ 0 [dg x, dg y, dg z] = ((100 * x + 10 * y + z : Nat) : Int) := by
    rw [numQ_dg hx, numQ_dg hy, numQ_dg hz]; unfold numQ; omega
  unfold num10
  rw [e, if_pos ⟨rfl, by omega⟩]
theorem num10_inv2 {l : List UInt8} (h : (num10 l 2).2 = true) : ∃ x y : Nat, (x < 10 ∧ y < 10) ∧ l = [dg x, dg y] ∧ (num10 l 2).1 = ((10 * x + y : Nat) : Int) := by
  unfold num10 at h
  split at h
  next hc =>
    obtain ⟨a, b, rfl⟩ : ∃ a b, l = [a, b] := by
      match l, hc.1 with
      | [a, b], _ => exact ⟨a, b, rfl⟩
      | [], g => simp at g
      | [a], g => simp at g
      | a :: b :: c :: l, g => simp at g; omega
    obtain ⟨x, hx, rfl, e1⟩ := numQ_inv hc.2
    have h2 := hc.2
    rw [e1] at h2
    obtain ⟨y, hy, rfl, e2⟩ := numQ_inv h2
    exact ⟨x, y, ⟨hx, hy⟩, rfl, by rw [num10_2 hx hy]⟩
  · cases h
theorem num10_inv3 {l : List UInt8} (h : (num10 l 3).2 = true) : ∃ x y z : Nat, (x < 10 ∧ y < 10 ∧ z < 10) ∧ l = [dg x, dg y, dg z] ∧ (num10 l 3).1 = ((100 * x + 10 * y + z : Nat) : Int) := by
  unfold num10 at h
  split at h
  next hc =>
    obtain ⟨a, b, c, rfl⟩ : ∃ a b c, l = [a, b, c] := by
      match l, hc.1 with
      | [a, b, c], _ => exact ⟨a, b, c, rfl⟩
      | [], g => simp at g
      | [a], g => simp at g
      | [a, b], g => simp at g
      | a :: b :: c :: d :: l, g => simp at g; omega
    obtain ⟨x, hx, rfl, e1⟩ := numQ_inv hc.2
    have h2 := hc.2
    rw [e1] at h2
    obtain ⟨y, hy, rfl, e2⟩ := numQ_inv h2
    rw [e2] at h2
    obtain ⟨z, hz, rfl, e3⟩ := numQ_inv h2
    exact ⟨x, y, z, ⟨hx, hy, hz⟩, rfl, by rw [num10_3 hx hy hz]⟩
  · cases h
theorem num10_bd (l : List UInt8) {c : Int} (hc : (num10 l c).2 = false) : (num10 l c).1 = 0 := by
  unfold num10 at hc ⊢
  split
  next g => rw [if_pos g] at hc; cases hc
  next => rfl
/-- A text's pieces. -/
theorem pieces {l : List UInt8} (h : 19 ≤ l.length) : l = l.take 10 ++ nth l 10 :: ((l.drop 11).take 2 ++ nth l 13 :: ((l.drop 14).take 2 ++ nth l 16 :: ((l.drop 17).take 2 ++ l.drop 19))) := by
  have e10 : l.drop 10 = nth l 10 :: l.drop 11 := drop_cons (i := 10) (by omega)
  have e13 : l.drop 13 = nth l 13 :: l.drop 14 := drop_cons (i := 13) (by omega)
  have e16 : l.drop 16 = nth l 16 :: l.drop 17 := drop_cons (i := 16) (by omega)
  have f : ∀ k, l.drop k = (l.drop k).take 2 ++ l.drop (k + 2) := fun k => by
    have := (List.take_append_drop 2 (l.drop k)).symm
    rw [List.drop_drop] at this
    exact this
  have g := (List.take_append_drop 10 l).symm
  rw [e10, f 11, e13, f 14, e16, f 17] at g
  exact g
/-- What a text's pieces are where it is the text of a date and a time. -/
theorem fmt {y m d : Int} {h mi s f : Nat} (hv : validB y m d = true) (b : (h < 24 ∧ mi < 60) ∧ s < 60 ∧ f < 1000) {l : List UInt8} (hl : l = dateL y m d ++ 32 :: lit h mi s f) :
    l.length = (if 0 < f then 23 else 19) ∧ l.take 10 = dateL y m d ∧ (nth l 10).toNat = 32 ∧ (l.drop 11).take 2 = [dg (h / 10), dg (h % 10)] ∧ (nth l 13).toNat = 58 ∧ (l.drop 14).take 2 = [dg (mi / 10), dg (mi % 10)] ∧ (nth l 16).toNat = 58 ∧ (l.drop 17).take 2 = [dg (s / 10), dg (s % 10)] ∧
    (0 < f → (nth l 19).toNat = 46 ∧ l.drop 20 = [dg (f / 100), dg (f / 10 % 10), dg (f % 10)]) := by
  obtain ⟨hy, hm, hd⟩ := valid_of hv
  have hdm := dim_bd y m
  obtain ⟨Y, rfl⟩ := Int.eq_ofNat_of_zero_le (show 0 ≤ y by omega)
  obtain ⟨M, rfl⟩ := Int.eq_ofNat_of_zero_le (show 0 ≤ m by omega)
  obtain ⟨D, rfl⟩ := Int.eq_ofNat_of_zero_le (show 0 ≤ d by omega)
  rw [date_bytes (y := Y) (m := M) (d := D) (by omega) (by omega) (by omega)] at hl ⊢
  unfold lit at hl
  by_cases hf : 0 < f
  · rw [if_pos hf] at hl ⊢
    subst hl
    exact ⟨rfl, rfl, rfl, rfl, rfl, rfl, rfl, rfl, fun _ => ⟨rfl, rfl⟩⟩
  · rw [if_neg hf] at hl ⊢
    subst hl
    exact ⟨rfl, rfl, rfl, rfl, rfl, rfl, rfl, rfl, fun g => absurd g hf⟩
theorem byte_eq {b : UInt8} {n : Nat} (h : (b.toNat : Int) = n) (c : UInt8) (hc : c.toNat = n) : b = c := UInt8.toNat_inj.1 (by omega)
theorem rParse10_c (l : List UInt8) : Cont Tryz.prog 10 [strV l] (numE (parseT l).1 (parseT l).2) := by
  -- where the text is one of a date and a time: its pieces
  have hor : (∃ y m d, ∃ h mi s f : Nat, validB y m d = true ∧ ((h < 24 ∧ mi < 60) ∧ s < 60 ∧ f < 1000) ∧ l = dateL y m d ++ 32 :: lit h mi s f) ∨ parseT l = (0, 7) := by
    rcases parseT_or l with ⟨y, m, d, ms, hv, hb, he⟩ | e
    · obtain ⟨h, mi, s, f, hp, rfl⟩ := parts hb
      rw [textS_lit hp] at he
      exact .inl ⟨y, m, d, h, mi, s, f, hv, hp, he⟩
    · exact .inr e
  have hAt : ∀ {y m d : Int} {h mi s f : Nat}, validB y m d = true → ((h < 24 ∧ mi < 60) ∧ s < 60 ∧ f < 1000) → l = dateL y m d ++ 32 :: lit h mi s f → parseT l = atS y m d ((((h * 60 + mi) * 60 + s) * 1000 + f : Nat) : Int) := by
    intro y m d h mi s f hv hp he
    rw [he, ← textS_lit hp, parseT_txt hv (by omega)]
  have p0 := rparse_c (l.take 10)
  have p1 := rnum10_c ((l.drop 11).take 2) (c := 2) (by decide)
  have p2 := rnum10_c ((l.drop 14).take 2) (c := 2) (by decide)
  have p3 := rnum10_c ((l.drop 17).take 2) (c := 2) (by decide)
  have p4 := rnum10_c (l.drop 20) (c := 3) (by decide)
  by_cases hl : l.length = 19 ∨ l.length = 23
  · cases hd : rparse (l.take 10) with
    | none =>
      rw [hd] at p0
      have e : parseT l = (0, 7) := by
        rcases hor with ⟨y, m, d, h, mi, s, f, hv, hp, he⟩ | e
        · obtain ⟨_, g2, _⟩ := fmt hv hp he
          rw [rparse_eq, g2, dateP_of hv] at hd
          cases hd
        · exact e
      rw [e]
      exact rp_none l hl p0 p1 p2 p3
    | some x =>
      obtain ⟨y, m, d⟩ := x
      rw [hd] at p0
      rw [rparse_eq] at hd
      obtain ⟨hv, hdl⟩ := dateP_iff.1 hd
      by_cases hg : ((num10 ((l.drop 11).take 2) 2).2 = true ∧ (num10 ((l.drop 14).take 2) 2).2 = true ∧ (num10 ((l.drop 17).take 2) 2).2 = true) ∧ (((nth l 10).toNat : Int) = 32 ∧ ((nth l 13).toNat : Int) = 58 ∧ ((nth l 16).toNat : Int) = 58) ∧ (num10 ((l.drop 11).take 2) 2).1 ≤ 23 ∧ (num10 ((l.drop 14).take 2) 2).1 ≤ 59 ∧ (num10 ((l.drop 17).take 2) 2).1 ≤ 59
      · obtain ⟨⟨k1, k2, k3⟩, ⟨k4, k5, k6⟩, k7, k8, k9⟩ := hg
        obtain ⟨a1, b1, c1, d1, v1⟩ := num10_inv2 k1
        obtain ⟨a2, b2, c2, d2, v2⟩ := num10_inv2 k2
        obtain ⟨a3, b3, c3, d3, v3⟩ := num10_inv2 k3
        rw [v1] at k7 p1
        rw [v2] at k8 p2
        rw [v3] at k9 p3
        rw [k1] at p1
        rw [k2] at p2
        rw [k3] at p3
        have hpc := pieces (l := l) (by omega)
        rw [← hdl, byte_eq k4 32 rfl, byte_eq k5 58 rfl, byte_eq k6 58 rfl, d1, d2, d3] at hpc
        have e1 : (10 * a1 + b1) / 10 = a1 ∧ (10 * a1 + b1) % 10 = b1 := by omega
        have e2 : (10 * a2 + b2) / 10 = a2 ∧ (10 * a2 + b2) % 10 = b2 := by omega
        have e3 : (10 * a3 + b3) / 10 = a3 ∧ (10 * a3 + b3) % 10 = b3 := by omega
        rcases hl with hl | hl
        · have ht : l = dateL y m d ++ 32 :: lit (10 * a1 + b1) (10 * a2 + b2) (10 * a3 + b3) 0 := by
            rw [List.drop_eq_nil_of_le (by omega)] at hpc
            unfold lit
            rw [e1.1, e1.2, e2.1, e2.2, e3.1, e3.2, if_neg (by omega), List.append_nil]
            exact hpc
          rw [hAt hv (by omega) ht]
          refine rp_19 l hl p0 p1 p2 p3 k4 k5 k6 (by omega) (by omega) (by omega) ?_
          have q := rat_c (y := y) (m := m) (d := d) (ms := (((((10 * a1 + b1) * 60 + (10 * a2 + b2)) * 60 + (10 * a3 + b3)) * 1000 + 0 : Nat) : Int)) (by omega)
          rw [show ((10 * a1 + b1 : Nat) : Int) * 3600000 + ((10 * a2 + b2 : Nat) : Int) * 60000 + ((10 * a3 + b3 : Nat) : Int) * 1000 + 0 = (((((10 * a1 + b1) * 60 + (10 * a2 + b2)) * 60 + (10 * a3 + b3)) * 1000 + 0 : Nat) : Int) by omega]
          exact q
        · by_cases hn : (num10 (l.drop 20) 3).2 = true ∧ ((nth l 19).toNat : Int) = 46 ∧ (num10 (l.drop 20) 3).1 ≠ 0
          · obtain ⟨n1, n2, n3⟩ := hn
            obtain ⟨a4, b4, c4, ⟨c5, c6, c7⟩, d4, v4⟩ := num10_inv3 n1
            rw [v4] at n3 p4
            rw [n1] at p4
            have e19 : l.drop 19 = nth l 19 :: l.drop 20 := drop_cons (i := 19) (by omega)
            have ht : l = dateL y m d ++ 32 :: lit (10 * a1 + b1) (10 * a2 + b2) (10 * a3 + b3) (100 * a4 + 10 * b4 + c4) := by
              rw [e19, byte_eq n2 46 rfl, d4] at hpc
              unfold lit
              rw [e1.1, e1.2, e2.1, e2.2, e3.1, e3.2, if_pos (by omega), show (100 * a4 + 10 * b4 + c4) / 100 = a4 by omega, show (100 * a4 + 10 * b4 + c4) / 10 % 10 = b4 by omega, show (100 * a4 + 10 * b4 + c4) % 10 = c4 by omega]
              exact hpc
            rw [hAt hv (by omega) ht]
            refine rp_23 l hl p0 p1 p2 p3 k4 k5 k6 (by omega) (by omega) (by omega) p4 n2 (by omega) ?_
            have q := rat_c (y := y) (m := m) (d := d) (ms := (((((10 * a1 + b1) * 60 + (10 * a2 + b2)) * 60 + (10 * a3 + b3)) * 1000 + (100 * a4 + 10 * b4 + c4) : Nat) : Int)) (by omega)
            rw [show ((10 * a1 + b1 : Nat) : Int) * 3600000 + ((10 * a2 + b2 : Nat) : Int) * 60000 + ((10 * a3 + b3 : Nat) : Int) * 1000 + ((100 * a4 + 10 * b4 + c4 : Nat) : Int) = (((((10 * a1 + b1) * 60 + (10 * a2 + b2)) * 60 + (10 * a3 + b3)) * 1000 + (100 * a4 + 10 * b4 + c4) : Nat) : Int) by omega]
            exact q
          · have e : parseT l = (0, 7) := by
              rcases hor with ⟨y', m', d', h, mi, s, f, hv', hp, he⟩ | e
              · obtain ⟨f1, _, _, _, _, _, _, _, f9⟩ := fmt hv' hp he
                by_cases hf : 0 < f
                · obtain ⟨f10, f11⟩ := f9 hf
                  refine absurd ?_ hn
                  rw [f11, num10_3 (by omega) (by omega) (by omega), f10]
                  exact ⟨rfl, rfl, by dsimp only; omega⟩
                · rw [if_neg hf] at f1
                  omega
              · exact e
            rw [e]
            exact rp_frac l hl p0 p1 p2 p3 k4 k5 k6 (by omega) (by omega) (by omega) p4 hn
      · have e : parseT l = (0, 7) := by
          rcases hor with ⟨y', m', d', h, mi, s, f, hv', hp, he⟩ | e
          · obtain ⟨_, _, f3, f4, f5, f6, f7, f8, _⟩ := fmt hv' hp he
            refine absurd ?_ hg
            rw [f3, f4, f5, f6, f7, f8, num10_2 (by omega) (by omega), num10_2 (by omega) (by omega), num10_2 (by omega) (by omega)]
            exact ⟨⟨rfl, rfl, rfl⟩, ⟨rfl, rfl, rfl⟩, by dsimp only; omega, by dsimp only; omega, by dsimp only; omega⟩
          · exact e
        rw [e]
        exact rp_bad l hl p0 p1 p2 p3 hg
  · have e : parseT l = (0, 7) := by
      rcases hor with ⟨y', m', d', h, mi, s, f, hv', hp, he⟩ | e
      · obtain ⟨f1, _⟩ := fmt hv' hp he
        split at f1 <;> omega
      · exact e
    rw [e]
    exact rp_len l (by omega)
theorem clockTexts_l (l : List UInt8) {t n e : Int} {x : List UInt8} (hl : 100 < l.length) : ContIn Tryz.prog Laid 3 [.int .i64 t, strV l] (.bool true) := fun w hI => by
  refine enter0 Tryz.func3 rfl rfl rfl ?_
  repeat' (first
    | (show YK _ _ _ _ _ _ _; first | refine YK.mk (y_callIn (awake10_c) (fun _ hw => hI.keep hw.ext) rfl (by decide +kernel)) ?_)
    | (show YK _ _ _ _ _ _ _; refine YK.ofV vAuto ?_)
    | (show VK _ _ _ _ _ _ _; refine VK.mk vAuto ?_)
    | (show RS _ _ _ _ _ _ _ _; first | (refine nxRS ?_) | (refine nxRS1 fun _ => ?_))
    | (show RM _ _ _ _ _ _ _ _ _ _; first | (refine nxRM ?_) | (refine nxRM1 fun _ => ?_))
    | (show YG _ _ _ _ _ _ _ _; refine YG.mk (fun hb => by (try (have hc := And.left hb; have hb := And.right hb; rw [hc])); (try rw [hb]); first | exact (y_callIn (awake10_c) (fun _ hw => hI.keep hw.ext) rfl (by decide +kernel)) | exact V.y vAuto) ?_)
    | (show VG _ _ _ _ _ _ _ _; refine VG.mk (fun hb => by (try (have hc := And.left hb; have hb := And.right hb; rw [hc])); (try rw [hb]); exact vAuto) ?_)
    | (refine nxVS ?_)
    | (refine nxGS ?_)
    | (refine nxX ?_)
    | (refine G.condN rfl (fun hc => ?_) (fun hc => ?_) <;> (try first | exact False.elim hc | (exfalso; omega))))
  exact X.ret (vs := [_]) rfl ⟨rfl, rfl⟩ rfl (fun w hw => ⟨rfl, hw.ext⟩)
theorem clockTexts_s (l : List UInt8) {t e : Int} {x : List UInt8} (hl : l.length ≤ 100) (q1 : ContIn Tryz.prog Laid 7 [.int .i64 t] (.tuple [strV x, .int .i64 e].toArray)) (q2 : Cont Tryz.prog 8 [.int .i64 t] (.tuple [strV x, .int .i64 e].toArray)) : ContIn Tryz.prog Laid 3 [.int .i64 t, strV l] (.bool true) := fun w hI => by
  have p1 := parseT_c l (by omega)
  have p2 := rParse10_c l
  generalize parseT l = v at p1 p2
  refine enter0 Tryz.func3 rfl rfl rfl ?_
  repeat' (first
    | (show YK _ _ _ _ _ _ _; first | refine YK.mk (y_callIn (awake10_c) (fun _ hw => hI.keep hw.ext) rfl (by decide +kernel)) ?_ | refine YK.mk (y_callIn (q1) (fun _ hw => hI.keep hw.ext) ⟨rfl, rfl⟩ (by decide +kernel)) ?_ | refine YK.mk (y_callA (q2) ⟨rfl, rfl⟩) ?_ | refine YK.mk (y_callIn (p1) (fun _ hw => hI.keep hw.ext) ⟨rfl, rfl⟩ (by decide +kernel)) ?_ | refine YK.mk (y_callA (p2) ⟨rfl, rfl⟩) ?_)
    | (show YK _ _ _ _ _ _ _; refine YK.ofV vAuto ?_)
    | (show VK _ _ _ _ _ _ _; refine VK.mk vAuto ?_)
    | (show RS _ _ _ _ _ _ _ _; first | (refine nxRS ?_) | (refine nxRS1 fun _ => ?_))
    | (show RM _ _ _ _ _ _ _ _ _ _; first | (refine nxRM ?_) | (refine nxRM1 fun _ => ?_))
    | (show YG _ _ _ _ _ _ _ _; refine YG.mk (fun hb => by (try (have hc := And.left hb; have hb := And.right hb; rw [hc])); (try rw [hb]); first | exact (y_callIn (awake10_c) (fun _ hw => hI.keep hw.ext) rfl (by decide +kernel)) | exact (y_callIn (q1) (fun _ hw => hI.keep hw.ext) ⟨rfl, rfl⟩ (by decide +kernel)) | exact (y_callA (q2) ⟨rfl, rfl⟩) | exact (y_callIn (p1) (fun _ hw => hI.keep hw.ext) ⟨rfl, rfl⟩ (by decide +kernel)) | exact (y_callA (p2) ⟨rfl, rfl⟩) | exact V.y vAuto) ?_)
    | (show VG _ _ _ _ _ _ _ _; refine VG.mk (fun hb => by (try (have hc := And.left hb; have hb := And.right hb; rw [hc])); (try rw [hb]); exact vAuto) ?_)
    | (refine nxVS ?_)
    | (refine nxGS ?_)
    | (refine nxX ?_)
    | (refine G.condN rfl (fun hc => ?_) (fun hc => ?_) <;> (try first | exact False.elim hc | (exfalso; omega))))
  refine X.ret (vs := [_]) rfl ⟨rfl, rfl⟩ rfl (fun w hw => ⟨ret_bool ?_, hw.ext⟩)
  simp [eqCells, vEq]
theorem clockTexts_c (l : List UInt8) {t : Int} (h : I64 t) : ContIn Tryz.prog Laid 3 [.int .i64 t, strV l] (.bool true) := by
  by_cases hl : 100 < l.length
  · exact clockTexts_l (n := 0) (e := 0) (x := []) l hl
  cases hb : instB t with
  | false => exact clockTexts_s l (by omega) (fun w _ => textT_e (split_r h hb) (.inl rfl) w) (rText10_e (by decide) (rsplit_r h hb))
  | true =>
    by_cases hr : t / 86400000 < -730119 ∨ 2921939 < t / 86400000
    · exact clockTexts_s l (by omega) (fun w _ => textT_e (split_f hb hr) (.inr rfl) w) (rText10_e (by decide) (rsplit_f hb hr))
    · obtain ⟨y, m, d, hv, hn⟩ := date_ex (t / 86400000) (by omega) (by omega)
      exact clockTexts_s l (by omega) (textT_t hb hv hn) (rText10_t hb hv hn)
end Go.Proofs.YtpnfmbfehbnljaaGreatDoor
