/- The calendar's functions: from numbers to dates. -/
import Derived.Test.YtpnfmbfehbnljaaGreatDoorCal2
set_option linter.unusedVariables false
namespace Go.Proofs.YtpnfmbfehbnljaaGreatDoor
open Go.RowKit

/-- sort.Search: given the place r at which p turns true. -/
theorem search_c {I : World → Prop} (hI : ∀ w w', I w → Below w.heap.size w w' → I w') {f : FuncId} {cap : List Value} (hg : isGo Tryz.prog f = true) (p : Int → Bool) (n r : Int) (hn : n ≤ 1000000)
    (hf : ∀ i, 0 ≤ i → i < n → ContIn Tryz.prog I f ([.int .i64 i] ++ cap) (.bool (p i))) (h0 : 0 ≤ r) (hr : r ≤ n) (hlo : ∀ i, 0 ≤ i → i < r → p i = false) (hhi : ∀ i, r ≤ i → i < n → p i = true) :
    ContIn Tryz.prog I 57 [.int .i64 n, .func (.func f) #[] cap.toArray] (.int .i64 r) := fun w hw0 => by
  refine enter0 Tryz.func57 rfl rfl rfl ?_
  repeat' (first
    | (refine nxV ?_)
    | (show RS _ _ _ _ _ _ _ _; first | (refine nxRS ?_) | (refine nxRS1 fun _ => ?_))
    | (show RM _ _ _ _ _ _ _ _ _ _; first | (refine nxRM ?_) | (refine nxRM1 fun _ => ?_))
    | (refine nxG ?_)
    | (refine nxX ?_)
    | (refine G.condN rfl (fun hc => ?_) (fun hc => ?_) <;> (try first | exact False.elim hc | (exfalso; omega))))
  refine G.loop (ι := Int × Int) (fun x => [(1, .func (.func f) #[] cap.toArray), (5, .int .i64 x.1), (6, .int .i64 x.2)]) (fun _ => [])
    (fun x => 0 ≤ x.1 ∧ x.1 ≤ r ∧ r ≤ x.2 ∧ x.2 ≤ n) (fun x => (x.2 - x.1).toNat) (0, n) ⟨by omega, by omega, by omega, by omega⟩ ⟨rfl, rfl, rfl, trivial⟩ (fun w h => h) ?_
  rintro ⟨i, j⟩ mx ⟨h1, h2, h3, h4⟩ hmx
  dsimp only at h1 h2 h3 h4 hmx ⊢
  repeat' (first
    | (show YK _ _ _ _ _ ⟨_, .call _, _, _, _, _⟩ _; refine YK.mk (y_callV (C := I) rfl (hf ((i + j) / 2) (by omega) (by omega)) (fun w hw => hI _ _ hw0 hw.ext) ⟨rfl, rfl⟩ hg) ?_)
    | (refine nxV ?_)
    | (show RS _ _ _ _ _ _ _ _; first | (refine nxRS ?_) | (refine nxRS1 fun _ => ?_))
    | (show RM _ _ _ _ _ _ _ _ _ _; first | (refine nxRM ?_) | (refine nxRM1 fun _ => ?_))
    | (refine nxG ?_)
    | (refine nxX ?_)
    | (refine G.condN rfl (fun hc => ?_) (fun hc => ?_) <;> (try first | exact False.elim hc | (exfalso; omega))))
  · apply X.again ((i + j) / 2 + 1, j)
    · have : ¬ r ≤ (i + j) / 2 := fun h => by have := hhi _ h (by omega); simp_all
      simp only; omega
    · simp only; omega
    · exact ⟨rfl, rfl, rfl, trivial⟩
    · exact fun w h => h.sub (by repeat (first | exact List.Sublist.refl _ | apply List.Sublist.cons_cons | apply List.Sublist.cons))
  · apply X.again (i, (i + j) / 2)
    · have : ¬ (i + j) / 2 < r := fun h => by have := hlo _ (by omega) h; simp_all
      simp only; omega
    · simp only; omega
    · exact ⟨rfl, rfl, rfl, trivial⟩
    · exact fun w h => h.sub (by repeat (first | exact List.Sublist.refl _ | apply List.Sublist.cons_cons | apply List.Sublist.cons))
  · exact X.ret (vs := [_]) rfl ⟨rfl, rfl⟩ rfl (fun w hw => ⟨ret_int (by omega), hw.ext⟩)

theorem dateOf1_c (i N : Int) (bn : Nat) (h1 : 0 ≤ i) (h2 : i ≤ 9997) : ContIn Tryz.prog (fun w => w.cell? ⟨bn, 0, none⟩ = some (.int .i64 N)) 58 [.int .i64 i, .pointer (some ⟨bn, 0, none⟩)] (.bool (decide (N < before (2 + i)))) := fun w hw0 => by
  refine enter0 Tryz.func58 rfl rfl rfl ?_
  repeat' (first
    | (show VK _ _ _ _ _ ⟨_, .load _ _, _, _, _, _⟩ _; refine VK.mk (y_loadX rfl hw0 (by decide +kernel)) ?_)
    | (show YK _ _ _ _ _ ⟨_, .load _ _, _, _, _, _⟩ _; refine YK.ofV (y_loadX rfl hw0 (by decide +kernel)) ?_)
    | (show YK _ _ _ _ _ _ _; first | refine YK.mk (y_callA (before_c _ (by omega) (by omega)) ⟨rfl, rfl⟩) ?_)
    | (show YK _ _ _ _ _ _ _; refine YK.ofV vAuto ?_)
    | (show VK _ _ _ _ _ _ _; refine VK.mk vAuto ?_)
    | (show RS _ _ _ _ _ _ _ _; first | (refine nxRS ?_) | (refine nxRS1 fun _ => ?_))
    | (show RM _ _ _ _ _ _ _ _ _ _; first | (refine nxRM ?_) | (refine nxRM1 fun _ => ?_))
    | (show YG _ _ _ _ _ _ _ _; refine YG.mk (fun hb => by (try (have hc := And.left hb; have hb := And.right hb; rw [hc])); (try rw [hb]); first | exact (y_callA (before_c _ (by omega) (by omega)) ⟨rfl, rfl⟩) | exact V.y vAuto) ?_)
    | (show VG _ _ _ _ _ _ _ _; refine VG.mk (fun hb => by (try (have hc := And.left hb; have hb := And.right hb; rw [hc])); (try rw [hb]); exact vAuto) ?_)
    | (refine G.mixedA 1 [.go 0, .go 1, .go 3, .go 2, .go 4, .go 5] ?_)
    | (refine nxX ?_)
    | (refine G.condN rfl (fun hc => ?_) (fun hc => ?_) <;> (try first | exact False.elim hc | (exfalso; omega))))
  exact X.ret (vs := [_]) rfl ⟨rfl, rfl⟩ rfl (fun w hw => ⟨rfl, hw.ext⟩)

theorem dateOf_f {n : Int} (h : n < -730119 ∨ 2921939 < n) : Cont Tryz.prog 37 [.int .i64 n] (e2 (dateV 0 0 0) 2) := fun w => by
  have h2 := before2000
  have h3 := before_10000
  refine enter0 Tryz.func37 rfl rfl rfl ?_
  repeat' (first
    | (show YK _ _ _ _ _ _ _; first | refine YK.mk (y_callA (before_c _ (by omega) (by omega)) ⟨rfl, rfl⟩) ?_)
    | (show YK _ _ _ _ _ _ _; refine YK.ofV vAuto ?_)
    | (show VK _ _ _ _ _ _ _; refine VK.mk vAuto ?_)
    | (show RS _ _ _ _ _ _ _ _; first | (refine nxRS ?_) | (refine nxRS1 fun _ => ?_))
    | (show RM _ _ _ _ _ _ _ _ _ _; first | (refine nxRM ?_) | (refine nxRM1 fun _ => ?_))
    | (show YG _ _ _ _ _ _ _ _; refine YG.mk (fun hb => by (try (have hc := And.left hb; have hb := And.right hb; rw [hc])); (try rw [hb]); first | exact (y_callA (before_c _ (by omega) (by omega)) ⟨rfl, rfl⟩) | exact V.y vAuto) ?_)
    | (show VG _ _ _ _ _ _ _ _; refine VG.mk (fun hb => by (try (have hc := And.left hb; have hb := And.right hb; rw [hc])); (try rw [hb]); exact vAuto) ?_)
    | (refine G.mixedA 2 [.go 0, .go 1, .go 2, .go 3, .go 4, .go 5, .go 7, .go 6, .go 8, .go 9, .go 10] ?_)
    | (refine G.mixedA 6 [.go 0, .go 1, .go 2, .go 3, .go 4, .go 5, .go 6, .go 7] ?_)
    | (refine G.mixedA 7 [.go 0, .go 1, .go 2, .go 3, .go 4, .go 5, .go 6, .go 7] ?_)
    | (refine G.mixedA 8 [.go 0, .go 1, .go 2, .go 3, .go 4, .go 5, .go 6, .go 7, .go 8, .go 9] ?_)
    | (refine nxX ?_)
    | (refine G.condN rfl (fun hc => ?_) (fun hc => ?_) <;> (try first | exact False.elim hc | (exfalso; omega))))
  all_goals exact X.ret (vs := [_, _]) rfl ⟨⟨_, _, _, _, rfl, (by exact memA), (by (repeat (first | exact .nil | apply LenIs.cons))), by decide +kernel, rfl⟩, rfl, rfl⟩ rfl (fun w hw => ⟨rfl, hw.ext⟩)
theorem dateOf_t {n y m d : Int} (hv : validB y m d = true) (hnum : num y m d = n) : Cont Tryz.prog 37 [.int .i64 n] (e2 (dateV y m d) 0) := fun w => by
  have h2 := before2000
  have h3 := before_10000
  have hb := num_bd hv
  have hin := num_in hv
  obtain ⟨hy, hm, hd⟩ := valid_of hv
  have hyb := before_bd hy.1 (by omega)
  rw [hnum] at hb hin
  have hs : ∀ i, 0 ≤ i → i < y - 1 → decide (n + before 2000 < before (2 + i)) = false := fun i h0 hi => by
    have := before_mono (a := 2 + i) (b := y) (by omega) (by omega)
    simp; omega
  have hs2 : ∀ i, y - 1 ≤ i → i < 9998 → decide (n + before 2000 < before (2 + i)) = true := fun i h0 hi => by
    have := before_mono (a := y + 1) (b := 2 + i) (by omega) (by omega)
    simp; omega
  refine enter0 Tryz.func37 rfl rfl rfl ?_
  repeat' (first
    | (show YK _ _ _ _ _ _ _; first | refine YK.mk (y_callA (before_c _ (by omega) (by omega)) ⟨rfl, rfl⟩) ?_)
    | (show YK _ _ _ _ _ _ _; refine YK.ofV vAuto ?_)
    | (show VK _ _ _ _ _ _ _; refine VK.mk vAuto ?_)
    | (show RS _ _ _ _ _ _ _ _; first | (refine nxRS ?_) | (refine nxRS1 fun _ => ?_))
    | (show RM _ _ _ _ _ _ _ _ _ _; first | (refine nxRM ?_) | (refine nxRM1 fun _ => ?_))
    | (show YG _ _ _ _ _ _ _ _; refine YG.mk (fun hb => by (try (have hc := And.left hb; have hb := And.right hb; rw [hc])); (try rw [hb]); first | exact (y_callA (before_c _ (by omega) (by omega)) ⟨rfl, rfl⟩) | exact V.y vAuto) ?_)
    | (show VG _ _ _ _ _ _ _ _; refine VG.mk (fun hb => by (try (have hc := And.left hb; have hb := And.right hb; rw [hc])); (try rw [hb]); exact vAuto) ?_)
    | (refine G.mixedA 2 [.go 0, .go 1, .go 2, .go 3, .go 4, .go 5, .go 7, .go 6, .go 8, .go 9, .go 10] ?_)
    | (refine G.mixedA 6 [.go 0, .go 1, .go 2, .go 3, .go 4, .go 5, .go 6, .go 7] ?_)
    | (refine G.mixedA 7 [.go 0, .go 1, .go 2, .go 3, .go 4, .go 5, .go 6, .go 7] ?_)
    | (refine G.mixedA 8 [.go 0, .go 1, .go 2, .go 3, .go 4, .go 5, .go 6, .go 7, .go 8, .go 9] ?_)
    | (refine nxX ?_)
    | (refine G.condN rfl (fun hc => ?_) (fun hc => ?_) <;> (try first | exact False.elim hc | (exfalso; omega))))
  rename_i bn bd
  refine YK.mk (y_callIn (search_c (I := fun w => w.cell? ⟨bn, 0, none⟩ = some (.int .i64 (n + before 2000))) (fun w w' h hb => (hb.cell (World.block_lt_of_cell? w _ h)).trans h) (by decide +kernel) (cap := [.pointer (some ⟨bn, 0, none⟩)])
      (fun i => decide (n + before 2000 < before (2 + i))) 9998 (y - 1) (by omega) (fun i h0 hi => dateOf1_c i _ _ h0 (by omega)) (by omega) (by omega) hs hs2) (fun w hw => hw.cell (.tail _ (.head _)) 0) ⟨rfl, rfl, rfl⟩ (by decide +kernel)) ?_
  repeat' (first
    | (show YK _ _ _ _ _ ⟨_, .binOp .add _ _ _ _, _, _, _, _⟩ _; refine YK.ofV (v := .int .i64 y) (V.int_ (y_add64 (by rfl) (by rfl) (by omega)) (by omega)) ?_)
    | (show YK _ _ _ _ _ _ _; first | refine YK.mk (y_callA (before_c _ (by omega) (by omega)) ⟨rfl, rfl⟩) ?_)
    | (show YK _ _ _ _ _ _ _; refine YK.ofV vAuto ?_)
    | (show VK _ _ _ _ _ _ _; refine VK.mk vAuto ?_)
    | (show RS _ _ _ _ _ _ _ _; first | (refine nxRS ?_) | (refine nxRS1 fun _ => ?_))
    | (show RM _ _ _ _ _ _ _ _ _ _; first | (refine nxRM ?_) | (refine nxRM1 fun _ => ?_))
    | (show YG _ _ _ _ _ _ _ _; refine YG.mk (fun hb => by (try (have hc := And.left hb; have hb := And.right hb; rw [hc])); (try rw [hb]); first | exact (y_callA (before_c _ (by omega) (by omega)) ⟨rfl, rfl⟩) | exact V.y vAuto) ?_)
    | (show VG _ _ _ _ _ _ _ _; refine VG.mk (fun hb => by (try (have hc := And.left hb; have hb := And.right hb; rw [hc])); (try rw [hb]); exact vAuto) ?_)
    | (refine G.mixedA 2 [.go 0, .go 1, .go 2, .go 3, .go 4, .go 5, .go 7, .go 6, .go 8, .go 9, .go 10] ?_)
    | (refine G.mixedA 6 [.go 0, .go 1, .go 2, .go 3, .go 4, .go 5, .go 6, .go 7] ?_)
    | (refine G.mixedA 7 [.go 0, .go 1, .go 2, .go 3, .go 4, .go 5, .go 6, .go 7] ?_)
    | (refine G.mixedA 8 [.go 0, .go 1, .go 2, .go 3, .go 4, .go 5, .go 6, .go 7, .go 8, .go 9] ?_)
    | (refine nxX ?_)
    | (refine G.condN rfl (fun hc => ?_) (fun hc => ?_) <;> (try first | exact False.elim hc | (exfalso; omega))))
  rename_i b
  have hdy : n + before 2000 - before y + 1 = doy y m d := by rw [← hnum]; unfold num; omega
  refine G.loop (ι := Nat × Int) (fun x => [(2, .pointer (some ⟨bd, 0, none⟩)), (3, .int .i64 0), (5, .pointer (some ⟨b, 0, none⟩))])
    (fun x => [.blk b 36 [.int .i64 y, .int .i64 ((x.1 : Int) + 1), .int .i64 x.2], .blk bd 36 [.int .i64 0, .int .i64 0, .int .i64 0], .blk bn 3 [.int .i64 (n + before 2000)]])
    (fun x => (x.1 : Int) + 1 ≤ m ∧ x.2 = doy y m d - cum y x.1) (fun x => 12 - x.1) (0, n + before 2000 - before y + 1) ⟨by omega, by simp [cum, hdy]⟩ ⟨rfl, rfl, rfl, trivial⟩ (fun w h => h) ?_
  rintro ⟨k, s⟩ mx ⟨hk, hs⟩ hmx
  dsimp only at hk hs hmx ⊢
  have hc0 := cum_bd y k
  have hc1 := dim_bd y ((k : Int) + 1)
  have hdm := dim_bd y m
  obtain ⟨j, hj⟩ : ∃ j : Nat, m = (j : Int) + 1 := ⟨(m - 1).toNat, by omega⟩
  have ej : (m - 1).toNat = j := by omega
  have hcj := cum_bd y j
  have hD : doy y m d = d + cum y j := by unfold doy; rw [ej]
  by_cases hlast : j = k
  · have hm1 : (k : Int) + 1 = m := by omega
    have : dim y ((k : Int) + 1) = dim y m := by rw [hm1]
    have hs1 : s = d := by rw [hs, hD, hlast]; omega
    repeat' (first
    | (show YK _ _ _ _ _ _ _; first | refine YK.mk (y_callA (days_c _ _ (by omega) (by omega)) ⟨rfl, rfl, rfl⟩) ?_)
    | (show YK _ _ _ _ _ _ _; refine YK.ofV vAuto ?_)
    | (show VK _ _ _ _ _ _ _; refine VK.mk vAuto ?_)
    | (show RS _ _ _ _ _ _ _ _; first | (refine nxRS ?_) | (refine nxRS1 fun _ => ?_))
    | (show RM _ _ _ _ _ _ _ _ _ _; first | (refine nxRM ?_) | (refine nxRM1 fun _ => ?_))
    | (show YG _ _ _ _ _ _ _ _; refine YG.mk (fun hb => by (try (have hc := And.left hb; have hb := And.right hb; rw [hc])); (try rw [hb]); first | exact (y_callA (days_c _ _ (by omega) (by omega)) ⟨rfl, rfl, rfl⟩) | exact V.y vAuto) ?_)
    | (show VG _ _ _ _ _ _ _ _; refine VG.mk (fun hb => by (try (have hc := And.left hb; have hb := And.right hb; rw [hc])); (try rw [hb]); exact vAuto) ?_)
    | (refine G.mixedA 2 [.go 0, .go 1, .go 2, .go 3, .go 4, .go 5, .go 7, .go 6, .go 8, .go 9, .go 10] ?_)
    | (refine G.mixedA 6 [.go 0, .go 1, .go 2, .go 3, .go 4, .go 5, .go 6, .go 7] ?_)
    | (refine G.mixedA 7 [.go 0, .go 1, .go 2, .go 3, .go 4, .go 5, .go 6, .go 7] ?_)
    | (refine G.mixedA 8 [.go 0, .go 1, .go 2, .go 3, .go 4, .go 5, .go 6, .go 7, .go 8, .go 9] ?_)
    | (refine nxX ?_)
    | (refine G.condN rfl (fun hc => ?_) (fun hc => ?_) <;> (try first | exact False.elim hc | (exfalso; omega))))
    rw [hm1, hs1]
    exact X.ret (vs := [_, _]) rfl ⟨⟨_, _, _, _, rfl, (by exact memA), (by (repeat (first | exact .nil | apply LenIs.cons))), by decide +kernel, rfl⟩, rfl, rfl⟩ rfl (fun w hw => ⟨rfl, hw.ext⟩)
  · have hcm := cum_mono y (a := k + 1) (b := j) (by omega)
    simp only [cum] at hcm
    repeat' (first
    | (show YK _ _ _ _ _ _ _; first | refine YK.mk (y_callA (days_c _ _ (by omega) (by omega)) ⟨rfl, rfl, rfl⟩) ?_)
    | (show YK _ _ _ _ _ _ _; refine YK.ofV vAuto ?_)
    | (show VK _ _ _ _ _ _ _; refine VK.mk vAuto ?_)
    | (show RS _ _ _ _ _ _ _ _; first | (refine nxRS ?_) | (refine nxRS1 fun _ => ?_))
    | (show RM _ _ _ _ _ _ _ _ _ _; first | (refine nxRM ?_) | (refine nxRM1 fun _ => ?_))
    | (show YG _ _ _ _ _ _ _ _; refine YG.mk (fun hb => by (try (have hc := And.left hb; have hb := And.right hb; rw [hc])); (try rw [hb]); first | exact (y_callA (days_c _ _ (by omega) (by omega)) ⟨rfl, rfl, rfl⟩) | exact V.y vAuto) ?_)
    | (show VG _ _ _ _ _ _ _ _; refine VG.mk (fun hb => by (try (have hc := And.left hb; have hb := And.right hb; rw [hc])); (try rw [hb]); exact vAuto) ?_)
    | (refine G.mixedA 2 [.go 0, .go 1, .go 2, .go 3, .go 4, .go 5, .go 7, .go 6, .go 8, .go 9, .go 10] ?_)
    | (refine G.mixedA 6 [.go 0, .go 1, .go 2, .go 3, .go 4, .go 5, .go 6, .go 7] ?_)
    | (refine G.mixedA 7 [.go 0, .go 1, .go 2, .go 3, .go 4, .go 5, .go 6, .go 7] ?_)
    | (refine G.mixedA 8 [.go 0, .go 1, .go 2, .go 3, .go 4, .go 5, .go 6, .go 7, .go 8, .go 9] ?_)
    | (refine nxX ?_)
    | (refine G.condN rfl (fun hc => ?_) (fun hc => ?_) <;> (try first | exact False.elim hc | (exfalso; omega))))
    · apply X.again (k + 1, s - dim y ((k : Int) + 1))
      · exact ⟨by simp only; omega, by simp only [cum]; omega⟩
      · simp only; omega
      · exact ⟨rfl, rfl, rfl, trivial⟩
      · exact fun w h => h.sub (by repeat (first | exact List.Sublist.refl _ | apply List.Sublist.cons_cons | apply List.Sublist.cons))

theorem rdateOf_c {n y m d : Int} (hv : validB y m d = true) (hnum : num y m d = n) : Cont Tryz.prog 44 [.int .i64 n] (dateV y m d) := fun w => by
  have h2 := before2000
  have hb := num_bd hv
  have hin := num_in hv
  obtain ⟨hy, hm, hd⟩ := valid_of hv
  have hyb := before_bd hy.1 (by omega)
  rw [hnum] at hb hin
  obtain ⟨j, hj⟩ : ∃ j : Nat, m = (j : Int) + 1 := ⟨(m - 1).toNat, by omega⟩
  have ej : (m - 1).toNat = j := by omega
  have hcj := cum_bd y j
  have hdm := dim_bd y m
  have hD : doy y m d = d + cum y j := by unfold doy; rw [ej]
  have hdy : n - (before y - before 2000) = doy y m d - 1 := by rw [← hnum]; unfold num; omega
  refine enter0 Tryz.func44 rfl rfl rfl ?_
  repeat' (first
    | (refine nxV ?_)
    | (show RS _ _ _ _ _ _ _ _; first | (refine nxRS ?_) | (refine nxRS1 fun _ => ?_))
    | (show RM _ _ _ _ _ _ _ _ _ _; first | (refine nxRM ?_) | (refine nxRM1 fun _ => ?_))
    | (refine nxG ?_)
    | (refine nxX ?_)
    | (refine G.condN rfl (fun hc => ?_) (fun hc => ?_) <;> (try first | exact False.elim hc | (exfalso; omega))))
  rename_i bd
  refine G.loop (ι := Int × Int) (fun x => [(0, .int .i64 n), (2, .pointer (some ⟨bd, 0, none⟩)), (3, .int .i64 x.1), (4, .int .i64 x.2)]) (fun _ => [.blk bd 36 [.int .i64 0, .int .i64 0, .int .i64 0]])
    (fun x => 1 ≤ x.1 ∧ x.1 ≤ y ∧ y ≤ x.2 ∧ x.2 ≤ 9999) (fun x => (x.2 - x.1).toNat) (1, 9999) ⟨by omega, by omega, by omega, by omega⟩ ⟨rfl, rfl, rfl, rfl, trivial⟩ (fun w h => h) ?_
  rintro ⟨lo, hi⟩ mx ⟨h3, h4, h5, h6⟩ hmx
  dsimp only at h3 h4 h5 h6 hmx ⊢
  by_cases hlt : lo < hi
  · have hq := before_bd (y := (lo + hi + 1) / 2) (by omega) (by omega)
    repeat' (first
    | (show YK _ _ _ _ _ _ _; first | refine YK.mk (y_callA (rbefore_c _ (by omega) (by omega)) ⟨rfl, rfl⟩) ?_)
    | (show YK _ _ _ _ _ _ _; refine YK.ofV vAuto ?_)
    | (show VK _ _ _ _ _ _ _; refine VK.mk vAuto ?_)
    | (show RS _ _ _ _ _ _ _ _; first | (refine nxRS ?_) | (refine nxRS1 fun _ => ?_))
    | (show RM _ _ _ _ _ _ _ _ _ _; first | (refine nxRM ?_) | (refine nxRM1 fun _ => ?_))
    | (show YG _ _ _ _ _ _ _ _; refine YG.mk (fun hb => by (try (have hc := And.left hb; have hb := And.right hb; rw [hc])); (try rw [hb]); first | exact (y_callA (rbefore_c _ (by omega) (by omega)) ⟨rfl, rfl⟩) | exact V.y vAuto) ?_)
    | (show VG _ _ _ _ _ _ _ _; refine VG.mk (fun hb => by (try (have hc := And.left hb; have hb := And.right hb; rw [hc])); (try rw [hb]); exact vAuto) ?_)
    | (refine nxX ?_)
    | (refine G.condN rfl (fun hc => ?_) (fun hc => ?_) <;> (try first | exact False.elim hc | (exfalso; omega))))
    · have : (lo + hi + 1) / 2 ≤ y := Int.le_of_not_gt fun h => by have := before_mono (a := y + 1) (b := (lo + hi + 1) / 2) (by omega) (by omega); omega
      apply X.again ((lo + hi + 1) / 2, hi)
      · simp only; omega
      · simp only; omega
      · exact ⟨rfl, rfl, rfl, rfl, trivial⟩
      · exact fun w h => h.sub (by repeat (first | exact List.Sublist.refl _ | apply List.Sublist.cons_cons | apply List.Sublist.cons))
    · have : y < (lo + hi + 1) / 2 := Int.lt_of_not_ge fun h => by have := before_mono (a := (lo + hi + 1) / 2) (b := y) (by omega) (by omega); omega
      apply X.again (lo, (lo + hi + 1) / 2 - 1)
      · simp only; omega
      · simp only; omega
      · exact ⟨rfl, rfl, rfl, rfl, trivial⟩
      · exact fun w h => h.sub (by repeat (first | exact List.Sublist.refl _ | apply List.Sublist.cons_cons | apply List.Sublist.cons))
  · obtain rfl : lo = y := by omega
    repeat' (first
    | (show YK _ _ _ _ _ _ _; first | refine YK.mk (y_callA (rbefore_c _ (by omega) (by omega)) ⟨rfl, rfl⟩) ?_)
    | (show YK _ _ _ _ _ _ _; refine YK.ofV vAuto ?_)
    | (show VK _ _ _ _ _ _ _; refine VK.mk vAuto ?_)
    | (show RS _ _ _ _ _ _ _ _; first | (refine nxRS ?_) | (refine nxRS1 fun _ => ?_))
    | (show RM _ _ _ _ _ _ _ _ _ _; first | (refine nxRM ?_) | (refine nxRM1 fun _ => ?_))
    | (show YG _ _ _ _ _ _ _ _; refine YG.mk (fun hb => by (try (have hc := And.left hb; have hb := And.right hb; rw [hc])); (try rw [hb]); first | exact (y_callA (rbefore_c _ (by omega) (by omega)) ⟨rfl, rfl⟩) | exact V.y vAuto) ?_)
    | (show VG _ _ _ _ _ _ _ _; refine VG.mk (fun hb => by (try (have hc := And.left hb; have hb := And.right hb; rw [hc])); (try rw [hb]); exact vAuto) ?_)
    | (refine nxX ?_)
    | (refine G.condN rfl (fun hc => ?_) (fun hc => ?_) <;> (try first | exact False.elim hc | (exfalso; omega))))
    refine G.loop (ι := Nat × Int) (fun x => [(2, .pointer (some ⟨bd, 0, none⟩)), (3, .int .i64 lo), (6, .int .i64 x.2), (7, .int .i64 ((x.1 : Int) + 1))]) (fun _ => [.blk bd 36 [.int .i64 0, .int .i64 0, .int .i64 0]])
      (fun x => (x.1 : Int) + 1 ≤ m ∧ x.2 = doy lo m d - 1 - cum lo x.1) (fun x => 12 - x.1) (0, n - (before lo - before 2000)) ⟨by omega, by simp [cum, hdy]⟩ ⟨rfl, rfl, rfl, rfl, trivial⟩ (fun w h => h) ?_
    rintro ⟨k, s⟩ my ⟨hk, hs⟩ hmy
    dsimp only at hk hs hmy ⊢
    have hc0 := cum_bd lo k
    have hc1 := dim_bd lo ((k : Int) + 1)
    by_cases hlast : j = k
    · have hm1 : (k : Int) + 1 = m := by omega
      have : dim lo ((k : Int) + 1) = dim lo m := by rw [hm1]
      have hs1 : s = d - 1 := by rw [hs, hD, hlast]; omega
      repeat' (first
    | (show YK _ _ _ _ _ ⟨_, .binOp .add _ _ _ _, _, _, _, _⟩ _; refine YK.ofV (v := .int .i64 d) (V.int_ (y_add64 (by rfl) (by rfl) (by omega)) (by omega)) ?_)
    | (show YK _ _ _ _ _ _ _; first | refine YK.mk (y_callA (rdays_c _ _) ⟨rfl, rfl, rfl⟩) ?_)
    | (show YK _ _ _ _ _ _ _; refine YK.ofV vAuto ?_)
    | (show VK _ _ _ _ _ _ _; refine VK.mk vAuto ?_)
    | (show RS _ _ _ _ _ _ _ _; first | (refine nxRS ?_) | (refine nxRS1 fun _ => ?_))
    | (show RM _ _ _ _ _ _ _ _ _ _; first | (refine nxRM ?_) | (refine nxRM1 fun _ => ?_))
    | (show YG _ _ _ _ _ _ _ _; refine YG.mk (fun hb => by (try (have hc := And.left hb; have hb := And.right hb; rw [hc])); (try rw [hb]); first | exact (y_callA (rdays_c _ _) ⟨rfl, rfl, rfl⟩) | exact V.y vAuto) ?_)
    | (show VG _ _ _ _ _ _ _ _; refine VG.mk (fun hb => by (try (have hc := And.left hb; have hb := And.right hb; rw [hc])); (try rw [hb]); exact vAuto) ?_)
    | (refine nxX ?_)
    | (refine G.condN rfl (fun hc => ?_) (fun hc => ?_) <;> (try first | exact False.elim hc | (exfalso; omega))))
      rw [hm1]
      exact X.ret (vs := [_]) rfl ⟨⟨_, _, _, _, rfl, (by exact memA), (by (repeat (first | exact .nil | apply LenIs.cons))), by decide +kernel, rfl⟩, rfl⟩ rfl (fun w hw => ⟨rfl, hw.ext⟩)
    · have hcm := cum_mono lo (a := k + 1) (b := j) (by omega)
      simp only [cum] at hcm
      repeat' (first
    | (show YK _ _ _ _ _ _ _; first | refine YK.mk (y_callA (rdays_c _ _) ⟨rfl, rfl, rfl⟩) ?_)
    | (show YK _ _ _ _ _ _ _; refine YK.ofV vAuto ?_)
    | (show VK _ _ _ _ _ _ _; refine VK.mk vAuto ?_)
    | (show RS _ _ _ _ _ _ _ _; first | (refine nxRS ?_) | (refine nxRS1 fun _ => ?_))
    | (show RM _ _ _ _ _ _ _ _ _ _; first | (refine nxRM ?_) | (refine nxRM1 fun _ => ?_))
    | (show YG _ _ _ _ _ _ _ _; refine YG.mk (fun hb => by (try (have hc := And.left hb; have hb := And.right hb; rw [hc])); (try rw [hb]); first | exact (y_callA (rdays_c _ _) ⟨rfl, rfl, rfl⟩) | exact V.y vAuto) ?_)
    | (show VG _ _ _ _ _ _ _ _; refine VG.mk (fun hb => by (try (have hc := And.left hb; have hb := And.right hb; rw [hc])); (try rw [hb]); exact vAuto) ?_)
    | (refine nxX ?_)
    | (refine G.condN rfl (fun hc => ?_) (fun hc => ?_) <;> (try first | exact False.elim hc | (exfalso; omega))))
      apply X.again (k + 1, s - dim lo ((k : Int) + 1))
      · exact ⟨by simp only; omega, by simp only [cum]; omega⟩
      · simp only; omega
      · exact ⟨rfl, rfl, rfl, rfl, trivial⟩
      · exact fun w h => h.sub (by repeat (first | exact List.Sublist.refl _ | apply List.Sublist.cons_cons | apply List.Sublist.cons))
end Go.Proofs.YtpnfmbfehbnljaaGreatDoor
