/- ChronometerTruth: the walk of the law. -/
import Derived.Test.YtcjganfppcjdfaaTruth
set_option linter.unusedVariables false
set_option maxHeartbeats 4000000
namespace Go.Proofs.Ytcjganfppcjdfaa
open Go.RowKit

abbrev cU32 (x : Int) : List Value := [.int .u32 x]
abbrev cI8 (x : Int) : List Value := [.int .i8 x]
theorem RS.lit1C {P : Program} {ops : Array Oper} {Q : Exit → Act → World → Prop} {n : Nat} {L : FL} {w0 : World} {H : List Hl} {dd : Tmp} {ty : TypeId} {pos : String} {af : Array Edge} {t e : TypeId} {bytes : Nat} {x : Operand} {a : Chk} {rest : List Oper} (h : ∀ v' : Sl, RS P ops Q n ((dd, v'.v) :: L) w0 (Hl.rw v'.v e cC 3 [a] :: H) rest) (hx : evO L x = some (chkV a) := by rfl) [ht : RowTy P t e 3 bytes] (hd : Nat.blt dd n = true := by rfl) :
    RS P ops Q n L w0 H (⟨some dd, .buildSlice t 1 #[(0, x)], ty, pos, af, none⟩ :: rest) := RS.actX rfl (x_litS (parts := [(0, x)]) (vs := [chkV a]) (cs := cC a) (f := cC) (l := [a]) ⟨hx, rfl⟩ rfl rfl rfl rfl (fun zs hz => by
      match zs, hz with
      | [_, _, _], _ => rfl) rfl rfl rfl (rowTy_B ht.is) hd) fun v' _ => h v'
theorem truthC_c {S F R f : Int} {b7 b8 b6 : Nat} (h : (-2147483648 ≤ S ∧ S ≤ 2147483647) ∧ (-2147483648 ≤ F ∧ F ≤ 2147483647) ∧ (-32768 ≤ R ∧ R ≤ 32767) ∧ -70368744177664 ≤ f ∧ f ≤ 70368744177664) : ContIn Try.prog (fun w => Has w b7 [.int .i32 F] ∧ Has w b8 [.int .i16 R] ∧ Has w b6 [.int .i32 S]) 22 [.int .i64 f, .pointer (some ⟨b7, 0, none⟩), .pointer (some ⟨b8, 0, none⟩), .pointer (some ⟨b6, 0, none⟩)] (.int .i64 (truthF S F R f)) := fun w hI => by
  obtain ⟨h1, h2, h3, h4⟩ := h
  obtain ⟨i1, i2, i3⟩ := hI
  have hp : -2305913377957871616 ≤ R * (f - S) ∧ R * (f - S) ≤ 2305913377957871616 := by
    have : (R * (f - S)).natAbs ≤ 32768 * 70370891661312 := by rw [Int.natAbs_mul]; exact Nat.mul_le_mul (by omega) (by omega)
    omega
  have ht := tdiv_bd (R * (f - S))
  refine enter0 Try.func22 rfl rfl rfl ?_
  repeat' (first
    | (refine YK.ofV (y_loadHas (by rfl) i1 (by rfl) (by decide +kernel)) ?_)
    | (refine YK.ofV (y_loadHas (by rfl) i2 (by rfl) (by decide +kernel)) ?_)
    | (refine YK.ofV (y_loadHas (by rfl) i3 (by rfl) (by decide +kernel)) ?_)
    | (refine nxV ?_)
    | (show RS _ _ _ _ _ _ _ _; first | (refine nxRS ?_) | (refine nxRS1 fun _ => ?_))
    | (show RM _ _ _ _ _ _ _ _ _ _; first | (refine nxRM ?_) | (refine nxRM1 fun _ => ?_))
    | (refine nxG ?_)
    | (refine nxX ?_)
    | (refine G.condN rfl (fun hc => ?_) (fun hc => ?_) <;> (try first | exact False.elim hc | (exfalso; omega))))
  exact X.ret (vs := [_]) rfl ⟨rfl, rfl⟩ rfl (fun w hw => ⟨ret_int (by rw [IntWalk.i64_in ((R * (f - S)).tdiv 86400000) (by omega), IntWalk.i64_in _ (by omega)]; rfl), hw.ext⟩)
theorem face_bd {S : Int} {steps : List Int} (hS : -2147483648 ≤ S ∧ S ≤ 2147483647) (hs : ∀ x ∈ steps, 0 ≤ x ∧ x ≤ 4294967295) : ∀ {k : Nat}, k ≤ steps.length → -2147483648 ≤ faceT S steps k ∧ faceT S steps k ≤ 2147483647 + 4294968295 * k
  | 0, _ => by simp only [faceT]; omega
  | k + 1, h => by
    have h1 := face_bd hS hs (k := k) (by omega)
    have h2 := hs _ (List.mem_of_getElem? (nth_some (l := steps) (m := (k : Int)) (by omega) (by omega)))
    simp only [faceT]; omega
theorem truth_bd {S F R f : Int} (hS : -2147483648 ≤ S ∧ S ≤ 2147483647) (hF : -2147483648 ≤ F ∧ F ≤ 2147483647) (hR : -32768 ≤ R ∧ R ≤ 32767) (h : -70368744177664 ≤ f ∧ f ≤ 70368744177664) : -70368744177664 * 32768 ≤ truthF S F R f ∧ truthF S F R f ≤ 70368744177664 * 32768 := by
  have hp : -2305913377957871616 ≤ R * (f - S) ∧ R * (f - S) ≤ 2305913377957871616 := by
    have : (R * (f - S)).natAbs ≤ 32768 * 70370891661312 := by rw [Int.natAbs_mul]; exact Nat.mul_le_mul (by omega) (by omega)
    omega
  have ht := tdiv_bd (R * (f - S))
  unfold truthF; omega
theorem chk_some {S F R : Int} {steps offs : List Int} {i : Nat} (h : (0 : Int) < offs.length) : chkT S F R steps offs i = ⟨faceT S steps i, truthF S F R (faceT S steps i) + nth offs ((i : Int) % (offs.length : Int)), 130⟩ := by
  unfold chkT offT
  rw [if_neg (by omega), Int.natCast_emod]
theorem chk_none {S F R : Int} {steps offs : List Int} {i : Nat} (h : (offs.length : Int) ≤ 0) : chkT S F R steps offs i = ⟨faceT S steps i, truthF S F R (faceT S steps i) + 0, 130⟩ := by
  unfold chkT offT
  rw [if_pos (by omega)]
theorem truth_law (haw : Cont Try.prog 9 [] (.bool true)) (v3 v4 : Value) (steps offs : List Int) {S F R A : Int} (hS : -2147483648 ≤ S ∧ S ≤ 2147483647) (hF : -2147483648 ≤ F ∧ F ≤ 2147483647) (hR : -32768 ≤ R ∧ R ≤ 32767) (hA : 0 ≤ A ∧ A ≤ 4294967295)
    (hs : ∀ x ∈ steps, 0 ≤ x ∧ x ≤ 4294967295) (ho : ∀ x ∈ offs, -128 ≤ x ∧ x ≤ 127) : ContR Try.prog [Hl.rd v3 cU32 1 steps, Hl.rd v4 cI8 1 offs] 7 [.int .i32 S, .int .i32 F, .int .i16 R, v3, v4, .int .u32 A] (.bool true) := fun w hw0 => by
  refine enter Try.func7 rfl rfl rfl hw0 ?_
  repeat' (first
    | (show YK _ _ _ _ _ _ _; first | refine YK.mk (y_callA (haw) rfl) ?_)
    | (show YK _ _ _ _ _ _ _; refine YK.ofV vAuto ?_)
    | (show VK _ _ _ _ _ _ _; refine VK.mk vAuto ?_)
    | (show RS _ _ _ _ _ _ _ _; first | (refine nxRS ?_) | (refine nxRS1 fun _ => ?_))
    | (show RM _ _ _ _ _ _ _ _ _ _; first | (refine nxRM ?_) | (refine nxRM1 fun _ => ?_))
    | (show YG _ _ _ _ _ _ _ _; refine YG.mk (fun hb => by (try (have hc := And.left hb; have hb := And.right hb; rw [hc])); (try rw [hb]); first | exact (y_callA (haw) rfl) | exact V.y vAuto) ?_)
    | (show VG _ _ _ _ _ _ _ _; refine VG.mk (fun hb => by (try (have hc := And.left hb; have hb := And.right hb; rw [hc])); (try rw [hb]); exact vAuto) ?_)
    | (refine nxX ?_)
    | (refine G.condN rfl (fun hc => ?_) (fun hc => ?_) <;> (try first | exact False.elim hc | (exfalso; omega))))
  · exact X.ret (vs := [_]) rfl ⟨rfl, rfl⟩ rfl (fun w hw => ⟨rfl, hw.ext⟩)
  rename_i b6 b7 b8 _
  refine G.loop (ι := Option (Nat × Sl))
    (fun x => match x with
      | none => [(3, v3), (4, v4), (5, .int .u32 A), (6, .pointer (some ⟨b6, 0, none⟩)), (8, .pointer (some ⟨b8, 0, none⟩)), (13, .func (.func 22) #[] #[.pointer (some ⟨b7, 0, none⟩), .pointer (some ⟨b8, 0, none⟩), .pointer (some ⟨b6, 0, none⟩)]), (14, .slice none 0 0), (15, .int .i64 S), (45, v3), (46, .int .i64 steps.length), (47, .int .i64 0)]
      | some (i, l) => [(3, v3), (4, v4), (5, .int .u32 A), (6, .pointer (some ⟨b6, 0, none⟩)), (8, .pointer (some ⟨b8, 0, none⟩)), (13, .func (.func 22) #[] #[.pointer (some ⟨b7, 0, none⟩), .pointer (some ⟨b8, 0, none⟩), .pointer (some ⟨b6, 0, none⟩)]), (14, l.v), (15, .int .i64 (faceT S steps i)), (45, v3), (46, .int .i64 steps.length), (47, .int .i64 (i : Int))])
    (fun x => match x with
      | none => [Hl.blk b8 47 [.int .i16 R], Hl.blk b7 21 [.int .i32 F], Hl.blk b6 21 [.int .i32 S], Hl.rd v3 cU32 1 steps, Hl.rd v4 cI8 1 offs]
      | some (i, l) => [Hl.rw l.v 54 cC 3 (tabT S F R steps offs i), Hl.blk b8 47 [.int .i16 R], Hl.blk b7 21 [.int .i32 F], Hl.blk b6 21 [.int .i32 S], Hl.rd v3 cU32 1 steps, Hl.rd v4 cI8 1 offs])
    (fun x => match x with
      | none => True
      | some (i, l) => 1 ≤ i ∧ i ≤ steps.length)
    (fun x => match x with
      | none => steps.length + 1
      | some (i, l) => steps.length - i) none trivial ⟨rfl, rfl, rfl, rfl, rfl, rfl, rfl, rfl, rfl, rfl, rfl, trivial⟩ (fun w h => h) ?_
  rintro (_ | ⟨i, l⟩) mx g hmx
  · dsimp only at g hmx ⊢
    have hs0 := hs (nth steps 0) (List.mem_of_getElem? (nth_some (l := steps) (m := 0) (by omega) (by omega)))
    have hc0 : ContIn Try.prog _ 22 ([.int .i64 S] ++ (#[.pointer (some ⟨b7, 0, none⟩), .pointer (some ⟨b8, 0, none⟩), .pointer (some ⟨b6, 0, none⟩)] : Array Value).toList) _ := truthC_c (F := F) (R := R) (S := S) (f := S) (b7 := b7) (b8 := b8) (b6 := b6) ⟨hS, hF, hR, by omega⟩
    have ht0 : truthF S F R S = S - F := by unfold truthF; rw [Int.sub_self, Int.mul_zero, Int.zero_tdiv]; omega
    have ho0 : (0 : Int) < offs.length → (0 ≤ 0 % (offs.length : Int) ∧ 0 % (offs.length : Int) < offs.length) ∧ -128 ≤ nth offs (0 % (offs.length : Int)) ∧ nth offs (0 % (offs.length : Int)) ≤ 127 := fun h => by
      have e1 := Int.emod_nonneg 0 (show (offs.length : Int) ≠ 0 by omega)
      have e2 := Int.emod_lt_of_pos 0 h
      exact ⟨⟨e1, e2⟩, ho _ (List.mem_of_getElem? (nth_some (l := offs) e1 e2))⟩
    repeat' (first
    | (show YK _ _ _ _ _ ⟨_, .call _, _, _, _, _⟩ _; refine YK.mk (y_callV (by rfl) hc0 (fun w hw => ⟨hw.has (List.Mem.tail _ (List.Mem.head _)), hw.has (List.Mem.head _), hw.has (List.Mem.tail _ (List.Mem.tail _ (List.Mem.head _)))⟩) ⟨rfl, rfl⟩ (by decide +kernel)) ?_)
    | (refine RS.lit1C (a := ⟨S, truthF S F R S + nth offs (0 % (offs.length : Int)), 130⟩) (fun v' => ?_))
    | (refine RS.lit1C (a := ⟨S, truthF S F R S + 0, 130⟩) (fun v' => ?_))
    | (refine nxV ?_)
    | (show RS _ _ _ _ _ _ _ _; first | (refine nxRS ?_) | (refine nxRS1 fun _ => ?_))
    | (show RM _ _ _ _ _ _ _ _ _ _; first | (refine nxRM ?_) | (refine nxRM1 fun _ => ?_))
    | (refine nxG ?_)
    | (refine nxX ?_)
    | (refine G.condN rfl (fun hc => ?_) (fun hc => ?_) <;> (try first | exact False.elim hc | (exfalso; omega))))
    · rename_i l2
      have eT : tabT S F R steps offs 1 = [⟨S, truthF S F R S + nth offs (0 % (offs.length : Int)), 130⟩] := by
        have := chk_some (S := S) (F := F) (R := R) (steps := steps) (i := 0) hc
        simp only [tabT, List.range_one, List.map_cons, List.map_nil, this]; rfl
      exact X.again (some (1, l2)) ⟨by omega, by omega⟩ (by dsimp only; omega) ⟨rfl, rfl, rfl, rfl, rfl, rfl, rfl, rfl, rfl, rfl, rfl, trivial⟩ (by dsimp only; rw [eT]; exact fun w h => h.sub (by repeat (first | exact List.Sublist.refl _ | apply List.Sublist.cons_cons | apply List.Sublist.cons)))
    · rename_i l2
      have eT : tabT S F R steps offs 1 = [⟨S, truthF S F R S + 0, 130⟩] := by
        have := chk_none (S := S) (F := F) (R := R) (steps := steps) (i := 0) hc
        simp only [tabT, List.range_one, List.map_cons, List.map_nil, this]; rfl
      exact X.again (some (1, l2)) ⟨by omega, by omega⟩ (by dsimp only; omega) ⟨rfl, rfl, rfl, rfl, rfl, rfl, rfl, rfl, rfl, rfl, rfl, trivial⟩ (by dsimp only; rw [eT]; exact fun w h => h.sub (by repeat (first | exact List.Sublist.refl _ | apply List.Sublist.cons_cons | apply List.Sublist.cons)))
  · dsimp only at g hmx ⊢
    have hfb := face_bd (k := i) hS hs g.2
    have hi12 : i ≤ 12 := by omega
    have htl : (tabT S F R steps offs i).length = i := tab_len
    rcases Nat.lt_or_ge i steps.length with hi | hi
    · have hs0 := hs (nth steps (i : Int)) (List.mem_of_getElem? (nth_some (l := steps) (m := (i : Int)) (by omega) (by omega)))
      have hc0 : ContIn Try.prog _ 22 ([.int .i64 (faceT S steps i)] ++ (#[.pointer (some ⟨b7, 0, none⟩), .pointer (some ⟨b8, 0, none⟩), .pointer (some ⟨b6, 0, none⟩)] : Array Value).toList) _ := truthC_c (F := F) (R := R) (S := S) (f := faceT S steps i) (b7 := b7) (b8 := b8) (b6 := b6) ⟨hS, hF, hR, by omega⟩
      have ht0 := truth_bd hS hF hR (f := faceT S steps i) (by omega)
      have ho0 : (0 : Int) < offs.length → (0 ≤ (i : Int) % (offs.length : Int) ∧ (i : Int) % (offs.length : Int) < offs.length) ∧ -128 ≤ nth offs ((i : Int) % (offs.length : Int)) ∧ nth offs ((i : Int) % (offs.length : Int)) ≤ 127 := fun h => by
        have e1 := Int.emod_nonneg (i : Int) (show (offs.length : Int) ≠ 0 by omega)
        have e2 := Int.emod_lt_of_pos (i : Int) h
        exact ⟨⟨e1, e2⟩, ho _ (List.mem_of_getElem? (nth_some (l := offs) e1 e2))⟩
      repeat' (first
    | (show YK _ _ _ _ _ ⟨_, .call _, _, _, _, _⟩ _; refine YK.mk (y_callV (by rfl) hc0 (fun w hw => ⟨hw.has (List.Mem.tail _ (List.Mem.tail _ (List.Mem.head _))), hw.has (List.Mem.tail _ (List.Mem.head _)), hw.has (List.Mem.tail _ (List.Mem.tail _ (List.Mem.tail _ (List.Mem.head _))))⟩) ⟨rfl, rfl⟩ (by decide +kernel)) ?_)
    | (refine RS.lit1C (a := ⟨faceT S steps i, truthF S F R (faceT S steps i) + nth offs ((i : Int) % (offs.length : Int)), 130⟩) (fun v' => ?_))
    | (refine RS.lit1C (a := ⟨faceT S steps i, truthF S F R (faceT S steps i) + 0, 130⟩) (fun v' => ?_))
    | (refine nxV ?_)
    | (show RS _ _ _ _ _ _ _ _; first | (refine nxRS ?_) | (refine nxRS1 fun _ => ?_))
    | (show RM _ _ _ _ _ _ _ _ _ _; first | (refine nxRM ?_) | (refine nxRM1 fun _ => ?_))
    | (refine nxG ?_)
    | (refine nxX ?_)
    | (refine G.condN rfl (fun hc => ?_) (fun hc => ?_) <;> (try first | exact False.elim hc | (exfalso; omega))))
      · rename_i l2
        exact X.again (some (i + 1, l2)) ⟨by omega, by omega⟩ (by dsimp only; omega) ⟨rfl, rfl, rfl, rfl, rfl, rfl, rfl, rfl, rfl, rfl, rfl, trivial⟩ (by dsimp only; rw [tab_succ, chk_some hc]; exact fun w h => h.sub (by repeat (first | exact List.Sublist.refl _ | apply List.Sublist.cons_cons | apply List.Sublist.cons)))
      · rename_i l2
        exact X.again (some (i + 1, l2)) ⟨by omega, by omega⟩ (by dsimp only; omega) ⟨rfl, rfl, rfl, rfl, rfl, rfl, rfl, rfl, rfl, rfl, rfl, trivial⟩ (by dsimp only; rw [tab_succ, chk_none hc]; exact fun w h => h.sub (by repeat (first | exact List.Sublist.refl _ | apply List.Sublist.cons_cons | apply List.Sublist.cons)))
    · have hl : (tabT S F R steps offs i).length ≤ 1000000 := by omega
      have hrv := rvalidt_c l.v (tabT S F R steps offs i) hl
      cases hv : validC (tabT S F R steps offs i) with
      | false =>
        rw [hv] at hrv
        repeat' (first
    | (show YK _ _ _ _ _ _ _; first | refine YK.mk (y_callRA (hrv) ⟨rfl, rfl⟩) ?_)
    | (show YK _ _ _ _ _ _ _; refine YK.ofV vAuto ?_)
    | (show VK _ _ _ _ _ _ _; refine VK.mk vAuto ?_)
    | (show RS _ _ _ _ _ _ _ _; first | (refine nxRS ?_) | (refine nxRS1 fun _ => ?_))
    | (show RM _ _ _ _ _ _ _ _ _ _; first | (refine nxRM ?_) | (refine nxRM1 fun _ => ?_))
    | (show YG _ _ _ _ _ _ _ _; refine YG.mk (fun hb => by (try (have hc := And.left hb; have hb := And.right hb; rw [hc])); (try rw [hb]); first | exact (y_callRA (hrv) ⟨rfl, rfl⟩) | exact V.y vAuto) ?_)
    | (show VG _ _ _ _ _ _ _ _; refine VG.mk (fun hb => by (try (have hc := And.left hb; have hb := And.right hb; rw [hc])); (try rw [hb]); exact vAuto) ?_)
    | (refine nxX ?_)
    | (refine G.condN rfl (fun hc => ?_) (fun hc => ?_) <;> (try first | exact False.elim hc | (exfalso; omega))))
        exact X.ret (vs := [_]) rfl ⟨rfl, rfl⟩ rfl (fun w hw => ⟨rfl, hw.ext⟩)
      | true =>
      rw [hv] at hrv
      have h1 := cons_c l.v (tabT S F R steps offs i) hl (n := max R (-R)) (d := 1) (by omega)
      have h2 := cut_c l.v (tabT S F R steps offs i) hl (n := max R (-R)) (d := 1) (face := S + A) (by omega)
      have h3 := ut_true (A := A) ho hR hS hF hA hv
      rw [cons_true ho hR hv] at h1
      generalize utS (tabT S F R steps offs i) (max R (-R)) 1 (S + A) = u at h2 h3
      obtain ⟨⟨lo, hi'⟩, c⟩ := u
      dsimp only at h3
      obtain ⟨rfl, h4, h5⟩ := h3
      have ht0 := truth_bd hS hF hR (f := S + A) (by omega)
      have hw1 := whole_c (n := max R (-R)) (by omega)
      have hc0 : ContIn Try.prog _ 22 ([.int .i64 (S + A)] ++ (#[.pointer (some ⟨b7, 0, none⟩), .pointer (some ⟨b8, 0, none⟩), .pointer (some ⟨b6, 0, none⟩)] : Array Value).toList) _ := truthC_c (F := F) (R := R) (S := S) (f := S + A) (b7 := b7) (b8 := b8) (b6 := b6) ⟨hS, hF, hR, by omega⟩
      repeat' (first
    | (show YK _ _ _ _ _ ⟨_, .call _, _, _, _, _⟩ _; refine YK.mk (y_callV (by rfl) hc0 (fun w hw => ⟨hw.has (by exact memA), hw.has (by exact memA), hw.has (by exact memA)⟩) ⟨rfl, rfl⟩ (by decide +kernel)) ?_)
    | (show YK _ _ _ _ _ _ _; first | refine YK.mk (y_callRA (hrv) ⟨rfl, rfl⟩) ?_ | refine YK.mk (y_callRA (h1) ⟨rfl, rfl, rfl⟩) ?_ | refine YK.mk (y_callRA (h2) ⟨rfl, rfl, rfl, rfl⟩) ?_ | refine YK.mk (y_callA (hw1) ⟨rfl, rfl⟩) ?_)
    | (show YK _ _ _ _ _ _ _; refine YK.ofV vAuto ?_)
    | (show VK _ _ _ _ _ _ _; refine VK.mk vAuto ?_)
    | (show RS _ _ _ _ _ _ _ _; first | (refine nxRS ?_) | (refine nxRS1 fun _ => ?_))
    | (show RM _ _ _ _ _ _ _ _ _ _; first | (refine nxRM ?_) | (refine nxRM1 fun _ => ?_))
    | (show YG _ _ _ _ _ _ _ _; refine YG.mk (fun hb => by (try (have hc := And.left hb; have hb := And.right hb; rw [hc])); (try rw [hb]); first | exact (y_callRA (hrv) ⟨rfl, rfl⟩) | exact (y_callRA (h1) ⟨rfl, rfl, rfl⟩) | exact (y_callRA (h2) ⟨rfl, rfl, rfl, rfl⟩) | exact (y_callA (hw1) ⟨rfl, rfl⟩) | exact V.y vAuto) ?_)
    | (show VG _ _ _ _ _ _ _ _; refine VG.mk (fun hb => by (try (have hc := And.left hb; have hb := And.right hb; rw [hc])); (try rw [hb]); exact vAuto) ?_)
    | (refine nxX ?_)
    | (refine G.condN rfl (fun hc => ?_) (fun hc => ?_) <;> (try first | exact False.elim hc | (exfalso; omega))))
      refine X.ret (vs := [_]) rfl ⟨rfl, rfl⟩ rfl (fun w hw => ⟨ret_bool ?_, hw.ext⟩)
      simp only [decide_true, Bool.true_and, Bool.and_true, Bool.and_eq_true, decide_eq_true_eq]
      exact ⟨h4, by omega⟩
end Go.Proofs.Ytcjganfppcjdfaa
