/- catalogue.Parse; the reference's Same. -/
import Derived.Test.YtaglecidaedjfaaDoorStarP
import Derived.Test.YtaglecidaedjfaaDoorAwk16
set_option linter.unusedVariables false
set_option maxHeartbeats 4000000
namespace Go.Proofs.YtaglecidaedjfaaDoor
open Go.RowKit

theorem cut_short {l : List UInt8} {c : UInt8} (h : (Lib.cut l [c]).2.2 = true) (hl : l ≠ []) : (Lib.cut l [c]).2.1.length < l.length := by
  unfold Lib.cut at h ⊢
  split
  · have : 0 < l.length := List.length_pos_iff.2 hl
    simp only [List.length_drop, List.length_singleton]; omega
  · rename_i c2
    rw [if_neg c2] at h; cases h
theorem stepE_1 {out : List StarT} {s : List UInt8} (h : (Lib.cut s [10]).2.2 = false) : stepE out s = 7 := by unfold stepE; rw [if_pos h]
theorem stepE_2 {out : List StarT} {s : List UInt8} (h : (Lib.cut s [10]).2.2 = true) (h2 : (starP (Lib.cut s [10]).1).2 ≠ 0) : stepE out s = (starP (Lib.cut s [10]).1).2 := by unfold stepE; rw [if_neg (by rw [h]; decide), if_pos h2]
theorem stepE_3 {out : List StarT} {s : List UInt8} (h : (Lib.cut s [10]).2.2 = true) (h2 : (starP (Lib.cut s [10]).1).2 = 0) (h3 : 0 ≤ idxS out (starP (Lib.cut s [10]).1).1.1) : stepE out s = 10 := by unfold stepE; rw [if_neg (by rw [h]; decide), if_neg (by omega), if_pos h3]
theorem stepE_4 {out : List StarT} {s : List UInt8} (h : (Lib.cut s [10]).2.2 = true) (h2 : (starP (Lib.cut s [10]).1).2 = 0) (h3 : ¬ 0 ≤ idxS out (starP (Lib.cut s [10]).1).1.1) (h4 : out.length = 100) : stepE out s = 4 := by unfold stepE; rw [if_neg (by rw [h]; decide), if_neg (by omega), if_neg h3, if_pos h4]
theorem stepE_5 {out : List StarT} {s : List UInt8} (h : (Lib.cut s [10]).2.2 = true) (h2 : (starP (Lib.cut s [10]).1).2 = 0) (h3 : ¬ 0 ≤ idxS out (starP (Lib.cut s [10]).1).1.1) (h4 : ¬ out.length = 100) : stepE out s = 0 := by unfold stepE; rw [if_neg (by rw [h]; decide), if_neg (by omega), if_neg h3, if_neg h4]
abbrev posV (a b : Int) : Value := .agg [.int .i64 a, .int .i64 b].toArray
/-- What Parse answers: slice, list, position, error. -/
abbrev ParZ := Sl × List StarT × (Int × Int) × Int
abbrev parPost (s : List UInt8) (z : ParZ) : Prop := Reads [] s z.2.1 z.2.2.2 ∧ (z.2.2.2 = 0 → z.2.2.1 = (0, 0)) ∧ (z.2.2.2 ≠ 0 → z.2.1 = [])
abbrev parV (z : ParZ) : Value := .tuple [z.1.v, posV z.2.2.1.1 z.2.2.1.2, .int .i64 z.2.2.2].toArray
theorem cparse_c (s : List UInt8) (hs : s.length ≤ 65536) : ContXI Tryd.prog LaidC 20 [strV s] (parPost s) parV (fun z => [Hl.nw z.1.v cSt 4 z.2.1]) := fun w hI => by
  refine enter0 Tryd.func20 rfl rfl rfl ?_
  repeat' (first
    | (refine nxV ?_)
    | (show RS _ _ _ _ _ _ _ _; first | (refine nxRS ?_) | (refine nxRS1 fun _ => ?_))
    | (show RM _ _ _ _ _ _ _ _ _ _; first | (refine nxRM ?_) | (refine nxRM1 fun _ => ?_))
    | (refine nxG ?_)
    | (refine nxVS ?_)
    | (refine nxGS ?_)
    | (refine nxX ?_)
    | (refine G.condN rfl (fun hc => ?_) (fun hc => ?_) <;> (try first | exact False.elim hc | (exfalso; omega))))
  rename_i b3
  refine G.loop (ι := List UInt8 × List StarT × Sl × Int) (fun x => [(0, strV x.1), (3, .pointer (some ⟨b3, 0, none⟩)), (5, x.2.2.1.v), (6, .int .i64 x.2.2.2)]) (fun x => [Hl.rw x.2.2.1.v 32 cSt 4 x.2.1, Hl.blk b3 45 [.int .i64 0, .int .i64 0]]) (fun x => (x.1.length ≤ s.length ∧ 1 ≤ x.2.2.2 ∧ x.2.2.2 + x.1.length ≤ 65537) ∧ x.2.1.length ≤ 100 ∧ ∀ y e, Reads x.2.1 x.1 y e → Reads [] s y e) (fun x => x.1.length) (s, [], ⟨none, 0, 0⟩, 1) ⟨⟨Nat.le_refl _, Int.le_refl _, by dsimp only; omega⟩, Nat.zero_le _, fun y e h => h⟩ ⟨rfl, rfl, rfl, rfl, trivial⟩ (fun w h => by have h2 := St.nilRow 32 cSt 4 h; exact h2) ?_
  rintro ⟨t, out, x, n⟩ mx ⟨⟨g1, g2, g3⟩, g4, g5⟩ hmx
  dsimp only at g1 g2 g3 g4 g5 hmx ⊢
  by_cases ht : t = []
  · subst ht
    have hfin := g5 out 0 (.done out)
    repeat' (first
    | (refine nxV ?_)
    | (show RS _ _ _ _ _ _ _ _; first | (refine nxRS ?_) | (refine nxRS1 fun _ => ?_))
    | (show RM _ _ _ _ _ _ _ _ _ _; first | (refine nxRM ?_) | (refine nxRM1 fun _ => ?_))
    | (refine nxG ?_)
    | (refine nxVS ?_)
    | (refine nxGS ?_)
    | (refine nxX ?_)
    | (refine G.condN rfl (fun hc => ?_) (fun hc => ?_) <;> (try first | exact False.elim hc | (exfalso; omega))))
    exact X.retN (vs := [_, _, _]) ((x, out, (0, 0), 0) : ParZ) rfl ⟨rfl, ⟨_, _, _, _, rfl, (by exact memA), (by (repeat (first | exact .nil | apply LenIs.cons))), by decide +kernel, rfl⟩, rfl, rfl⟩ rfl ⟨hfin, fun _ => rfl, fun h => absurd rfl h⟩ rfl (NewIn.rw (by exact memA) NewIn.nil)
  · have l1 := cut_lens t [10]
    have q1 := cutC_c t [10] (by omega)
    have q2 := star_c (Lib.cut t [10]).1 (by omega)
    have q3 := index_c (starP (Lib.cut t [10]).1).1.1 x.v out (by omega)
    have s0 := fun h => cut_short (l := t) (c := 10) h ht
    have s1 := fun h => stepE_1 (out := out) (s := t) h
    have s2 := fun h h2 => stepE_2 (out := out) (s := t) h h2
    have s3 := fun h h2 h3 => stepE_3 (out := out) (s := t) h h2 h3
    have s4 := fun h h2 h3 h4 => stepE_4 (out := out) (s := t) h h2 h3 h4
    have s5 := fun h h2 h3 h4 => stepE_5 (out := out) (s := t) h h2 h3 h4
    have hn := fun y e (h : stepE out t = 0) (h2 : Reads (out ++ [(starP (Lib.cut t [10]).1).1]) (Lib.cut t [10]).2.1 y e) => g5 y e (.next ht h h2)
    have hf := fun e (h : stepE out t = e) (h2 : e ≠ 0) => g5 [] e (.fail ht h h2)
    generalize idxS out (starP (Lib.cut t [10]).1).1.1 = j at q3 s3 s4 s5
    generalize starP (Lib.cut t [10]).1 = S at q2 q3 s2 s3 s4 s5 hn
    generalize Lib.cut t [10] = C at l1 q1 q2 s0 s1 s2 s3 s4 s5 hn
    generalize stepE out t = E at s1 s2 s3 s4 s5 hn hf
    clear g5
    repeat' (first
    | (show RS _ _ _ _ _ _ _ (⟨_, .buildSlice _ _ _, _, _, _, _⟩ :: _); refine RS.lit1S (a := S.1) ?_; intro z1)
    | (show YK _ _ _ _ _ _ _; first | refine YK.mk (y_callIn (q1) (fun _ hw => hI.keep hw.ext) ⟨rfl, rfl, rfl⟩ (by decide +kernel)) ?_ | refine YK.mk (y_callIn (q2) (fun _ hw => hI.keep hw.ext) ⟨rfl, rfl⟩ (by decide +kernel)) ?_ | refine YK.mk (y_callRA (q3) ⟨rfl, rfl, rfl⟩) ?_)
    | (show YK _ _ _ _ _ _ _; refine YK.ofV vAuto ?_)
    | (show VK _ _ _ _ _ _ _; refine VK.mk vAuto ?_)
    | (show RS _ _ _ _ _ _ _ _; first | (refine nxRS ?_) | (refine nxRS1 fun _ => ?_))
    | (show RM _ _ _ _ _ _ _ _ _ _; first | (refine nxRM ?_) | (refine nxRM1 fun _ => ?_))
    | (show YG _ _ _ _ _ _ _ _; refine YG.mk (fun hb => by (try (have hc := And.left hb; have hb := And.right hb; rw [hc])); (try rw [hb]); first | exact (y_callIn (q1) (fun _ hw => hI.keep hw.ext) ⟨rfl, rfl, rfl⟩ (by decide +kernel)) | exact (y_callIn (q2) (fun _ hw => hI.keep hw.ext) ⟨rfl, rfl⟩ (by decide +kernel)) | exact (y_callRA (q3) ⟨rfl, rfl, rfl⟩) | exact V.y vAuto) ?_)
    | (show VG _ _ _ _ _ _ _ _; refine VG.mk (fun hb => by (try (have hc := And.left hb; have hb := And.right hb; rw [hc])); (try rw [hb]); exact vAuto) ?_)
    | (refine nxVS ?_)
    | (refine nxGS ?_)
    | (refine nxX ?_)
    | (refine G.condN rfl (fun hc => ?_) (fun hc => ?_) <;> (try first | exact False.elim hc | (exfalso; omega))))
    · exact X.retN (vs := [_, _, _]) ((⟨none, 0, 0⟩, [], (n, 1), 7) : ParZ) rfl ⟨rfl, ⟨_, _, _, _, rfl, (by exact memA), (by (repeat (first | exact .nil | apply LenIs.cons))), by decide +kernel, rfl⟩, rfl, rfl⟩ rfl ⟨hf 7 (s1 (by assumption)) (by decide), fun h => absurd h (by dsimp only; decide), fun _ => rfl⟩ rfl (NewIn.nilS NewIn.nil)
    · exact X.retN (vs := [_, _, _]) ((⟨none, 0, 0⟩, [], (n, 1), S.2) : ParZ) rfl ⟨rfl, ⟨_, _, _, _, rfl, (by exact memA), (by (repeat (first | exact .nil | apply LenIs.cons))), by decide +kernel, rfl⟩, rfl, rfl⟩ rfl ⟨hf S.2 (s2 (by assumption) (by assumption)) (by assumption), fun h => absurd h (by assumption), fun _ => rfl⟩ rfl (NewIn.nilS NewIn.nil)
    · exact X.retN (vs := [_, _, _]) ((⟨none, 0, 0⟩, [], (n, 1), 10) : ParZ) rfl ⟨rfl, ⟨_, _, _, _, rfl, (by exact memA), (by (repeat (first | exact .nil | apply LenIs.cons))), by decide +kernel, rfl⟩, rfl, rfl⟩ rfl ⟨hf 10 (s3 (by assumption) (by assumption) (by assumption)) (by decide), fun h => absurd h (by dsimp only; decide), fun _ => rfl⟩ rfl (NewIn.nilS NewIn.nil)
    · exact X.retN (vs := [_, _, _]) ((⟨none, 0, 0⟩, [], (n, 1), 4) : ParZ) rfl ⟨rfl, ⟨_, _, _, _, rfl, (by exact memA), (by (repeat (first | exact .nil | apply LenIs.cons))), by decide +kernel, rfl⟩, rfl, rfl⟩ rfl ⟨hf 4 (s4 (by assumption) (by assumption) (by omega) (by omega)) (by decide), fun h => absurd h (by dsimp only; decide), fun _ => rfl⟩ rfl (NewIn.nilS NewIn.nil)
    · have h0 := s0 (by assumption)
      rename_i y
      refine X.again (C.2.1, out ++ [S.1], y, n + 1) ⟨⟨by dsimp only; omega, by dsimp only; omega, by dsimp only; omega⟩, by dsimp only; rw [List.length_append, List.length_singleton]; omega, fun z e h => hn z e (s5 (by assumption) (by assumption) (by omega) (by omega)) h⟩ (by dsimp only; omega) ⟨rfl, rfl, rfl, rfl, trivial⟩ (by exact fun w h => h.sub (by repeat (first | exact List.Sublist.refl _ | apply List.Sublist.cons_cons | apply List.Sublist.cons)))
    · exact absurd hc ht
theorem same_c (v u : Value) (l : List StarT) (hl : l.length ≤ 1000000) : ContR Tryd.prog [Hl.rd v cSt 4 l, Hl.rd u cSt 4 l] 21 [v, u] (.bool true) := fun w hw0 => by
  refine enter Tryd.func21 rfl rfl rfl hw0 ?_
  repeat' (first
    | (refine nxV ?_)
    | (show RS _ _ _ _ _ _ _ _; first | (refine nxRS ?_) | (refine nxRS1 fun _ => ?_))
    | (show RM _ _ _ _ _ _ _ _ _ _; first | (refine nxRM ?_) | (refine nxRM1 fun _ => ?_))
    | (refine nxG ?_)
    | (refine G.mixedA 6 [.go 0, .go 1, .go 2, .go 3, .go 4, .go 5, .go 6, .go 7, .go 8] ?_)
    | (refine nxX ?_)
    | (refine G.condN rfl (fun hc => ?_) (fun hc => ?_) <;> (try first | exact False.elim hc | (exfalso; omega))))
  refine G.loop (ι := Nat) (fun i => [(0, v), (1, u), (5, .int .i64 (i : Int))]) (fun _ => [Hl.rd v cSt 4 l, Hl.rd u cSt 4 l]) (fun i => i ≤ l.length) (fun i => l.length - i) 0 (by omega) ⟨rfl, rfl, rfl, trivial⟩ (fun w h => h) ?_
  rintro i mx g1 hmx
  rcases Nat.lt_or_ge i l.length with hi | hi
  · repeat' (first
    | (refine nxV ?_)
    | (show RS _ _ _ _ _ _ _ _; first | (refine nxRS ?_) | (refine nxRS1 fun _ => ?_))
    | (show RM _ _ _ _ _ _ _ _ _ _; first | (refine nxRM ?_) | (refine nxRM1 fun _ => ?_))
    | (refine nxG ?_)
    | (refine nxVS ?_)
    | (refine nxGS ?_)
    | (refine G.mixedA 6 [.go 0, .go 1, .go 2, .go 3, .go 4, .go 5, .go 6, .go 7, .go 8] ?_)
    | (refine nxX ?_)
    | (refine G.condN rfl (fun hc => ?_) (fun hc => ?_) <;> (try first | exact False.elim hc | (exfalso; omega))))
    exact X.again (i + 1) (by omega) (by omega) ⟨rfl, rfl, rfl, trivial⟩ (by exact fun w h => h.sub (by repeat (first | exact List.Sublist.refl _ | apply List.Sublist.cons_cons | apply List.Sublist.cons)))
  · repeat' (first
    | (refine nxV ?_)
    | (show RS _ _ _ _ _ _ _ _; first | (refine nxRS ?_) | (refine nxRS1 fun _ => ?_))
    | (show RM _ _ _ _ _ _ _ _ _ _; first | (refine nxRM ?_) | (refine nxRM1 fun _ => ?_))
    | (refine nxG ?_)
    | (refine G.mixedA 6 [.go 0, .go 1, .go 2, .go 3, .go 4, .go 5, .go 6, .go 7, .go 8] ?_)
    | (refine nxX ?_)
    | (refine G.condN rfl (fun hc => ?_) (fun hc => ?_) <;> (try first | exact False.elim hc | (exfalso; omega))))
    exact X.ret (vs := [_]) rfl ⟨rfl, rfl⟩ rfl (fun w hw => ⟨rfl, hw.ext⟩)
end Go.Proofs.YtaglecidaedjfaaDoor
