/- Parse of chapter 11, the program's and the reference's. -/
import Derived.Test.YtaglecidaedjfaaDoorRInt
import Derived.Test.YtaglecidaedjfaaDoorRefCh
import Derived.Test.YtaglecidaedjfaaDoorAwk
set_option linter.unusedVariables false
set_option maxHeartbeats 4000000
namespace Go.Proofs.YtaglecidaedjfaaDoor
open Go.RowKit

inductive ReadsC : List Chk → List UInt8 → List Chk → Int × Int → Int → Prop
  | done {out} : validC out = true → ReadsC out [] out (0, 0) 0
  | inval {out} : validC out = false → ReadsC out [] [] (0, 0) 1
  | fail {out s} : s ≠ [] → ((Lib.cut s [10]).2.2 = false ∨ (lineP (Lib.cut s [10]).1).2 = false) → ReadsC out s [] ((out.length : Int) + 1, 1) 7
  | next {out s x p e} : s ≠ [] → (Lib.cut s [10]).2.2 = true → (lineP (Lib.cut s [10]).1).2 = true → ReadsC (out ++ [lineC (Lib.cut s [10]).1]) (Lib.cut s [10]).2.1 x p e → ReadsC out s x p e
theorem ReadsC.uniq {out : List Chk} {s : List UInt8} {x y : List Chk} {p q : Int × Int} {e f : Int} (h : ReadsC out s x p e) (g : ReadsC out s y q f) : x = y ∧ p = q ∧ e = f := by
  induction h with
  | done h1 =>
    cases g with
    | done => exact ⟨rfl, rfl, rfl⟩
    | inval h2 => rw [h1] at h2; cases h2
    | fail h1 => exact absurd rfl h1
    | next h1 => exact absurd rfl h1
  | inval h1 =>
    cases g with
    | done h2 => rw [h1] at h2; cases h2
    | inval => exact ⟨rfl, rfl, rfl⟩
    | fail h1 => exact absurd rfl h1
    | next h1 => exact absurd rfl h1
  | fail h1 h2 =>
    cases g with
    | done => exact absurd rfl h1
    | inval => exact absurd rfl h1
    | fail => exact ⟨rfl, rfl, rfl⟩
    | next _ h3 h4 => rcases h2 with h | h
                      · rw [h] at h3; cases h3
                      · rw [h] at h4; cases h4
  | next h1 h2 h3 _ ih =>
    cases g with
    | done => exact absurd rfl h1
    | inval => exact absurd rfl h1
    | fail _ h4 => rcases h4 with h | h
                   · rw [h] at h2; cases h2
                   · rw [h] at h3; cases h3
    | next _ _ _ g => exact ih g
theorem cut_lensB (l sep : List UInt8) : (Lib.cut l sep).1.length ≤ l.length ∧ (Lib.cut l sep).2.1.length ≤ l.length := by
  unfold Lib.cut
  split
  · simp only [List.length_take, List.length_drop]; omega
  · simp
theorem cut_shortB {l : List UInt8} {c : UInt8} (h : (Lib.cut l [c]).2.2 = true) (hl : l ≠ []) : (Lib.cut l [c]).2.1.length < l.length := by
  unfold Lib.cut at h ⊢
  split
  · have : 0 < l.length := List.length_pos_iff.2 hl
    simp only [List.length_drop, List.length_singleton]; omega
  · rename_i c2
    rw [if_neg c2] at h; cases h
theorem validC_no {l : List Chk} (h : validC l = true) : 1 ≤ l.length ∧ l.length ≤ 1000 := (validC_iff.1 h).1
theorem RS.lit1K {P : Program} {ops : Array Oper} {Q : Exit → Act → World → Prop} {n : Nat} {L : FL} {w0 : World} {H : List Hl} {dd : Tmp} {ty : TypeId} {pos : String} {af : Array Edge} {t e : TypeId} {bytes : Nat} {x : Operand} {a : Chk} {rest : List Oper} (h : ∀ v' : Sl, RS P ops Q n ((dd, v'.v) :: L) w0 (Hl.rw v'.v e cC 3 [a] :: H) rest) (hx : evO L x = some (chkV a) := by rfl) [ht : RowTy P t e 3 bytes] (hd : Nat.blt dd n = true := by rfl) :
    RS P ops Q n L w0 H (⟨some dd, .buildSlice t 1 #[(0, x)], ty, pos, af, none⟩ :: rest) := RS.actX rfl (x_litS (parts := [(0, x)]) (vs := [chkV a]) (cs := cC a) (f := cC) (l := [a]) ⟨hx, rfl⟩ rfl rfl rfl rfl (fun zs hz => by
      match zs, hz with
      | [_, _, _], _ => rfl) rfl rfl rfl (rowTy_B ht.is) hd) fun v' _ => h v'
abbrev posC (a b : Int) : Value := .agg [.int .i64 a, .int .i64 b].toArray
abbrev ParC := Sl × List Chk × (Int × Int) × Int
abbrev parC (z : ParC) : Value := .tuple [z.1.v, posC z.2.2.1.1 z.2.2.1.2, .int .i64 z.2.2.2].toArray
theorem cpar_c (s : List UInt8) (hs : s.length ≤ 65536) : ContXI Tryd.prog Laid 24 [strV s] (fun z : ParC => ReadsC [] s z.2.1 z.2.2.1 z.2.2.2) parC (fun z => [Hl.nw z.1.v cC 3 z.2.1]) := fun w hI => by
  refine enter0 Tryd.func24 rfl rfl rfl ?_
  repeat' (first
    | (refine nxV ?_)
    | (show RS _ _ _ _ _ _ _ _; first | (refine nxRS ?_) | (refine nxRS1 fun _ => ?_))
    | (show RM _ _ _ _ _ _ _ _ _ _; first | (refine nxRM ?_) | (refine nxRM1 fun _ => ?_))
    | (refine nxG ?_)
    | (refine nxVS ?_)
    | (refine nxGS ?_)
    | (refine nxX ?_)
    | (refine G.condN rfl (fun hc => ?_) (fun hc => ?_) <;> (try first | exact False.elim hc | (exfalso; omega))))
  rename_i b3
  refine G.loop (ι := List UInt8 × List Chk × Sl × Int) (fun x => [(0, strV x.1), (3, .pointer (some ⟨b3, 0, none⟩)), (5, x.2.2.1.v), (6, .int .i64 x.2.2.2)]) (fun x => [Hl.rw x.2.2.1.v 58 cC 3 x.2.1, Hl.blk b3 45 [.int .i64 0, .int .i64 0]]) (fun x => (x.2.2.2 = (x.2.1.length : Int) + 1 ∧ x.2.1.length + x.1.length ≤ s.length) ∧ ∀ y p e, ReadsC x.2.1 x.1 y p e → ReadsC [] s y p e) (fun x => x.1.length) (s, [], ⟨none, 0, 0⟩, 1) ⟨⟨rfl, by simp⟩, fun y p e h => h⟩ ⟨rfl, rfl, rfl, rfl, trivial⟩ (fun w h => by have h2 := St.nilRow 58 cC 3 h; exact h2) ?_
  rintro ⟨t, out, x, n⟩ mx ⟨⟨g1, g2⟩, g5⟩ hmx
  dsimp only at g1 g2 g5 hmx ⊢
  by_cases ht : t = []
  · subst ht
    have q1 := cvalid_c x.v out (by omega)
    cases hv : validC out with
    | true =>
      rw [hv] at q1
      have hfin := g5 _ _ _ (.done hv)
      repeat' (first
    | (show YK _ _ _ _ _ _ _; first | refine YK.mk (y_callRA (q1) ⟨rfl, rfl⟩) ?_)
    | (show YK _ _ _ _ _ _ _; refine YK.ofV vAuto ?_)
    | (show VK _ _ _ _ _ _ _; refine VK.mk vAuto ?_)
    | (show RS _ _ _ _ _ _ _ _; first | (refine nxRS ?_) | (refine nxRS1 fun _ => ?_))
    | (show RM _ _ _ _ _ _ _ _ _ _; first | (refine nxRM ?_) | (refine nxRM1 fun _ => ?_))
    | (show YG _ _ _ _ _ _ _ _; refine YG.mk (fun hb => by (try (have hc := And.left hb; have hb := And.right hb; rw [hc])); (try rw [hb]); first | exact (y_callRA (q1) ⟨rfl, rfl⟩) | exact V.y vAuto) ?_)
    | (show VG _ _ _ _ _ _ _ _; refine VG.mk (fun hb => by (try (have hc := And.left hb; have hb := And.right hb; rw [hc])); (try rw [hb]); exact vAuto) ?_)
    | (refine nxVS ?_)
    | (refine nxGS ?_)
    | (refine nxX ?_)
    | (refine G.condN rfl (fun hc => ?_) (fun hc => ?_) <;> (try first | exact False.elim hc | (exfalso; omega))))
      exact X.retN (vs := [_, _, _]) ((x, out, (0, 0), 0) : ParC) rfl ⟨rfl, ⟨_, _, _, _, rfl, (by exact memA), (by (repeat (first | exact .nil | apply LenIs.cons))), by decide +kernel, rfl⟩, rfl, rfl⟩ rfl hfin rfl (NewIn.rw (by exact memA) NewIn.nil)
    | false =>
      rw [hv] at q1
      have hfin := g5 _ _ _ (.inval hv)
      repeat' (first
    | (show YK _ _ _ _ _ _ _; first | refine YK.mk (y_callRA (q1) ⟨rfl, rfl⟩) ?_)
    | (show YK _ _ _ _ _ _ _; refine YK.ofV vAuto ?_)
    | (show VK _ _ _ _ _ _ _; refine VK.mk vAuto ?_)
    | (show RS _ _ _ _ _ _ _ _; first | (refine nxRS ?_) | (refine nxRS1 fun _ => ?_))
    | (show RM _ _ _ _ _ _ _ _ _ _; first | (refine nxRM ?_) | (refine nxRM1 fun _ => ?_))
    | (show YG _ _ _ _ _ _ _ _; refine YG.mk (fun hb => by (try (have hc := And.left hb; have hb := And.right hb; rw [hc])); (try rw [hb]); first | exact (y_callRA (q1) ⟨rfl, rfl⟩) | exact V.y vAuto) ?_)
    | (show VG _ _ _ _ _ _ _ _; refine VG.mk (fun hb => by (try (have hc := And.left hb; have hb := And.right hb; rw [hc])); (try rw [hb]); exact vAuto) ?_)
    | (refine nxVS ?_)
    | (refine nxGS ?_)
    | (refine nxX ?_)
    | (refine G.condN rfl (fun hc => ?_) (fun hc => ?_) <;> (try first | exact False.elim hc | (exfalso; omega))))
      exact X.retN (vs := [_, _, _]) ((⟨none, 0, 0⟩, [], (0, 0), 1) : ParC) rfl ⟨rfl, ⟨_, _, _, _, rfl, (by exact memA), (by (repeat (first | exact .nil | apply LenIs.cons))), by decide +kernel, rfl⟩, rfl, rfl⟩ rfl hfin rfl (NewIn.nilS NewIn.nil)
  · have l1 := cut_lensB t [10]
    have q1 := cut_c t [10] (by omega)
    have s0 := fun h => cut_shortB (l := t) (c := 10) h ht
    have hn := fun y p e (h : (Lib.cut t [10]).2.2 = true) (h1 : (lineP (Lib.cut t [10]).1).2 = true) (h2 : ReadsC (out ++ [lineC (Lib.cut t [10]).1]) (Lib.cut t [10]).2.1 y p e) => g5 y p e (.next ht h h1 h2)
    have hf := fun (h : (Lib.cut t [10]).2.2 = false ∨ (lineP (Lib.cut t [10]).1).2 = false) => g5 _ _ _ (.fail ht h)
    have q2 : (Lib.cut t [10]).1.length ≤ 100000 → ContIn Tryd.prog Laid 54 [strV (Lib.cut t [10]).1] (.tuple [chkV (lineC (Lib.cut t [10]).1), .bool (lineP (Lib.cut t [10]).1).2].toArray) := fun h => cline_c _ h
    have q2 := q2 (by omega)
    generalize (lineP (Lib.cut t [10]).1).2 = ok at q2 hn hf
    generalize lineC (Lib.cut t [10]).1 = ch at q2 hn
    generalize Lib.cut t [10] = C at l1 q1 q2 s0 hn hf
    clear g5
    repeat' (first
    | (show RS _ _ _ _ _ _ _ (⟨_, .buildSlice _ _ _, _, _, _, _⟩ :: _); refine RS.lit1K (a := ch) ?_; intro z1)
    | (show YK _ _ _ _ _ _ _; first | refine YK.mk (y_callIn (q1) (fun _ hw => hI.keep hw.ext) ⟨rfl, rfl, rfl⟩ (by decide +kernel)) ?_ | refine YK.mk (y_callIn (q2) (fun _ hw => hI.keep hw.ext) ⟨rfl, rfl⟩ (by decide +kernel)) ?_)
    | (show YK _ _ _ _ _ _ _; refine YK.ofV vAuto ?_)
    | (show VK _ _ _ _ _ _ _; refine VK.mk vAuto ?_)
    | (show RS _ _ _ _ _ _ _ _; first | (refine nxRS ?_) | (refine nxRS1 fun _ => ?_))
    | (show RM _ _ _ _ _ _ _ _ _ _; first | (refine nxRM ?_) | (refine nxRM1 fun _ => ?_))
    | (show YG _ _ _ _ _ _ _ _; refine YG.mk (fun hb => by (try (have hc := And.left hb; have hb := And.right hb; rw [hc])); (try rw [hb]); first | exact (y_callIn (q1) (fun _ hw => hI.keep hw.ext) ⟨rfl, rfl, rfl⟩ (by decide +kernel)) | exact (y_callIn (q2) (fun _ hw => hI.keep hw.ext) ⟨rfl, rfl⟩ (by decide +kernel)) | exact V.y vAuto) ?_)
    | (show VG _ _ _ _ _ _ _ _; refine VG.mk (fun hb => by (try (have hc := And.left hb; have hb := And.right hb; rw [hc])); (try rw [hb]); exact vAuto) ?_)
    | (refine nxVS ?_)
    | (refine nxGS ?_)
    | (refine nxX ?_)
    | (refine G.condN rfl (fun hc => ?_) (fun hc => ?_) <;> (try first | exact False.elim hc | (exfalso; omega))))
    · have h7 := hf hc
      subst g1
      exact X.retN (vs := [_, _, _]) ((⟨none, 0, 0⟩, [], ((out.length : Int) + 1, 1), 7) : ParC) rfl ⟨rfl, ⟨_, _, _, _, rfl, (by exact memA), (by (repeat (first | exact .nil | apply LenIs.cons))), by decide +kernel, rfl⟩, rfl, rfl⟩ rfl h7 rfl (NewIn.nilS NewIn.nil)
    · have h0 := s0 hc.1
      rename_i y
      refine X.again (C.2.1, out ++ [ch], y, n + 1) ⟨⟨by dsimp only; rw [List.length_append, List.length_singleton]; omega, by dsimp only; rw [List.length_append, List.length_singleton]; omega⟩, fun y p e h => hn y p e hc.1 hc.2 h⟩ (by dsimp only; omega) ⟨rfl, rfl, rfl, rfl, trivial⟩ (by exact fun w h => h.sub (by repeat (first | exact List.Sublist.refl _ | apply List.Sublist.cons_cons | apply List.Sublist.cons)))
    · exact absurd hc ht
theorem rpar_c (s : List UInt8) (hs : s.length ≤ 65536) : ContX Tryd.prog [] 25 [strV s] (fun z : ParC => ReadsC [] s z.2.1 z.2.2.1 z.2.2.2) parC (fun z => [Hl.nw z.1.v cC 3 z.2.1]) := fun w hw0 => by
  refine enter Tryd.func25 rfl rfl rfl hw0 ?_
  repeat' (first
    | (refine nxV ?_)
    | (show RS _ _ _ _ _ _ _ _; first | (refine nxRS ?_) | (refine nxRS1 fun _ => ?_))
    | (show RM _ _ _ _ _ _ _ _ _ _; first | (refine nxRM ?_) | (refine nxRM1 fun _ => ?_))
    | (refine nxG ?_)
    | (refine nxVS ?_)
    | (refine nxGS ?_)
    | (refine nxX ?_)
    | (refine G.condN rfl (fun hc => ?_) (fun hc => ?_) <;> (try first | exact False.elim hc | (exfalso; omega))))
  rename_i b3
  refine G.loop (ι := Nat × Nat × List Chk × Sl) (fun x => [(0, strV s), (3, .pointer (some ⟨b3, 0, none⟩)), (5, x.2.2.2.v), (6, .int .i64 (x.2.1 : Int)), (7, .int .i64 (x.1 : Int))]) (fun x => [Hl.rw x.2.2.2.v 58 cC 3 x.2.2.1, Hl.blk b3 45 [.int .i64 0, .int .i64 0]]) (fun x => (x.2.1 ≤ x.1 ∧ x.1 ≤ s.length ∧ x.2.2.1.length ≤ x.2.1) ∧ (10 : UInt8) ∉ (s.drop x.2.1).take (x.1 - x.2.1) ∧ ∀ y p e, ReadsC x.2.2.1 (s.drop x.2.1) y p e → ReadsC [] s y p e) (fun x => s.length - x.1) (0, 0, [], ⟨none, 0, 0⟩) ⟨⟨Nat.le_refl _, Nat.zero_le _, Nat.le_refl _⟩, by simp, fun y p e h => h⟩ ⟨rfl, rfl, rfl, rfl, rfl, trivial⟩ (fun w h => by have h2 := St.nilRow 58 cC 3 h; exact h2) ?_
  rintro ⟨i, f, out, x⟩ mx ⟨⟨g1, g2, g3⟩, g4, g5⟩ hmx
  dsimp only at g1 g2 g3 g4 g5 hmx ⊢
  rcases Nat.lt_or_ge i s.length with hi | hi
  · have hdec : s.drop f = (s.drop f).take (i - f) ++ nth s (i : Int) :: s.drop (i + 1) := by
      have e : (s.drop f).drop (i - f) = s.drop i := by rw [List.drop_drop, show f + (i - f) = i by omega]
      conv => lhs; rw [← List.take_append_drop (i - f) (s.drop f)]
      rw [e, drop_consR hi]
    by_cases h10 : nth s (i : Int) = 10
    · have hcut : Lib.cut (s.drop f) [10] = ((s.drop f).take (i - f), s.drop (i + 1), true) := by
        conv => lhs; rw [hdec, h10]
        exact cut_at _ g4
      have hne : s.drop f ≠ [] := by
        intro g
        have := congrArg List.length g
        rw [List.length_drop] at this
        simp at this; omega
      have hn := fun y p e (h1 : (lineP ((s.drop f).take (i - f))).2 = true) (h2 : ReadsC (out ++ [lineC ((s.drop f).take (i - f))]) (s.drop (i + 1)) y p e) => g5 y p e (.next hne (by rw [hcut]) (by rw [hcut]; exact h1) (by rw [hcut]; exact h2))
      have hf := fun (h : (lineP ((s.drop f).take (i - f))).2 = false) => g5 _ _ _ (.fail hne (.inr (by rw [hcut]; exact h)))
      have hsl : (s.drop (f : Int).toNat).take ((i : Int).toNat - (f : Int).toNat) = (s.drop f).take (i - f) := by rw [Int.toNat_natCast, Int.toNat_natCast]
      have q2 := rline_c ((s.drop (f : Int).toNat).take ((i : Int).toNat - (f : Int).toNat)) (by rw [List.length_take]; have := List.length_drop (i := (f : Int).toNat) (l := s); omega)
      obtain ⟨r1, r2⟩ := line_rel ((s.drop f).take (i - f))
      have hb : ((nth s (i : Int)).toNat : Int) = 10 := by rw [h10]; rfl
      rw [← hsl] at hn hf r1 r2
      rw [← r1] at hn hf
      generalize rlineP ((s.drop (f : Int).toNat).take ((i : Int).toNat - (f : Int).toNat)) = R at q2 r1 r2 hn hf
      rw [← r1] at r2
      clear hcut hdec g4 g5 hsl r1
      repeat' (first
    | (show RS _ _ _ _ _ _ _ (⟨_, .buildSlice _ _ _, _, _, _, _⟩ :: _); refine RS.lit1K (a := R.1) ?_; intro z1)
    | (show YK _ _ _ _ _ _ _; first | refine YK.mk (y_callA (q2) ⟨rfl, rfl⟩) ?_)
    | (show YK _ _ _ _ _ _ _; refine YK.ofV vAuto ?_)
    | (show VK _ _ _ _ _ _ _; refine VK.mk vAuto ?_)
    | (show RS _ _ _ _ _ _ _ _; first | (refine nxRS ?_) | (refine nxRS1 fun _ => ?_))
    | (show RM _ _ _ _ _ _ _ _ _ _; first | (refine nxRM ?_) | (refine nxRM1 fun _ => ?_))
    | (show YG _ _ _ _ _ _ _ _; refine YG.mk (fun hb => by (try (have hc := And.left hb; have hb := And.right hb; rw [hc])); (try rw [hb]); first | exact (y_callA (q2) ⟨rfl, rfl⟩) | exact V.y vAuto) ?_)
    | (show VG _ _ _ _ _ _ _ _; refine VG.mk (fun hb => by (try (have hc := And.left hb; have hb := And.right hb; rw [hc])); (try rw [hb]); exact vAuto) ?_)
    | (refine nxVS ?_)
    | (refine nxGS ?_)
    | (refine nxX ?_)
    | (refine G.condN rfl (fun hc => ?_) (fun hc => ?_) <;> (try first | exact False.elim hc | (exfalso; omega))))
      · have h7 := hf hc
        exact X.retN (vs := [_, _, _]) ((⟨none, 0, 0⟩, [], ((out.length : Int) + 1, 1), 7) : ParC) rfl ⟨rfl, ⟨_, _, _, _, rfl, (by exact memA), (by (repeat (first | exact .nil | apply LenIs.cons))), by decide +kernel, rfl⟩, rfl, rfl⟩ rfl h7 rfl (NewIn.nilS NewIn.nil)
      · have h2 := r2 hc
        rename_i y
        refine X.again (i + 1, i + 1, out ++ [R.1], y) ⟨⟨Nat.le_refl _, by dsimp only; omega, by dsimp only; rw [List.length_append, List.length_singleton]; omega⟩, by simp, fun y p e h => hn y p e hc (by rw [← h2]; exact h)⟩ (by dsimp only; omega) ⟨rfl, rfl, rfl, rfl, rfl, trivial⟩ (by exact fun w h => h.sub (by repeat (first | exact List.Sublist.refl _ | apply List.Sublist.cons_cons | apply List.Sublist.cons)))
    · have hb : ¬ ((nth s (i : Int)).toNat : Int) = 10 := fun g => h10 (UInt8.toNat_inj.1 (by rw [show (nth s (i : Int)).toNat = 10 by omega]; rfl))
      repeat' (first
    | (refine nxV ?_)
    | (show RS _ _ _ _ _ _ _ _; first | (refine nxRS ?_) | (refine nxRS1 fun _ => ?_))
    | (show RM _ _ _ _ _ _ _ _ _ _; first | (refine nxRM ?_) | (refine nxRM1 fun _ => ?_))
    | (refine nxG ?_)
    | (refine nxVS ?_)
    | (refine nxGS ?_)
    | (refine nxX ?_)
    | (refine G.condN rfl (fun hc => ?_) (fun hc => ?_) <;> (try first | exact False.elim hc | (exfalso; omega))))
      refine X.again (i + 1, f, out, x) ⟨⟨by dsimp only; omega, by dsimp only; omega, g3⟩, ?_, g5⟩ (by dsimp only; omega) ⟨rfl, rfl, rfl, rfl, rfl, trivial⟩ (by exact fun w h => h.sub (by repeat (first | exact List.Sublist.refl _ | apply List.Sublist.cons_cons | apply List.Sublist.cons)))
      dsimp only
      rw [show i + 1 - f = (i - f) + 1 by omega, List.take_add_one, List.mem_append, not_or]
      refine ⟨g4, ?_⟩
      rw [List.getElem?_drop, show f + (i - f) = i by omega]
      have e := nth_some (l := s) (m := (i : Int)) (by omega) (by omega)
      rw [Int.toNat_natCast] at e
      rw [e]
      simpa using fun g => h10 g.symm
  · obtain rfl : i = s.length := by omega
    rw [List.take_of_length_le (by rw [List.length_drop]; omega)] at g4
    rcases Nat.lt_or_ge f s.length with hf | hf
    · have hne : s.drop f ≠ [] := by
        intro g
        have := congrArg List.length g
        rw [List.length_drop] at this
        simp at this; omega
      have h7 := g5 _ _ _ (.fail hne (.inl (by rw [cut_not g4])))
      clear g5 g4
      repeat' (first
    | (refine nxV ?_)
    | (show RS _ _ _ _ _ _ _ _; first | (refine nxRS ?_) | (refine nxRS1 fun _ => ?_))
    | (show RM _ _ _ _ _ _ _ _ _ _; first | (refine nxRM ?_) | (refine nxRM1 fun _ => ?_))
    | (refine nxG ?_)
    | (refine nxVS ?_)
    | (refine nxGS ?_)
    | (refine nxX ?_)
    | (refine G.condN rfl (fun hc => ?_) (fun hc => ?_) <;> (try first | exact False.elim hc | (exfalso; omega))))
      exact X.retN (vs := [_, _, _]) ((⟨none, 0, 0⟩, [], ((out.length : Int) + 1, 1), 7) : ParC) rfl ⟨rfl, ⟨_, _, _, _, rfl, (by exact memA), (by (repeat (first | exact .nil | apply LenIs.cons))), by decide +kernel, rfl⟩, rfl, rfl⟩ rfl h7 rfl (NewIn.nilS NewIn.nil)
    · obtain rfl : f = s.length := by omega
      rw [List.drop_length] at g5
      have q1 := rvalidt_c x.v out (by omega)
      cases hv : validC out with
      | true =>
        rw [hv] at q1
        have hfin := g5 _ _ _ (.done hv)
        clear g5 g4
        repeat' (first
    | (show YK _ _ _ _ _ _ _; first | refine YK.mk (y_callRA (q1) ⟨rfl, rfl⟩) ?_)
    | (show YK _ _ _ _ _ _ _; refine YK.ofV vAuto ?_)
    | (show VK _ _ _ _ _ _ _; refine VK.mk vAuto ?_)
    | (show RS _ _ _ _ _ _ _ _; first | (refine nxRS ?_) | (refine nxRS1 fun _ => ?_))
    | (show RM _ _ _ _ _ _ _ _ _ _; first | (refine nxRM ?_) | (refine nxRM1 fun _ => ?_))
    | (show YG _ _ _ _ _ _ _ _; refine YG.mk (fun hb => by (try (have hc := And.left hb; have hb := And.right hb; rw [hc])); (try rw [hb]); first | exact (y_callRA (q1) ⟨rfl, rfl⟩) | exact V.y vAuto) ?_)
    | (show VG _ _ _ _ _ _ _ _; refine VG.mk (fun hb => by (try (have hc := And.left hb; have hb := And.right hb; rw [hc])); (try rw [hb]); exact vAuto) ?_)
    | (refine nxVS ?_)
    | (refine nxGS ?_)
    | (refine nxX ?_)
    | (refine G.condN rfl (fun hc => ?_) (fun hc => ?_) <;> (try first | exact False.elim hc | (exfalso; omega))))
        exact X.retN (vs := [_, _, _]) ((x, out, (0, 0), 0) : ParC) rfl ⟨rfl, ⟨_, _, _, _, rfl, (by exact memA), (by (repeat (first | exact .nil | apply LenIs.cons))), by decide +kernel, rfl⟩, rfl, rfl⟩ rfl hfin rfl (NewIn.rw (by exact memA) NewIn.nil)
      | false =>
        rw [hv] at q1
        have hfin := g5 _ _ _ (.inval hv)
        clear g5 g4
        repeat' (first
    | (show YK _ _ _ _ _ _ _; first | refine YK.mk (y_callRA (q1) ⟨rfl, rfl⟩) ?_)
    | (show YK _ _ _ _ _ _ _; refine YK.ofV vAuto ?_)
    | (show VK _ _ _ _ _ _ _; refine VK.mk vAuto ?_)
    | (show RS _ _ _ _ _ _ _ _; first | (refine nxRS ?_) | (refine nxRS1 fun _ => ?_))
    | (show RM _ _ _ _ _ _ _ _ _ _; first | (refine nxRM ?_) | (refine nxRM1 fun _ => ?_))
    | (show YG _ _ _ _ _ _ _ _; refine YG.mk (fun hb => by (try (have hc := And.left hb; have hb := And.right hb; rw [hc])); (try rw [hb]); first | exact (y_callRA (q1) ⟨rfl, rfl⟩) | exact V.y vAuto) ?_)
    | (show VG _ _ _ _ _ _ _ _; refine VG.mk (fun hb => by (try (have hc := And.left hb; have hb := And.right hb; rw [hc])); (try rw [hb]); exact vAuto) ?_)
    | (refine nxVS ?_)
    | (refine nxGS ?_)
    | (refine nxX ?_)
    | (refine G.condN rfl (fun hc => ?_) (fun hc => ?_) <;> (try first | exact False.elim hc | (exfalso; omega))))
        exact X.retN (vs := [_, _, _]) ((⟨none, 0, 0⟩, [], (0, 0), 1) : ParC) rfl ⟨rfl, ⟨_, _, _, _, rfl, (by exact memA), (by (repeat (first | exact .nil | apply LenIs.cons))), by decide +kernel, rfl⟩, rfl, rfl⟩ rfl hfin rfl (NewIn.nilS NewIn.nil)
end Go.Proofs.YtaglecidaedjfaaDoor
