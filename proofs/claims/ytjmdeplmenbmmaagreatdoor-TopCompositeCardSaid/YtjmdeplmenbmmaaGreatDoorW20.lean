/- Joined texts: Leg, Lgs, Dln. -/
import Derived.Test.YtjmdeplmenbmmaaGreatDoorW19
set_option linter.unusedVariables false
set_option maxHeartbeats 8000000
namespace Go.Proofs.YtjmdeplmenbmmaaGreatDoor
open Go.RowKit
theorem gc_ex {a b w : Int} (ha : lat8I a) (hb : lat8I b) (hw : -10800000 ≤ w ∧ w < 10800000) : ∃ D, TT.IsGc a b w D := by
  have hc := (TT.gc_clamp (a := a) (b := b) (w := w) (by omega) (by omega) (by omega)).2
  obtain ⟨n1, h1⟩ := TT.asin_ex (v := 1073741824 - 2 * (TT.clamp (TT.gcH a b w)).2) (by omega)
  obtain ⟨n0, h0⟩ := TT.asin_ex (v := -(1073741824 - 2 * (TT.clamp (TT.gcH a b w)).1)) (by omega)
  exact ⟨_, n0, n1, h1, h0, rfl⟩
theorem cos_low {x : Int} (h : -5400000 < x ∧ x < 5400000) : 1 ≤ (TT.cosE x x).1 := by
  have hn := (TT.cosE_nr h.1 h.2).1
  have hp : TT.m30 - TT.d148 ≤ TT.C x := by
    rcases Int.le_total 0 x with h0 | h0
    · have h1 := TT.S_pos (x := 5400000 - x) (by omega) (by omega)
      have h2 := (TT.S_co x).1
      grind
    · have h1 := TT.S_pos (x := 5400000 - -x) (by omega) (by omega)
      have h2 := (TT.S_co (-x)).1
      rw [TT.C_neg] at h2
      grind
  have h3 := Rat.mul_le_mul_of_nonneg_left hp (Rat.le_of_lt TT.oR_pos)
  have h4 : 4 ≤ TT.oR * (TT.m30 - TT.d148) := by decide +kernel
  have h5 : ((1 : Int) : Rat) ≤ ((TT.cosE x x).1 : Rat) := by
    have : ((1 : Int) : Rat) = 1 := rfl
    grind
  exact Rat.intCast_le_intCast.1 h5
def parB (lim : Int) (a b : PtT) : Prop := a.1 = b.1 ∧ (a.1 = lim ∨ a.1 = -lim)
def legD (c : Int × Int) (N : Nat) : Int × Int := (c.1 * N / 1073741824, -(-(c.2 * N) / 1073741824))
def LegOk (lim : Int) (a b : PtT) (K D : Int × Int) : Prop :=
  (parB lim a b → K = (if signI (b.2 - a.2) < 0 then (16200000, 16200000) else (5400000, 5400000)) ∧ D = legD (TT.cosE a.1 a.1) (signI (b.2 - a.2)).natAbs) ∧
  (¬ parB lim a b → K = TT.gcK a.1 b.1 (signI (b.2 - a.2)) ∧ TT.IsGc a.1 b.1 (signI (b.2 - a.2)) D)
theorem scale2_c {c : Int × Int} {n : Int} (h : 0 ≤ c.1 ∧ c.1 ≤ c.2 ∧ c.2 ≤ 1073741824) (hn : 0 ≤ n ∧ n ≤ 100000000) : Cont Tryz.prog 90 [arcV c.1 c.2, .int .i64 n] (.tuple [.int .i64 (legD c n.natAbs).1, .int .i64 (legD c n.natAbs).2, .int .i64 0].toArray) := by
  obtain ⟨c1, c2⟩ := c
  obtain ⟨p1, rfl⟩ : ∃ p : Nat, c1 = p := ⟨c1.toNat, by dsimp only at h; omega⟩
  obtain ⟨p2, rfl⟩ : ∃ p : Nat, c2 = p := ⟨c2.toNat, by dsimp only at h; omega⟩
  obtain ⟨m, rfl⟩ : ∃ p : Nat, n = p := ⟨n.toNat, by omega⟩
  dsimp only at h
  have := scale_c (p1 := p1) (p2 := p2) (n := m) (by omega) (by omega)
  unfold legD
  rw [Int.natAbs_natCast]
  dsimp only
  rw [Int.natCast_mul, Int.natCast_mul] at this
  exact this
theorem leg_c {lim : Int} {a b : PtT} (hl : 1 ≤ lim ∧ lim < 5400000) (ha : okPt lim a) (hb : okPt lim b) : ∃ K D : Int × Int, LegOk lim a b K D ∧ Cont Tryz.prog 36 [ptV a.1 a.2, ptV b.1 b.2, .int .i64 lim] (.tuple [v4 K.1 K.2 D.1 D.2, .int .i64 0].toArray) := by
  have hsz := csize_c (n := a.1) (by have := ha.1; omega)
  have h1 := ha.1
  have h2 := hb.1
  by_cases hp : parB lim a b
  · refine ⟨_, _, ⟨fun _ => ⟨rfl, rfl⟩, fun h => absurd hp h⟩, ?_⟩
    have hs := signI_bd (b.2 - a.2)
    have q1 := signed_c (n := b.2 - a.2) (by omega)
    generalize signI (b.2 - a.2) = om at *
    have q2 := csize_c (n := om) (by omega)
    have q3 := Cos_c (lo := a.1) (hi := a.1) (valI (by omega))
    have hc := cos_low (x := a.1) (by have := ha.2; omega)
    have ho := TT.cosE_ord (Int.le_refl a.1)
    have q4 := scale2_c (c := TT.cosE a.1 a.1) (n := max om (-om)) (by omega) (by omega)
    rw [show (max om (-om)).natAbs = om.natAbs by omega] at q4
    generalize legD (TT.cosE a.1 a.1) om.natAbs = dd at *
    generalize TT.cosE a.1 a.1 = c at *
    obtain ⟨hp1, hp2⟩ := hp
    have hmx : max a.1 (-a.1) = lim := by have := ha.2; omega
    obtain ⟨a1, a2⟩ := a
    obtain ⟨b1, b2⟩ := b
    obtain ⟨c1, c2⟩ := c
    obtain ⟨d1, d2⟩ := dd
    dsimp only at *
    intro w
    by_cases hom : om < 0
    · rw [if_pos hom]
      refine enter0 Tryz.func36 rfl rfl rfl ?_
      repeat' (first
    | (refine nxN ?_)
    | (show VK _ _ _ _ _ ⟨_, .build 40 #[(0, _), (1, _)], _, _, _, _⟩ _; refine VK.mk (y_build (parts := [(0, _), (1, _)]) (vs := [_, _]) ⟨rfl, rfl, rfl⟩ (leg_built _ _ _ _)) ?_)
    | (show YK _ _ _ _ _ ⟨_, .build 40 #[(0, _), (1, _)], _, _, _, _⟩ _; refine YK.ofV (y_build (parts := [(0, _), (1, _)]) (vs := [_, _]) ⟨rfl, rfl, rfl⟩ (leg_built _ _ _ _)) ?_)
    | (show YK _ _ _ _ _ _ _; first | refine YK.mk (y_callA (hsz) ⟨rfl, rfl⟩) ?_ | refine YK.mk (y_callA (q1) ⟨rfl, rfl⟩) ?_ | refine YK.mk (y_callA (q2) ⟨rfl, rfl⟩) ?_ | refine YK.mk (y_callA (q3) ⟨rfl, rfl⟩) ?_ | refine YK.mk (y_callA (q4) ⟨rfl, rfl, rfl⟩) ?_ | refine YK.mk (y_callA (cone_c) ⟨rfl, rfl⟩) ?_)
    | (refine nxV ?_)
    | (refine nxRS ?_) | (refine nxRS1 fun _ => ?_)
    | (refine nxRM ?_) | (refine nxRM1 fun _ => ?_)
    | (show YG _ _ _ _ _ _ _ _; refine YG.mk (fun hb => by (try (have hc := And.left hb; have hb := And.right hb; rw [hc])); (try rw [hb]); first | exact (y_callA (hsz) ⟨rfl, rfl⟩) | exact (y_callA (q1) ⟨rfl, rfl⟩) | exact (y_callA (q2) ⟨rfl, rfl⟩) | exact (y_callA (q3) ⟨rfl, rfl⟩) | exact (y_callA (q4) ⟨rfl, rfl, rfl⟩) | exact (y_callA (cone_c) ⟨rfl, rfl⟩) | exact V.y vAuto) ?_)
    | (refine nxG ?_)
    | (refine G.mixedA 7 [.go 0, .go 1, .go 2, .go 3, .go 4, .go 5, .go 6, .go 7, .go 8, .go 9, .go 10] ?_)
    | (refine nxX ?_)
    | (refine G.condN rfl (fun hc => ?_) (fun hc => ?_) <;> (try first | exact False.elim hc | (exfalso; omega))))
      all_goals first
        | (exfalso; simp at hc; omega)
        | exact X.ret (vs := [_, _]) rfl ⟨⟨_, _, _, _, rfl, (by exact memA), (by (repeat (first | exact .nil | apply LenIs.cons))), by decide +kernel, rfl⟩, rfl, rfl⟩ rfl (fun w hw => ⟨rfl, hw.ext⟩)
    · rw [if_neg hom]
      refine enter0 Tryz.func36 rfl rfl rfl ?_
      repeat' (first
    | (refine nxN ?_)
    | (show VK _ _ _ _ _ ⟨_, .build 40 #[(0, _), (1, _)], _, _, _, _⟩ _; refine VK.mk (y_build (parts := [(0, _), (1, _)]) (vs := [_, _]) ⟨rfl, rfl, rfl⟩ (leg_built _ _ _ _)) ?_)
    | (show YK _ _ _ _ _ ⟨_, .build 40 #[(0, _), (1, _)], _, _, _, _⟩ _; refine YK.ofV (y_build (parts := [(0, _), (1, _)]) (vs := [_, _]) ⟨rfl, rfl, rfl⟩ (leg_built _ _ _ _)) ?_)
    | (show YK _ _ _ _ _ _ _; first | refine YK.mk (y_callA (hsz) ⟨rfl, rfl⟩) ?_ | refine YK.mk (y_callA (q1) ⟨rfl, rfl⟩) ?_ | refine YK.mk (y_callA (q2) ⟨rfl, rfl⟩) ?_ | refine YK.mk (y_callA (q3) ⟨rfl, rfl⟩) ?_ | refine YK.mk (y_callA (q4) ⟨rfl, rfl, rfl⟩) ?_ | refine YK.mk (y_callA (cone_c) ⟨rfl, rfl⟩) ?_)
    | (refine nxV ?_)
    | (refine nxRS ?_) | (refine nxRS1 fun _ => ?_)
    | (refine nxRM ?_) | (refine nxRM1 fun _ => ?_)
    | (show YG _ _ _ _ _ _ _ _; refine YG.mk (fun hb => by (try (have hc := And.left hb; have hb := And.right hb; rw [hc])); (try rw [hb]); first | exact (y_callA (hsz) ⟨rfl, rfl⟩) | exact (y_callA (q1) ⟨rfl, rfl⟩) | exact (y_callA (q2) ⟨rfl, rfl⟩) | exact (y_callA (q3) ⟨rfl, rfl⟩) | exact (y_callA (q4) ⟨rfl, rfl, rfl⟩) | exact (y_callA (cone_c) ⟨rfl, rfl⟩) | exact V.y vAuto) ?_)
    | (refine nxG ?_)
    | (refine G.mixedA 7 [.go 0, .go 1, .go 2, .go 3, .go 4, .go 5, .go 6, .go 7, .go 8, .go 9, .go 10] ?_)
    | (refine nxX ?_)
    | (refine G.condN rfl (fun hc => ?_) (fun hc => ?_) <;> (try first | exact False.elim hc | (exfalso; omega))))
      all_goals first
        | (exfalso; simp at hc; omega)
        | exact X.ret (vs := [_, _]) rfl ⟨⟨_, _, _, _, rfl, (by exact memA), (by (repeat (first | exact .nil | apply LenIs.cons))), by decide +kernel, rfl⟩, rfl, rfl⟩ rfl (fun w hw => ⟨rfl, hw.ext⟩)
  · obtain ⟨D, hD⟩ := gc_ex (a := a.1) (b := b.1) (w := signI (b.2 - a.2)) (by omega) (by omega) (signI_bd _)
    refine ⟨TT.gcK a.1 b.1 (signI (b.2 - a.2)), D, ⟨fun h => absurd h hp, fun _ => ⟨rfl, hD⟩⟩, fun w => ?_⟩
    have q5 := inverse_c h1 h2 hD
    clear hD
    generalize TT.gcK a.1 b.1 (signI (b.2 - a.2)) = K at *
    have hp2 : a.1 ≠ b.1 ∨ max a.1 (-a.1) ≠ lim := by
      rcases Int.decEq a.1 b.1 with h | h
      · exact Or.inl h
      · refine Or.inr fun hm => hp ⟨h, ?_⟩
        have := ha.2
        omega
    obtain ⟨a1, a2⟩ := a
    obtain ⟨b1, b2⟩ := b
    obtain ⟨k1, k2⟩ := K
    obtain ⟨d1, d2⟩ := D
    dsimp only at *
    refine enter0 Tryz.func36 rfl rfl rfl ?_
    repeat' (first
    | (refine nxN ?_)
    | (show YK _ _ _ _ _ _ _; first | refine YK.mk (y_callA (hsz) ⟨rfl, rfl⟩) ?_ | refine YK.mk (y_callA (q5) ⟨rfl, rfl, rfl⟩) ?_)
    | (refine nxV ?_)
    | (refine nxRS ?_) | (refine nxRS1 fun _ => ?_)
    | (refine nxRM ?_) | (refine nxRM1 fun _ => ?_)
    | (show YG _ _ _ _ _ _ _ _; refine YG.mk (fun hb => by (try (have hc := And.left hb; have hb := And.right hb; rw [hc])); (try rw [hb]); first | exact (y_callA (hsz) ⟨rfl, rfl⟩) | exact (y_callA (q5) ⟨rfl, rfl, rfl⟩) | exact V.y vAuto) ?_)
    | (refine nxG ?_)
    | (refine G.mixedA 7 [.go 0, .go 1, .go 2, .go 3, .go 4, .go 5, .go 6, .go 7, .go 8, .go 9, .go 10] ?_)
    | (refine nxX ?_)
    | (refine G.condN rfl (fun hc => ?_) (fun hc => ?_) <;> (try first | exact False.elim hc | (exfalso; omega))))
    all_goals first
      | (exfalso; simp at hc; omega)
      | exact X.ret (vs := [_, _]) rfl ⟨⟨_, _, _, _, rfl, (by exact memA), (by (repeat (first | exact .nil | apply LenIs.cons))), by decide +kernel, rfl⟩, rfl, rfl⟩ rfl (fun w hw => ⟨rfl, hw.ext⟩)
end Go.Proofs.YtjmdeplmenbmmaaGreatDoor
set_option maxHeartbeats 8000000
namespace Go.Proofs.YtjmdeplmenbmmaaGreatDoor
open Go.RowKit
abbrev LegT := (Int × Int) × (Int × Int)
def cLg (x : LegT) : List Value := [.int .i64 x.1.1, .int .i64 x.1.2, .int .i64 x.2.1, .int .i64 x.2.2]
theorem RS.lit1L {P : Program} {n : Nat} {L : FL} {w0 : World} {H : List Hl} {Q : Exit → Act → World → Prop} {ops : Array Oper} {rest : List Oper} {dd : Nat} {ty : TypeId} {pos : String} {af : Array Edge} {t e : TypeId} {bytes : Nat} {x0 : Operand} {a : LegT} (h : ∀ v' : Sl, RS P ops Q n ((dd, v'.v) :: L) w0 (Hl.rw v'.v e cLg 4 [a] :: H) rest) (hx0 : evO L x0 = some (v4 a.1.1 a.1.2 a.2.1 a.2.2)) [ht : RowTy P t e 4 bytes] (hd : Nat.blt dd n = true := by rfl) :
    RS P ops Q n L w0 H (⟨some dd, .buildSlice t 1 #[(0, x0)], ty, pos, af, none⟩ :: rest) := RS.actX rfl (x_litS (parts := [(0, x0)]) (vs := [v4 a.1.1 a.1.2 a.2.1 a.2.2]) (cs := cLg a) (f := cLg) (l := [a]) ⟨hx0, rfl⟩ rfl rfl rfl rfl (fun zs hz => by
      match zs, hz with
      | [_, _, _, _], _ => rfl) rfl rfl rfl (rowTy_B ht.is) hd) fun v' _ => h v'
def LegsOk (lim : Int) (l : List PtT) (ls : List LegT) : Prop := ∀ (i : Nat) x, ls[i]? = some x → LegOk lim (nth l (i : Int)) (nth l ((i : Int) + 1)) x.1 x.2
theorem legs_c {v : Value} {l : List PtT} {lim : Int} (hl : 1 ≤ lim ∧ lim < 5400000) (h : ∀ p ∈ l, okPt lim p) (hn : 1 ≤ l.length ∧ l.length ≤ 6) : ContX Tryz.prog [Hl.rd v cPt 2 l] 8 [v, .int .i64 lim] (fun z : Sl × List LegT => z.2.length + 1 = l.length ∧ LegsOk lim l z.2) (fun z => .tuple [z.1.v, .int .i64 0].toArray) (fun z => [Hl.nw z.1.v cLg 4 z.2]) := fun w hw0 => by
  have q1 := check_c (v := v) h hl (by omega)
  refine enter Tryz.func8 rfl rfl rfl hw0 ?_
  repeat' (first
    | (refine nxN ?_)
    | (show YK _ _ _ _ _ _ _; first | refine YK.mk (y_callRA (q1) ⟨rfl, rfl, rfl⟩) ?_)
    | (refine nxV ?_)
    | (refine nxRS ?_) | (refine nxRS1 fun _ => ?_)
    | (refine nxRM ?_) | (refine nxRM1 fun _ => ?_)
    | (show YG _ _ _ _ _ _ _ _; refine YG.mk (fun hb => by (try (have hc := And.left hb; have hb := And.right hb; rw [hc])); (try rw [hb]); first | exact (y_callRA (q1) ⟨rfl, rfl, rfl⟩) | exact V.y vAuto) ?_)
    | (refine nxG ?_)
    | (refine G.mixedA 10 [.go 0, .go 1, .go 2, .go 3, .go 4, .go 5, .go 6, .go 7, .go 8, .go 9, .pend 14, .go 10, .go 11, .go 12, .go 13, .done, .go 15, .go 16] ?_)
    | (refine nxX ?_)
    | (refine G.condN rfl (fun hc => ?_) (fun hc => ?_) <;> (try first | exact False.elim hc | (exfalso; omega))))
  all_goals (try (exfalso; simp at hc; omega))
  refine G.loop (ι := (Nat × Sl) × List LegT) (fun y => [(0, v), (1, .int .i64 lim), (7, y.1.2.v), (8, .int .i64 ((y.1.1 : Int) + 1))]) (fun y => [Hl.rw y.1.2.v 40 cLg 4 y.2, Hl.rd v cPt 2 l]) (fun y => y.1.1 + 1 ≤ l.length ∧ y.2.length = y.1.1 ∧ LegsOk lim l y.2) (fun y => l.length - y.1.1) ((0, ⟨none, 0, 0⟩), []) ⟨by dsimp only; omega, rfl, fun i x hx => by cases hx⟩ ⟨rfl, rfl, rfl, rfl, trivial⟩ (fun w h => by have h2 := St.nilRow 40 cLg 4 h; exact h2) ?_
  rintro ⟨⟨i, x⟩, ls⟩ mx ⟨g1, g2, g3⟩ hmx
  (try dsimp only at g1 g2 g3 hmx ⊢)
  rcases Nat.lt_or_ge (i + 1) l.length with hi | hi
  · have hm : ∀ k : Nat, k < l.length → nth l (k : Int) ∈ l := fun k hk => by
      unfold nth
      rw [Int.toNat_natCast, List.getD_eq_getElem?_getD, List.getElem?_eq_getElem hk]
      exact List.getElem_mem hk
    have o1 := h _ (hm i (by omega))
    have o2 := h _ (hm (i + 1) hi)
    rw [Int.natCast_add, show ((1 : Nat) : Int) = 1 from rfl] at o2
    obtain ⟨K, D, hk, q2⟩ := leg_c hl o1 o2
    have e1 : (i : Int) + 1 - 1 = i := by omega
    have hN : nth l ((i : Int) + 1 - 1) = nth l (i : Int) := by rw [e1]
    rw [← hN] at q2
    repeat' (first
    | (refine nxN ?_)
    | (show RS _ _ _ _ _ _ _ (⟨some _, .buildSlice 30 1 _, _, _, _, _⟩ :: _); refine RS.lit1L (a := (K, D)) (fun v' => ?_) rfl)
    | (show YK _ _ _ _ _ _ _; first | refine YK.mk (y_callA (q2) ⟨rfl, rfl, rfl, rfl⟩) ?_)
    | (refine nxV ?_)
    | (refine nxRS ?_) | (refine nxRS1 fun _ => ?_)
    | (refine nxRM ?_) | (refine nxRM1 fun _ => ?_)
    | (show YG _ _ _ _ _ _ _ _; refine YG.mk (fun hb => by (try (have hc := And.left hb; have hb := And.right hb; rw [hc])); (try rw [hb]); first | exact (y_callA (q2) ⟨rfl, rfl, rfl, rfl⟩) | exact V.y vAuto) ?_)
    | (refine nxG ?_)
    | (refine G.mixedA 10 [.go 0, .go 1, .go 2, .go 3, .go 4, .go 5, .go 6, .go 7, .go 8, .go 9, .pend 14, .go 10, .go 11, .go 12, .go 13, .done, .go 15, .go 16] ?_)
    | (refine nxX ?_)
    | (refine G.condN rfl (fun hc => ?_) (fun hc => ?_) <;> (try first | exact False.elim hc | (exfalso; omega))))
    all_goals first
      | (exfalso; simp at hc; omega)
      | skip
    rename_i z
    refine X.again ((i + 1, z), ls ++ [(K, D)]) ⟨by dsimp only; omega, by simp [g2], fun j y hy => ?_⟩ (by dsimp only; omega) ⟨rfl, rfl, rfl, rfl, trivial⟩ (by exact fun w h => h.sub (by repeat (first | exact List.Sublist.refl _ | apply List.Sublist.cons_cons | apply List.Sublist.cons)))
    dsimp only at hy
    rcases Nat.lt_or_ge j ls.length with hj | hj
    · rw [List.getElem?_append_left hj] at hy
      exact g3 j y hy
    · rw [List.getElem?_append_right hj] at hy
      have hj2 : j - ls.length = 0 := by
        have := (List.getElem?_eq_some_iff.1 hy).1
        simp at this; omega
      rw [hj2] at hy
      simp only [List.getElem?_cons_zero, Option.some.injEq] at hy
      obtain rfl : j = i := by omega
      subst hy
      exact hk
  · repeat' (first
    | (refine nxN ?_)
    | (refine nxV ?_)
    | (refine nxRS ?_) | (refine nxRS1 fun _ => ?_)
    | (refine nxRM ?_) | (refine nxRM1 fun _ => ?_)
    | (refine nxG ?_)
    | (refine G.mixedA 10 [.go 0, .go 1, .go 2, .go 3, .go 4, .go 5, .go 6, .go 7, .go 8, .go 9, .pend 14, .go 10, .go 11, .go 12, .go 13, .done, .go 15, .go 16] ?_)
    | (refine nxX ?_)
    | (refine G.condN rfl (fun hc => ?_) (fun hc => ?_) <;> (try first | exact False.elim hc | (exfalso; omega))))
    all_goals first
      | (exfalso; omega)
      | exact X.retN (vs := [_, _]) (x, ls) rfl ⟨rfl, rfl, rfl⟩ rfl ⟨by dsimp only; omega, g3⟩ rfl (NewIn.rw (by exact memA) NewIn.nil)
end Go.Proofs.YtjmdeplmenbmmaaGreatDoor
set_option maxHeartbeats 8000000
namespace Go.Proofs.YtjmdeplmenbmmaaGreatDoor
open Go.RowKit
theorem mlat_c {a : Int} (h : lat8I a) : Cont Tryz.prog 38 [arcV a a] (.bool true) := fun w => by
  have q1 := gval_c (a := a) (b := a) (by omega)
  refine enter0 Tryz.func38 rfl rfl rfl ?_
  repeat' (first
    | (refine nxN ?_)
    | (show YK _ _ _ _ _ _ _; first | refine YK.mk (y_callA (q1) ⟨rfl, rfl⟩) ?_)
    | (refine nxV ?_)
    | (refine nxRS ?_) | (refine nxRS1 fun _ => ?_)
    | (refine nxRM ?_) | (refine nxRM1 fun _ => ?_)
    | (show YG _ _ _ _ _ _ _ _; refine YG.mk (fun hb => by (try (have hc := And.left hb; have hb := And.right hb; rw [hc])); (try rw [hb]); first | exact (y_callA (q1) ⟨rfl, rfl⟩) | exact V.y vAuto) ?_)
    | (refine nxG ?_)
    | (refine nxX ?_)
    | (refine G.condN rfl (fun hc => ?_) (fun hc => ?_) <;> (try first | exact False.elim hc | (exfalso; omega))))
  all_goals exact X.ret (vs := [_]) rfl ⟨rfl, rfl⟩ rfl (fun w hw => ⟨ret_bool (by simp; omega), hw.ext⟩)
section
variable {P : Program} {n : Nat} {L : FL} {w0 : World} {H : List Hl} {d : Option Tmp} {ty : TypeId} {pos : String} {af : Array Edge} {g : Option (Nat × Bool)} {t : TypeId} {x : Operand}
theorem y_loadXP {b i k : Nat} {cs : List Value} (hx : evO L x = some (.pointer (some ⟨b, i, none⟩))) (hc : ∀ k v, cs[k]? = some v → w0.cell? ⟨b, k, none⟩ = some v) (hs : rowB P t k = true) (hk : Nat.ble (i + k) cs.length = true) :
    V P n L w0 H ⟨d, .load t x, ty, pos, af, g⟩ (.agg ((cs.drop i).take k).toArray) := by
  unfold V
  intro a w ha hw
  have hk' : i + k ≤ cs.length := Nat.le_of_ble_eq_true hk
  have hlen : ((cs.drop i).take k).length = k := by simp; omega
  have hl := run_loadCells_list (P := P) w ⟨b, i, none⟩ ((cs.drop i).take k) (fun j u hu => by
    have hj : j < k := by
      have := (List.getElem?_eq_some_iff.1 hu).1
      omega
    have e : (⟨b, i, none⟩ : Addr).add j = ⟨b, i + j, none⟩ := by unfold Addr.add; split <;> simp_all
    rw [e]
    have h0 := hc (i + j) u (by rw [← hu, List.getElem?_take_of_lt hj, List.getElem?_drop])
    exact (hw.ext.cell (World.block_lt_of_cell? w0 _ h0)).trans h0)
  rw [hlen] at hl
  simp [execOp, ha.eval hx, Instr.loadAt, Instr.sureAddr, loadVar, run_isAgg_true hs, run_sizeOf_of (info_of_rowB hs), hl]
end
structure DlW (b8 b6 : Nat) (c1 c2 : Int) (w : World) : Prop where
  one : ∀ k u, [Value.int .i64 1073741824, .int .i64 1073741824][k]? = some u → w.cell? ⟨b8, k, none⟩ = some u
  cos : ∀ k u, [Value.int .i64 c1, .int .i64 c2][k]? = some u → w.cell? ⟨b6, k, none⟩ = some u
theorem DlW.keep {b8 b6 : Nat} {c1 c2 : Int} {w w' : World} (h : DlW b8 b6 c1 c2 w) (hw : Below w.heap.size w w') : DlW b8 b6 c1 c2 w' :=
  ⟨fun k u hk => (World.cell?_of_block (w := w) (hw.block b8 (World.block_lt_of_cell? w _ (h.one k u hk)))).trans (h.one k u hk), fun k u hk => (World.cell?_of_block (w := w) (hw.block b6 (World.block_lt_of_cell? w _ (h.cos k u hk)))).trans (h.cos k u hk)⟩
def quoV (c1 c2 : Int) (n : Nat) : Value := if -(-((1073741824 * n : Nat) : Int) / c1) ≤ 1099511627776 then .tuple [.int .i64 (((1073741824 * n : Nat) : Int) / c2), .int .i64 (-(-((1073741824 * n : Nat) : Int) / c1)), .int .i64 0].toArray else .tuple [.int .i64 0, .int .i64 0, .int .i64 5].toArray
theorem dl1_c {b8 b6 : Nat} {c1 c2 : Int} {n : Nat} {x y e : Int} (hcc : 1 ≤ c1 ∧ c1 ≤ c2 ∧ c2 ≤ 1073741824) (hn : n ≤ 100000000) (hq : quoV c1 c2 n = .tuple [.int .i64 x, .int .i64 y, .int .i64 e].toArray) : ContIn Tryz.prog (DlW b8 b6 c1 c2) 42 ([.int .i64 (n : Int)] ++ (#[bxP b8, bxP b6] : Array Value).toList) (.tuple [.int .i64 x, .int .i64 y, .int .i64 e].toArray) := fun w hs => by
  have h1 := hs.one
  have h2 := hs.cos
  have q1 := fquot_c (c1 := c1) (c2 := c2) (n := n) hcc hn
  change Cont _ _ _ (quoV c1 c2 n) at q1
  rw [hq] at q1
  refine enter0 Tryz.func42 rfl rfl rfl ?_
  repeat' (first
    | (show VK _ _ _ _ _ ⟨_, .load 92 _, _, _, _, _⟩ _; refine VK.mk (y_loadXP (b := b8) (i := 0) (k := 2) (by rfl) h1 (by decide +kernel) (by rfl)) ?_)
    | (show YK _ _ _ _ _ ⟨_, .load 92 _, _, _, _, _⟩ _; refine YK.ofV (y_loadXP (b := b8) (i := 0) (k := 2) (by rfl) h1 (by decide +kernel) (by rfl)) ?_)
    | (show VK _ _ _ _ _ ⟨_, .load 92 _, _, _, _, _⟩ _; refine VK.mk (y_loadXP (b := b6) (i := 0) (k := 2) (by rfl) h2 (by decide +kernel) (by rfl)) ?_)
    | (show YK _ _ _ _ _ ⟨_, .load 92 _, _, _, _, _⟩ _; refine YK.ofV (y_loadXP (b := b6) (i := 0) (k := 2) (by rfl) h2 (by decide +kernel) (by rfl)) ?_)
    | (show YK _ _ _ _ _ _ _; first | refine YK.mk (y_callA (q1) ⟨rfl, rfl, rfl, rfl⟩) ?_)
    | (refine nxV ?_)
    | (refine nxRS ?_) | (refine nxRS1 fun _ => ?_)
    | (refine nxRM ?_) | (refine nxRM1 fun _ => ?_)
    | (show YG _ _ _ _ _ _ _ _; refine YG.mk (fun hb => by (try (have hc := And.left hb; have hb := And.right hb; rw [hc])); (try rw [hb]); first | exact (y_callA (q1) ⟨rfl, rfl, rfl, rfl⟩) | exact V.y vAuto) ?_)
    | (refine nxG ?_)
    | (refine nxX ?_)
    | (refine G.condN rfl (fun hc => ?_) (fun hc => ?_) <;> (try first | exact False.elim hc | (exfalso; omega))))
  all_goals exact X.ret (vs := [_, _, _]) rfl ⟨rfl, rfl, rfl, rfl⟩ rfl (fun w hw => ⟨rfl, hw.ext⟩)
def bothV (l1 h1 e1 l2 h2 e2 : Int) : Value := if e1 ≠ 0 then .tuple [arcV 0 0, .int .i64 e1].toArray else if e2 ≠ 0 then .tuple [arcV 0 0, .int .i64 e2].toArray else .tuple [arcV (min (min l1 l1) l2) (max (max h1 h1) h2), .int .i64 0].toArray
theorem both_c {b8 b6 : Nat} {c1 c2 x1 x2 l1 h1 e1 l2 h2 e2 : Int} (q1 : ContIn Tryz.prog (DlW b8 b6 c1 c2) 42 ([.int .i64 x1] ++ (#[bxP b8, bxP b6] : Array Value).toList) (.tuple [.int .i64 l1, .int .i64 h1, .int .i64 e1].toArray))
    (q2 : ContIn Tryz.prog (DlW b8 b6 c1 c2) 42 ([.int .i64 x2] ++ (#[bxP b8, bxP b6] : Array Value).toList) (.tuple [.int .i64 l2, .int .i64 h2, .int .i64 e2].toArray))
    (hv : e1 = 0 → e2 = 0 → -1099511627776 ≤ min (min l1 l1) l2 ∧ min (min l1 l1) l2 ≤ max (max h1 h1) h2 ∧ max (max h1 h1) h2 ≤ 1099511627776) :
    ContIn Tryz.prog (DlW b8 b6 c1 c2) 41 [arcV x1 x2, .func (.func 42) #[] #[bxP b8, bxP b6]] (bothV l1 h1 e1 l2 h2 e2) := fun w hs => by
  unfold bothV
  by_cases he1 : e1 = 0
  · rw [if_neg (by omega)]
    by_cases he2 : e2 = 0
    · rw [if_neg (by omega)]
      have q3 := gval_c (hv he1 he2)
      refine enter0 Tryz.func41 rfl rfl rfl ?_
      repeat' (first
    | (refine nxN ?_)
    | (show VK _ _ _ _ _ ⟨_, .build 156 _, _, _, _, _⟩ _; refine VK.mk (y_build (parts := [(0, _), (1, _)]) (vs := [_, _]) ⟨rfl, rfl, rfl⟩ (pair_built _ _)) ?_)
    | (show YK _ _ _ _ _ ⟨_, .build 156 _, _, _, _, _⟩ _; refine YK.ofV (y_build (parts := [(0, _), (1, _)]) (vs := [_, _]) ⟨rfl, rfl, rfl⟩ (pair_built _ _)) ?_)
    | (show YK _ _ _ _ _ ⟨_, .call { callee := .value _, args := _, argTypes := _ }, _, _, _, _⟩ _; refine YK.mk (y_callV (f := 42) (by rfl) q1 (fun w' hw' => hs.keep hw'.ext) ⟨rfl, rfl⟩ (by decide +kernel)) ?_)
    | (show YK _ _ _ _ _ ⟨_, .call { callee := .value _, args := _, argTypes := _ }, _, _, _, _⟩ _; refine YK.mk (y_callV (f := 42) (by rfl) q2 (fun w' hw' => hs.keep hw'.ext) ⟨rfl, rfl⟩ (by decide +kernel)) ?_)
    | (show YK _ _ _ _ _ ⟨_, .index 156 _ _, _, _, _, _⟩ _; first | refine YK.ofV (y_index (i := 0) (l := 2) (cs := [.int .i64 x1, .int .i64 x2]) (by rfl) (by rfl) (by rfl) (by rfl) (by (repeat (first | exact .nil | apply LenIs.cons))) (by decide +kernel)) ?_ | refine YK.ofV (y_index (i := 1) (l := 2) (cs := [.int .i64 x1, .int .i64 x2]) (by rfl) (by rfl) (by rfl) (by rfl) (by (repeat (first | exact .nil | apply LenIs.cons))) (by decide +kernel)) ?_)
    | (show VK _ _ _ _ _ ⟨_, .index 156 _ _, _, _, _, _⟩ _; first | refine VK.mk (y_index (i := 0) (l := 2) (cs := [.int .i64 x1, .int .i64 x2]) (by rfl) (by rfl) (by rfl) (by rfl) (by (repeat (first | exact .nil | apply LenIs.cons))) (by decide +kernel)) ?_ | refine VK.mk (y_index (i := 1) (l := 2) (cs := [.int .i64 x1, .int .i64 x2]) (by rfl) (by rfl) (by rfl) (by rfl) (by (repeat (first | exact .nil | apply LenIs.cons))) (by decide +kernel)) ?_)
    | (show G _ _ _ _ _ _ (.loop _); refine G.loopN 3 (GR.step ?_))
    | (show X (Exit.then (Code.rounds _ _ _ _) _) _ _ _ _ .normal; refine X.round (GR.step ?_))
    | (show YK _ _ _ _ _ _ _; first | refine YK.mk (y_callA (q3) ⟨rfl, rfl⟩) ?_)
    | (refine nxV ?_)
    | (refine nxRS ?_) | (refine nxRS1 fun _ => ?_)
    | (refine nxRM ?_) | (refine nxRM1 fun _ => ?_)
    | (show YG _ _ _ _ _ _ _ _; refine YG.mk (fun hb => by (try (have hc := And.left hb; have hb := And.right hb; rw [hc])); (try rw [hb]); first | exact (y_callA (q3) ⟨rfl, rfl⟩) | exact V.y vAuto) ?_)
    | (refine nxG ?_)
    | (refine nxX ?_)
    | (refine G.condN rfl (fun hc => ?_) (fun hc => ?_) <;> (try first | exact False.elim hc | (exfalso; omega))))
      all_goals first
        | (exfalso; omega)
        | exact X.ret (vs := [_, _]) rfl ⟨⟨_, _, _, _, rfl, (by exact memA), (by (repeat (first | exact .nil | apply LenIs.cons))), by decide +kernel, rfl⟩, rfl, rfl⟩ rfl (fun w hw => ⟨rfl, hw.ext⟩)
    · rw [if_pos he2]
      refine enter0 Tryz.func41 rfl rfl rfl ?_
      repeat' (first
    | (refine nxN ?_)
    | (show VK _ _ _ _ _ ⟨_, .build 156 _, _, _, _, _⟩ _; refine VK.mk (y_build (parts := [(0, _), (1, _)]) (vs := [_, _]) ⟨rfl, rfl, rfl⟩ (pair_built _ _)) ?_)
    | (show YK _ _ _ _ _ ⟨_, .build 156 _, _, _, _, _⟩ _; refine YK.ofV (y_build (parts := [(0, _), (1, _)]) (vs := [_, _]) ⟨rfl, rfl, rfl⟩ (pair_built _ _)) ?_)
    | (show YK _ _ _ _ _ ⟨_, .call { callee := .value _, args := _, argTypes := _ }, _, _, _, _⟩ _; refine YK.mk (y_callV (f := 42) (by rfl) q1 (fun w' hw' => hs.keep hw'.ext) ⟨rfl, rfl⟩ (by decide +kernel)) ?_)
    | (show YK _ _ _ _ _ ⟨_, .call { callee := .value _, args := _, argTypes := _ }, _, _, _, _⟩ _; refine YK.mk (y_callV (f := 42) (by rfl) q2 (fun w' hw' => hs.keep hw'.ext) ⟨rfl, rfl⟩ (by decide +kernel)) ?_)
    | (show YK _ _ _ _ _ ⟨_, .index 156 _ _, _, _, _, _⟩ _; first | refine YK.ofV (y_index (i := 0) (l := 2) (cs := [.int .i64 x1, .int .i64 x2]) (by rfl) (by rfl) (by rfl) (by rfl) (by (repeat (first | exact .nil | apply LenIs.cons))) (by decide +kernel)) ?_ | refine YK.ofV (y_index (i := 1) (l := 2) (cs := [.int .i64 x1, .int .i64 x2]) (by rfl) (by rfl) (by rfl) (by rfl) (by (repeat (first | exact .nil | apply LenIs.cons))) (by decide +kernel)) ?_)
    | (show VK _ _ _ _ _ ⟨_, .index 156 _ _, _, _, _, _⟩ _; first | refine VK.mk (y_index (i := 0) (l := 2) (cs := [.int .i64 x1, .int .i64 x2]) (by rfl) (by rfl) (by rfl) (by rfl) (by (repeat (first | exact .nil | apply LenIs.cons))) (by decide +kernel)) ?_ | refine VK.mk (y_index (i := 1) (l := 2) (cs := [.int .i64 x1, .int .i64 x2]) (by rfl) (by rfl) (by rfl) (by rfl) (by (repeat (first | exact .nil | apply LenIs.cons))) (by decide +kernel)) ?_)
    | (show G _ _ _ _ _ _ (.loop _); refine G.loopN 3 (GR.step ?_))
    | (show X (Exit.then (Code.rounds _ _ _ _) _) _ _ _ _ .normal; refine X.round (GR.step ?_))
    | (refine nxV ?_)
    | (refine nxRS ?_) | (refine nxRS1 fun _ => ?_)
    | (refine nxRM ?_) | (refine nxRM1 fun _ => ?_)
    | (refine nxG ?_)
    | (refine nxX ?_)
    | (refine G.condN rfl (fun hc => ?_) (fun hc => ?_) <;> (try first | exact False.elim hc | (exfalso; omega))))
      all_goals first
        | (exfalso; omega)
        | exact X.ret (vs := [_, _]) rfl ⟨⟨_, _, _, _, rfl, (by exact memA), (by (repeat (first | exact .nil | apply LenIs.cons))), by decide +kernel, rfl⟩, rfl, rfl⟩ rfl (fun w hw => ⟨rfl, hw.ext⟩)
  · rw [if_pos he1]
    refine enter0 Tryz.func41 rfl rfl rfl ?_
    repeat' (first
    | (refine nxN ?_)
    | (show VK _ _ _ _ _ ⟨_, .build 156 _, _, _, _, _⟩ _; refine VK.mk (y_build (parts := [(0, _), (1, _)]) (vs := [_, _]) ⟨rfl, rfl, rfl⟩ (pair_built _ _)) ?_)
    | (show YK _ _ _ _ _ ⟨_, .build 156 _, _, _, _, _⟩ _; refine YK.ofV (y_build (parts := [(0, _), (1, _)]) (vs := [_, _]) ⟨rfl, rfl, rfl⟩ (pair_built _ _)) ?_)
    | (show YK _ _ _ _ _ ⟨_, .call { callee := .value _, args := _, argTypes := _ }, _, _, _, _⟩ _; refine YK.mk (y_callV (f := 42) (by rfl) q1 (fun w' hw' => hs.keep hw'.ext) ⟨rfl, rfl⟩ (by decide +kernel)) ?_)
    | (show YK _ _ _ _ _ ⟨_, .index 156 _ _, _, _, _, _⟩ _; first | refine YK.ofV (y_index (i := 0) (l := 2) (cs := [.int .i64 x1, .int .i64 x2]) (by rfl) (by rfl) (by rfl) (by rfl) (by (repeat (first | exact .nil | apply LenIs.cons))) (by decide +kernel)) ?_ | refine YK.ofV (y_index (i := 1) (l := 2) (cs := [.int .i64 x1, .int .i64 x2]) (by rfl) (by rfl) (by rfl) (by rfl) (by (repeat (first | exact .nil | apply LenIs.cons))) (by decide +kernel)) ?_)
    | (show VK _ _ _ _ _ ⟨_, .index 156 _ _, _, _, _, _⟩ _; first | refine VK.mk (y_index (i := 0) (l := 2) (cs := [.int .i64 x1, .int .i64 x2]) (by rfl) (by rfl) (by rfl) (by rfl) (by (repeat (first | exact .nil | apply LenIs.cons))) (by decide +kernel)) ?_ | refine VK.mk (y_index (i := 1) (l := 2) (cs := [.int .i64 x1, .int .i64 x2]) (by rfl) (by rfl) (by rfl) (by rfl) (by (repeat (first | exact .nil | apply LenIs.cons))) (by decide +kernel)) ?_)
    | (show G _ _ _ _ _ _ (.loop _); refine G.loopN 3 (GR.step ?_))
    | (show X (Exit.then (Code.rounds _ _ _ _) _) _ _ _ _ .normal; refine X.round (GR.step ?_))
    | (refine nxV ?_)
    | (refine nxRS ?_) | (refine nxRS1 fun _ => ?_)
    | (refine nxRM ?_) | (refine nxRM1 fun _ => ?_)
    | (refine nxG ?_)
    | (refine nxX ?_)
    | (refine G.condN rfl (fun hc => ?_) (fun hc => ?_) <;> (try first | exact False.elim hc | (exfalso; omega))))
    all_goals first
      | (exfalso; omega)
      | exact X.ret (vs := [_, _]) rfl ⟨⟨_, _, _, _, rfl, (by exact memA), (by (repeat (first | exact .nil | apply LenIs.cons))), by decide +kernel, rfl⟩, rfl, rfl⟩ rfl (fun w hw => ⟨rfl, hw.ext⟩)
theorem quo_ex (c1 c2 : Int) (n : Nat) : ∃ x y e : Int, quoV c1 c2 n = .tuple [.int .i64 x, .int .i64 y, .int .i64 e].toArray ∧ (e = 0 → x = ((1073741824 * n : Nat) : Int) / c2 ∧ y = -(-((1073741824 * n : Nat) : Int) / c1) ∧ y ≤ 1099511627776) := by
  unfold quoV
  by_cases h : -(-((1073741824 * n : Nat) : Int) / c1) ≤ 1099511627776
  · rw [if_pos h]; exact ⟨_, _, _, rfl, fun _ => ⟨rfl, rfl, h⟩⟩
  · rw [if_neg h]; exact ⟨_, _, _, rfl, fun h => by cases h⟩
theorem both_ex (l1 h1 e1 l2 h2 e2 : Int) : ∃ d : Int × Int, ∃ e : Int, bothV l1 h1 e1 l2 h2 e2 = .tuple [arcV d.1 d.2, .int .i64 e].toArray ∧ (e = 0 → e1 = 0 ∧ e2 = 0 ∧ d = (min (min l1 l1) l2, max (max h1 h1) h2)) := by
  unfold bothV
  by_cases h1' : e1 = 0
  · rw [if_neg (by omega)]
    by_cases h2' : e2 = 0
    · rw [if_neg (by omega)]; exact ⟨(_, _), _, rfl, fun _ => ⟨h1', h2', rfl⟩⟩
    · rw [if_pos h2']; exact ⟨(0, 0), _, rfl, fun h => absurd h h2'⟩
  · rw [if_pos h1']; exact ⟨(0, 0), _, rfl, fun h => absurd h h1'⟩
theorem dlon_c {a : Int} {n1 n2 : Nat} (h : -5400000 < a ∧ a < 5400000) (hn : n1 ≤ n2 ∧ n2 ≤ 100000000) : ∃ d : Int × Int, ∃ e : Int, (e = 0 → d = (((1073741824 * n1 : Nat) : Int) / (TT.cosE a a).2, -(-((1073741824 * n2 : Nat) : Int) / (TT.cosE a a).1)) ∧ 0 ≤ d.1 ∧ d.1 ≤ d.2 ∧ d.2 ≤ 1099511627776) ∧ Cont Tryz.prog 10 [arcV a a, arcV (n1 : Int) (n2 : Int)] (.tuple [arcV d.1 d.2, .int .i64 e].toArray) := by
  have hc := cos_low h
  have ho := TT.cosE_ord (Int.le_refl a)
  have q1 := mlat_c (a := a) (by omega)
  have q2 := gval_c (a := (n1 : Int)) (b := (n2 : Int)) (by omega)
  have q3 := Cos_c (lo := a) (hi := a) (valI (by omega))
  generalize TT.cosE a a = c at *
  obtain ⟨c1, c2⟩ := c
  dsimp only at *
  obtain ⟨l1, h1, e1, eq1, k1⟩ := quo_ex c1 c2 n1
  obtain ⟨l2, h2, e2, eq2, k2⟩ := quo_ex c1 c2 n2
  have r1 := fun b8 b6 => dl1_c (b8 := b8) (b6 := b6) (hcc := ⟨hc, ho.2.1, ho.2.2⟩) (by omega) eq1
  have r2 := fun b8 b6 => dl1_c (b8 := b8) (b6 := b6) (hcc := ⟨hc, ho.2.1, ho.2.2⟩) (by omega) eq2
  have hp1 : 0 ≤ ((1073741824 * n1 : Nat) : Int) := by omega
  have hp2 : ((1073741824 * n1 : Nat) : Int) ≤ ((1073741824 * n2 : Nat) : Int) := by omega
  generalize ((1073741824 * n1 : Nat) : Int) = p1 at *
  generalize ((1073741824 * n2 : Nat) : Int) = p2 at *
  have f0 : 0 ≤ p1 / c2 := Int.ediv_nonneg hp1 (by omega)
  have f1 : p1 / c2 ≤ p2 / c2 := Int.ediv_le_ediv (by omega) hp2
  have f2 : -(-p1 / c1) ≤ -(-p2 / c1) := by
    have := Int.ediv_le_ediv (show 0 < c1 by omega) (show -p2 ≤ -p1 by omega)
    omega
  have f3 : p1 / c2 ≤ -(-p1 / c1) := by
    have g1 := (ediv_mono hp1 (show 0 < c1 by omega) ho.2.1).2
    have g2 : p1 / c2 ≤ -(-p1 / c2) := by rw [rnd_up (by omega)]; split <;> omega
    omega
  obtain ⟨d, e, ed, kd⟩ := both_ex l1 h1 e1 l2 h2 e2
  have hval : e1 = 0 → e2 = 0 → -1099511627776 ≤ min (min l1 l1) l2 ∧ min (min l1 l1) l2 ≤ max (max h1 h1) h2 ∧ max (max h1 h1) h2 ≤ 1099511627776 := fun z1 z2 => by
    obtain ⟨u1, u2, u3⟩ := k1 z1
    obtain ⟨v1, v2, v3⟩ := k2 z2
    omega
  have q4 := fun b8 b6 => both_c (r1 b8 b6) (r2 b8 b6) hval
  rw [ed] at q4
  refine ⟨d, e, fun he => ?_, fun w => ?_⟩
  · obtain ⟨z1, z2, zd⟩ := kd he
    obtain ⟨u1, u2, u3⟩ := k1 z1
    obtain ⟨v1, v2, v3⟩ := k2 z2
    rw [zd]
    dsimp only
    refine ⟨Prod.ext (by dsimp only; omega) (by dsimp only; omega), by omega, by omega, by omega⟩
  · clear k1 k2 eq1 eq2 r1 r2 hval kd
    obtain ⟨d1, d2⟩ := d
    dsimp only at *
    refine enter0 Tryz.func10 rfl rfl rfl ?_
    repeat' (first
    | (refine nxN ?_)
    | (show YK _ _ _ _ _ ⟨_, .call { callee := .value (.func 41), args := _, argTypes := _ }, _, _, _, _⟩ _; refine YK.mk (y_callIn (q4 _ _) (fun w' hw' => ⟨fun k u hk => (hw'.cell (by exact memA) k).trans hk, fun k u hk => (hw'.cell (by exact memA) k).trans hk⟩) ⟨rfl, rfl, rfl⟩ (by decide +kernel)) ?_)
    | (show YG _ _ _ _ _ _ ⟨_, .call { callee := .value (.func 41), args := _, argTypes := _ }, _, _, _, _⟩ _; refine YG.mk (fun hb => by (try (have hc := And.left hb; have hb := And.right hb; rw [hc])); (try rw [hb]); exact y_callIn (q4 _ _) (fun w' hw' => ⟨fun k u hk => (hw'.cell (by exact memA) k).trans hk, fun k u hk => (hw'.cell (by exact memA) k).trans hk⟩) ⟨rfl, rfl, rfl⟩ (by decide +kernel)) ?_)
    | (show YK _ _ _ _ _ _ _; first | refine YK.mk (y_callA (q1) ⟨rfl, rfl⟩) ?_ | refine YK.mk (y_callA (q2) ⟨rfl, rfl⟩) ?_ | refine YK.mk (y_callA (q3) ⟨rfl, rfl⟩) ?_)
    | (refine nxV ?_)
    | (refine nxRS ?_) | (refine nxRS1 fun _ => ?_)
    | (refine nxRM ?_) | (refine nxRM1 fun _ => ?_)
    | (show YG _ _ _ _ _ _ _ _; refine YG.mk (fun hb => by (try (have hc := And.left hb; have hb := And.right hb; rw [hc])); (try rw [hb]); first | exact (y_callA (q1) ⟨rfl, rfl⟩) | exact (y_callA (q2) ⟨rfl, rfl⟩) | exact (y_callA (q3) ⟨rfl, rfl⟩) | exact V.y vAuto) ?_)
    | (refine nxG ?_)
    | (refine nxX ?_)
    | (refine G.condN rfl (fun hc => ?_) (fun hc => ?_) <;> (try first | exact False.elim hc | (exfalso; omega))))
    all_goals first
      | (exfalso; omega)
      | exact X.ret (vs := [_, _]) rfl ⟨⟨_, _, _, _, rfl, (by exact memA), (by (repeat (first | exact .nil | apply LenIs.cons))), by decide +kernel, rfl⟩, rfl, rfl⟩ rfl (fun w hw => ⟨rfl, hw.ext⟩)
end Go.Proofs.YtjmdeplmenbmmaaGreatDoor
