/- Joined texts: LitS, Cel, Span, SpCm, SpNil, SpSo, Cov, Tid, Vrg, Vr2, Plc, Reg1, Con, RegO, Rrg, Rr2, Rr3. -/
import Derived.Test.YthilhhegchmjeaaGreatWa
import Derived.Test.YthilhhegchmjeaaGreatWb
import Derived.Test.YthilhhegchmjeaaGreatWm
import Derived.Handy
import Derived.WalkKit
import Derived.LoopN
import Derived.StillTailTactics
import Derived.Sort.Grow
import Derived.Test.YthilhhegchmjeaaGreatShelf
import Derived.Test.YthilhhegchmjeaaGreatSortLay
import Derived.Test.YthilhhegchmjeaaGreatWp
/- A slice literal of structs; the law's constants. -/
set_option linter.unusedVariables false
set_option maxHeartbeats 4000000
namespace Go.Proofs.YthilhhegchmjeaaGreat
open Go.RowKit
section
variable {P : Program} {n : Nat} {L : FL} {w0 : World} {H : List Hl} {dd : Tmp} {ty : TypeId} {pos : String} {af : Array Edge} {gd : Option (Nat × Bool)} {t e : TypeId} {s bytes : Nat} {α : Type} {f : α → List Value} {l : List α}
/-- A slice literal whose elements are values of s cells. -/
theorem x_litS {parts : List (Nat × Operand)} {vs cs : List Value} {k : Nat} (ha : AE L (parts.map (·.2)) vs) (hi : parts.map (·.1) = List.range' 0 k) (hk : Nat.ble (k * s) 16777216 = true) (hk2 : Nat.ble k 16777216 = true) (hk0 : Nat.blt 0 (k * s) = true)
    (hfill : ∀ zs : List Value, zs.length = k * s → Instr.fill (fun i => some (i * s, s)) zs.toArray ((List.range' 0 k).zip vs) = some cs.toArray) (hcl : cs.length = k * s)
    (hc : cs = l.flatMap f) (hlk : l.length = k) (ht : rowTyB P t e s bytes = true) (hd : Nat.blt dd n = true) :
    EX P n L w0 H ⟨some dd, .buildSlice t k parts.toArray, ty, pos, af, gd⟩ (fun _ : Sl => True) (fun v' => (dd, v'.v) :: L) (fun v' => Hl.rw v'.v e f s l :: H) :=
  EX.of_run (fun a w hfr hw => by
    obtain ⟨i, z, hu1, hi1, hz1, hs, hby, hzs, h0⟩ := rowTyB_spec ht
    have hk' : k * s ≤ 16777216 := Nat.le_of_ble_eq_true hk
    have hk2 : k ≤ 16777216 := Nat.le_of_ble_eq_true hk2
    have hk3 : ¬ (16777216 < k * s) := by omega
    have hk4 : ¬ (k * s = 0) := by have := Nat.le_of_ble_eq_true hk0; omega
    have hparts : (Array.map (fun x => match x with | (i, x) => (i, a.eval x)) parts.toArray).toList = (List.range' 0 k).zip vs := by
      have := ha.map hfr
      subst this
      rw [← hi]
      simp only [List.map_toArray, List.toList_toArray]
      clear hc hi ha hfill
      induction parts with
      | nil => rfl
      | cons p r ih => simp [ih]
    have hrun : (Instr.buildSlice t k (Array.map (fun x => match x with | (i, x) => (i, a.eval x)) parts.toArray)).run P w = .ok (.slice (some ⟨w.heap.size, 0, none⟩) k k) (w.alloc (.cells cs.toArray e)) := by
      unfold Instr.buildSlice
      have hsz : (P.info? e).map (·.size) = some s := by simp [hi1, hs]
      have hzv : (zeroValue e).run P w = .ok z w := by simp [zeroValue, typeInfo, hi1, hz1]
      simp only [Sem.run_bind, run_underlying hu1, Result.andThen_ok, run_sizeOf_of hsz, hparts]
      have h5 := hfill ((Array.map (fun x => z.cells[x % z.cells.size]!) (Array.range (k * s))).toList) (by simp)
      simp only [Array.toArray_toList] at h5
      simp [hk3, hk4, hzv, h5, newRow]
    refine ⟨.slice (some ⟨w.heap.size, 0, none⟩) k k, w.alloc (.cells cs.toArray e), ⟨some ⟨w.heap.size, 0, none⟩, k, k⟩, by simp only [execOp, Sem.run_bind, hrun, Result.andThen_ok, Sem.run_pure], trivial, rfl, ?_⟩
    have h6 := hw.newRow e cs.toArray s k (by simp [hcl]) (by simp only [maxLen]; omega)
    subst hc
    rw [← hlk] at h6 ⊢
    exact h6) hd
end
end Go.Proofs.YthilhhegchmjeaaGreat
/- Cells: which are valid; their spans. -/
set_option linter.unusedVariables false
set_option maxHeartbeats 8000000
namespace Go.Proofs.YthilhhegchmjeaaGreat
open Go.RowKit
abbrev celV (l r c : Int) : Value := .agg [.int .i64 l, .int .i64 r, .int .i64 c].toArray
/-- A cell, whether valid or not. -/
structure Cel where
  l : Int
  r : Int
  c : Int
deriving DecidableEq
instance : Inhabited Cel := ⟨⟨0, 0, 0⟩⟩
abbrev cK (x : Cel) : List Value := [.int .i64 x.l, .int .i64 x.r, .int .i64 x.c]
abbrev kV (x : Cel) : Value := celV x.l x.r x.c
theorem pow2_bd {l : Int} (h : 0 ≤ l ∧ l ≤ 16) : 1 ≤ (2 : Int) ^ l.toNat ∧ (2 : Int) ^ l.toNat ≤ 65536 := by
  have h1 : l.toNat ≤ 16 := by omega
  have e : (2 : Int) ^ l.toNat = ((2 ^ l.toNat : Nat) : Int) := by simp
  have h2 : 2 ^ l.toNat ≤ 2 ^ 16 := Nat.pow_le_pow_right (by decide) h1
  have h3 : 0 < 2 ^ l.toNat := Nat.pow_pos (by decide)
  rw [e]
  omega
theorem pow2_min {l : Int} (h : 0 ≤ l ∧ l ≤ 64) : (2 : Int) ^ (min l.toNat 64) = (2 : Int) ^ l.toNat := by rw [Nat.min_eq_left (by omega)]
/-- Is the cell valid? -/
def cvB (l r c : Int) : Bool := decide (0 ≤ l) && decide (l ≤ 16) && decide (0 ≤ r) && decide (r < 2 ^ l.toNat) && decide (0 ≤ c) && decide (c < 2 * 2 ^ l.toNat)
theorem cval_c (l r c : Int) : Cont Tryz.prog 101 [celV l r c] (.bool (cvB l r c)) := fun w => by
  unfold cvB
  by_cases hl : 0 ≤ l ∧ l ≤ 16
  · have hq := pow2_min (l := l) (by omega)
    have hb := pow2_bd hl
    generalize (2 : Int) ^ l.toNat = q at *
    refine enter0 Tryz.func101 rfl rfl rfl ?_
    repeat' (first
    | (show VK _ _ _ _ _ ⟨_, .binOp .shl _ _ _ _, _, _, _, _⟩ _; refine VK.mk (y_shl (by rfl) (by rfl) (by omega) hq (IntWalk.i64_in _ (by omega))) ?_)
    | (show YK _ _ _ _ _ ⟨_, .binOp .shl _ _ _ _, _, _, _, _⟩ _; refine YK.ofV (y_shl (by rfl) (by rfl) (by omega) hq (IntWalk.i64_in _ (by omega))) ?_)
    | (show VG _ _ _ _ _ _ ⟨_, .binOp .shl _ _ _ _, _, _, _, _⟩ _; refine VG.mk (fun hb => by (try (have hc := And.left hb; have hb := And.right hb; rw [hc])); (try rw [hb]); exact y_shl (by rfl) (by rfl) (by omega) hq (IntWalk.i64_in _ (by omega))) ?_)
    | (show YG _ _ _ _ _ _ ⟨_, .binOp .shl _ _ _ _, _, _, _, _⟩ _; refine YG.mk (fun hb => by (try (have hc := And.left hb; have hb := And.right hb; rw [hc])); (try rw [hb]); exact V.y (y_shl (by rfl) (by rfl) (by omega) hq (IntWalk.i64_in _ (by omega)))) ?_)
    | (show VK _ _ _ _ _ ⟨_, .binOp .shr _ _ _ _, _, _, _, _⟩ _; refine VK.mk (y_shr (by rfl) (by rfl) (by omega) hq) ?_)
    | (show YK _ _ _ _ _ ⟨_, .binOp .shr _ _ _ _, _, _, _, _⟩ _; refine YK.ofV (y_shr (by rfl) (by rfl) (by omega) hq) ?_)
    | (show VG _ _ _ _ _ _ ⟨_, .binOp .shr _ _ _ _, _, _, _, _⟩ _; refine VG.mk (fun hb => by (try (have hc := And.left hb; have hb := And.right hb; rw [hc])); (try rw [hb]); exact y_shr (by rfl) (by rfl) (by omega) hq) ?_)
    | (show YG _ _ _ _ _ _ ⟨_, .binOp .shr _ _ _ _, _, _, _, _⟩ _; refine YG.mk (fun hb => by (try (have hc := And.left hb; have hb := And.right hb; rw [hc])); (try rw [hb]); exact V.y (y_shr (by rfl) (by rfl) (by omega) hq)) ?_)
    | (refine nxV ?_)
    | (show RS _ _ _ _ _ _ _ _; first | (refine nxRS ?_) | (refine nxRS1 fun _ => ?_))
    | (show RM _ _ _ _ _ _ _ _ _ _; first | (refine nxRM ?_) | (refine nxRM1 fun _ => ?_))
    | (refine nxG ?_)
    | (refine G.mixedA 1 [.go 0, .go 1, .go 2, .go 3, .go 4, .go 5, .go 6, .go 7, .go 8, .go 9, .go 10, .go 11, .go 12, .go 13, .go 14, .go 15, .go 16, .go 17, .go 18, .go 19, .go 20, .go 21, .go 22, .go 23, .go 24, .go 25, .go 26, .go 27, .go 28, .go 29, .go 30, .go 31, .go 32, .go 33, .go 34] ?_)
    | (refine nxX ?_)
    | (refine G.condN rfl (fun hc => ?_) (fun hc => ?_) <;> (try first | exact False.elim hc | (exfalso; omega))))
    refine X.ret (vs := [_]) rfl ⟨rfl, rfl⟩ rfl (fun w hw => ⟨ret_bool (by simp [Int.one_mul]), hw.ext⟩)
  · refine enter0 Tryz.func101 rfl rfl rfl ?_
    repeat' (first
    | (refine nxV ?_)
    | (show RS _ _ _ _ _ _ _ _; first | (refine nxRS ?_) | (refine nxRS1 fun _ => ?_))
    | (show RM _ _ _ _ _ _ _ _ _ _; first | (refine nxRM ?_) | (refine nxRM1 fun _ => ?_))
    | (refine nxG ?_)
    | (refine G.mixedA 1 [.go 0, .go 1, .go 2, .go 3, .go 4, .go 5, .go 6, .go 7, .go 8, .go 9, .go 10, .go 11, .go 12, .go 13, .go 14, .go 15, .go 16, .go 17, .go 18, .go 19, .go 20, .go 21, .go 22, .go 23, .go 24, .go 25, .go 26, .go 27, .go 28, .go 29, .go 30, .go 31, .go 32, .go 33, .go 34] ?_)
    | (refine nxX ?_)
    | (refine G.condN rfl (fun hc => ?_) (fun hc => ?_) <;> (try first | exact False.elim hc | (exfalso; omega))))
    refine X.ret (vs := [_]) rfl ⟨rfl, rfl⟩ rfl (fun w hw => ⟨ret_bool ?_, hw.ext⟩)
    have : (decide (0 ≤ l) && decide (l ≤ 16)) = false := by
      rw [Bool.and_eq_false_iff, decide_eq_false_iff_not, decide_eq_false_iff_not]; omega
    simp [this]
theorem cinv_c (l r c : Int) : Cont Tryz.prog 73 [celV l r c] (.bool (!cvB l r c)) := fun w => by
  have q1 := cval_c l r c
  generalize cvB l r c = b at *
  refine enter0 Tryz.func73 rfl rfl rfl ?_
  repeat' (first
    | (show YK _ _ _ _ _ _ _; first | refine YK.mk (y_callA (q1) ⟨rfl, rfl⟩) ?_)
    | (show YK _ _ _ _ _ _ _; refine YK.ofV vAuto ?_)
    | (show VK _ _ _ _ _ _ _; refine VK.mk vAuto ?_)
    | (show RS _ _ _ _ _ _ _ _; first | (refine nxRS ?_) | (refine nxRS1 fun _ => ?_))
    | (show RM _ _ _ _ _ _ _ _ _ _; first | (refine nxRM ?_) | (refine nxRM1 fun _ => ?_))
    | (show YG _ _ _ _ _ _ _ _; refine YG.mk (fun hb => by (try (have hc := And.left hb; have hb := And.right hb; rw [hc])); (try rw [hb]); first | exact (y_callA (q1) ⟨rfl, rfl⟩) | exact V.y vAuto) ?_)
    | (show VG _ _ _ _ _ _ _ _; refine VG.mk (fun hb => by (try (have hc := And.left hb; have hb := And.right hb; rw [hc])); (try rw [hb]); exact vAuto) ?_)
    | (refine nxX ?_)
    | (refine G.condN rfl (fun hc => ?_) (fun hc => ?_) <;> (try first | exact False.elim hc | (exfalso; omega))))
  exact X.ret (vs := [_]) rfl ⟨rfl, rfl⟩ rfl (fun w hw => ⟨rfl, hw.ext⟩)
def ckB (x : Cel) : Bool := cvB x.l x.r x.c
abbrev invF : Value := .func (.func 73) #[] #[]
/-- Where the first cell is that is not valid. -/
def fbad : List Cel → Int → Int
  | [], _ => -1
  | x :: r, k => if ckB x = true then fbad r (k + 1) else k
theorem fbad_all : ∀ {l : List Cel} {k : Int}, 0 ≤ k → decide (fbad l k ≥ 0) = !l.all ckB
  | [], k, _ => rfl
  | x :: r, k, h => by
    unfold fbad
    cases hx : ckB x with
    | true => rw [if_pos rfl, fbad_all (by omega), List.all_cons, hx, Bool.true_and]
    | false => rw [if_neg (by decide), List.all_cons, hx, Bool.false_and, decide_eq_true h]; rfl
theorem fbad_bd : ∀ {l : List Cel} {k : Int}, 0 ≤ k → -1 ≤ fbad l k ∧ fbad l k ≤ k + l.length
  | [], k, _ => ⟨by simp [fbad], by simp [fbad]; omega⟩
  | x :: r, k, h => by
    have := fbad_bd (l := r) (k := k + 1) (by omega)
    unfold fbad
    rw [List.length_cons]
    split <;> omega
theorem nth_mem {α : Type} [Inhabited α] {l : List α} {i : Nat} (h : i < l.length) : nth l (i : Int) = l[i] := by
  unfold nth
  rw [Int.toNat_natCast, List.getD_eq_getElem?_getD, List.getElem?_eq_getElem h]; rfl
theorem celIx_c (v : Value) (l : List Cel) (hl : l.length ≤ 1000000) : ContR Tryz.prog [Hl.rd v cK 3 l] 100 [v, invF] (.int .i64 (fbad l 0)) := fun w hw0 => by
  refine enter Tryz.func100 rfl rfl rfl hw0 ?_
  repeat' (first
    | (refine nxV ?_)
    | (show RS _ _ _ _ _ _ _ _; first | (refine nxRS ?_) | (refine nxRS1 fun _ => ?_))
    | (show RM _ _ _ _ _ _ _ _ _ _; first | (refine nxRM ?_) | (refine nxRM1 fun _ => ?_))
    | (refine nxG ?_)
    | (refine nxX ?_)
    | (refine G.condN rfl (fun hc => ?_) (fun hc => ?_) <;> (try first | exact False.elim hc | (exfalso; omega))))
  refine G.loop (ι := Nat) (fun i => [(0, v), (1, invF), (7, .int .i64 l.length), (8, .int .i64 (i : Int))]) (fun _ => [Hl.rd v cK 3 l]) (fun i => i ≤ l.length ∧ fbad l 0 = fbad (l.drop i) i) (fun i => l.length - i) 0 ⟨Nat.zero_le _, rfl⟩ ⟨rfl, rfl, rfl, rfl, trivial⟩ (by exact fun w h => h.sub (by repeat (first | exact List.Sublist.refl _ | apply List.Sublist.cons_cons | apply List.Sublist.cons))) ?_
  rintro i mx ⟨g1, g2⟩ hmx
  (try dsimp only at g1 g2 hmx ⊢)
  rcases Nat.lt_or_ge i l.length with hi | hi
  · have hd : l.drop i = nth l (i : Int) :: l.drop (i + 1) := by rw [nth_mem hi, List.getElem_cons_drop]
    rw [hd] at g2
    have q1 := cinv_c (nth l (i : Int)).l (nth l (i : Int)).r (nth l (i : Int)).c
    cases hv : ckB (nth l (i : Int)) with
    | true =>
      have hv' := hv
      unfold ckB at hv'
      rw [hv'] at q1
      have q2 : ContIn Tryz.prog (fun _ => True) 73 ([kV (nth l (i : Int))] ++ (#[] : Array Value).toList) (.bool (!true)) := fun w' _ => q1 w'
      repeat' (first
    | (show YK _ _ _ _ _ ⟨_, .call _, _, _, _, _⟩ _; refine YK.mk (y_callV (f := 73) (by rfl) q2 (fun _ _ => trivial) ⟨rfl, rfl⟩ (by decide +kernel)) ?_)
    | (refine nxV ?_)
    | (show RS _ _ _ _ _ _ _ _; first | (refine nxRS ?_) | (refine nxRS1 fun _ => ?_))
    | (show RM _ _ _ _ _ _ _ _ _ _; first | (refine nxRM ?_) | (refine nxRM1 fun _ => ?_))
    | (refine nxG ?_)
    | (refine nxX ?_)
    | (refine G.condN rfl (fun hc => ?_) (fun hc => ?_) <;> (try first | exact False.elim hc | (exfalso; omega))))
      refine X.again (i + 1) ⟨by omega, ?_⟩ (by omega) ⟨rfl, rfl, rfl, rfl, trivial⟩ (by exact fun w h => h.sub (by repeat (first | exact List.Sublist.refl _ | apply List.Sublist.cons_cons | apply List.Sublist.cons)))
      rw [g2]
      show (if ckB (nth l (i : Int)) = true then fbad (l.drop (i + 1)) ((i : Int) + 1) else (i : Int)) = _
      rw [if_pos hv]; rfl
    | false =>
      have hv' := hv
      unfold ckB at hv'
      rw [hv'] at q1
      have q2 : ContIn Tryz.prog (fun _ => True) 73 ([kV (nth l (i : Int))] ++ (#[] : Array Value).toList) (.bool (!false)) := fun w' _ => q1 w'
      repeat' (first
    | (show YK _ _ _ _ _ ⟨_, .call _, _, _, _, _⟩ _; refine YK.mk (y_callV (f := 73) (by rfl) q2 (fun _ _ => trivial) ⟨rfl, rfl⟩ (by decide +kernel)) ?_)
    | (refine nxV ?_)
    | (show RS _ _ _ _ _ _ _ _; first | (refine nxRS ?_) | (refine nxRS1 fun _ => ?_))
    | (show RM _ _ _ _ _ _ _ _ _ _; first | (refine nxRM ?_) | (refine nxRM1 fun _ => ?_))
    | (refine nxG ?_)
    | (refine nxX ?_)
    | (refine G.condN rfl (fun hc => ?_) (fun hc => ?_) <;> (try first | exact False.elim hc | (exfalso; omega))))
      refine X.ret (vs := [_]) rfl ⟨rfl, rfl⟩ rfl (fun w hw => ⟨?_, hw.ext⟩)
      rw [g2]
      show Ending.returned (.int .i64 (i : Int)) = .returned (.int .i64 (if ckB (nth l (i : Int)) = true then fbad (l.drop (i + 1)) ((i : Int) + 1) else (i : Int)))
      rw [if_neg (by rw [hv]; decide)]
  · obtain rfl : i = l.length := by omega
    rw [List.drop_length] at g2
    repeat' (first
    | (refine nxV ?_)
    | (show RS _ _ _ _ _ _ _ _; first | (refine nxRS ?_) | (refine nxRS1 fun _ => ?_))
    | (show RM _ _ _ _ _ _ _ _ _ _; first | (refine nxRM ?_) | (refine nxRM1 fun _ => ?_))
    | (refine nxG ?_)
    | (refine nxX ?_)
    | (refine G.condN rfl (fun hc => ?_) (fun hc => ?_) <;> (try first | exact False.elim hc | (exfalso; omega))))
    exact X.ret (vs := [_]) rfl ⟨rfl, rfl⟩ rfl (fun w hw => ⟨by rw [g2]; rfl, hw.ext⟩)
theorem celCont_c (v : Value) (l : List Cel) (hl : l.length ≤ 1000000) : ContR Tryz.prog [Hl.rd v cK 3 l] 72 [v, invF] (.bool (!l.all ckB)) := fun w hw0 => by
  have q1 := celIx_c v l hl
  have e := fbad_all (l := l) (k := 0) (by omega)
  rw [← e]
  clear e
  generalize fbad l 0 = z at *
  refine enter Tryz.func72 rfl rfl rfl hw0 ?_
  repeat' (first
    | (show YK _ _ _ _ _ _ _; first | refine YK.mk (y_callRA (q1) ⟨rfl, rfl, rfl⟩) ?_)
    | (show YK _ _ _ _ _ _ _; refine YK.ofV vAuto ?_)
    | (show VK _ _ _ _ _ _ _; refine VK.mk vAuto ?_)
    | (show RS _ _ _ _ _ _ _ _; first | (refine nxRS ?_) | (refine nxRS1 fun _ => ?_))
    | (show RM _ _ _ _ _ _ _ _ _ _; first | (refine nxRM ?_) | (refine nxRM1 fun _ => ?_))
    | (show YG _ _ _ _ _ _ _ _; refine YG.mk (fun hb => by (try (have hc := And.left hb; have hb := And.right hb; rw [hc])); (try rw [hb]); first | exact (y_callRA (q1) ⟨rfl, rfl, rfl⟩) | exact V.y vAuto) ?_)
    | (show VG _ _ _ _ _ _ _ _; refine VG.mk (fun hb => by (try (have hc := And.left hb; have hb := And.right hb; rw [hc])); (try rw [hb]); exact vAuto) ?_)
    | (refine nxX ?_)
    | (refine G.condN rfl (fun hc => ?_) (fun hc => ?_) <;> (try first | exact False.elim hc | (exfalso; omega))))
  exact X.ret (vs := [_]) rfl ⟨rfl, rfl⟩ rfl (fun w hw => ⟨rfl, hw.ext⟩)
/-- A region of too many cells, or with one that is not valid. -/
theorem vreg_bad (v : Value) (l : List Cel) (hl : l.length ≤ 1000000) (h : 4000 < l.length ∨ l.all ckB = false) : ContR Tryz.prog [Hl.rd v cK 3 l] 41 [v] (.bool false) := fun w hw0 => by
  have q1 := celCont_c v l hl
  refine enter Tryz.func41 rfl rfl rfl hw0 ?_
  by_cases hn : (l.length : Int) ≤ 4000
  · have ha : l.all ckB = false := by rcases h with h | h; · omega
                                      · exact h
    rw [ha] at q1
    repeat' (first
    | (show YK _ _ _ _ _ _ _; first | refine YK.mk (y_callRA (q1) ⟨rfl, rfl, rfl⟩) ?_)
    | (show YK _ _ _ _ _ _ _; refine YK.ofV vAuto ?_)
    | (show VK _ _ _ _ _ _ _; refine VK.mk vAuto ?_)
    | (show RS _ _ _ _ _ _ _ _; first | (refine nxRS ?_) | (refine nxRS1 fun _ => ?_))
    | (show RM _ _ _ _ _ _ _ _ _ _; first | (refine nxRM ?_) | (refine nxRM1 fun _ => ?_))
    | (show YG _ _ _ _ _ _ _ _; refine YG.mk (fun hb => by (try (have hc := And.left hb; have hb := And.right hb; rw [hc])); (try rw [hb]); first | exact (y_callRA (q1) ⟨rfl, rfl, rfl⟩) | exact V.y vAuto) ?_)
    | (show VG _ _ _ _ _ _ _ _; refine VG.mk (fun hb => by (try (have hc := And.left hb; have hb := And.right hb; rw [hc])); (try rw [hb]); exact vAuto) ?_)
    | (refine nxX ?_)
    | (refine G.condN rfl (fun hc => ?_) (fun hc => ?_) <;> (try first | exact False.elim hc | (exfalso; omega))))
    all_goals first | (exfalso; omega) | exact X.ret (vs := [_]) rfl ⟨rfl, rfl⟩ rfl (fun w hw => ⟨rfl, hw.ext⟩)
  · repeat' (first
    | (show YK _ _ _ _ _ _ _; first | refine YK.mk (y_callRA (q1) ⟨rfl, rfl, rfl⟩) ?_)
    | (show YK _ _ _ _ _ _ _; refine YK.ofV vAuto ?_)
    | (show VK _ _ _ _ _ _ _; refine VK.mk vAuto ?_)
    | (show RS _ _ _ _ _ _ _ _; first | (refine nxRS ?_) | (refine nxRS1 fun _ => ?_))
    | (show RM _ _ _ _ _ _ _ _ _ _; first | (refine nxRM ?_) | (refine nxRM1 fun _ => ?_))
    | (show YG _ _ _ _ _ _ _ _; refine YG.mk (fun hb => by (try (have hc := And.left hb; have hb := And.right hb; rw [hc])); (try rw [hb]); first | exact (y_callRA (q1) ⟨rfl, rfl, rfl⟩) | exact V.y vAuto) ?_)
    | (show VG _ _ _ _ _ _ _ _; refine VG.mk (fun hb => by (try (have hc := And.left hb; have hb := And.right hb; rw [hc])); (try rw [hb]); exact vAuto) ?_)
    | (refine nxX ?_)
    | (refine G.condN rfl (fun hc => ?_) (fun hc => ?_) <;> (try first | exact False.elim hc | (exfalso; omega))))
    all_goals first | (exfalso; omega) | exact X.ret (vs := [_]) rfl ⟨rfl, rfl⟩ rfl (fun w hw => ⟨rfl, hw.ext⟩)
end Go.Proofs.YthilhhegchmjeaaGreat
/- Spans of cells, and cells of numbers. -/
set_option linter.unusedVariables false
set_option maxHeartbeats 8000000
namespace Go.Proofs.YthilhhegchmjeaaGreat
open Go.RowKit
section
variable {P : Program} {n : Nat} {L : FL} {w0 : World} {H : List Hl} {d : Option Tmp} {ty : TypeId} {pos : String} {af : Array Edge} {g : Option (Nat × Bool)} {x y : Operand} {t t' : TypeId} {k' : IntKind}
theorem y_shrA {m j a : Nat} {c : Int} (hx : evO L x = some (.int .i64 (m : Int))) (hy : evO L y = some (.int k' c)) (hc : c = (j : Int)) (hj : j ≤ 64) (ha : m / 2 ^ j = a) : V P n L w0 H ⟨d, .binOp .shr t x y t', ty, pos, af, g⟩ (.int .i64 (a : Int)) := by
  subst hc
  have h := y_shr (P := P) (n := n) (w0 := w0) (H := H) (d := d) (ty := ty) (pos := pos) (af := af) (g := g) (t := t) (t' := t') (q := ((2 ^ j : Nat) : Int)) hx hy (by omega) (by show (2 : Int) ^ (min (j : Int).toNat 64) = _; rw [Int.toNat_natCast, Nat.min_eq_left hj]; simp)
  rw [← ha]
  exact h
theorem y_shlA {m j a : Nat} {c : Int} (hx : evO L x = some (.int .i64 (m : Int))) (hy : evO L y = some (.int k' c)) (hc : c = (j : Int)) (hj : j ≤ 64) (ha : m * 2 ^ j = a) (hb : a ≤ 4611686018427387904) : V P n L w0 H ⟨d, .binOp .shl t x y t', ty, pos, af, g⟩ (.int .i64 (a : Int)) := by
  subst hc
  have e : (m : Int) * ((2 ^ j : Nat) : Int) = (a : Int) := by rw [← ha]; simp
  exact y_shl (q := ((2 ^ j : Nat) : Int)) hx hy (by omega) (by show (2 : Int) ^ (min (j : Int).toNat 64) = _; rw [Int.toNat_natCast, Nat.min_eq_left hj]; simp) (by rw [e]; exact IntWalk.i64_in _ (by omega))
theorem and_low {a k : Nat} (h : a ≤ 4611686018427387904) (hk : 2 ^ k ≤ 4611686018427387904) : bits .and .i64 (a : Int) ((2 ^ k - 1 : Nat) : Int) = ((a % 2 ^ k : Nat) : Int) := by
  have e : ∀ m : Nat, m < 18446744073709551616 → (BitVec.ofInt 64 (m : Int)).toNat = m := fun m hm => by
    rw [BitVec.toNat_ofInt]
    have := Int.emod_eq_of_lt (a := (m : Int)) (b := ((2 ^ 64 : Nat) : Int)) (by omega) (by omega)
    omega
  have h0 := Nat.mod_le a (2 ^ k)
  have h1 : (BitVec.ofInt 64 (a : Int) &&& BitVec.ofInt 64 ((2 ^ k - 1 : Nat) : Int)).toNat = a % 2 ^ k := by
    rw [BitVec.toNat_and, e _ (by omega), e _ (by omega)]
    exact Nat.and_two_pow_sub_one_eq_mod a k
  show IntKind.i64.wrap ((BitVec.ofInt 64 (a : Int) &&& BitVec.ofInt 64 ((2 ^ k - 1 : Nat) : Int)).toNat : Int) = _
  rw [h1, IntWalk.i64_in _ (by omega)]
theorem y_and1 {a : Nat} (hx : evO L x = some (.int .i64 (a : Int))) (hy : evO L y = some (.int .i64 1)) (h : a ≤ 4611686018427387904) : V P n L w0 H ⟨d, .binOp .and t x y t', ty, pos, af, g⟩ (.int .i64 ((a % 2 : Nat) : Int)) := by
  have := y_band (P := P) (n := n) (w0 := w0) (H := H) (d := d) (ty := ty) (pos := pos) (af := af) (g := g) (t := t) (t' := t') hx hy
  have e : bits .and .i64 (a : Int) 1 = ((a % 2 : Nat) : Int) := and_low (k := 1) h (by decide)
  rwa [e] at this
theorem y_and3 {a : Nat} (hx : evO L x = some (.int .i64 (a : Int))) (hy : evO L y = some (.int .i64 3)) (h : a ≤ 4611686018427387904) : V P n L w0 H ⟨d, .binOp .and t x y t', ty, pos, af, g⟩ (.int .i64 ((a % 4 : Nat) : Int)) := by
  have := y_band (P := P) (n := n) (w0 := w0) (H := H) (d := d) (ty := ty) (pos := pos) (af := af) (g := g) (t := t) (t' := t') hx hy
  have e : bits .and .i64 (a : Int) 3 = ((a % 4 : Nat) : Int) := and_low (k := 2) h (by decide)
  rwa [e] at this
theorem y_orA {a b c : Nat} (hx : evO L x = some (.int .i64 (a : Int))) (hy : evO L y = some (.int .i64 (b : Int))) (h : a ||| b = c) (h1 : a ≤ 4611686018427387904) (h2 : b ≤ 4611686018427387904) (h3 : c ≤ 4611686018427387904) : V P n L w0 H ⟨d, .binOp .or t x y t', ty, pos, af, g⟩ (.int .i64 (c : Int)) := by
  have := y_bor (P := P) (n := n) (w0 := w0) (H := H) (d := d) (ty := ty) (pos := pos) (af := af) (g := g) (t := t) (t' := t') hx hy
  have e0 : ∀ m : Nat, m < 18446744073709551616 → (BitVec.ofInt 64 (m : Int)).toNat = m := fun m hm => by
    rw [BitVec.toNat_ofInt]
    have := Int.emod_eq_of_lt (a := (m : Int)) (b := ((2 ^ 64 : Nat) : Int)) (by omega) (by omega)
    omega
  have e : bits .or .i64 (a : Int) (b : Int) = (c : Int) := by
    have h1 : (BitVec.ofInt 64 (a : Int) ||| BitVec.ofInt 64 (b : Int)).toNat = c := by
      rw [BitVec.toNat_or, e0 _ (by omega), e0 _ (by omega), h]
    show IntKind.i64.wrap ((BitVec.ofInt 64 (a : Int) ||| BitVec.ofInt 64 (b : Int)).toNat : Int) = _
    rw [h1, IntWalk.i64_in _ (by omega)]
  rwa [e] at this
end
abbrev spnV (a b : Int) : Value := .agg [.int .i64 a, .int .i64 b].toArray
theorem mc_bd {x : RR.CellT} (ok : RR.okC x) {j : Nat} (h : j ≤ x.lv) : RR.mc (x.lv - j) (x.r / 2 ^ j) (x.c / 2 ^ j) < 8589934592 := by
  obtain ⟨h1, h2, h3⟩ := ok
  have e : 2 ^ x.lv = 2 ^ (x.lv - j) * 2 ^ j := by rw [← Nat.pow_add]; congr 1; omega
  have g1 : x.r / 2 ^ j < 2 ^ (x.lv - j) := (Nat.div_lt_iff_lt_mul (Nat.pow_pos (by decide))).2 (by rw [← e]; exact h2)
  have g2 : x.c / 2 ^ j < 2 * 2 ^ (x.lv - j) := (Nat.div_lt_iff_lt_mul (Nat.pow_pos (by decide))).2 (by rw [Nat.mul_assoc, ← e]; exact h3)
  have g3 := RR.mc_lt _ _ _ g1 g2
  have g4 : 4 ^ (x.lv - j) ≤ 4 ^ 16 := Nat.pow_le_pow_right (by decide) (by omega)
  omega
theorem sz_two {lv : Nat} (h : lv ≤ 16) : 1 * 2 ^ (2 * (16 - lv)) = RR.sz lv := by
  unfold RR.sz
  rw [Nat.one_mul, Nat.pow_mul]
theorem sz_bd (lv : Nat) : 1 ≤ RR.sz lv ∧ RR.sz lv ≤ 4294967296 := by
  refine ⟨RR.sz_pos lv, ?_⟩
  have : RR.sz lv ≤ 4 ^ 16 := Nat.pow_le_pow_right (by decide) (by omega)
  omega
theorem okC_bd {x : RR.CellT} (ok : RR.okC x) : x.lv ≤ 16 ∧ x.r < 65536 ∧ x.c < 131072 := by
  obtain ⟨h1, h2, h3⟩ := ok
  have g : 2 ^ x.lv ≤ 2 ^ 16 := Nat.pow_le_pow_right (by decide) h1
  omega
theorem ofRow2 {x : RR.CellT} : celV x.lv x.r x.c = kV ⟨x.lv, x.r, x.c⟩ := rfl
theorem spanOf_c {x : RR.CellT} (ok : RR.okC x) : Cont Tryz.prog 103 [celV x.lv x.r x.c] (spnV (RR.fr x) (RR.to x)) := fun w => by
  have hbd := okC_bd ok
  have hsp := RR.okC_span ok
  have hs := sz_two hbd.1
  have hsb := sz_bd x.lv
  have hc0 : x.c / 2 ^ x.lv = x.c / 2 ^ x.lv := rfl
  generalize hA : x.c / 2 ^ x.lv = a0 at hc0
  have hA2 : a0 ≤ 131072 := by rw [← hA]; exact Nat.le_trans (Nat.div_le_self _ _) (by omega)
  refine enter0 Tryz.func103 rfl rfl rfl ?_
  repeat' (first
    | (show VK _ _ _ _ _ ⟨_, .binOp .shr _ _ _ _, _, _, _, _⟩ _; refine VK.mk (y_shrA (m := x.c) (j := x.lv) (by rfl) (by rfl) (by omega) (by omega) hA) ?_)
    | (show YK _ _ _ _ _ ⟨_, .binOp .shr _ _ _ _, _, _, _, _⟩ _; refine YK.ofV (y_shrA (m := x.c) (j := x.lv) (by rfl) (by rfl) (by omega) (by omega) hA) ?_)
    | (show VG _ _ _ _ _ _ ⟨_, .binOp .shr _ _ _ _, _, _, _, _⟩ _; refine VG.mk (fun hb => by (try (have hc := And.left hb; have hb := And.right hb; rw [hc])); (try rw [hb]); exact y_shrA (m := x.c) (j := x.lv) (by rfl) (by rfl) (by omega) (by omega) hA) ?_)
    | (show YG _ _ _ _ _ _ ⟨_, .binOp .shr _ _ _ _, _, _, _, _⟩ _; refine YG.mk (fun hb => by (try (have hc := And.left hb; have hb := And.right hb; rw [hc])); (try rw [hb]); exact V.y (y_shrA (m := x.c) (j := x.lv) (by rfl) (by rfl) (by omega) (by omega) hA)) ?_)
    | (refine nxV ?_)
    | (show RS _ _ _ _ _ _ _ _; first | (refine nxRS ?_) | (refine nxRS1 fun _ => ?_))
    | (show RM _ _ _ _ _ _ _ _ _ _; first | (refine nxRM ?_) | (refine nxRM1 fun _ => ?_))
    | (refine nxG ?_)
    | (refine G.mixedA 5 [.go 0, .go 1, .go 2, .go 3, .go 4, .go 5, .go 6, .go 7, .go 8, .go 9, .go 10, .go 11, .go 12, .go 13, .go 14, .go 15] ?_)
    | (refine nxX ?_)
    | (refine G.condN rfl (fun hc => ?_) (fun hc => ?_) <;> (try first | exact False.elim hc | (exfalso; omega))))
  rename_i b1 b2
  have hM0 := fun j (h : j ≤ x.lv) => mc_bd ok h
  refine G.loop (ι := Nat) (fun j => [(1, .pointer (some ⟨b1, 0, none⟩)), (2, .pointer (some ⟨b2, 0, none⟩)), (3, .int .i64 ((RR.mc (x.lv - j) (x.r / 2 ^ j) (x.c / 2 ^ j) : Nat) : Int)), (4, .int .i64 ((j : Int) - 1))]) (fun _ => [Hl.blk b2 136 [.int .i64 0, .int .i64 0], Hl.blk b1 110 [.int .i64 x.lv, .int .i64 x.r, .int .i64 x.c]]) (fun j => j ≤ x.lv) (fun j => j) x.lv (Nat.le_refl _) ⟨rfl, rfl, (by rw [RR.mc_top, hA]; rfl), rfl, trivial⟩ (by exact fun w h => h.sub (by repeat (first | exact List.Sublist.refl _ | apply List.Sublist.cons_cons | apply List.Sublist.cons))) ?_
  rintro j mx hj hmx
  have hM := hM0 j hj
  cases j with
  | succ j =>
    have hd := RR.mc_down (lv := x.lv) (r := x.r) (c := x.c) (j := j) (by omega)
    have hr1 : x.r / 2 ^ j ≤ x.r := Nat.div_le_self _ _
    have hc1 : x.c / 2 ^ j ≤ x.c := Nat.div_le_self _ _
    generalize hR : x.r / 2 ^ j = rr at *
    generalize hC : x.c / 2 ^ j = cc at *
    generalize RR.mc (x.lv - (j + 1)) (x.r / 2 ^ (j + 1)) (x.c / 2 ^ (j + 1)) = M at *
    repeat' (first
    | (show VK _ _ _ _ _ ⟨_, .binOp .shr _ _ _ _, _, _, _, _⟩ _; refine VK.mk (y_shrA (m := x.r) (j := j) (by rfl) (by rfl) (by omega) (by omega) hR) ?_)
    | (show YK _ _ _ _ _ ⟨_, .binOp .shr _ _ _ _, _, _, _, _⟩ _; refine YK.ofV (y_shrA (m := x.r) (j := j) (by rfl) (by rfl) (by omega) (by omega) hR) ?_)
    | (show VG _ _ _ _ _ _ ⟨_, .binOp .shr _ _ _ _, _, _, _, _⟩ _; refine VG.mk (fun hb => by (try (have hc := And.left hb; have hb := And.right hb; rw [hc])); (try rw [hb]); exact y_shrA (m := x.r) (j := j) (by rfl) (by rfl) (by omega) (by omega) hR) ?_)
    | (show YG _ _ _ _ _ _ ⟨_, .binOp .shr _ _ _ _, _, _, _, _⟩ _; refine YG.mk (fun hb => by (try (have hc := And.left hb; have hb := And.right hb; rw [hc])); (try rw [hb]); exact V.y (y_shrA (m := x.r) (j := j) (by rfl) (by rfl) (by omega) (by omega) hR)) ?_)
    | (show VK _ _ _ _ _ ⟨_, .binOp .shr _ _ _ _, _, _, _, _⟩ _; refine VK.mk (y_shrA (m := x.c) (j := j) (by rfl) (by rfl) (by omega) (by omega) hC) ?_)
    | (show YK _ _ _ _ _ ⟨_, .binOp .shr _ _ _ _, _, _, _, _⟩ _; refine YK.ofV (y_shrA (m := x.c) (j := j) (by rfl) (by rfl) (by omega) (by omega) hC) ?_)
    | (show VG _ _ _ _ _ _ ⟨_, .binOp .shr _ _ _ _, _, _, _, _⟩ _; refine VG.mk (fun hb => by (try (have hc := And.left hb; have hb := And.right hb; rw [hc])); (try rw [hb]); exact y_shrA (m := x.c) (j := j) (by rfl) (by rfl) (by omega) (by omega) hC) ?_)
    | (show YG _ _ _ _ _ _ ⟨_, .binOp .shr _ _ _ _, _, _, _, _⟩ _; refine YG.mk (fun hb => by (try (have hc := And.left hb; have hb := And.right hb; rw [hc])); (try rw [hb]); exact V.y (y_shrA (m := x.c) (j := j) (by rfl) (by rfl) (by omega) (by omega) hC)) ?_)
    | (show VK _ _ _ _ _ ⟨_, .binOp .and _ _ _ _, _, _, _, _⟩ _; refine VK.mk (y_and1 (a := rr) (by rfl) (by rfl) (by omega)) ?_)
    | (show YK _ _ _ _ _ ⟨_, .binOp .and _ _ _ _, _, _, _, _⟩ _; refine YK.ofV (y_and1 (a := rr) (by rfl) (by rfl) (by omega)) ?_)
    | (show VG _ _ _ _ _ _ ⟨_, .binOp .and _ _ _ _, _, _, _, _⟩ _; refine VG.mk (fun hb => by (try (have hc := And.left hb; have hb := And.right hb; rw [hc])); (try rw [hb]); exact y_and1 (a := rr) (by rfl) (by rfl) (by omega)) ?_)
    | (show YG _ _ _ _ _ _ ⟨_, .binOp .and _ _ _ _, _, _, _, _⟩ _; refine YG.mk (fun hb => by (try (have hc := And.left hb; have hb := And.right hb; rw [hc])); (try rw [hb]); exact V.y (y_and1 (a := rr) (by rfl) (by rfl) (by omega))) ?_)
    | (show VK _ _ _ _ _ ⟨_, .binOp .and _ _ _ _, _, _, _, _⟩ _; refine VK.mk (y_and1 (a := cc) (by rfl) (by rfl) (by omega)) ?_)
    | (show YK _ _ _ _ _ ⟨_, .binOp .and _ _ _ _, _, _, _, _⟩ _; refine YK.ofV (y_and1 (a := cc) (by rfl) (by rfl) (by omega)) ?_)
    | (show VG _ _ _ _ _ _ ⟨_, .binOp .and _ _ _ _, _, _, _, _⟩ _; refine VG.mk (fun hb => by (try (have hc := And.left hb; have hb := And.right hb; rw [hc])); (try rw [hb]); exact y_and1 (a := cc) (by rfl) (by rfl) (by omega)) ?_)
    | (show YG _ _ _ _ _ _ ⟨_, .binOp .and _ _ _ _, _, _, _, _⟩ _; refine YG.mk (fun hb => by (try (have hc := And.left hb; have hb := And.right hb; rw [hc])); (try rw [hb]); exact V.y (y_and1 (a := cc) (by rfl) (by rfl) (by omega))) ?_)
    | (refine nxV ?_)
    | (show RS _ _ _ _ _ _ _ _; first | (refine nxRS ?_) | (refine nxRS1 fun _ => ?_))
    | (show RM _ _ _ _ _ _ _ _ _ _; first | (refine nxRM ?_) | (refine nxRM1 fun _ => ?_))
    | (refine nxG ?_)
    | (refine G.mixedA 5 [.go 0, .go 1, .go 2, .go 3, .go 4, .go 5, .go 6, .go 7, .go 8, .go 9, .go 10, .go 11, .go 12, .go 13, .go 14, .go 15] ?_)
    | (refine nxX ?_)
    | (refine G.condN rfl (fun hc => ?_) (fun hc => ?_) <;> (try first | exact False.elim hc | (exfalso; omega))))
    refine X.again j (by omega) (by omega) ⟨rfl, rfl, ?_, ?_, trivial⟩ (by exact fun w h => h.sub (by repeat (first | exact List.Sublist.refl _ | apply List.Sublist.cons_cons | apply List.Sublist.cons)))
    · rw [hR, hC, hd]
      exact congrArg (fun z => some (Value.int .i64 z)) (by omega)
    · exact congrArg (fun z => some (Value.int .i64 z)) (by omega)
  | zero =>
    have e1 : RR.mc (x.lv - 0) (x.r / 2 ^ 0) (x.c / 2 ^ 0) = RR.mc x.lv x.r x.c := by simp
    rw [e1] at hM ⊢
    have f1 : ((RR.mc x.lv x.r x.c : Nat) : Int) * ((RR.sz x.lv : Nat) : Int) = ((RR.fr x : Nat) : Int) := by unfold RR.fr; simp
    have f2 : (((RR.mc x.lv x.r x.c : Nat) : Int) + 1) * ((RR.sz x.lv : Nat) : Int) = ((RR.to x : Nat) : Int) := by unfold RR.to; simp
    have g1 : RR.fr x < RR.to x := hsp.1
    have g2 : RR.to x ≤ 8589934592 := hsp.2
    clear hsp
    generalize RR.fr x = A at *
    generalize RR.to x = B at *
    generalize RR.mc x.lv x.r x.c = M at *
    generalize RR.sz x.lv = S at *
    repeat' (first
    | (show VK _ _ _ _ _ ⟨_, .binOp .shl _ _ _ _, _, _, _, _⟩ _; refine VK.mk (y_shlA (m := 1) (j := 2 * (16 - x.lv)) (by rfl) (by rfl) (by omega) (by omega) hs (by omega)) ?_)
    | (show YK _ _ _ _ _ ⟨_, .binOp .shl _ _ _ _, _, _, _, _⟩ _; refine YK.ofV (y_shlA (m := 1) (j := 2 * (16 - x.lv)) (by rfl) (by rfl) (by omega) (by omega) hs (by omega)) ?_)
    | (show VG _ _ _ _ _ _ ⟨_, .binOp .shl _ _ _ _, _, _, _, _⟩ _; refine VG.mk (fun hb => by (try (have hc := And.left hb; have hb := And.right hb; rw [hc])); (try rw [hb]); exact y_shlA (m := 1) (j := 2 * (16 - x.lv)) (by rfl) (by rfl) (by omega) (by omega) hs (by omega)) ?_)
    | (show YG _ _ _ _ _ _ ⟨_, .binOp .shl _ _ _ _, _, _, _, _⟩ _; refine YG.mk (fun hb => by (try (have hc := And.left hb; have hb := And.right hb; rw [hc])); (try rw [hb]); exact V.y (y_shlA (m := 1) (j := 2 * (16 - x.lv)) (by rfl) (by rfl) (by omega) (by omega) hs (by omega))) ?_)
    | (refine nxV ?_)
    | (show RS _ _ _ _ _ _ _ _; first | (refine nxRS ?_) | (refine nxRS1 fun _ => ?_))
    | (show RM _ _ _ _ _ _ _ _ _ _; first | (refine nxRM ?_) | (refine nxRM1 fun _ => ?_))
    | (refine nxG ?_)
    | (refine G.mixedA 5 [.go 0, .go 1, .go 2, .go 3, .go 4, .go 5, .go 6, .go 7, .go 8, .go 9, .go 10, .go 11, .go 12, .go 13, .go 14, .go 15] ?_)
    | (refine nxX ?_)
    | (refine G.condN rfl (fun hc => ?_) (fun hc => ?_) <;> (try first | exact False.elim hc | (exfalso; omega))))
    refine X.ret (vs := [_]) rfl ⟨⟨_, _, _, _, rfl, (by exact memA), (by (repeat (first | exact .nil | apply LenIs.cons))), by decide +kernel, rfl⟩, rfl⟩ rfl (fun w hw => ⟨?_, hw.ext⟩)
    dsimp only
    rw [f2, f1]
/-- The cell of a number. -/
theorem cellOf_c {n lv : Nat} (hl : lv ≤ 16) (hn : n < 2 * 4 ^ lv) : Cont Tryz.prog 102 [.int .i64 (n : Int), .int .i64 (lv : Int)] (celV lv (RR.drow lv n) (RR.dcol lv n)) := fun w => by
  have h4 : 4 ^ lv ≤ 4 ^ 16 := Nat.pow_le_pow_right (by decide) hl
  have hn2 : n < 8589934592 := by omega
  refine enter0 Tryz.func102 rfl rfl rfl ?_
  repeat' (first
    | (refine nxN ?_)
    | (refine nxV ?_)
    | (show RS _ _ _ _ _ _ _ _; first | (refine nxRS ?_) | (refine nxRS1 fun _ => ?_))
    | (show RM _ _ _ _ _ _ _ _ _ _; first | (refine nxRM ?_) | (refine nxRM1 fun _ => ?_))
    | (refine nxG ?_)
    | (refine G.mixedA 6 [.go 0, .go 1, .go 2, .go 3, .go 4, .go 5, .go 6, .go 7, .go 8] ?_)
    | (refine G.mixedA 7 [.go 0, .go 1, .go 2, .go 3, .go 4, .go 5, .go 6, .go 7, .go 8] ?_)
    | (refine G.mixedA 9 [.go 0, .go 1, .go 2, .go 3, .go 4, .go 5, .go 6, .go 7, .go 8, .go 9, .go 10] ?_)
    | (refine nxX ?_)
    | (refine G.condN rfl (fun hc => ?_) (fun hc => ?_) <;> (try first | exact False.elim hc | (exfalso; omega))))
  rename_i b1 b2
  refine G.loop (ι := Nat) (fun k => [(0, .int .i64 (n : Int)), (1, .int .i64 (lv : Int)), (4, .pointer (some ⟨b1, 0, none⟩)), (5, .pointer (some ⟨b2, 0, none⟩)), (10, .int .i64 (lv : Int)), (11, .int .i64 (k : Int))]) (fun k => [Hl.blk b2 110 [.int .i64 lv, .int .i64 (RR.drow k n : Nat), .int .i64 (RR.dlow k n : Nat)], Hl.blk b1 110 [.int .i64 0, .int .i64 0, .int .i64 0]]) (fun k => k ≤ lv) (fun k => lv - k) 0 (Nat.zero_le _) ⟨rfl, rfl, rfl, rfl, rfl, rfl, trivial⟩ (by exact fun w h => h.sub (by repeat (first | exact List.Sublist.refl _ | apply List.Sublist.cons_cons | apply List.Sublist.cons))) ?_
  rintro k mx hk hmx
  (try dsimp only at hk hmx ⊢)
  have p1 := RR.drow_lt k n
  have p2 := RR.dlow_lt k n
  have p3 : 2 ^ k ≤ 2 ^ 16 := Nat.pow_le_pow_right (by decide) (by omega)
  rcases Nat.lt_or_ge k lv with hi | hi
  · have s1 := RR.drow_step k n
    have s2 := RR.dlow_step k n
    have e4 : n / 2 ^ (2 * k) = n / 4 ^ k := by rw [Nat.pow_mul]
    have hq : n / 2 ^ (2 * k) ≤ n := Nat.div_le_self _ _
    rw [← e4] at s1 s2
    generalize hQ : n / 2 ^ (2 * k) = q at *
    have o1 := RR.or_up (b := q % 4 / 2) p1
    have o2 := RR.or_up (b := q % 4 % 2) p2
    rw [← s1] at o1
    rw [show q % 4 % 2 = q % 2 by omega, ← s2] at o2
    have t1 := RR.drow_lt (k + 1) n
    have t2 := RR.dlow_lt (k + 1) n
    have t3 : 2 ^ (k + 1) ≤ 2 ^ 17 := Nat.pow_le_pow_right (by decide) (by omega)
    have u1 : q % 4 / 2 * 2 ^ k ≤ 65536 := by
      have : q % 4 / 2 * 2 ^ k ≤ 1 * 2 ^ k := Nat.mul_le_mul_right _ (by omega)
      omega
    have u2 : q % 2 * 2 ^ k ≤ 65536 := by
      have : q % 2 * 2 ^ k ≤ 1 * 2 ^ k := Nat.mul_le_mul_right _ (by omega)
      omega
    have e2 : q % 4 % 2 = q % 2 := by omega
    generalize hd1 : q % 4 / 2 = d1 at *
    generalize hd2 : q % 2 = d2 at *
    generalize hz1 : d1 * 2 ^ k = z1 at *
    generalize hz2 : d2 * 2 ^ k = z2 at *
    generalize RR.drow k n = A at *
    generalize RR.dlow k n = B at *
    generalize hA' : RR.drow (k + 1) n = A' at *
    generalize hB' : RR.dlow (k + 1) n = B' at *
    repeat' (first
    | (refine nxN ?_)
    | (show VK _ _ _ _ _ ⟨_, .binOp .shr _ _ _ _, _, _, _, _⟩ _; refine VK.mk (y_shrA (m := n) (j := 2 * k) (by rfl) (by rfl) (by omega) (by omega) hQ) ?_)
    | (show YK _ _ _ _ _ ⟨_, .binOp .shr _ _ _ _, _, _, _, _⟩ _; refine YK.ofV (y_shrA (m := n) (j := 2 * k) (by rfl) (by rfl) (by omega) (by omega) hQ) ?_)
    | (show VG _ _ _ _ _ _ ⟨_, .binOp .shr _ _ _ _, _, _, _, _⟩ _; refine VG.mk (fun hb => by (try (have hc := And.left hb; have hb := And.right hb; rw [hc])); (try rw [hb]); exact y_shrA (m := n) (j := 2 * k) (by rfl) (by rfl) (by omega) (by omega) hQ) ?_)
    | (show YG _ _ _ _ _ _ ⟨_, .binOp .shr _ _ _ _, _, _, _, _⟩ _; refine YG.mk (fun hb => by (try (have hc := And.left hb; have hb := And.right hb; rw [hc])); (try rw [hb]); exact V.y (y_shrA (m := n) (j := 2 * k) (by rfl) (by rfl) (by omega) (by omega) hQ)) ?_)
    | (show VFrK _ _ _ _ _ ⟨_, .binOp .shr _ _ _ _, _, _, _, _⟩ _; refine VFrK.mk (vf_of fun _ => y_shrA (m := n) (j := 2 * k) (by rfl) (by rfl) (by omega) (by omega) hQ) ?_)
    | (show VK _ _ _ _ _ ⟨_, .binOp .shr _ _ _ _, _, _, _, _⟩ _; refine VK.mk (y_shrA (m := q % 4) (j := 1) (by rfl) (by rfl) (by omega) (by omega) hd1) ?_)
    | (show YK _ _ _ _ _ ⟨_, .binOp .shr _ _ _ _, _, _, _, _⟩ _; refine YK.ofV (y_shrA (m := q % 4) (j := 1) (by rfl) (by rfl) (by omega) (by omega) hd1) ?_)
    | (show VG _ _ _ _ _ _ ⟨_, .binOp .shr _ _ _ _, _, _, _, _⟩ _; refine VG.mk (fun hb => by (try (have hc := And.left hb; have hb := And.right hb; rw [hc])); (try rw [hb]); exact y_shrA (m := q % 4) (j := 1) (by rfl) (by rfl) (by omega) (by omega) hd1) ?_)
    | (show YG _ _ _ _ _ _ ⟨_, .binOp .shr _ _ _ _, _, _, _, _⟩ _; refine YG.mk (fun hb => by (try (have hc := And.left hb; have hb := And.right hb; rw [hc])); (try rw [hb]); exact V.y (y_shrA (m := q % 4) (j := 1) (by rfl) (by rfl) (by omega) (by omega) hd1)) ?_)
    | (show VFrK _ _ _ _ _ ⟨_, .binOp .shr _ _ _ _, _, _, _, _⟩ _; refine VFrK.mk (vf_of fun _ => y_shrA (m := q % 4) (j := 1) (by rfl) (by rfl) (by omega) (by omega) hd1) ?_)
    | (show VK _ _ _ _ _ ⟨_, .binOp .and _ _ _ _, _, _, _, _⟩ _; refine VK.mk (y_and3 (a := q) (by rfl) (by rfl) (by omega)) ?_)
    | (show YK _ _ _ _ _ ⟨_, .binOp .and _ _ _ _, _, _, _, _⟩ _; refine YK.ofV (y_and3 (a := q) (by rfl) (by rfl) (by omega)) ?_)
    | (show VG _ _ _ _ _ _ ⟨_, .binOp .and _ _ _ _, _, _, _, _⟩ _; refine VG.mk (fun hb => by (try (have hc := And.left hb; have hb := And.right hb; rw [hc])); (try rw [hb]); exact y_and3 (a := q) (by rfl) (by rfl) (by omega)) ?_)
    | (show YG _ _ _ _ _ _ ⟨_, .binOp .and _ _ _ _, _, _, _, _⟩ _; refine YG.mk (fun hb => by (try (have hc := And.left hb; have hb := And.right hb; rw [hc])); (try rw [hb]); exact V.y (y_and3 (a := q) (by rfl) (by rfl) (by omega))) ?_)
    | (show VFrK _ _ _ _ _ ⟨_, .binOp .and _ _ _ _, _, _, _, _⟩ _; refine VFrK.mk (vf_of fun _ => y_and3 (a := q) (by rfl) (by rfl) (by omega)) ?_)
    | (show VK _ _ _ _ _ ⟨_, .binOp .and _ _ _ _, _, _, _, _⟩ _; refine VK.mk (y_and1 (a := q % 4) (by rfl) (by rfl) (by omega)) ?_)
    | (show YK _ _ _ _ _ ⟨_, .binOp .and _ _ _ _, _, _, _, _⟩ _; refine YK.ofV (y_and1 (a := q % 4) (by rfl) (by rfl) (by omega)) ?_)
    | (show VG _ _ _ _ _ _ ⟨_, .binOp .and _ _ _ _, _, _, _, _⟩ _; refine VG.mk (fun hb => by (try (have hc := And.left hb; have hb := And.right hb; rw [hc])); (try rw [hb]); exact y_and1 (a := q % 4) (by rfl) (by rfl) (by omega)) ?_)
    | (show YG _ _ _ _ _ _ ⟨_, .binOp .and _ _ _ _, _, _, _, _⟩ _; refine YG.mk (fun hb => by (try (have hc := And.left hb; have hb := And.right hb; rw [hc])); (try rw [hb]); exact V.y (y_and1 (a := q % 4) (by rfl) (by rfl) (by omega))) ?_)
    | (show VFrK _ _ _ _ _ ⟨_, .binOp .and _ _ _ _, _, _, _, _⟩ _; refine VFrK.mk (vf_of fun _ => y_and1 (a := q % 4) (by rfl) (by rfl) (by omega)) ?_)
    | (show VK _ _ _ _ _ ⟨_, .binOp .shl _ _ _ _, _, _, _, _⟩ _; refine VK.mk (y_shlA (m := d1) (j := k) (by rfl) (by rfl) (by omega) (by omega) hz1 (by omega)) ?_)
    | (show YK _ _ _ _ _ ⟨_, .binOp .shl _ _ _ _, _, _, _, _⟩ _; refine YK.ofV (y_shlA (m := d1) (j := k) (by rfl) (by rfl) (by omega) (by omega) hz1 (by omega)) ?_)
    | (show VG _ _ _ _ _ _ ⟨_, .binOp .shl _ _ _ _, _, _, _, _⟩ _; refine VG.mk (fun hb => by (try (have hc := And.left hb; have hb := And.right hb; rw [hc])); (try rw [hb]); exact y_shlA (m := d1) (j := k) (by rfl) (by rfl) (by omega) (by omega) hz1 (by omega)) ?_)
    | (show YG _ _ _ _ _ _ ⟨_, .binOp .shl _ _ _ _, _, _, _, _⟩ _; refine YG.mk (fun hb => by (try (have hc := And.left hb; have hb := And.right hb; rw [hc])); (try rw [hb]); exact V.y (y_shlA (m := d1) (j := k) (by rfl) (by rfl) (by omega) (by omega) hz1 (by omega))) ?_)
    | (show VFrK _ _ _ _ _ ⟨_, .binOp .shl _ _ _ _, _, _, _, _⟩ _; refine VFrK.mk (vf_of fun _ => y_shlA (m := d1) (j := k) (by rfl) (by rfl) (by omega) (by omega) hz1 (by omega)) ?_)
    | (show VK _ _ _ _ _ ⟨_, .binOp .shl _ _ _ _, _, _, _, _⟩ _; refine VK.mk (y_shlA (m := q % 4 % 2) (j := k) (by rfl) (by rfl) (by omega) (by omega) (e2.symm ▸ hz2) (by omega)) ?_)
    | (show YK _ _ _ _ _ ⟨_, .binOp .shl _ _ _ _, _, _, _, _⟩ _; refine YK.ofV (y_shlA (m := q % 4 % 2) (j := k) (by rfl) (by rfl) (by omega) (by omega) (e2.symm ▸ hz2) (by omega)) ?_)
    | (show VG _ _ _ _ _ _ ⟨_, .binOp .shl _ _ _ _, _, _, _, _⟩ _; refine VG.mk (fun hb => by (try (have hc := And.left hb; have hb := And.right hb; rw [hc])); (try rw [hb]); exact y_shlA (m := q % 4 % 2) (j := k) (by rfl) (by rfl) (by omega) (by omega) (e2.symm ▸ hz2) (by omega)) ?_)
    | (show YG _ _ _ _ _ _ ⟨_, .binOp .shl _ _ _ _, _, _, _, _⟩ _; refine YG.mk (fun hb => by (try (have hc := And.left hb; have hb := And.right hb; rw [hc])); (try rw [hb]); exact V.y (y_shlA (m := q % 4 % 2) (j := k) (by rfl) (by rfl) (by omega) (by omega) (e2.symm ▸ hz2) (by omega))) ?_)
    | (show VFrK _ _ _ _ _ ⟨_, .binOp .shl _ _ _ _, _, _, _, _⟩ _; refine VFrK.mk (vf_of fun _ => y_shlA (m := q % 4 % 2) (j := k) (by rfl) (by rfl) (by omega) (by omega) (e2.symm ▸ hz2) (by omega)) ?_)
    | (show VK _ _ _ _ _ ⟨_, .binOp .or _ _ _ _, _, _, _, _⟩ _; refine VK.mk (y_orA (by rfl) (by rfl) o1 (by omega) (by omega) (by omega)) ?_)
    | (show YK _ _ _ _ _ ⟨_, .binOp .or _ _ _ _, _, _, _, _⟩ _; refine YK.ofV (y_orA (by rfl) (by rfl) o1 (by omega) (by omega) (by omega)) ?_)
    | (show VG _ _ _ _ _ _ ⟨_, .binOp .or _ _ _ _, _, _, _, _⟩ _; refine VG.mk (fun hb => by (try (have hc := And.left hb; have hb := And.right hb; rw [hc])); (try rw [hb]); exact y_orA (by rfl) (by rfl) o1 (by omega) (by omega) (by omega)) ?_)
    | (show YG _ _ _ _ _ _ ⟨_, .binOp .or _ _ _ _, _, _, _, _⟩ _; refine YG.mk (fun hb => by (try (have hc := And.left hb; have hb := And.right hb; rw [hc])); (try rw [hb]); exact V.y (y_orA (by rfl) (by rfl) o1 (by omega) (by omega) (by omega))) ?_)
    | (show VFrK _ _ _ _ _ ⟨_, .binOp .or _ _ _ _, _, _, _, _⟩ _; refine VFrK.mk (vf_of fun _ => y_orA (by rfl) (by rfl) o1 (by omega) (by omega) (by omega)) ?_)
    | (show VK _ _ _ _ _ ⟨_, .binOp .or _ _ _ _, _, _, _, _⟩ _; refine VK.mk (y_orA (by rfl) (by rfl) o2 (by omega) (by omega) (by omega)) ?_)
    | (show YK _ _ _ _ _ ⟨_, .binOp .or _ _ _ _, _, _, _, _⟩ _; refine YK.ofV (y_orA (by rfl) (by rfl) o2 (by omega) (by omega) (by omega)) ?_)
    | (show VG _ _ _ _ _ _ ⟨_, .binOp .or _ _ _ _, _, _, _, _⟩ _; refine VG.mk (fun hb => by (try (have hc := And.left hb; have hb := And.right hb; rw [hc])); (try rw [hb]); exact y_orA (by rfl) (by rfl) o2 (by omega) (by omega) (by omega)) ?_)
    | (show YG _ _ _ _ _ _ ⟨_, .binOp .or _ _ _ _, _, _, _, _⟩ _; refine YG.mk (fun hb => by (try (have hc := And.left hb; have hb := And.right hb; rw [hc])); (try rw [hb]); exact V.y (y_orA (by rfl) (by rfl) o2 (by omega) (by omega) (by omega))) ?_)
    | (show VFrK _ _ _ _ _ ⟨_, .binOp .or _ _ _ _, _, _, _, _⟩ _; refine VFrK.mk (vf_of fun _ => y_orA (by rfl) (by rfl) o2 (by omega) (by omega) (by omega)) ?_)
    | (refine G.mixedFH 6 [.go 0, .go 1, .go 2, .go 3, .go 4, .go 5, .go 6, .go 7, .go 8] ?_)
    | (refine G.mixedFH 7 [.go 0, .go 1, .go 2, .go 3, .go 4, .go 5, .go 6, .go 7, .go 8] ?_)
    | (refine nxRF ?_)
    | (refine nxVF ?_)
    | (refine nxV ?_)
    | (show RS _ _ _ _ _ _ _ _; first | (refine nxRS ?_) | (refine nxRS1 fun _ => ?_))
    | (show RM _ _ _ _ _ _ _ _ _ _; first | (refine nxRM ?_) | (refine nxRM1 fun _ => ?_))
    | (refine nxG ?_)
    | (refine G.mixedA 9 [.go 0, .go 1, .go 2, .go 3, .go 4, .go 5, .go 6, .go 7, .go 8, .go 9, .go 10] ?_)
    | (refine nxX ?_)
    | (refine G.condN rfl (fun hc => ?_) (fun hc => ?_) <;> (try first | exact False.elim hc | (exfalso; omega))))
    exact X.again (k + 1) (by omega) (by omega) ⟨rfl, rfl, rfl, rfl, rfl, rfl, trivial⟩ (by rw [hA', hB']; exact fun w h => h.sub (by repeat (first | exact List.Sublist.refl _ | apply List.Sublist.cons_cons | apply List.Sublist.cons)))
  · obtain rfl : k = lv := by omega
    have s3 := RR.dcol_low k n
    have e4 : n / 2 ^ (2 * k) = n / 4 ^ k := by rw [Nat.pow_mul]
    have hq : n / 2 ^ (2 * k) ≤ n := Nat.div_le_self _ _
    have o3 := RR.or_up (b := n / 2 ^ (2 * k)) p2
    rw [← e4] at s3
    rw [← s3] at o3
    have hdc := (RR.mc_drow k n hn).2.2
    have p4 : n / 2 ^ (2 * k) * 2 ^ k ≤ 131072 := by omega
    generalize hQ : n / 2 ^ (2 * k) = q at *
    generalize hz : q * 2 ^ k = zz at *
    generalize RR.dlow k n = B at *
    generalize RR.drow k n = A at *
    generalize RR.dcol k n = C at *
    repeat' (first
    | (refine nxN ?_)
    | (show VK _ _ _ _ _ ⟨_, .binOp .shr _ _ _ _, _, _, _, _⟩ _; refine VK.mk (y_shrA (m := n) (j := 2 * k) (by rfl) (by rfl) (by omega) (by omega) hQ) ?_)
    | (show YK _ _ _ _ _ ⟨_, .binOp .shr _ _ _ _, _, _, _, _⟩ _; refine YK.ofV (y_shrA (m := n) (j := 2 * k) (by rfl) (by rfl) (by omega) (by omega) hQ) ?_)
    | (show VG _ _ _ _ _ _ ⟨_, .binOp .shr _ _ _ _, _, _, _, _⟩ _; refine VG.mk (fun hb => by (try (have hc := And.left hb; have hb := And.right hb; rw [hc])); (try rw [hb]); exact y_shrA (m := n) (j := 2 * k) (by rfl) (by rfl) (by omega) (by omega) hQ) ?_)
    | (show YG _ _ _ _ _ _ ⟨_, .binOp .shr _ _ _ _, _, _, _, _⟩ _; refine YG.mk (fun hb => by (try (have hc := And.left hb; have hb := And.right hb; rw [hc])); (try rw [hb]); exact V.y (y_shrA (m := n) (j := 2 * k) (by rfl) (by rfl) (by omega) (by omega) hQ)) ?_)
    | (show VFrK _ _ _ _ _ ⟨_, .binOp .shr _ _ _ _, _, _, _, _⟩ _; refine VFrK.mk (vf_of fun _ => y_shrA (m := n) (j := 2 * k) (by rfl) (by rfl) (by omega) (by omega) hQ) ?_)
    | (show VK _ _ _ _ _ ⟨_, .binOp .shl _ _ _ _, _, _, _, _⟩ _; refine VK.mk (y_shlA (m := q) (j := k) (by rfl) (by rfl) (by omega) (by omega) hz (by omega)) ?_)
    | (show YK _ _ _ _ _ ⟨_, .binOp .shl _ _ _ _, _, _, _, _⟩ _; refine YK.ofV (y_shlA (m := q) (j := k) (by rfl) (by rfl) (by omega) (by omega) hz (by omega)) ?_)
    | (show VG _ _ _ _ _ _ ⟨_, .binOp .shl _ _ _ _, _, _, _, _⟩ _; refine VG.mk (fun hb => by (try (have hc := And.left hb; have hb := And.right hb; rw [hc])); (try rw [hb]); exact y_shlA (m := q) (j := k) (by rfl) (by rfl) (by omega) (by omega) hz (by omega)) ?_)
    | (show YG _ _ _ _ _ _ ⟨_, .binOp .shl _ _ _ _, _, _, _, _⟩ _; refine YG.mk (fun hb => by (try (have hc := And.left hb; have hb := And.right hb; rw [hc])); (try rw [hb]); exact V.y (y_shlA (m := q) (j := k) (by rfl) (by rfl) (by omega) (by omega) hz (by omega))) ?_)
    | (show VFrK _ _ _ _ _ ⟨_, .binOp .shl _ _ _ _, _, _, _, _⟩ _; refine VFrK.mk (vf_of fun _ => y_shlA (m := q) (j := k) (by rfl) (by rfl) (by omega) (by omega) hz (by omega)) ?_)
    | (show VK _ _ _ _ _ ⟨_, .binOp .or _ _ _ _, _, _, _, _⟩ _; refine VK.mk (y_orA (by rfl) (by rfl) o3 (by omega) (by omega) (by omega)) ?_)
    | (show YK _ _ _ _ _ ⟨_, .binOp .or _ _ _ _, _, _, _, _⟩ _; refine YK.ofV (y_orA (by rfl) (by rfl) o3 (by omega) (by omega) (by omega)) ?_)
    | (show VG _ _ _ _ _ _ ⟨_, .binOp .or _ _ _ _, _, _, _, _⟩ _; refine VG.mk (fun hb => by (try (have hc := And.left hb; have hb := And.right hb; rw [hc])); (try rw [hb]); exact y_orA (by rfl) (by rfl) o3 (by omega) (by omega) (by omega)) ?_)
    | (show YG _ _ _ _ _ _ ⟨_, .binOp .or _ _ _ _, _, _, _, _⟩ _; refine YG.mk (fun hb => by (try (have hc := And.left hb; have hb := And.right hb; rw [hc])); (try rw [hb]); exact V.y (y_orA (by rfl) (by rfl) o3 (by omega) (by omega) (by omega))) ?_)
    | (show VFrK _ _ _ _ _ ⟨_, .binOp .or _ _ _ _, _, _, _, _⟩ _; refine VFrK.mk (vf_of fun _ => y_orA (by rfl) (by rfl) o3 (by omega) (by omega) (by omega)) ?_)
    | (refine G.mixedFH 9 [.go 0, .go 1, .go 2, .go 3, .go 4, .go 5, .go 6, .go 7, .go 8, .go 9, .go 10] ?_)
    | (refine nxRF ?_)
    | (refine nxVF ?_)
    | (refine nxV ?_)
    | (show RS _ _ _ _ _ _ _ _; first | (refine nxRS ?_) | (refine nxRS1 fun _ => ?_))
    | (show RM _ _ _ _ _ _ _ _ _ _; first | (refine nxRM ?_) | (refine nxRM1 fun _ => ?_))
    | (refine nxG ?_)
    | (refine G.mixedA 6 [.go 0, .go 1, .go 2, .go 3, .go 4, .go 5, .go 6, .go 7, .go 8] ?_)
    | (refine G.mixedA 7 [.go 0, .go 1, .go 2, .go 3, .go 4, .go 5, .go 6, .go 7, .go 8] ?_)
    | (refine nxX ?_)
    | (refine G.condN rfl (fun hc => ?_) (fun hc => ?_) <;> (try first | exact False.elim hc | (exfalso; omega))))
    dsimp only [List.set_cons_succ, List.set_cons_zero]
    exact X.ret (vs := [_]) rfl ⟨⟨_, _, _, _, rfl, (by exact memA), (by (repeat (first | exact .nil | apply LenIs.cons))), by decide +kernel, rfl⟩, rfl⟩ rfl (fun w hw => ⟨rfl, hw.ext⟩)
end Go.Proofs.YthilhhegchmjeaaGreat
/- The comparison of spans, in the worlds that a sort passes through. -/
set_option linter.unusedVariables false
namespace Go.Proofs.YthilhhegchmjeaaGreat
open Go.RowKit Go.Sort
def cmpS3 (a b : Int) : Int := if a < b then -1 else if a > b then 1 else 0
set_option maxHeartbeats 1000000 in
theorem cmpS3_world (a b : Int) (W : World) : Calls Tryz.prog 107 #[.int .i64 a, .int .i64 b] W fun e w' => e = .returned (.int .i64 (cmpS3 a b)) ∧ w' = W := by
  go_enter Tryz.func107, Tryz.ntmps107
  go_wp2
  all_goals go_ret
  all_goals refine ⟨?_, rfl⟩
  all_goals (congr 2; unfold cmpS3; (repeat' split) <;> first | rfl | omega | (simp_all; omega) | trace_state)
def orI (x y : Int) : Int := if x = 0 then y else x
set_option maxHeartbeats 1000000 in
theorem or_world (b : Nat) (x y : Int) (W : World) (h0 : W.cell? ⟨b, 0, none⟩ = some (.int .i64 x)) (h1 : W.cell? ⟨b, 1, none⟩ = some (.int .i64 y)) : Calls Tryz.prog 106 #[.slice (some ⟨b, 0, none⟩) 2 2] W fun e w' => e = .returned (.int .i64 (orI x y)) ∧ w' = W := by
  go_enter Tryz.func106, Tryz.ntmps106
  go_wp2
  refine wp_loop_rounds 3 ?_
  rw [rounds_succ]
  go_wp2
  · rename_i hx
    have hx' : x ≠ 0 := by simpa using hx
    go_ret
    exact ⟨by unfold orI; rw [if_neg hx']; rfl, rfl⟩
  · rename_i hx
    have hx' : x = 0 := by simpa using hx
    rw [rounds_succ]
    go_wp2
    · go_ret
      exact ⟨by unfold orI; rw [if_pos hx']; rfl, rfl⟩
    · rename_i hy
      have hy' : y = 0 := by simpa using hy
      rw [rounds_succ]
      go_wp2
      go_ret
      exact ⟨by unfold orI; rw [if_pos hx', hy']; rfl, rfl⟩
theorem al_old {W : World} {o : Obj} {k i : Nat} (h : k < W.heap.size) : (W.alloc o).cell? ⟨k, i, none⟩ = W.cell? ⟨k, i, none⟩ := by
  show (match (W.alloc o).heap[k]? with | some (.cells c _ _) => if (none : Option Nat).isSome then none else c[i]? | _ => none) = (match W.heap[k]? with | some (.cells c _ _) => if (none : Option Nat).isSome then none else c[i]? | _ => none)
  rw [Below.heap_alloc W o k h]
theorem al_new {W : World} {cs : Array Value} {t : TypeId} {fr : Nat × Nat} {i : Nat} : (W.alloc (.cells cs t fr)).cell? ⟨W.heap.size, i, none⟩ = cs[i]? := by
  show (match (W.heap.push (.cells cs t fr))[W.heap.size]? with | some (.cells c _ _) => if (none : Option Nat).isSome then none else c[i]? | _ => none) = _
  rw [Array.getElem?_push_size]; rfl
/-- How two spans compare. -/
def cfI (a b c d : Int) : Int := orI (cmpS3 a c) (cmpS3 d b)
set_option maxRecDepth 100000 in
set_option maxHeartbeats 1000000 in
theorem cover1_world (a b c d : Int) (W : World) : Calls Tryz.prog 105 #[.agg #[.int .i64 a, .int .i64 b], .agg #[.int .i64 c, .int .i64 d]] W fun e w' => e = .returned (.int .i64 (cfI a b c d)) ∧ ∃ q os', w' = grow (W.drewN q) os' := by
  go_enter Tryz.func105, Tryz.ntmps105
  go_wp2
  go_still_tail 10, (by kernel_rfl)
  change wpStill _ _ (((W.alloc (Obj.cells #[Value.int IntKind.i64 a, Value.int IntKind.i64 b] 136)).alloc (Obj.cells #[Value.int IntKind.i64 c, Value.int IntKind.i64 d] 136)).drew) _ _ _
  have hs1 : (W.alloc (Obj.cells #[Value.int IntKind.i64 a, Value.int IntKind.i64 b] 136)).heap.size = W.heap.size + 1 := Array.size_push _
  obtain ⟨W2, hW2⟩ : ∃ W2, W2 = ((W.alloc (Obj.cells #[Value.int IntKind.i64 a, Value.int IntKind.i64 b] 136)).alloc (Obj.cells #[Value.int IntKind.i64 c, Value.int IntKind.i64 d] 136)).drew := ⟨_, rfl⟩
  have c0 : W2.cell? ⟨W.heap.size, 0, none⟩ = some (.int .i64 a) := by rw [hW2]; exact (al_old (by rw [hs1]; omega)).trans al_new
  have c1 : W2.cell? ⟨W.heap.size, 1, none⟩ = some (.int .i64 b) := by rw [hW2]; exact (al_old (by rw [hs1]; omega)).trans al_new
  have d0 : W2.cell? ⟨W.heap.size + 1, 0, none⟩ = some (.int .i64 c) := by rw [hW2, ← hs1]; exact al_new
  have d1 : W2.cell? ⟨W.heap.size + 1, 1, none⟩ = some (.int .i64 d) := by rw [hW2, ← hs1]; exact al_new
  rw [← hW2]
  repeat still_step
  still_call (cmpS3_world _ _ _)
  repeat still_step
  still_call (cmpS3_world _ _ _)
  refine wpStill_nil ?_
  have hs2 : W2.heap.size = W.heap.size + 1 + 1 := by rw [hW2]; exact (Array.size_push _).trans (congrArg (· + 1) hs1)
  have hnew : ∀ (cs : Array Value) (t : TypeId) (fr : Nat × Nat) (i : Nat), (W2.alloc (.cells cs t fr)).cell? ⟨W.heap.size + 1 + 1, i, none⟩ = cs[i]? := fun cs t fr i => by rw [← hs2]; exact al_new
  rw [hW2] at hnew
  go_wp2_with (go_at_call 106; refine (or_world _ _ _ _ ((hnew _ _ _ 0).trans rfl) ((hnew _ _ _ 1).trans rfl)).mono ?_; rintro e w' ⟨rfl, rfl⟩)
  go_ret
  refine ⟨rfl, 1, #[Obj.cells #[Value.int IntKind.i64 a, Value.int IntKind.i64 b] 136, Obj.cells #[Value.int IntKind.i64 c, Value.int IntKind.i64 d] 136, Obj.cells #[Value.int IntKind.i64 (cmpS3 a c), Value.int IntKind.i64 (cmpS3 d b)] 3], ?_⟩
  have e : ∀ (h : Array Obj) (x y z : Obj), ((h.push x).push y).push z = h ++ #[x, y, z] := fun h x y z => by apply Array.ext'; simp
  show ({ W with heap := ((W.heap.push _).push _).push _, drawn := W.drawn + 1 } : World) = { W with heap := W.heap ++ _, drawn := W.drawn + 1 }
  rw [e]
end Go.Proofs.YthilhhegchmjeaaGreat
/- slices.SortFunc of no span. -/
set_option linter.unusedVariables false
namespace Go.Proofs.YthilhhegchmjeaaGreat
open Go.RowKit Go.Sort
set_option maxHeartbeats 1000000 in
theorem len0_world (W : World) : Calls Tryz.prog 120 #[.int .u64 0] W fun e w' => e = .returned (.int .i64 0) ∧ w' = W := by
  go_enter Tryz.func120, Tryz.ntmps120
  go_wp2_with (go_at_call 151; refine (Tryz.bits_Len64 0 _ (by decide) (by decide)).mono ?_; rintro e w' ⟨rfl, rfl⟩)
  go_ret
  exact ⟨rfl, rfl⟩
set_option maxHeartbeats 1000000 in
theorem ins0_world (p : Option Addr) (cap : Nat) (fv : Value) (W : World) : Calls Tryz.prog 142 #[.slice p 0 cap, .int .i64 0, .int .i64 0, fv] W fun e w' => e = .returned (.tuple #[]) ∧ w' = W := by
  go_enter Tryz.func142, Tryz.ntmps142
  go_wp2
  refine wp_loop_rounds 1 ?_
  rw [rounds_succ]
  go_wp2
  go_end0
  exact ⟨rfl, rfl⟩
set_option maxRecDepth 100000 in
set_option maxHeartbeats 2000000 in
theorem pdq0_world (p : Option Addr) (cap : Nat) (lim : Int) (fv : Value) (W : World) : Calls Tryz.prog 119 #[.slice p 0 cap, .int .i64 0, .int .i64 0, .int .i64 lim, fv] W fun e w' => e = .returned (.tuple #[]) ∧ w' = W := by
  go_enter Tryz.func119, Tryz.ntmps119
  go_wp2
  refine wp_loop_rounds 1 ?_
  rw [rounds_succ]
  go_wp2_with (go_at_call 142; refine (ins0_world _ _ _ _).mono ?_; rintro e w' ⟨rfl, rfl⟩)
  (try simp only [Exit.inBlock, Exit.then]); refine bodyPost_ret (results_none rfl _ _ _) rfl ?_
  exact ⟨rfl, rfl⟩
set_option maxHeartbeats 1000000 in
theorem sort0_world (p : Option Addr) (cap : Nat) (fv : Value) (W : World) : Calls Tryz.prog 104 #[.slice p 0 cap, fv] W fun e w' => e = .returned (.tuple #[]) ∧ w' = W := by
  go_enter Tryz.func104, Tryz.ntmps104
  go_wp2_with (first | (go_at_call 120; refine (len0_world _).mono ?_; rintro e w' ⟨rfl, rfl⟩) | (go_at_call 119; refine (pdq0_world _ _ _ _ _).mono ?_; rintro e w' ⟨rfl, rfl⟩))
  go_end0
  exact ⟨rfl, rfl⟩
end Go.Proofs.YthilhhegchmjeaaGreat
/- slices.SortFunc at spans: sorted. -/
set_option linter.unusedVariables false
namespace Go.Proofs.YthilhhegchmjeaaGreat
open Go.RowKit Go.Shelf Go.Lib Go.Sort
def cN2 (x : Nat × Nat) : List Value := [.int .i64 (x.1 : Int), .int .i64 (x.2 : Int)]
def cfS (x y : Nat × Nat) : Int := cfI x.1 x.2 y.1 y.2
theorem cfS_lt {x y : Nat × Nat} : cfS x y < 0 ↔ x.1 < y.1 ∨ x.1 = y.1 ∧ y.2 < x.2 := by
  unfold cfS cfI orI cmpS3
  repeat' split
  all_goals omega
theorem spanLays (blk off size : Nat) (w : World) : CmpLays Tryz.prog 105 #[] cN2 2 cfS blk off size w := fun _ _ _ _ x y => cover1_world x.1 x.2 y.1 y.2 _
theorem swoS : SWO (ltOf cfS) where
  irrefl x := decide_eq_false fun h => by rcases cfS_lt.1 h with h | h <;> omega
  trans x y z h1 h2 := by
    have k1 := cfS_lt.1 (of_decide_eq_true h1)
    have k2 := cfS_lt.1 (of_decide_eq_true h2)
    exact decide_eq_true (cfS_lt.2 (by omega))
  ntrans x y z h1 h2 := by
    have k1 : ¬ cfS x y < 0 := of_decide_eq_false h1
    have k2 : ¬ cfS y z < 0 := of_decide_eq_false h2
    rw [cfS_lt] at k1 k2
    exact decide_eq_false fun h => by have := cfS_lt.1 h; omega
set_option maxHeartbeats 1000000 in
theorem sortS_world (blk off cap : Nat) (d : Array (Nat × Nat)) (w : World) (hH : HoldsK cN2 2 w blk off d) (hblk : blk < w.heap.size) (hsz : d.size ≤ 1000000) :
    Calls Tryz.prog 104 #[.slice (some ⟨blk, off, none⟩) d.size cap, .func (.func 105) #[] #[]] w fun e w' => e = .returned (.tuple #[]) ∧ ∃ d' n os, PermIn 0 d.size d d' ∧ SortedIn (ltOf cfS) 0 d.size d' ∧ w' = sortWorldK cN2 2 w blk off n d' os := by
  have eg : ∀ args w, (callFunc 105 args).run Tryz.prog w = .ok (.enter 105 args) w := enters_of Tryz.func105 (by kernel_rfl) rfl
  exact AnyQ.slices_SortFunc Tryz.sortFr 2 Tryz.isAgg136 Tryz.sizeOf136 cN2 (fun _ => rfl) (fun x v hv => by simp [cN2] at hv; rcases hv with rfl | rfl <;> rfl) cfS swoS 105 #[] blk off cap d w eg (spanLays blk off d.size w) hH hblk (by omega)
theorem flatS_get : ∀ (zs : List (Nat × Nat)) (t : Nat), (zs.flatMap cN2)[t]? = (zs[t / 2]?).bind fun x => (cN2 x)[t % 2]?
  | [], t => by simp
  | x :: r, 0 => rfl
  | x :: r, 1 => rfl
  | x :: r, t + 2 => by
    have := flatS_get r t
    rw [show (t + 2) / 2 = t / 2 + 1 by omega, show (t + 2) % 2 = t % 2 by omega]
    show ([Value.int .i64 (x.1 : Int), .int .i64 (x.2 : Int)] ++ r.flatMap cN2)[t + 2]? = _
    rw [List.getElem?_append_right (by simp)]
    exact this
theorem flatS_len : ∀ zs : List (Nat × Nat), (zs.flatMap cN2).length = zs.length * 2
  | [] => rfl
  | x :: r => by
    rw [List.flatMap_cons, List.length_append, flatS_len r, List.length_cons]
    show 2 + _ = _
    omega
theorem flatKS_list (zs : List (Nat × Nat)) : (flatK cN2 2 zs.toArray).toList = zs.flatMap cN2 := by
  apply List.ext_getElem?
  intro t
  by_cases ht : t < zs.length * 2
  · have hs : t < (flatK cN2 2 zs.toArray).size := by rw [size_flatK]; simpa using ht
    have h2 : t / 2 < zs.length := by omega
    rw [flatS_get, List.getElem?_eq_getElem h2, Array.getElem?_toList, Array.getElem?_eq_getElem hs]
    have hg := get_flatK cN2 2 zs.toArray t (by simpa using ht)
    rw [getElem!_pos _ t hs] at hg
    rw [hg]
    have hz : zs.toArray[t / 2]! = zs[t / 2] := by rw [getElem!_pos _ (t / 2) (by simpa using h2)]; simp
    rw [hz]
    show some (cN2 zs[t / 2])[t % 2]! = (cN2 zs[t / 2])[t % 2]?
    rcases (show t % 2 = 0 ∨ t % 2 = 1 by omega) with e | e <;> rw [e] <;> rfl
  · have z1 : (flatK cN2 2 zs.toArray).toList.length = zs.length * 2 := by rw [Array.length_toList, size_flatK]; simp
    rw [List.getElem?_eq_none (l := (flatK cN2 2 zs.toArray).toList) (by omega), List.getElem?_eq_none (l := zs.flatMap cN2) (by rw [flatS_len]; omega)]
theorem holdsS_of {w : World} {g : Nat} {cur : Array Value} {e : TypeId} {zs : List (Nat × Nat)} (hb : w.heap[g]? = some (.cells cur e (0, 0))) (ht : cur.toList.take (zs.length * 2) = zs.flatMap cN2) : HoldsK cN2 2 w g 0 zs.toArray := by
  intro j hj
  have hj' : j < zs.length * 2 := by rw [size_flatK] at hj; simpa using hj
  refine ⟨?_, by simp [World.frozen?, hb]⟩
  have h1 : cur[j]? = some (flatK cN2 2 zs.toArray)[j]! := by
    have e1 : (cur.toList.take (zs.length * 2))[j]? = cur[j]? := by rw [List.getElem?_take_of_lt hj', Array.getElem?_toList]
    rw [← e1, ht, ← flatKS_list, Array.getElem?_toList, Array.getElem?_eq_getElem hj, getElem!_pos _ j hj]
  show (match w.heap[g]? with | some (.cells c _ _) => if (none : Option Nat).isSome then none else c[0 + j]? | _ => none) = _
  rw [hb, Nat.zero_add]
  exact h1
theorem heap_sortedS {w : World} {g n : Nat} {os : Array Obj} {cur : Array Value} {e : TypeId} {fr : Nat × Nat} (d : Array Value) (hb : w.heap[g]? = some (.cells cur e fr)) :
    (grow (putRow id (Sort.ahead w n) g 0 d) os).heap[g]? = some (.cells (putCells id 0 d cur) e fr) := by
  have hg : g < w.heap.size := (Array.getElem?_eq_some_iff.1 hb).1
  rw [heap_grow_old _ _ (by simpa using hg)]
  simp [putRow, mapBlock, Sort.ahead, Array.getElem?_modify, hb, onCells]
theorem grownBy_sortedS {w : World} {g n : Nat} {os : Array Obj} (d : Array Value) : w.grownBy (grow (putRow id (Sort.ahead w n) g 0 d) os) (some g) := by
  refine ⟨rfl, rfl, rfl, by simp, fun k hk hne => ?_⟩
  rw [heap_grow_old _ _ (by simpa using hk)]
  have : g ≠ k := fun e => hne (by rw [e])
  simp [putRow, mapBlock, Sort.ahead, Array.getElem?_modify, this]
theorem take_putS (cur F : Array Value) (h : F.size ≤ cur.size) : (putCells id 0 F cur).toList.take F.size = F.toList := by
  apply List.ext_getElem?
  intro j
  by_cases hj : j < F.size
  · rw [List.getElem?_take_of_lt hj, Array.getElem?_toList, Array.getElem?_toList]
    simp [putCells, hj, show j < cur.size by omega]
  · rw [List.getElem?_take_eq_none (by omega), List.getElem?_eq_none (by simp; omega)]
theorem ownsRow_sortedS {w : World} {base g cap n : Nat} {e : TypeId} {os : Array Obj} {cur : Array Value} {m : Nat} {ds : List (Nat × Nat)} (hl : ds.length = m) (hbase : base ≤ g) (hb : w.heap[g]? = some (.cells cur e (0, 0)))
    (h1 : m ≤ cap) (h2 : cap ≤ maxLen) (h3 : cur.size = cap * 2) :
    (sortWorldK cN2 2 w g 0 n ds.toArray os).ownsRow base e 2 (.slice (some ⟨g, 0, none⟩) m cap) m (ds.flatMap cN2) := by
  have hsz : (flatK cN2 2 ds.toArray).size = m * 2 := by rw [size_flatK]; simp [hl]
  refine ⟨by rw [flatS_len, hl], .inr ⟨g, cap, _, rfl, hbase, heap_sortedS _ hb, h1, h2, by simp [putCells, h3], ?_⟩⟩
  rw [← hsz, take_putS _ _ (by omega), flatKS_list]
theorem permS_of {zs ds : List (Nat × Nat)} (hl : ds.length = zs.length) (h : PermIn 0 zs.length zs.toArray ds.toArray) : ds.Perm zs := by
  have := h.2.2
  rw [show zs.length = zs.toArray.size by simp, Array.extract_size] at this
  rw [show zs.toArray.size = ds.toArray.size by simp [hl], Array.extract_size] at this
  simpa using this
theorem pairsS_of {ds : List (Nat × Nat)} (h : SortedIn (ltOf cfS) 0 ds.length ds.toArray) : ds.Pairwise RR.spanLe := by
  rw [List.pairwise_iff_getElem]
  intro i j hi hj hij
  have := h i j (Nat.zero_le _) hij hj
  rw [getElem!_pos _ i (by simpa using hi), getElem!_pos _ j (by simpa using hj)] at this
  have h2 : ¬ cfS ds[j] ds[i] < 0 := of_decide_eq_false this
  rw [cfS_lt] at h2
  unfold RR.spanLe
  omega
/-- SortFunc at spans of the caller's own. -/
theorem spanSort_c (z : Sl) (S : List (Nat × Nat)) (hn : S.length ≤ 1000000) : ContU Tryz.prog (Hl.rw z.v 136 cN2 2 S) 104 [z.v, .func (.func 105) #[] #[]] (fun S' : List (Nat × Nat) => S'.Perm S ∧ S'.Pairwise RR.spanLe) (fun _ => .tuple #[]) (fun S' => [Hl.rw z.v 136 cN2 2 S']) := fun w0 HR w hs => by
  have hown : w.ownsRow w0.heap.size 136 2 z.v S.length (S.flatMap cN2) := hs.all _ List.mem_cons_self
  obtain ⟨zv, hzv⟩ : ∃ v, v = z.v := ⟨_, rfl⟩
  rw [← hzv] at hown hs ⊢
  have h0 : S = [] → ∃ p cap, zv = .slice p 0 cap := fun hS => by
    rcases hown.2 with ⟨hv, _⟩ | ⟨g, cap, cur, hv, _⟩
    · exact ⟨_, _, hv⟩
    · rw [hS] at hv; exact ⟨_, _, hv⟩
  by_cases hS : S = []
  · obtain ⟨p, cap, hv⟩ := h0 hS
    subst hS
    rw [hv] at hs ⊢
    refine (sort0_world p cap _ w).mono ?_
    rintro e w' ⟨rfl, rfl⟩
    exact ⟨[], ⟨List.Perm.refl _, List.Pairwise.nil⟩, rfl, hs⟩
  · rcases hown.2 with ⟨hv, h1⟩ | ⟨g, cap, cur, hv, hb, hg, hnc, hcm, hcs, htake⟩
    · exact absurd (List.eq_nil_of_length_eq_zero h1) hS
    have hsz : S.toArray.size = S.length := by simp
    have hblk : g < w.heap.size := (Array.getElem?_eq_some_iff.1 hg).1
    rw [hv] at hs ⊢
    have hc := sortS_world g 0 cap S.toArray w (holdsS_of hg htake) hblk (by rw [hsz]; exact hn)
    rw [hsz] at hc
    refine hc.mono ?_
    rintro e w' ⟨rfl, d', n, os, hp, hso, rfl⟩
    obtain ⟨ds, rfl⟩ : ∃ ds : List (Nat × Nat), d' = ds.toArray := ⟨d'.toList, by simp⟩
    have hl : ds.length = S.length := by have := hp.1; simpa using this
    have sp : ∀ T : List (Nat × Nat), T ≠ [] → (Hl.rw (Value.slice (some ⟨g, 0, none⟩) S.length cap) 136 cN2 2 T).spot = some g := fun T hT => by
      cases T with
      | nil => exact absurd rfl hT
      | cons a r => rfl
    refine ⟨ds, ⟨permS_of hl hp, pairsS_of (by rw [hl]; exact hso)⟩, rfl, ?_⟩
    refine St.turn hs (Upd.here _) rfl ?_ ?_ ?_
    · rw [sp S hS]
      exact grownBy_sortedS _
    · show World.ownsRow _ _ _ _ _ _ _
      rw [hl]
      exact ownsRow_sortedS hl hb hg hnc hcm hcs
    · intro b hb2
      left
      rw [sp S hS]
      have hd : ds ≠ [] := fun h => hS (List.eq_nil_of_length_eq_zero (by rw [← hl, h]; rfl))
      rw [sp ds hd] at hb2
      exact hb2
end Go.Proofs.YthilhhegchmjeaaGreat
/- cells.cover: spans of cells, sorted and put together. -/
set_option linter.unusedVariables false
set_option maxHeartbeats 8000000
namespace Go.Proofs.YthilhhegchmjeaaGreat
open Go.RowKit
instance : Inhabited RR.CellT := ⟨⟨0, 0, 0⟩⟩
def cT (x : RR.CellT) : List Value := [.int .i64 (x.lv : Int), .int .i64 (x.r : Int), .int .i64 (x.c : Int)]
section
variable {P : Program} {ops : Array Oper} {Q : Exit → Act → World → Prop} {n : Nat} {L : FL} {w0 : World} {H : List Hl} {dd : Tmp} {ty : TypeId} {pos : String} {af : Array Edge} {t e : TypeId} {bytes : Nat} {x : Operand} {rest : List Oper}
theorem RS.lit1P {a : Nat × Nat} (h : ∀ v' : Sl, RS P ops Q n ((dd, v'.v) :: L) w0 (Hl.rw v'.v e cN2 2 [a] :: H) rest) (hx : evO L x = some (spnV a.1 a.2)) [ht : RowTy P t e 2 bytes] (hd : Nat.blt dd n = true := by rfl) : RS P ops Q n L w0 H (⟨some dd, .buildSlice t 1 #[(0, x)], ty, pos, af, none⟩ :: rest) :=
  RS.actX rfl (x_litS (parts := [(0, x)]) (vs := [spnV a.1 a.2]) (cs := cN2 a) (f := cN2) (l := [a]) ⟨hx, rfl⟩ rfl rfl rfl rfl (fun zs hz => by
    match zs, hz with
    | [_, _], _ => rfl) rfl rfl rfl (rowTy_B ht.is) hd) fun v' _ => h v'
theorem RS.lit1T {a : RR.CellT} (h : ∀ v' : Sl, RS P ops Q n ((dd, v'.v) :: L) w0 (Hl.rw v'.v e cT 3 [a] :: H) rest) (hx : evO L x = some (celV a.lv a.r a.c)) [ht : RowTy P t e 3 bytes] (hd : Nat.blt dd n = true := by rfl) : RS P ops Q n L w0 H (⟨some dd, .buildSlice t 1 #[(0, x)], ty, pos, af, none⟩ :: rest) :=
  RS.actX rfl (x_litS (parts := [(0, x)]) (vs := [celV a.lv a.r a.c]) (cs := cT a) (f := cT) (l := [a]) ⟨hx, rfl⟩ rfl rfl rfl rfl (fun zs hz => by
    match zs, hz with
    | [_, _, _], _ => rfl) rfl rfl rfl (rowTy_B ht.is) hd) fun v' _ => h v'
end
theorem RF.storeP {P : Program} {n : Nat} {L : FL} {w0 : World} {H HS H' : List Hl} {Q : Exit → Act → World → Prop} {ops : Array Oper} {ord : List Mv} {i : Nat} {ty : TypeId} {pos : String} {af : Array Edge} {x y : Operand} {t e : TypeId} {ls : List (Nat × Nat)} {b : Nat × Nat} {v u : Value} {m : Int} (ho : ops[i]? = some ⟨none, .store t x y, ty, pos, af, none⟩) (hx : evO L x = some (elA v 2 m 1)) (hy : evO L y = some u) (hu1 : u.oneCell' = true) (hu : Upd (Hl.rw v e cN2 2 ls) (Hl.rw v e cN2 2 (ls.set m.toNat b)) H H') (hm : 0 ≤ m ∧ m < ls.length) (hb : (cN2 (nth ls m)).set 1 u = cN2 b) (hs : scalarB P t = true) (hl : lateF .any ops i = true) (h : RF P ops Q HS n L w0 H' ord) :
    RF P ops Q HS n L w0 H (.go i :: ord) := RF.act h ho rfl rfl (x_storeEl (f := cN2) (b := b) hx hy hu1 hu hm (fun _ => rfl) hb rfl hs) hl
theorem vf_fieldEl {P : Program} {n : Nat} {L : FL} {w0 : World} {H : List Hl} {d : Tmp} {ty : TypeId} {pos : String} {af : Array Edge} {gd : Option (Nat × Bool)} {x : Operand} {t : TypeId} {α : Type} {f : α → List Value} {s : Nat} {l : List α} {v : Value} {m : Int} {i fl k' : Nat} (hx : evO L x = some (elA v s m i)) (h : RdT H v f s l) (hf : ∀ a, (f a).length = s) (hm : 0 ≤ m ∧ m < l.length) (hs : Nat.blt 0 s = true) (hfo : fieldAt P t fl i = some k') :
    VFr P n L w0 H ⟨some d, .fieldAddr t x fl, ty, pos, af, gd⟩ (elA v s m k') := fun w hw a w' ha => by
  obtain ⟨hl, A, c, rfl, _, hc, _⟩ := h _ _ hw
  have hs' : 0 < s := by simpa [Nat.blt_eq] using hs
  obtain ⟨ad, rfl, _⟩ := hc (flat_ne hf hs' hm)
  unfold fieldAt fieldOff at hfo
  cases hu : P.underlying t with
  | none => simp [hu] at hfo
  | some dsc =>
    cases dsc <;> simp only [hu, Option.map_none, reduceCtorEq] at hfo
    rename_i fs
    cases hfs : fs[fl]? with
    | none => simp [hfs] at hfo
    | some fld =>
      simp only [hfs] at hfo
      cases hi : P.info? fld.type with
      | none => simp [hi] at hfo
      | some inf =>
        simp only [hi] at hfo
        split at hfo
        · cases hfo
        · rename_i hsz
          simp only [Option.map_some, Option.some.injEq] at hfo
          subst hfo
          simp [execOp, ha.eval hx, elA, Instr.fieldAt, Instr.sureAddr, run_underlying hu, hfs, fieldPlace, sizeOf, typeInfo, hi, hsz, add_add, Nat.add_assoc]
theorem nth_get {α : Type} [Inhabited α] {l : List α} {i : Nat} (h : i < l.length) : nth l (i : Int) = l[i] := nth_mem h
/-- One span more, by the last one's number. -/
theorem mergeS_nth {out : List (Nat × Nat)} (h : 0 < out.length) (s : Nat × Nat) : RR.mergeS out s = if s.1 ≤ (nth out ((out.length : Int) - 1)).2 then out.set ((out.length : Int) - 1).toNat ((nth out ((out.length : Int) - 1)).1, max (nth out ((out.length : Int) - 1)).2 s.2) else out ++ [s] := by
  rcases List.eq_nil_or_concat out with rfl | ⟨p, l, rfl⟩
  · simp at h
  · rw [List.concat_eq_append] at h ⊢
    have e1 : (((p ++ [l]).length : Int) - 1) = (p.length : Int) := by simp
    have e2 : nth (p ++ [l]) (p.length : Int) = l := by
      rw [nth_get (by simp)]; simp
    rw [e1, e2, Int.toNat_natCast, RR.mergeS_snoc]
    split
    · rw [List.set_append_right _ _ (Nat.le_refl _)]; simp
    · rfl
theorem cover_c (v : Value) (l : List RR.CellT) (ok : ∀ x ∈ l, RR.okC x) (hl : l.length ≤ 4000) : ContX Tryz.prog [Hl.rd v cT 3 l] 75 [v] (fun z : Sl × List (Nat × Nat) => ∃ S : List (Nat × Nat), S.Perm (l.map RR.spanC) ∧ S.Pairwise RR.spanLe ∧ z.2 = S.foldl RR.mergeS []) (fun z => z.1.v) (fun z => [Hl.nw z.1.v cN2 2 z.2]) := fun w hw0 => by
  refine enter Tryz.func75 rfl rfl rfl hw0 ?_
  repeat' (first
    | (refine nxN ?_)
    | (refine nxV ?_)
    | (show RS _ _ _ _ _ _ _ _; first | (refine nxRS ?_) | (refine nxRS1 fun _ => ?_))
    | (show RM _ _ _ _ _ _ _ _ _ _; first | (refine nxRM ?_) | (refine nxRM1 fun _ => ?_))
    | (refine nxG ?_)
    | (refine G.mixedA 13 [.go 0, .go 1, .go 2, .go 3, .go 4, .go 5, .go 6, .go 7, .go 8, .go 9, .go 10, .go 11, .go 12] ?_)
    | (refine G.mixedA 14 [.go 0, .go 1, .go 2, .go 3, .go 4, .go 5, .go 6, .go 7, .go 8, .go 9, .go 10, .go 11, .go 12, .go 13, .go 14] ?_)
    | (refine nxX ?_)
    | (refine G.condN rfl (fun hc => ?_) (fun hc => ?_) <;> (try first | exact False.elim hc | (exfalso; omega))))
  refine G.loop (ι := Sl × Nat) (fun z => [(0, v), (3, z.1.v), (10, v), (11, .int .i64 l.length), (12, .int .i64 (z.2 : Int))]) (fun z => [Hl.rw z.1.v 136 cN2 2 ((l.take z.2).map RR.spanC), Hl.rd v cT 3 l]) (fun z => z.2 ≤ l.length) (fun z => l.length - z.2) (⟨none, 0, 0⟩, 0) (Nat.zero_le _) ⟨rfl, rfl, rfl, rfl, rfl, trivial⟩ (fun w' h => St.nilRow 136 cN2 2 h) ?_
  rintro ⟨z, i⟩ mx g1 hmx
  dsimp only at g1 hmx ⊢
  have hlt : ((l.take i).map RR.spanC).length = i := by rw [List.length_map, List.length_take]; omega
  rcases Nat.lt_or_ge i l.length with hi | hi
  · have hx : nth l (i : Int) ∈ l := by rw [nth_get hi]; exact List.getElem_mem hi
    have q1 := spanOf_c (ok _ hx)
    have e1 : (l.take (i + 1)).map RR.spanC = (l.take i).map RR.spanC ++ [(RR.fr (nth l (i : Int)), RR.to (nth l (i : Int)))] := by
      rw [List.take_add_one, List.getElem?_eq_getElem hi, List.map_append, nth_get hi]; rfl
    generalize RR.fr (nth l (i : Int)) = A at *
    generalize RR.to (nth l (i : Int)) = B at *
    repeat' (first
    | (refine nxN ?_)
    | (show RS _ _ _ _ _ _ _ (⟨some 19, .buildSlice _ _ _, _, _, _, _⟩ :: _); refine RS.lit1P (a := (A, B)) ?_ (by rfl); intro y1)
    | (show RS _ _ _ _ _ _ _ (⟨some 20, _, _, _, _, _⟩ :: _); refine RS.appendA (f := cN2) (l := (l.take i).map RR.spanC) (l' := [(A, B)]) ?_ (by rfl) (by rfl) (by intro v'; exact updA) (by exact rdA) (by exact fun _ => rfl) (by (rw [hlt]; simp only [List.length_singleton]; omega)) rfl; intro y2)
    | (show YK _ _ _ _ _ _ _; first | refine YK.mk (y_callA (q1) ⟨rfl, rfl⟩) ?_)
    | (show YK _ _ _ _ _ _ _; refine YK.ofV vAuto ?_)
    | (show VK _ _ _ _ _ _ _; refine VK.mk vAuto ?_)
    | (show RS _ _ _ _ _ _ _ _; first | (refine nxRS ?_) | (refine nxRS1 fun _ => ?_))
    | (show RM _ _ _ _ _ _ _ _ _ _; first | (refine nxRM ?_) | (refine nxRM1 fun _ => ?_))
    | (show YG _ _ _ _ _ _ _ _; refine YG.mk (fun hb => by (try (have hc := And.left hb; have hb := And.right hb; rw [hc])); (try rw [hb]); first | exact (y_callA (q1) ⟨rfl, rfl⟩) | exact V.y vAuto) ?_)
    | (show VG _ _ _ _ _ _ _ _; refine VG.mk (fun hb => by (try (have hc := And.left hb; have hb := And.right hb; rw [hc])); (try rw [hb]); exact vAuto) ?_)
    | (refine G.mixedA 13 [.go 0, .go 1, .go 2, .go 3, .go 4, .go 5, .go 6, .go 7, .go 8, .go 9, .go 10, .go 11, .go 12] ?_)
    | (refine G.mixedA 14 [.go 0, .go 1, .go 2, .go 3, .go 4, .go 5, .go 6, .go 7, .go 8, .go 9, .go 10, .go 11, .go 12, .go 13, .go 14] ?_)
    | (refine nxX ?_)
    | (refine G.condN rfl (fun hc => ?_) (fun hc => ?_) <;> (try first | exact False.elim hc | (exfalso; omega))))
    refine X.again (y2, i + 1) (by dsimp only; omega) (by dsimp only; omega) ⟨rfl, rfl, rfl, rfl, rfl, trivial⟩ (fun w' h => ?_)
    dsimp only
    rw [e1]
    exact h.sub (by repeat (first | exact List.Sublist.refl _ | apply List.Sublist.cons_cons | apply List.Sublist.cons))
  · obtain rfl : i = l.length := by omega
    rw [List.take_length]
    repeat' (first
    | (refine nxN ?_)
    | (show RS _ _ _ _ _ _ _ (⟨some 23, _, _, _, _, _⟩ :: _); refine RS.callU (spanSort_c z (l.map RR.spanC) (by (rw [List.length_map]; omega))) ⟨rfl, rfl, rfl⟩ ?_; rintro S ⟨hS1, hS2⟩; dsimp only [List.cons_append, List.nil_append])
    | (refine nxV ?_)
    | (show RS _ _ _ _ _ _ _ _; first | (refine nxRS ?_) | (refine nxRS1 fun _ => ?_))
    | (show RM _ _ _ _ _ _ _ _ _ _; first | (refine nxRM ?_) | (refine nxRM1 fun _ => ?_))
    | (refine nxG ?_)
    | (refine G.mixedA 13 [.go 0, .go 1, .go 2, .go 3, .go 4, .go 5, .go 6, .go 7, .go 8, .go 9, .go 10, .go 11, .go 12] ?_)
    | (refine G.mixedA 14 [.go 0, .go 1, .go 2, .go 3, .go 4, .go 5, .go 6, .go 7, .go 8, .go 9, .go 10, .go 11, .go 12, .go 13, .go 14] ?_)
    | (refine nxX ?_)
    | (refine G.condN rfl (fun hc => ?_) (fun hc => ?_) <;> (try first | exact False.elim hc | (exfalso; omega))))
    have hSl : S.length = l.length := by rw [hS1.length_eq, List.length_map]
    refine G.loop (ι := Sl × Nat) (fun y => [(3, z.v), (6, y.1.v), (24, z.v), (25, .int .i64 S.length), (26, .int .i64 (y.2 : Int))]) (fun y => [Hl.rw y.1.v 136 cN2 2 ((S.take y.2).foldl RR.mergeS []), Hl.rw z.v 136 cN2 2 S, Hl.rd v cT 3 l]) (fun y => y.2 ≤ S.length) (fun y => S.length - y.2) (⟨none, 0, 0⟩, 0) (Nat.zero_le _) ⟨rfl, rfl, rfl, rfl, rfl, trivial⟩ (fun w' h => St.nilRow 136 cN2 2 h) ?_
    rintro ⟨y, j⟩ mx2 k1 hmx2
    dsimp only at k1 hmx2 ⊢
    rcases Nat.lt_or_ge j S.length with hj | hj
    · have e2 : (S.take (j + 1)).foldl RR.mergeS [] = RR.mergeS ((S.take j).foldl RR.mergeS []) (nth S (j : Int)) := by
        rw [List.take_add_one, List.getElem?_eq_getElem hj, List.foldl_append, nth_get hj]; rfl
      have hol : ((S.take j).foldl RR.mergeS []).length ≤ 4000 := by
        have : ∀ (q o : List (Nat × Nat)), (q.foldl RR.mergeS o).length ≤ o.length + q.length := by
          intro q
          induction q with
          | nil => intro o; exact Nat.le_refl _
          | cons s r ih =>
            intro o
            have h1 := ih (RR.mergeS o s)
            have h2 := RR.mergeS_len o s
            rw [List.foldl_cons, List.length_cons]; omega
        have h3 := this (S.take j) []
        rw [List.length_take, List.length_nil] at h3
        omega
      generalize (S.take j).foldl RR.mergeS [] = out at *
      by_cases h0 : 0 < out.length
      · rw [mergeS_nth h0] at e2
        by_cases h1 : (nth S (j : Int)).1 ≤ (nth out ((out.length : Int) - 1)).2
        · rw [if_pos h1] at e2
          repeat' (first
    | (refine nxN ?_)
    | (show VFrK _ _ _ _ _ ⟨_, .fieldAddr 136 (.tmp 51) _, _, _, _, _⟩ _; refine VFrK.mk (vf_fieldEl (f := cN2) (l := out) (m := (out.length : Int) - 1) (by rfl) (by exact rdA) (fun _ => rfl) ⟨by omega, by omega⟩ rfl (show fieldAt _ _ _ _ = some 1 by kernel_rfl)) ?_)
    | (show VFrK _ _ _ _ _ ⟨_, .fieldAddr 136 (.tmp 57) _, _, _, _, _⟩ _; refine VFrK.mk (vf_fieldEl (f := cN2) (l := out) (m := (out.length : Int) - 1) (by rfl) (by exact rdA) (fun _ => rfl) ⟨by omega, by omega⟩ rfl (show fieldAt _ _ _ _ = some 1 by kernel_rfl)) ?_)
    | (show RF _ _ _ _ _ _ _ _ _; refine RF.storeP (ls := out) (b := ((nth out ((out.length : Int) - 1)).1, max (nth out ((out.length : Int) - 1)).2 (nth S (j : Int)).2)) (by rfl) (by rfl) (by rfl) (by rfl) (by exact updA) ⟨by omega, by omega⟩ (by simp [cN2]; omega) (by decide +kernel) (by decide +kernel) ?_)
    | (refine G.mixedFH 14 [.go 0, .go 1, .go 2, .go 3, .go 4, .go 5, .go 6, .go 7, .go 8, .go 9, .go 10, .go 11, .go 12, .go 13, .go 14] ?_)
    | (refine nxRF ?_)
    | (refine nxVF ?_)
    | (refine nxV ?_)
    | (show RS _ _ _ _ _ _ _ _; first | (refine nxRS ?_) | (refine nxRS1 fun _ => ?_))
    | (show RM _ _ _ _ _ _ _ _ _ _; first | (refine nxRM ?_) | (refine nxRM1 fun _ => ?_))
    | (refine nxG ?_)
    | (refine G.mixedA 13 [.go 0, .go 1, .go 2, .go 3, .go 4, .go 5, .go 6, .go 7, .go 8, .go 9, .go 10, .go 11, .go 12] ?_)
    | (refine nxX ?_)
    | (refine G.condN rfl (fun hc => ?_) (fun hc => ?_) <;> (try first | exact False.elim hc | (exfalso; omega))))
          refine X.again (y, j + 1) (by dsimp only; omega) (by dsimp only; omega) ⟨rfl, rfl, rfl, rfl, rfl, trivial⟩ (fun w' h => ?_)
          dsimp only
          rw [e2]
          exact h.sub (by repeat (first | exact List.Sublist.refl _ | apply List.Sublist.cons_cons | apply List.Sublist.cons))
        · rw [if_neg h1] at e2
          repeat' (first
    | (refine nxN ?_)
    | (show RS _ _ _ _ _ _ _ (⟨some 61, .buildSlice _ _ _, _, _, _, _⟩ :: _); refine RS.lit1P (a := nth S (j : Int)) ?_ (by rfl); intro y1)
    | (show RS _ _ _ _ _ _ _ (⟨some 62, _, _, _, _, _⟩ :: _); refine RS.appendA (f := cN2) (l := out) (l' := [nth S (j : Int)]) ?_ (by rfl) (by rfl) (by intro v'; exact updA) (by exact rdA) (by exact fun _ => rfl) (by (simp only [List.length_singleton]; omega)) rfl; intro y2)
    | (refine nxV ?_)
    | (show RS _ _ _ _ _ _ _ _; first | (refine nxRS ?_) | (refine nxRS1 fun _ => ?_))
    | (show RM _ _ _ _ _ _ _ _ _ _; first | (refine nxRM ?_) | (refine nxRM1 fun _ => ?_))
    | (refine nxG ?_)
    | (refine G.mixedA 13 [.go 0, .go 1, .go 2, .go 3, .go 4, .go 5, .go 6, .go 7, .go 8, .go 9, .go 10, .go 11, .go 12] ?_)
    | (refine G.mixedA 14 [.go 0, .go 1, .go 2, .go 3, .go 4, .go 5, .go 6, .go 7, .go 8, .go 9, .go 10, .go 11, .go 12, .go 13, .go 14] ?_)
    | (refine nxX ?_)
    | (refine G.condN rfl (fun hc => ?_) (fun hc => ?_) <;> (try first | exact False.elim hc | (exfalso; omega))))
          refine X.again (y2, j + 1) (by dsimp only; omega) (by dsimp only; omega) ⟨rfl, rfl, rfl, rfl, rfl, trivial⟩ (fun w' h => ?_)
          dsimp only
          rw [e2]
          exact h.sub (by repeat (first | exact List.Sublist.refl _ | apply List.Sublist.cons_cons | apply List.Sublist.cons))
      · have e3 : RR.mergeS out (nth S (j : Int)) = out ++ [nth S (j : Int)] := by
          have h1 : out = [] := List.eq_nil_of_length_eq_zero (by omega)
          rw [h1]; rfl
        rw [e3] at e2
        repeat' (first
    | (refine nxN ?_)
    | (show RS _ _ _ _ _ _ _ (⟨some 61, .buildSlice _ _ _, _, _, _, _⟩ :: _); refine RS.lit1P (a := nth S (j : Int)) ?_ (by rfl); intro y1)
    | (show RS _ _ _ _ _ _ _ (⟨some 62, _, _, _, _, _⟩ :: _); refine RS.appendA (f := cN2) (l := out) (l' := [nth S (j : Int)]) ?_ (by rfl) (by rfl) (by intro v'; exact updA) (by exact rdA) (by exact fun _ => rfl) (by (simp only [List.length_singleton]; omega)) rfl; intro y2)
    | (refine nxV ?_)
    | (show RS _ _ _ _ _ _ _ _; first | (refine nxRS ?_) | (refine nxRS1 fun _ => ?_))
    | (show RM _ _ _ _ _ _ _ _ _ _; first | (refine nxRM ?_) | (refine nxRM1 fun _ => ?_))
    | (refine nxG ?_)
    | (refine G.mixedA 13 [.go 0, .go 1, .go 2, .go 3, .go 4, .go 5, .go 6, .go 7, .go 8, .go 9, .go 10, .go 11, .go 12] ?_)
    | (refine G.mixedA 14 [.go 0, .go 1, .go 2, .go 3, .go 4, .go 5, .go 6, .go 7, .go 8, .go 9, .go 10, .go 11, .go 12, .go 13, .go 14] ?_)
    | (refine nxX ?_)
    | (refine G.condN rfl (fun hc => ?_) (fun hc => ?_) <;> (try first | exact False.elim hc | (exfalso; omega))))
        refine X.again (y2, j + 1) (by dsimp only; omega) (by dsimp only; omega) ⟨rfl, rfl, rfl, rfl, rfl, trivial⟩ (fun w' h => ?_)
        dsimp only
        rw [e2]
        exact h.sub (by repeat (first | exact List.Sublist.refl _ | apply List.Sublist.cons_cons | apply List.Sublist.cons))
    · obtain rfl : j = S.length := by omega
      rw [List.take_length]
      repeat' (first
    | (refine nxN ?_)
    | (refine nxV ?_)
    | (show RS _ _ _ _ _ _ _ _; first | (refine nxRS ?_) | (refine nxRS1 fun _ => ?_))
    | (show RM _ _ _ _ _ _ _ _ _ _; first | (refine nxRM ?_) | (refine nxRM1 fun _ => ?_))
    | (refine nxG ?_)
    | (refine G.mixedA 13 [.go 0, .go 1, .go 2, .go 3, .go 4, .go 5, .go 6, .go 7, .go 8, .go 9, .go 10, .go 11, .go 12] ?_)
    | (refine G.mixedA 14 [.go 0, .go 1, .go 2, .go 3, .go 4, .go 5, .go 6, .go 7, .go 8, .go 9, .go 10, .go 11, .go 12, .go 13, .go 14] ?_)
    | (refine nxX ?_)
    | (refine G.condN rfl (fun hc => ?_) (fun hc => ?_) <;> (try first | exact False.elim hc | (exfalso; omega))))
      exact X.retN (vs := [_]) (y, S.foldl RR.mergeS []) rfl ⟨rfl, rfl⟩ rfl ⟨S, hS1, hS2, rfl⟩ rfl (NewIn.rw (by exact memA) NewIn.nil)
end Go.Proofs.YthilhhegchmjeaaGreat
/- cells.tidy: cells of spans. -/
set_option linter.unusedVariables false
set_option maxHeartbeats 8000000
namespace Go.Proofs.YthilhhegchmjeaaGreat
open Go.RowKit
theorem sz_down {L : Nat} (h : L + 1 ≤ 16) : 1 * 2 ^ (2 * (16 - (L + 1) + 1)) = RR.sz L := by
  unfold RR.sz
  rw [Nat.one_mul, Nat.pow_mul, show 16 - (L + 1) + 1 = 16 - L by omega]
theorem lvlF_le (f t : Nat) : ∀ L, RR.lvlF f t L ≤ L
  | 0 => Nat.le_refl _
  | L + 1 => by
    unfold RR.lvlF
    split
    · exact Nat.le_trans (lvlF_le f t L) (by omega)
    · exact Nat.le_refl _
theorem tmod_nat {a b : Nat} : ((a : Int)).tmod (b : Int) = ((a % b : Nat) : Int) := by
  rw [Int.tmod_eq_emod_of_nonneg (by omega)]; rfl
theorem tdiv_nat {a b : Nat} : ((a : Int)).tdiv (b : Int) = ((a / b : Nat) : Int) := by
  rw [Int.tdiv_eq_ediv_of_nonneg (by omega)]; rfl
theorem num_lt {f L : Nat} (hf : f < 8589934592) (hL : L ≤ 16) : f / RR.sz L < 2 * 4 ^ L := by
  refine (Nat.div_lt_iff_lt_mul (RR.sz_pos L)).2 ?_
  have : 4 ^ L * RR.sz L = 4 ^ 16 := by
    unfold RR.sz
    rw [← Nat.pow_add]; congr 1; omega
  rw [Nat.mul_assoc, this]
  omega
theorem tidy_c (v : Value) (S : List (Nat × Nat)) (hS : ∀ s ∈ S, s.1 ≤ s.2 ∧ s.2 ≤ 8589934592) (hl : S.length ≤ 4000) (hn : (RR.tidyL S).length ≤ 4000) : ContX Tryz.prog [Hl.rd v cN2 2 S] 74 [v] (fun _ : Sl => True) (fun z => .tuple [z.v, .bool true].toArray) (fun z => [Hl.nw z.v cT 3 (RR.tidyL S)]) := fun w hw0 => by
  refine enter Tryz.func74 rfl rfl rfl hw0 ?_
  repeat' (first
    | (refine nxN ?_)
    | (refine nxV ?_)
    | (show RS _ _ _ _ _ _ _ _; first | (refine nxRS ?_) | (refine nxRS1 fun _ => ?_))
    | (show RM _ _ _ _ _ _ _ _ _ _; first | (refine nxRM ?_) | (refine nxRM1 fun _ => ?_))
    | (refine nxG ?_)
    | (refine nxX ?_)
    | (refine G.condN rfl (fun hc => ?_) (fun hc => ?_) <;> (try first | exact False.elim hc | (exfalso; omega))))
  refine G.loop (ι := Sl × Nat) (fun z => [(4, z.1.v), (10, v), (11, .int .i64 S.length), (12, .int .i64 (z.2 : Int))]) (fun z => [Hl.rw z.1.v 110 cT 3 (RR.tidyL (S.take z.2)), Hl.rd v cN2 2 S]) (fun z => z.2 ≤ S.length) (fun z => S.length - z.2) (⟨none, 0, 0⟩, 0) (Nat.zero_le _) ⟨rfl, rfl, rfl, rfl, trivial⟩ (fun w' h => St.nilRow 110 cT 3 h) ?_
  rintro ⟨z, i⟩ mx g1 hmx
  dsimp only at g1 hmx ⊢
  rcases Nat.lt_or_ge i S.length with hi | hi
  · have hx : nth S (i : Int) ∈ S := by rw [nth_get hi]; exact List.getElem_mem hi
    obtain ⟨hs1, hs2⟩ := hS _ hx
    have e1 : RR.tidyL (S.take (i + 1)) = RR.tidyL (S.take i) ++ RR.greedy (nth S (i : Int)).1 (nth S (i : Int)).2 := by rw [RR.greedy_pre hi, nth_get hi]
    have hle : (RR.tidyL (S.take (i + 1))).length ≤ 4000 := Nat.le_trans RR.tidyL_le hn
    rw [e1, List.length_append] at hle
    generalize RR.tidyL (S.take i) = O0 at *
    generalize ht : (nth S (i : Int)).2 = t at *
    generalize hf0 : (nth S (i : Int)).1 = f0 at *
    repeat' (first
    | (refine nxN ?_)
    | (refine nxV ?_)
    | (show RS _ _ _ _ _ _ _ _; first | (refine nxRS ?_) | (refine nxRS1 fun _ => ?_))
    | (show RM _ _ _ _ _ _ _ _ _ _; first | (refine nxRM ?_) | (refine nxRM1 fun _ => ?_))
    | (refine nxG ?_)
    | (refine nxX ?_)
    | (refine G.condN rfl (fun hc => ?_) (fun hc => ?_) <;> (try first | exact False.elim hc | (exfalso; omega))))
    rename_i b6
    have hr0 : O0 ++ RR.greedy f0 t = O0 ++ RR.greedy f0 t := rfl
    refine G.loop (ι := Sl × List RR.CellT × Nat) (fun y => [(4, y.1.v), (6, .pointer (some ⟨b6, 0, none⟩)), (10, v), (11, .int .i64 S.length), (12, .int .i64 (i : Int))]) (fun y => [Hl.rw y.1.v 110 cT 3 y.2.1, Hl.blk b6 136 [.int .i64 (y.2.2 : Int), .int .i64 (t : Int)], Hl.rd v cN2 2 S]) (fun y => y.2.1 ++ RR.greedy y.2.2 t = O0 ++ RR.greedy f0 t ∧ y.2.2 ≤ t) (fun y => t - y.2.2) (z, O0, f0) ⟨rfl, hs1⟩ ⟨rfl, rfl, rfl, rfl, rfl, trivial⟩ (fun w' h => by
      subst ht
      subst hf0
      have h2 := h.perm (List.Perm.swap _ _ _)
      exact h2.sub (by repeat (first | exact List.Sublist.refl _ | apply List.Sublist.cons_cons | apply List.Sublist.cons))) ?_
    rintro ⟨y, O, f⟩ mx2 ⟨k1, k2⟩ hmx2
    dsimp only at k1 k2 hmx2 ⊢
    rcases Nat.lt_or_ge f t with hf | hf
    · have kl := congrArg List.length k1
      rw [RR.greedy_yes hf, List.length_append, List.length_append, List.length_cons] at kl
      have L1 := lvlF_le f t 16
      have hfm : f < 8589934592 := by omega
      have hnum := num_lt hfm L1
      have hszb := sz_bd (RR.lvlF f t 16)
      have hspec := (RR.lvlF_16 f t hf).2.1
      have k1' := k1
      rw [RR.greedy_yes hf] at k1'
      have hsz2 := sz_two L1
      repeat' (first
    | (refine nxN ?_)
    | (refine nxV ?_)
    | (show RS _ _ _ _ _ _ _ _; first | (refine nxRS ?_) | (refine nxRS1 fun _ => ?_))
    | (show RM _ _ _ _ _ _ _ _ _ _; first | (refine nxRM ?_) | (refine nxRM1 fun _ => ?_))
    | (refine nxG ?_)
    | (refine nxX ?_)
    | (refine G.condN rfl (fun hc => ?_) (fun hc => ?_) <;> (try first | exact False.elim hc | (exfalso; omega))))
      refine G.mid [(4, y.v), (6, .pointer (some ⟨b6, 0, none⟩)), (7, .int .i64 ((RR.lvlF f t 16 : Nat) : Int)), (10, v), (11, .int .i64 S.length), (12, .int .i64 (i : Int))] [Hl.rw y.v 110 cT 3 O, Hl.blk b6 136 [.int .i64 (f : Int), .int .i64 (t : Int)], Hl.rd v cN2 2 S] ?_ ?_
      · refine G.loop (ι := Nat) (fun L => [(4, y.v), (6, .pointer (some ⟨b6, 0, none⟩)), (7, .int .i64 (L : Int)), (10, v), (11, .int .i64 S.length), (12, .int .i64 (i : Int))]) (fun _ => [Hl.rw y.v 110 cT 3 O, Hl.blk b6 136 [.int .i64 (f : Int), .int .i64 (t : Int)], Hl.rd v cN2 2 S]) (fun L => L ≤ 16 ∧ RR.lvlF f t L = RR.lvlF f t 16) (fun L => L) 16 ⟨Nat.le_refl _, rfl⟩ ⟨rfl, rfl, rfl, rfl, rfl, rfl, trivial⟩ (fun w' h => h.sub (by repeat (first | exact List.Sublist.refl _ | apply List.Sublist.cons_cons | apply List.Sublist.cons))) ?_
        rintro L mx3 ⟨q1, q2⟩ hmx3
        (try dsimp only at q1 q2 hmx3 ⊢)
        cases L with
        | zero =>
          have e0 : RR.lvlF f t 16 = 0 := q2.symm
          repeat' (first
    | (refine nxN ?_)
    | (refine nxV ?_)
    | (show RS _ _ _ _ _ _ _ _; first | (refine nxRS ?_) | (refine nxRS1 fun _ => ?_))
    | (show RM _ _ _ _ _ _ _ _ _ _; first | (refine nxRM ?_) | (refine nxRM1 fun _ => ?_))
    | (refine nxG ?_)
    | (refine nxX ?_)
    | (refine G.condN rfl (fun hc => ?_) (fun hc => ?_) <;> (try first | exact False.elim hc | (exfalso; omega))))
          exact X.mid ⟨rfl, rfl, (by rw [e0]; rfl), rfl, rfl, rfl, trivial⟩ (fun w h => h.sub (by repeat (first | exact List.Sublist.refl _ | apply List.Sublist.cons_cons | apply List.Sublist.cons)))
        | succ L =>
          have hq := sz_down q1
          have hb := sz_bd L
          have hrem := tmod_nat (a := f) (b := RR.sz L)
          have hmlt := Nat.mod_le f (RR.sz L)
          replace q2 : (if f % RR.sz L = 0 ∧ f + RR.sz L ≤ t then RR.lvlF f t L else L + 1) = RR.lvlF f t 16 := q2
          generalize hSZ : RR.sz L = sz at *
          generalize hRM : f % sz = rm at *
          by_cases hc3 : rm = 0 ∧ f + sz ≤ t
          · rw [if_pos hc3] at q2
            repeat' (first
    | (refine nxN ?_)
    | (show VK _ _ _ _ _ ⟨_, .binOp .shl _ _ _ _, _, _, _, _⟩ _; refine VK.mk (y_shlA (m := 1) (j := 2 * (16 - (L + 1) + 1)) (by rfl) (by rfl) (by omega) (by omega) hq (by omega)) ?_)
    | (show YK _ _ _ _ _ ⟨_, .binOp .shl _ _ _ _, _, _, _, _⟩ _; refine YK.ofV (y_shlA (m := 1) (j := 2 * (16 - (L + 1) + 1)) (by rfl) (by rfl) (by omega) (by omega) hq (by omega)) ?_)
    | (show VG _ _ _ _ _ _ ⟨_, .binOp .shl _ _ _ _, _, _, _, _⟩ _; refine VG.mk (fun hb => by (try (have hc := And.left hb; have hb := And.right hb; rw [hc])); (try rw [hb]); exact y_shlA (m := 1) (j := 2 * (16 - (L + 1) + 1)) (by rfl) (by rfl) (by omega) (by omega) hq (by omega)) ?_)
    | (show YG _ _ _ _ _ _ ⟨_, .binOp .shl _ _ _ _, _, _, _, _⟩ _; refine YG.mk (fun hb => by (try (have hc := And.left hb; have hb := And.right hb; rw [hc])); (try rw [hb]); exact V.y (y_shlA (m := 1) (j := 2 * (16 - (L + 1) + 1)) (by rfl) (by rfl) (by omega) (by omega) hq (by omega))) ?_)
    | (show VK _ _ _ _ _ ⟨_, .binOp .rem _ _ _ _, _, _, _, _⟩ _; refine VK.mk (y_remN (by rfl) (by rfl) hrem (by omega)) ?_)
    | (show YK _ _ _ _ _ ⟨_, .binOp .rem _ _ _ _, _, _, _, _⟩ _; refine YK.ofV (y_remN (by rfl) (by rfl) hrem (by omega)) ?_)
    | (show VG _ _ _ _ _ _ ⟨_, .binOp .rem _ _ _ _, _, _, _, _⟩ _; refine VG.mk (fun hb => by (try (have hc := And.left hb; have hb := And.right hb; rw [hc])); (try rw [hb]); exact y_remN (by rfl) (by rfl) hrem (by omega)) ?_)
    | (show YG _ _ _ _ _ _ ⟨_, .binOp .rem _ _ _ _, _, _, _, _⟩ _; refine YG.mk (fun hb => by (try (have hc := And.left hb; have hb := And.right hb; rw [hc])); (try rw [hb]); exact V.y (y_remN (by rfl) (by rfl) hrem (by omega))) ?_)
    | (refine nxV ?_)
    | (show RS _ _ _ _ _ _ _ _; first | (refine nxRS ?_) | (refine nxRS1 fun _ => ?_))
    | (show RM _ _ _ _ _ _ _ _ _ _; first | (refine nxRM ?_) | (refine nxRM1 fun _ => ?_))
    | (refine nxG ?_)
    | (refine nxX ?_)
    | (refine G.condN rfl (fun hc => ?_) (fun hc => ?_) <;> (try first | exact False.elim hc | (exfalso; omega))))
            all_goals first | (exfalso; omega) | exact X.again L ⟨by omega, q2⟩ (by omega) ⟨rfl, rfl, (by exact congrArg (fun z => some (Value.int .i64 z)) (by omega)), rfl, rfl, rfl, trivial⟩ (fun w' h => h.sub (by repeat (first | exact List.Sublist.refl _ | apply List.Sublist.cons_cons | apply List.Sublist.cons)))
          · rw [if_neg hc3] at q2
            repeat' (first
    | (refine nxN ?_)
    | (show VK _ _ _ _ _ ⟨_, .binOp .shl _ _ _ _, _, _, _, _⟩ _; refine VK.mk (y_shlA (m := 1) (j := 2 * (16 - (L + 1) + 1)) (by rfl) (by rfl) (by omega) (by omega) hq (by omega)) ?_)
    | (show YK _ _ _ _ _ ⟨_, .binOp .shl _ _ _ _, _, _, _, _⟩ _; refine YK.ofV (y_shlA (m := 1) (j := 2 * (16 - (L + 1) + 1)) (by rfl) (by rfl) (by omega) (by omega) hq (by omega)) ?_)
    | (show VG _ _ _ _ _ _ ⟨_, .binOp .shl _ _ _ _, _, _, _, _⟩ _; refine VG.mk (fun hb => by (try (have hc := And.left hb; have hb := And.right hb; rw [hc])); (try rw [hb]); exact y_shlA (m := 1) (j := 2 * (16 - (L + 1) + 1)) (by rfl) (by rfl) (by omega) (by omega) hq (by omega)) ?_)
    | (show YG _ _ _ _ _ _ ⟨_, .binOp .shl _ _ _ _, _, _, _, _⟩ _; refine YG.mk (fun hb => by (try (have hc := And.left hb; have hb := And.right hb; rw [hc])); (try rw [hb]); exact V.y (y_shlA (m := 1) (j := 2 * (16 - (L + 1) + 1)) (by rfl) (by rfl) (by omega) (by omega) hq (by omega))) ?_)
    | (show VK _ _ _ _ _ ⟨_, .binOp .rem _ _ _ _, _, _, _, _⟩ _; refine VK.mk (y_remN (by rfl) (by rfl) hrem (by omega)) ?_)
    | (show YK _ _ _ _ _ ⟨_, .binOp .rem _ _ _ _, _, _, _, _⟩ _; refine YK.ofV (y_remN (by rfl) (by rfl) hrem (by omega)) ?_)
    | (show VG _ _ _ _ _ _ ⟨_, .binOp .rem _ _ _ _, _, _, _, _⟩ _; refine VG.mk (fun hb => by (try (have hc := And.left hb; have hb := And.right hb; rw [hc])); (try rw [hb]); exact y_remN (by rfl) (by rfl) hrem (by omega)) ?_)
    | (show YG _ _ _ _ _ _ ⟨_, .binOp .rem _ _ _ _, _, _, _, _⟩ _; refine YG.mk (fun hb => by (try (have hc := And.left hb; have hb := And.right hb; rw [hc])); (try rw [hb]); exact V.y (y_remN (by rfl) (by rfl) hrem (by omega))) ?_)
    | (refine nxV ?_)
    | (show RS _ _ _ _ _ _ _ _; first | (refine nxRS ?_) | (refine nxRS1 fun _ => ?_))
    | (show RM _ _ _ _ _ _ _ _ _ _; first | (refine nxRM ?_) | (refine nxRM1 fun _ => ?_))
    | (refine nxG ?_)
    | (refine nxX ?_)
    | (refine G.condN rfl (fun hc => ?_) (fun hc => ?_) <;> (try first | exact False.elim hc | (exfalso; omega))))
            all_goals first | (exfalso; omega) | exact X.mid ⟨rfl, rfl, (by rw [← q2]; rfl), rfl, rfl, rfl, trivial⟩ (fun w h => h.sub (by repeat (first | exact List.Sublist.refl _ | apply List.Sublist.cons_cons | apply List.Sublist.cons)))
      · have hquo := tdiv_nat (a := f) (b := RR.sz (RR.lvlF f t 16))
        have qc := cellOf_c L1 hnum
        have e5 : RR.cellAt (f / RR.sz (RR.lvlF f t 16)) (RR.lvlF f t 16) = ⟨RR.lvlF f t 16, RR.drow (RR.lvlF f t 16) (f / RR.sz (RR.lvlF f t 16)), RR.dcol (RR.lvlF f t 16) (f / RR.sz (RR.lvlF f t 16))⟩ := rfl
        rw [e5] at k1'
        have hdl := Nat.div_le_self f (RR.sz (RR.lvlF f t 16))
        generalize RR.sz (RR.lvlF f t 16) = sz at *
        generalize f / sz = nn at *
        generalize RR.lvlF f t 16 = L at *
        generalize RR.drow L nn = A at *
        generalize RR.dcol L nn = B at *
        repeat' (first
    | (refine nxN ?_)
    | (show VK _ _ _ _ _ ⟨_, .binOp .shl _ _ _ _, _, _, _, _⟩ _; refine VK.mk (y_shlA (m := 1) (j := 2 * (16 - L)) (by rfl) (by rfl) (by omega) (by omega) hsz2 (by omega)) ?_)
    | (show YK _ _ _ _ _ ⟨_, .binOp .shl _ _ _ _, _, _, _, _⟩ _; refine YK.ofV (y_shlA (m := 1) (j := 2 * (16 - L)) (by rfl) (by rfl) (by omega) (by omega) hsz2 (by omega)) ?_)
    | (show VG _ _ _ _ _ _ ⟨_, .binOp .shl _ _ _ _, _, _, _, _⟩ _; refine VG.mk (fun hb => by (try (have hc := And.left hb; have hb := And.right hb; rw [hc])); (try rw [hb]); exact y_shlA (m := 1) (j := 2 * (16 - L)) (by rfl) (by rfl) (by omega) (by omega) hsz2 (by omega)) ?_)
    | (show YG _ _ _ _ _ _ ⟨_, .binOp .shl _ _ _ _, _, _, _, _⟩ _; refine YG.mk (fun hb => by (try (have hc := And.left hb; have hb := And.right hb; rw [hc])); (try rw [hb]); exact V.y (y_shlA (m := 1) (j := 2 * (16 - L)) (by rfl) (by rfl) (by omega) (by omega) hsz2 (by omega))) ?_)
    | (show VK _ _ _ _ _ ⟨_, .binOp .quo _ _ _ _, _, _, _, _⟩ _; refine VK.mk (y_quoN (by rfl) (by rfl) hquo (by omega) (by omega)) ?_)
    | (show YK _ _ _ _ _ ⟨_, .binOp .quo _ _ _ _, _, _, _, _⟩ _; refine YK.ofV (y_quoN (by rfl) (by rfl) hquo (by omega) (by omega)) ?_)
    | (show VG _ _ _ _ _ _ ⟨_, .binOp .quo _ _ _ _, _, _, _, _⟩ _; refine VG.mk (fun hb => by (try (have hc := And.left hb; have hb := And.right hb; rw [hc])); (try rw [hb]); exact y_quoN (by rfl) (by rfl) hquo (by omega) (by omega)) ?_)
    | (show YG _ _ _ _ _ _ ⟨_, .binOp .quo _ _ _ _, _, _, _, _⟩ _; refine YG.mk (fun hb => by (try (have hc := And.left hb; have hb := And.right hb; rw [hc])); (try rw [hb]); exact V.y (y_quoN (by rfl) (by rfl) hquo (by omega) (by omega))) ?_)
    | (show RS _ _ _ _ _ _ _ (⟨some 55, .buildSlice _ _ _, _, _, _, _⟩ :: _); refine RS.lit1T (a := (⟨L, A, B⟩ : RR.CellT)) ?_ (by rfl); intro y1)
    | (show RS _ _ _ _ _ _ _ (⟨some 56, _, _, _, _, _⟩ :: _); refine RS.appendA (f := cT) (l := O) (l' := [(⟨L, A, B⟩ : RR.CellT)]) ?_ (by rfl) (by rfl) (by intro v'; exact updA) (by exact rdA) (by exact fun _ => rfl) (by (simp only [List.length_singleton]; omega)) rfl; intro y2)
    | (show YK _ _ _ _ _ _ _; first | refine YK.mk (y_callA (qc) ⟨rfl, rfl, rfl⟩) ?_)
    | (show YK _ _ _ _ _ _ _; refine YK.ofV vAuto ?_)
    | (show VK _ _ _ _ _ _ _; refine VK.mk vAuto ?_)
    | (show RS _ _ _ _ _ _ _ _; first | (refine nxRS ?_) | (refine nxRS1 fun _ => ?_))
    | (show RM _ _ _ _ _ _ _ _ _ _; first | (refine nxRM ?_) | (refine nxRM1 fun _ => ?_))
    | (show YG _ _ _ _ _ _ _ _; refine YG.mk (fun hb => by (try (have hc := And.left hb; have hb := And.right hb; rw [hc])); (try rw [hb]); first | exact (y_callA (qc) ⟨rfl, rfl, rfl⟩) | exact V.y vAuto) ?_)
    | (show VG _ _ _ _ _ _ _ _; refine VG.mk (fun hb => by (try (have hc := And.left hb; have hb := And.right hb; rw [hc])); (try rw [hb]); exact vAuto) ?_)
    | (refine nxX ?_)
    | (refine G.condN rfl (fun hc => ?_) (fun hc => ?_) <;> (try first | exact False.elim hc | (exfalso; omega))))
        · exfalso
          rw [List.length_append, List.length_singleton] at hc
          omega
        · exact X.again (y2, O ++ [(⟨L, A, B⟩ : RR.CellT)], f + sz) ⟨by dsimp only; rw [List.append_assoc]; exact k1', by dsimp only; omega⟩ (by dsimp only; omega) ⟨rfl, rfl, rfl, rfl, rfl, trivial⟩ (fun w' h => h.sub (by repeat (first | exact List.Sublist.refl _ | apply List.Sublist.cons_cons | apply List.Sublist.cons)))
    · rw [RR.greedy_no (by omega), List.append_nil] at k1
      repeat' (first
    | (refine nxN ?_)
    | (refine nxV ?_)
    | (show RS _ _ _ _ _ _ _ _; first | (refine nxRS ?_) | (refine nxRS1 fun _ => ?_))
    | (show RM _ _ _ _ _ _ _ _ _ _; first | (refine nxRM ?_) | (refine nxRM1 fun _ => ?_))
    | (refine nxG ?_)
    | (refine nxX ?_)
    | (refine G.condN rfl (fun hc => ?_) (fun hc => ?_) <;> (try first | exact False.elim hc | (exfalso; omega))))
      refine X.again (y, i + 1) (by dsimp only; omega) (by dsimp only; omega) ⟨rfl, rfl, rfl, rfl, trivial⟩ (fun w' h => ?_)
      dsimp only
      rw [e1, ← k1]
      exact h.sub (by repeat (first | exact List.Sublist.refl _ | apply List.Sublist.cons_cons | apply List.Sublist.cons))
  · obtain rfl : i = S.length := by omega
    rw [List.take_length]
    repeat' (first
    | (refine nxN ?_)
    | (refine nxV ?_)
    | (show RS _ _ _ _ _ _ _ _; first | (refine nxRS ?_) | (refine nxRS1 fun _ => ?_))
    | (show RM _ _ _ _ _ _ _ _ _ _; first | (refine nxRM ?_) | (refine nxRM1 fun _ => ?_))
    | (refine nxG ?_)
    | (refine nxX ?_)
    | (refine G.condN rfl (fun hc => ?_) (fun hc => ?_) <;> (try first | exact False.elim hc | (exfalso; omega))))
    exact X.retN (vs := [_, _]) z rfl ⟨rfl, rfl, rfl⟩ rfl trivial rfl (NewIn.rw (by exact memA) NewIn.nil)
end Go.Proofs.YthilhhegchmjeaaGreat
/- cells.ValidRegion of a valid region; boxes of cells; cells.Contains. -/
set_option linter.unusedVariables false
set_option maxHeartbeats 8000000
namespace Go.Proofs.YthilhhegchmjeaaGreat
open Go.RowKit
/-- A valid cell as a cell. -/
def ofT (x : RR.CellT) : Cel := ⟨x.lv, x.r, x.c⟩
theorem ofT_ok {x : RR.CellT} : ckB (ofT x) = true ↔ RR.okC x := by
  obtain ⟨lv, r, c⟩ := x
  have e : (2 : Int) ^ ((lv : Int)).toNat = ((2 ^ lv : Nat) : Int) := by rw [Int.toNat_natCast]; simp
  show (decide (0 ≤ (lv : Int)) && decide ((lv : Int) ≤ 16) && decide (0 ≤ (r : Int)) && decide ((r : Int) < 2 ^ ((lv : Int)).toNat) && decide (0 ≤ (c : Int)) && decide ((c : Int) < 2 * 2 ^ ((lv : Int)).toNat)) = true ↔ (lv ≤ 16 ∧ r < 2 ^ lv ∧ c < 2 * 2 ^ lv)
  rw [e]
  generalize 2 ^ lv = q
  simp only [Bool.and_eq_true, decide_eq_true_eq]
  omega
theorem flatT (l : List RR.CellT) : (l.map ofT).flatMap cK = l.flatMap cT := by
  rw [List.flatMap_map]; rfl
theorem rdT_K (v : Value) (l : List RR.CellT) : Hl.rd v cK 3 (l.map ofT) = Hl.rd v cT 3 l := by
  show Hl.ro false v 3 (l.map ofT).length ((l.map ofT).flatMap cK) = Hl.ro false v 3 l.length (l.flatMap cT)
  rw [flatT, List.length_map]
/-- All cells valid: they come from plain ones. -/
theorem ofT_all : ∀ {l : List Cel}, l.all ckB = true → ∃ L : List RR.CellT, l = L.map ofT ∧ ∀ x ∈ L, RR.okC x
  | [], _ => ⟨[], rfl, fun x hx => by cases hx⟩
  | x :: r, h => by
    rw [List.all_cons, Bool.and_eq_true] at h
    obtain ⟨L, h1, h2⟩ := ofT_all h.2
    have hx := h.1
    simp only [ckB, cvB, Bool.and_eq_true, decide_eq_true_eq] at hx
    have e : ofT ⟨x.l.toNat, x.r.toNat, x.c.toNat⟩ = x := by
      cases x
      simp only [ofT, Cel.mk.injEq]
      simp only at hx
      omega
    refine ⟨⟨x.l.toNat, x.r.toNat, x.c.toNat⟩ :: L, by rw [List.map_cons, e, ← h1], fun y hy => ?_⟩
    rcases List.mem_cons.1 hy with rfl | hy
    · exact ofT_ok.1 (by rw [e]; exact h.1)
    · exact h2 y hy
theorem eqT {x y : RR.CellT} : eqCells (cT x) (cT y) = decide (x = y) := by
  obtain ⟨a, b, c⟩ := x
  obtain ⟨d, e, f⟩ := y
  by_cases h : a = d ∧ b = e ∧ c = f
  · obtain ⟨rfl, rfl, rfl⟩ := h
    simp [eqCells, vEq, cT]
  · have hn : ¬ (RR.CellT.mk a b c = RR.CellT.mk d e f) := fun g => h (by simpa using g)
    rw [decide_eq_false hn]
    simp only [eqCells, vEq, cT]
    simp
    omega
theorem celEq_c (v u : Value) (a b : List RR.CellT) (ha : a.length ≤ 1000000) (hb' : b.length ≤ 1000000) : ContR Tryz.prog [Hl.rd v cT 3 a, Hl.rd u cT 3 b] 76 [v, u] (.bool (decide (a = b))) := fun w hw0 => by
  by_cases hl : a.length = b.length
  · refine enter Tryz.func76 rfl rfl rfl hw0 ?_
    repeat' (first
    | (refine nxN ?_)
    | (refine nxV ?_)
    | (show RS _ _ _ _ _ _ _ _; first | (refine nxRS ?_) | (refine nxRS1 fun _ => ?_))
    | (show RM _ _ _ _ _ _ _ _ _ _; first | (refine nxRM ?_) | (refine nxRM1 fun _ => ?_))
    | (refine nxG ?_)
    | (refine G.mixedA 6 [.go 0, .go 1, .go 2, .go 3, .go 4, .go 5, .go 6, .go 7, .go 8] ?_)
    | (refine nxX ?_)
    | (refine G.condN rfl (fun hc => ?_) (fun hc => ?_) <;> (try first | exact False.elim hc | (exfalso; omega))))
    all_goals first | (exfalso; omega) | skip
    refine G.loop (ι := Nat) (fun i => [(0, v), (1, u), (12, .int .i64 a.length), (13, .int .i64 (i : Int))]) (fun _ => [Hl.rd v cT 3 a, Hl.rd u cT 3 b]) (fun i => i ≤ a.length ∧ a.take i = b.take i) (fun i => a.length - i) 0 ⟨Nat.zero_le _, rfl⟩ ⟨rfl, rfl, rfl, rfl, trivial⟩ (by exact fun w h => h.sub (by repeat (first | exact List.Sublist.refl _ | apply List.Sublist.cons_cons | apply List.Sublist.cons))) ?_
    rintro i mx ⟨g1, g2⟩ hmx
    (try dsimp only at g1 g2 hmx ⊢)
    rcases Nat.lt_or_ge i a.length with hi | hi
    · have e1 := nth_get hi
      have e2 := nth_get (l := b) (i := i) (by omega)
      have et := eqT (x := nth a (i : Int)) (y := nth b (i : Int))
      repeat' (first
    | (refine nxN ?_)
    | (refine nxV ?_)
    | (show RS _ _ _ _ _ _ _ _; first | (refine nxRS ?_) | (refine nxRS1 fun _ => ?_))
    | (show RM _ _ _ _ _ _ _ _ _ _; first | (refine nxRM ?_) | (refine nxRM1 fun _ => ?_))
    | (refine nxG ?_)
    | (refine G.mixedA 6 [.go 0, .go 1, .go 2, .go 3, .go 4, .go 5, .go 6, .go 7, .go 8] ?_)
    | (refine nxX ?_)
    | (refine G.condN rfl (fun hc => ?_) (fun hc => ?_) <;> (try first | exact False.elim hc | (exfalso; omega))))
      · refine X.ret (vs := [_]) rfl ⟨rfl, rfl⟩ rfl (fun w hw => ⟨ret_bool ?_, hw.ext⟩)
        rw [et, decide_eq_false_iff_not, e1, e2] at hc
        symm
        apply decide_eq_false
        intro h
        subst h
        exact hc rfl
      · refine X.again (i + 1) ⟨by omega, ?_⟩ (by omega) ⟨rfl, rfl, rfl, rfl, trivial⟩ (by exact fun w h => h.sub (by repeat (first | exact List.Sublist.refl _ | apply List.Sublist.cons_cons | apply List.Sublist.cons)))
        rw [et, decide_eq_true_eq] at hc
        rw [List.take_add_one, List.take_add_one, g2, List.getElem?_eq_getElem hi, List.getElem?_eq_getElem (by omega), ← e1, ← e2, hc]
    · obtain rfl : i = a.length := by omega
      have hab : a = b := by rw [List.take_length, hl, List.take_length] at g2; exact g2
      repeat' (first
    | (refine nxN ?_)
    | (refine nxV ?_)
    | (show RS _ _ _ _ _ _ _ _; first | (refine nxRS ?_) | (refine nxRS1 fun _ => ?_))
    | (show RM _ _ _ _ _ _ _ _ _ _; first | (refine nxRM ?_) | (refine nxRM1 fun _ => ?_))
    | (refine nxG ?_)
    | (refine G.mixedA 6 [.go 0, .go 1, .go 2, .go 3, .go 4, .go 5, .go 6, .go 7, .go 8] ?_)
    | (refine nxX ?_)
    | (refine G.condN rfl (fun hc => ?_) (fun hc => ?_) <;> (try first | exact False.elim hc | (exfalso; omega))))
      refine X.ret (vs := [_]) rfl ⟨rfl, rfl⟩ rfl (fun w hw => ⟨ret_bool (decide_eq_true hab).symm, hw.ext⟩)
  · have hab : ¬ a = b := fun h => hl (by rw [h])
    rw [decide_eq_false hab]
    refine enter Tryz.func76 rfl rfl rfl hw0 ?_
    repeat' (first
    | (refine nxN ?_)
    | (refine nxV ?_)
    | (show RS _ _ _ _ _ _ _ _; first | (refine nxRS ?_) | (refine nxRS1 fun _ => ?_))
    | (show RM _ _ _ _ _ _ _ _ _ _; first | (refine nxRM ?_) | (refine nxRM1 fun _ => ?_))
    | (refine nxG ?_)
    | (refine G.mixedA 6 [.go 0, .go 1, .go 2, .go 3, .go 4, .go 5, .go 6, .go 7, .go 8] ?_)
    | (refine nxX ?_)
    | (refine G.condN rfl (fun hc => ?_) (fun hc => ?_) <;> (try first | exact False.elim hc | (exfalso; omega))))
    all_goals first | (exfalso; omega) | exact X.ret (vs := [_]) rfl ⟨rfl, rfl⟩ rfl (fun w hw => ⟨rfl, hw.ext⟩)
end Go.Proofs.YthilhhegchmjeaaGreat
/- cells.ValidRegion answers yes at a valid region. -/
set_option linter.unusedVariables false
set_option maxHeartbeats 8000000
namespace Go.Proofs.YthilhhegchmjeaaGreat
open Go.RowKit
theorem mergeS_lt {out : List (Nat × Nat)} {s : Nat × Nat} {M : Nat} (h : ∀ x ∈ out, x.1 ≤ x.2 ∧ x.2 ≤ M) (hs : s.1 ≤ s.2 ∧ s.2 ≤ M) : ∀ x ∈ RR.mergeS out s, x.1 ≤ x.2 ∧ x.2 ≤ M := by
  rcases List.eq_nil_or_concat out with rfl | ⟨p, l, rfl⟩
  · intro x hx
    rw [RR.mergeS_nil] at hx
    obtain rfl := List.mem_singleton.1 hx
    exact hs
  · rw [List.concat_eq_append] at h ⊢
    rw [RR.mergeS_snoc]
    have hl := h l (by simp)
    split
    · intro x hx
      rcases List.mem_append.1 hx with hx | hx
      · exact h x (List.mem_append_left _ hx)
      · obtain rfl := List.mem_singleton.1 hx
        show l.1 ≤ max l.2 s.2 ∧ max l.2 s.2 ≤ M
        omega
    · intro x hx
      rcases List.mem_append.1 hx with hx | hx
      · exact h x hx
      · obtain rfl := List.mem_singleton.1 hx
        exact hs
theorem foldS_lt {M : Nat} : ∀ (S out : List (Nat × Nat)), (∀ x ∈ out, x.1 ≤ x.2 ∧ x.2 ≤ M) → (∀ x ∈ S, x.1 ≤ x.2 ∧ x.2 ≤ M) → (∀ x ∈ S.foldl RR.mergeS out, x.1 ≤ x.2 ∧ x.2 ≤ M) ∧ (S.foldl RR.mergeS out).length ≤ out.length + S.length
  | [], out, h, _ => ⟨h, Nat.le_refl _⟩
  | s :: r, out, h, hs => by
    have h1 := foldS_lt r (RR.mergeS out s) (mergeS_lt h (hs s (by simp))) fun x hx => hs x (List.mem_cons_of_mem _ hx)
    have h2 := RR.mergeS_len out s
    rw [List.foldl_cons, List.length_cons]
    exact ⟨h1.1, by omega⟩
/-- What the walk of tidy wants of a cover. -/
theorem cover_facts {l : List RR.CellT} (ok : ∀ x ∈ l, RR.okC x) {S : List (Nat × Nat)} (hp : S.Perm (l.map RR.spanC)) : (∀ s ∈ S.foldl RR.mergeS [], s.1 ≤ s.2 ∧ s.2 ≤ 8589934592) ∧ (S.foldl RR.mergeS []).length ≤ l.length := by
  have h := foldS_lt (M := 8589934592) S [] (fun x hx => by cases hx) fun x hx => by
    have := hp.mem_iff.1 hx
    obtain ⟨y, hy, rfl⟩ := List.mem_map.1 this
    have := RR.okC_span (ok y hy)
    omega
  refine ⟨h.1, ?_⟩
  have h2 := h.2
  rw [hp.length_eq, List.length_map, List.length_nil] at h2
  omega
theorem vreg_c (v : Value) (l : List RR.CellT) (ok : ∀ x ∈ l, RR.okC x) (hv : RR.IdxOk l) (hl : l.length ≤ 4000) : ContR Tryz.prog [Hl.rd v cT 3 l] 41 [v] (.bool true) := fun w hw0 => by
  have q1 := celCont_c v (l.map ofT) (by rw [List.length_map]; omega)
  have ha : (l.map ofT).all ckB = true := by
    rw [List.all_eq_true]
    intro x hx
    obtain ⟨y, hy, rfl⟩ := List.mem_map.1 hx
    exact ofT_ok.2 (ok y hy)
  rw [rdT_K, ha] at q1
  have q2 := cover_c v l ok hl
  have q4 := fun u => celEq_c u v l l (by omega) (by omega)
  rw [decide_eq_true rfl] at q4
  refine enter Tryz.func41 rfl rfl rfl hw0 ?_
  repeat' (first
    | (refine nxN ?_)
    | (show RS _ _ _ _ _ _ _ (⟨some 14, _, _, _, _, _⟩ :: _); refine RS.callX q2 ⟨rfl, rfl⟩ ?_; rintro ⟨z, C⟩ ⟨S, hS1, hS2, hS3⟩; dsimp only at hS3; subst hS3; have hcf := cover_facts ok hS1; have hri := (RR.region_iff ok hS1 hS2).2 hv; have q3 := tidy_c z.v (S.foldl RR.mergeS []) hcf.1 (by omega) (by (rw [hri]; exact hl)); rw [hri] at q3; dsimp only [List.cons_append, List.nil_append])
    | (show RS _ _ _ _ _ _ _ (⟨some 15, _, _, _, _, _⟩ :: _); refine RS.callX q3 ⟨rfl, rfl⟩ ?_; rintro z2 -; dsimp only [List.cons_append, List.nil_append])
    | (show YK _ _ _ _ _ _ _; first | refine YK.mk (y_callRA (q1) ⟨rfl, rfl, rfl⟩) ?_ | refine YK.mk (y_callRA ((q4 _)) ⟨rfl, rfl, rfl⟩) ?_)
    | (show YK _ _ _ _ _ _ _; refine YK.ofV vAuto ?_)
    | (show VK _ _ _ _ _ _ _; refine VK.mk vAuto ?_)
    | (show RS _ _ _ _ _ _ _ _; first | (refine nxRS ?_) | (refine nxRS1 fun _ => ?_))
    | (show RM _ _ _ _ _ _ _ _ _ _; first | (refine nxRM ?_) | (refine nxRM1 fun _ => ?_))
    | (show YG _ _ _ _ _ _ _ _; refine YG.mk (fun hb => by (try (have hc := And.left hb; have hb := And.right hb; rw [hc])); (try rw [hb]); first | exact (y_callRA (q1) ⟨rfl, rfl, rfl⟩) | exact (y_callRA ((q4 _)) ⟨rfl, rfl, rfl⟩) | exact V.y vAuto) ?_)
    | (show VG _ _ _ _ _ _ _ _; refine VG.mk (fun hb => by (try (have hc := And.left hb; have hb := And.right hb; rw [hc])); (try rw [hb]); exact vAuto) ?_)
    | (refine nxX ?_)
    | (refine G.condN rfl (fun hc => ?_) (fun hc => ?_) <;> (try first | exact False.elim hc | (exfalso; omega))))
  all_goals first | (exfalso; omega) | exact X.ret (vs := [_]) rfl ⟨rfl, rfl⟩ rfl (fun w hw => ⟨rfl, hw.ext⟩)
end Go.Proofs.YthilhhegchmjeaaGreat
/- Places: boxes of cells, points in them. -/
set_option linter.unusedVariables false
set_option maxHeartbeats 8000000
namespace Go.Proofs.YthilhhegchmjeaaGreat
open Go.RowKit
abbrev plV (a b c d : Int) : Value := .agg [.int .i64 a, .int .i64 b, .int .i64 c, .int .i64 d].toArray
theorem edge_c {i lv e : Nat} (hi : i ≤ 200000) (hl : lv ≤ 16) (he : i * 10800000 / 2 ^ lv = e) : Cont Tryz.prog 110 [.int .i64 (i : Int), .int .i64 (lv : Int)] (.int .i64 (e : Int)) := fun w => by
  refine enter0 Tryz.func110 rfl rfl rfl ?_
  repeat' (first
    | (show VK _ _ _ _ _ ⟨_, .binOp .shr _ _ _ _, _, _, _, _⟩ _; refine VK.mk (y_shrA (m := i * 10800000) (j := lv) (by rfl) (by rfl) (by omega) (by omega) he) ?_)
    | (show YK _ _ _ _ _ ⟨_, .binOp .shr _ _ _ _, _, _, _, _⟩ _; refine YK.ofV (y_shrA (m := i * 10800000) (j := lv) (by rfl) (by rfl) (by omega) (by omega) he) ?_)
    | (show VG _ _ _ _ _ _ ⟨_, .binOp .shr _ _ _ _, _, _, _, _⟩ _; refine VG.mk (fun hb => by (try (have hc := And.left hb; have hb := And.right hb; rw [hc])); (try rw [hb]); exact y_shrA (m := i * 10800000) (j := lv) (by rfl) (by rfl) (by omega) (by omega) he) ?_)
    | (show YG _ _ _ _ _ _ ⟨_, .binOp .shr _ _ _ _, _, _, _, _⟩ _; refine YG.mk (fun hb => by (try (have hc := And.left hb; have hb := And.right hb; rw [hc])); (try rw [hb]); exact V.y (y_shrA (m := i * 10800000) (j := lv) (by rfl) (by rfl) (by omega) (by omega) he)) ?_)
    | (refine nxV ?_)
    | (show RS _ _ _ _ _ _ _ _; first | (refine nxRS ?_) | (refine nxRS1 fun _ => ?_))
    | (show RM _ _ _ _ _ _ _ _ _ _; first | (refine nxRM ?_) | (refine nxRM1 fun _ => ?_))
    | (refine nxG ?_)
    | (refine nxX ?_)
    | (refine G.condN rfl (fun hc => ?_) (fun hc => ?_) <;> (try first | exact False.elim hc | (exfalso; omega))))
  exact X.ret (vs := [_]) rfl ⟨rfl, rfl⟩ rfl (fun w hw => ⟨rfl, hw.ext⟩)
def egN (i lv : Nat) : Nat := i * 10800000 / 2 ^ lv
/-- The box's edges: latitudes, longitudes. -/
def bxA (x : RR.CellT) : Int := (egN x.r x.lv : Int) - 5400000
def bxB (x : RR.CellT) : Int := (egN (x.r + 1) x.lv : Int) - 5400000
def bxC (x : RR.CellT) : Int := (egN x.c x.lv : Int) - 10800000
def bxD (x : RR.CellT) : Int := (egN (x.c + 1) x.lv : Int) - 10800000
theorem egN_mono {i j lv : Nat} (h : i ≤ j) : egN i lv ≤ egN j lv := Nat.div_le_div_right (Nat.mul_le_mul_right _ h)
theorem egN_top (k lv : Nat) : egN (k * 2 ^ lv) lv = k * 10800000 := by
  unfold egN
  rw [Nat.mul_right_comm, Nat.mul_div_cancel _ (Nat.pow_pos (by decide))]
theorem egN_step (i lv : Nat) : egN (i + 1) lv ≤ egN i lv + 10800001 := by
  unfold egN
  have hp : 0 < 2 ^ lv := Nat.pow_pos (by decide)
  have h1 := Nat.div_add_mod (i * 10800000) (2 ^ lv)
  have h2 := Nat.mod_lt (i * 10800000) hp
  have h3 : (i + 1) * 10800000 < (i * 10800000 / 2 ^ lv + 10800002) * 2 ^ lv := by
    rw [Nat.add_mul (i * 10800000 / 2 ^ lv), Nat.mul_comm (i * 10800000 / 2 ^ lv)]
    have h4 : 10800002 * 1 ≤ 10800002 * 2 ^ lv := Nat.mul_le_mul_left _ hp
    omega
  have := (Nat.div_lt_iff_lt_mul hp).2 h3
  omega
structure BxOk (a b c d : Int) : Prop where
  lat : -5400000 ≤ a ∧ a ≤ b ∧ b ≤ 5400000
  lon : -10800000 ≤ c ∧ c < 10800000 ∧ c ≤ d ∧ d - c < 21600000
theorem box_ok {x : RR.CellT} (ok : RR.okC x) : BxOk (bxA x) (bxB x) (bxC x) (bxD x) := by
  obtain ⟨h1, h2, h3⟩ := ok
  have r1 := egN_mono (i := x.r) (j := x.r + 1) (lv := x.lv) (by omega)
  have r2 := egN_mono (i := x.r + 1) (j := 1 * 2 ^ x.lv) (lv := x.lv) (by omega)
  have c1 := egN_mono (i := x.c) (j := x.c + 1) (lv := x.lv) (by omega)
  have c2 := egN_mono (i := x.c + 1) (j := 2 * 2 ^ x.lv) (lv := x.lv) (by omega)
  have c3 := egN_step x.c x.lv
  have c4 : egN x.c x.lv < 21600000 := by
    unfold egN
    refine (Nat.div_lt_iff_lt_mul (Nat.pow_pos (by decide))).2 ?_
    have : x.c * 10800000 < 2 * 2 ^ x.lv * 10800000 := Nat.mul_lt_mul_of_pos_right h3 (by decide)
    omega
  rw [egN_top] at r2 c2
  unfold bxA bxB bxC bxD
  exact ⟨by omega, by omega⟩
theorem built_pl (a b c d : Int) : Tryz.prog.built 119 [(0, .agg [.int .i64 a, .int .i64 b].toArray), (1, .agg [.int .i64 c, .int .i64 d].toArray)] = some [.int .i64 a, .int .i64 b, .int .i64 c, .int .i64 d].toArray := by kernel_rfl
theorem box_c {x : RR.CellT} (ok : RR.okC x) : Cont Tryz.prog 78 [celV x.lv x.r x.c] (plV (bxA x) (bxB x) (bxC x) (bxD x)) := fun w => by
  have hbd := okC_bd ok
  have hk := box_ok ok
  have q1 := edge_c (i := x.r) (lv := x.lv) (e := egN x.r x.lv) (by omega) (by omega) rfl
  have q2 := edge_c (i := x.r + 1) (lv := x.lv) (e := egN (x.r + 1) x.lv) (by omega) (by omega) rfl
  have q3 := edge_c (i := x.c) (lv := x.lv) (e := egN x.c x.lv) (by omega) (by omega) rfl
  have q4 := edge_c (i := x.c + 1) (lv := x.lv) (e := egN (x.c + 1) x.lv) (by omega) (by omega) rfl
  obtain ⟨hk1, hk2⟩ := hk
  unfold bxA bxB bxC bxD at *
  generalize egN x.r x.lv = A at *
  generalize egN (x.r + 1) x.lv = B at *
  generalize egN x.c x.lv = C at *
  generalize egN (x.c + 1) x.lv = D at *
  refine enter0 Tryz.func78 rfl rfl rfl ?_
  repeat' (first
    | (refine nxN ?_)
    | (show VK _ _ _ _ _ ⟨some 31, .build _ _, _, _, _, _⟩ _; refine VK.mk (y_build (parts := [(0, .tmp 16), (1, .tmp 30)]) (vs := [_, _]) ⟨rfl, rfl, rfl⟩ (built_pl _ _ _ _)) ?_)
    | (show YK _ _ _ _ _ _ _; first | refine YK.mk (y_callA (q1) ⟨rfl, rfl, rfl⟩) ?_ | refine YK.mk (y_callA (q2) ⟨rfl, rfl, rfl⟩) ?_ | refine YK.mk (y_callA (q3) ⟨rfl, rfl, rfl⟩) ?_ | refine YK.mk (y_callA (q4) ⟨rfl, rfl, rfl⟩) ?_)
    | (show YK _ _ _ _ _ _ _; refine YK.ofV vAuto ?_)
    | (show VK _ _ _ _ _ _ _; refine VK.mk vAuto ?_)
    | (show RS _ _ _ _ _ _ _ _; first | (refine nxRS ?_) | (refine nxRS1 fun _ => ?_))
    | (show RM _ _ _ _ _ _ _ _ _ _; first | (refine nxRM ?_) | (refine nxRM1 fun _ => ?_))
    | (show YG _ _ _ _ _ _ _ _; refine YG.mk (fun hb => by (try (have hc := And.left hb; have hb := And.right hb; rw [hc])); (try rw [hb]); first | exact (y_callA (q1) ⟨rfl, rfl, rfl⟩) | exact (y_callA (q2) ⟨rfl, rfl, rfl⟩) | exact (y_callA (q3) ⟨rfl, rfl, rfl⟩) | exact (y_callA (q4) ⟨rfl, rfl, rfl⟩) | exact V.y vAuto) ?_)
    | (show VG _ _ _ _ _ _ _ _; refine VG.mk (fun hb => by (try (have hc := And.left hb; have hb := And.right hb; rw [hc])); (try rw [hb]); exact vAuto) ?_)
    | (refine G.mixedA 1 [.go 0, .go 1, .go 2, .go 3, .go 6, .go 7, .go 8, .go 9, .go 10, .go 14, .go 15, .go 16, .go 17, .go 20, .go 21, .go 22, .go 23, .go 24, .go 4, .go 5, .go 11, .go 12, .go 13, .go 18, .go 19, .go 25, .go 26, .go 27, .go 28, .go 29] ?_)
    | (refine nxX ?_)
    | (refine G.condN rfl (fun hc => ?_) (fun hc => ?_) <;> (try first | exact False.elim hc | (exfalso; omega))))
  exact X.ret (vs := [_]) rfl ⟨⟨_, _, _, _, rfl, (by exact memA), (by (repeat (first | exact .nil | apply LenIs.cons))), by decide +kernel, rfl⟩, rfl⟩ rfl (fun w hw => ⟨rfl, hw.ext⟩)
theorem plat_c {a b : Int} (h : -5400000 ≤ a ∧ a ≤ b ∧ b ≤ 5400000) : Cont Tryz.prog 122 [arcV a b] (.bool true) := fun w => by
  refine enter0 Tryz.func122 rfl rfl rfl ?_
  repeat' (first
    | (refine nxN ?_)
    | (refine nxV ?_)
    | (show RS _ _ _ _ _ _ _ _; first | (refine nxRS ?_) | (refine nxRS1 fun _ => ?_))
    | (show RM _ _ _ _ _ _ _ _ _ _; first | (refine nxRM ?_) | (refine nxRM1 fun _ => ?_))
    | (refine nxG ?_)
    | (refine nxX ?_)
    | (refine G.condN rfl (fun hc => ?_) (fun hc => ?_) <;> (try first | exact False.elim hc | (exfalso; omega))))
  exact X.ret (vs := [_]) rfl ⟨rfl, rfl⟩ rfl (fun w hw => ⟨ret_bool (by simp; omega), hw.ext⟩)
theorem pev_c : Cont Tryz.prog 152 [] (arcV (-10800000) 10800000) := fun w => by
  refine enter0 Tryz.func152 rfl rfl rfl ?_
  repeat' (first
    | (refine nxN ?_)
    | (refine nxV ?_)
    | (show RS _ _ _ _ _ _ _ _; first | (refine nxRS ?_) | (refine nxRS1 fun _ => ?_))
    | (show RM _ _ _ _ _ _ _ _ _ _; first | (refine nxRM ?_) | (refine nxRM1 fun _ => ?_))
    | (refine nxG ?_)
    | (refine nxX ?_)
    | (refine G.condN rfl (fun hc => ?_) (fun hc => ?_) <;> (try first | exact False.elim hc | (exfalso; omega))))
  exact X.ret (vs := [_]) rfl ⟨⟨_, _, _, _, rfl, (by exact memA), (by (repeat (first | exact .nil | apply LenIs.cons))), by decide +kernel, rfl⟩, rfl⟩ rfl (fun w hw => ⟨rfl, hw.ext⟩)
theorem pall_c {c d : Int} (h : d - c < 21600000) : Cont Tryz.prog 124 [arcV c d] (.bool false) := fun w => by
  have q1 := pev_c
  refine enter0 Tryz.func124 rfl rfl rfl ?_
  repeat' (first
    | (refine nxN ?_)
    | (show YK _ _ _ _ _ _ _; first | refine YK.mk (y_callA (q1) rfl) ?_)
    | (show YK _ _ _ _ _ _ _; refine YK.ofV vAuto ?_)
    | (show VK _ _ _ _ _ _ _; refine VK.mk vAuto ?_)
    | (show RS _ _ _ _ _ _ _ _; first | (refine nxRS ?_) | (refine nxRS1 fun _ => ?_))
    | (show RM _ _ _ _ _ _ _ _ _ _; first | (refine nxRM ?_) | (refine nxRM1 fun _ => ?_))
    | (show YG _ _ _ _ _ _ _ _; refine YG.mk (fun hb => by (try (have hc := And.left hb; have hb := And.right hb; rw [hc])); (try rw [hb]); first | exact (y_callA (q1) rfl) | exact V.y vAuto) ?_)
    | (show VG _ _ _ _ _ _ _ _; refine VG.mk (fun hb => by (try (have hc := And.left hb; have hb := And.right hb; rw [hc])); (try rw [hb]); exact vAuto) ?_)
    | (refine G.mixedA 1 [.go 0, .go 1, .go 2, .go 3] ?_)
    | (refine nxX ?_)
    | (refine G.condN rfl (fun hc => ?_) (fun hc => ?_) <;> (try first | exact False.elim hc | (exfalso; omega))))
  refine X.ret (vs := [_]) rfl ⟨rfl, rfl⟩ rfl (fun w hw => ⟨ret_bool ?_, hw.ext⟩)
  simp [eqCells, vEq]
  omega
theorem plon_c {c d : Int} (h : -10800000 ≤ c ∧ c < 10800000 ∧ c ≤ d ∧ d - c < 21600000) : Cont Tryz.prog 123 [arcV c d] (.bool true) := fun w => by
  have q1 := pall_c h.2.2.2
  refine enter0 Tryz.func123 rfl rfl rfl ?_
  repeat' (first
    | (refine nxN ?_)
    | (show YK _ _ _ _ _ _ _; first | refine YK.mk (y_callA (q1) ⟨rfl, rfl⟩) ?_)
    | (show YK _ _ _ _ _ _ _; refine YK.ofV vAuto ?_)
    | (show VK _ _ _ _ _ _ _; refine VK.mk vAuto ?_)
    | (show RS _ _ _ _ _ _ _ _; first | (refine nxRS ?_) | (refine nxRS1 fun _ => ?_))
    | (show RM _ _ _ _ _ _ _ _ _ _; first | (refine nxRM ?_) | (refine nxRM1 fun _ => ?_))
    | (show YG _ _ _ _ _ _ _ _; refine YG.mk (fun hb => by (try (have hc := And.left hb; have hb := And.right hb; rw [hc])); (try rw [hb]); first | exact (y_callA (q1) ⟨rfl, rfl⟩) | exact V.y vAuto) ?_)
    | (show VG _ _ _ _ _ _ _ _; refine VG.mk (fun hb => by (try (have hc := And.left hb; have hb := And.right hb; rw [hc])); (try rw [hb]); exact vAuto) ?_)
    | (refine nxX ?_)
    | (refine G.condN rfl (fun hc => ?_) (fun hc => ?_) <;> (try first | exact False.elim hc | (exfalso; omega))))
  exact X.ret (vs := [_]) rfl ⟨rfl, rfl⟩ rfl (fun w hw => ⟨ret_bool (by simp; omega), hw.ext⟩)
theorem pval_c {a b c d : Int} (h : BxOk a b c d) : Cont Tryz.prog 108 [plV a b c d] (.bool true) := fun w => by
  have q1 := plat_c h.lat
  have q2 := plon_c h.lon
  refine enter0 Tryz.func108 rfl rfl rfl ?_
  repeat' (first
    | (refine nxN ?_)
    | (show YK _ _ _ _ _ ⟨_, .load 28 _, _, _, _, _⟩ _; refine YK.ofV (y_loadPart (k := 2) (by rfl) (by exact memA) (by decide +kernel) (by rfl)) ?_)
    | (show VG _ _ _ _ _ _ ⟨_, .load 28 _, _, _, _, _⟩ _; refine VG.mk (fun hb => by (try rw [hb]); exact y_loadPart (k := 2) (by rfl) (by exact memA) (by decide +kernel) (by rfl)) ?_)
    | (show YG _ _ _ _ _ _ ⟨_, .load 28 _, _, _, _, _⟩ _; refine YG.mk (fun hb => by (try rw [hb]); exact V.y (y_loadPart (k := 2) (by rfl) (by exact memA) (by decide +kernel) (by rfl))) ?_)
    | (show YK _ _ _ _ _ _ _; first | refine YK.mk (y_callA (q1) ⟨rfl, rfl⟩) ?_ | refine YK.mk (y_callA (q2) ⟨rfl, rfl⟩) ?_)
    | (show YK _ _ _ _ _ _ _; refine YK.ofV vAuto ?_)
    | (show VK _ _ _ _ _ _ _; refine VK.mk vAuto ?_)
    | (show RS _ _ _ _ _ _ _ _; first | (refine nxRS ?_) | (refine nxRS1 fun _ => ?_))
    | (show RM _ _ _ _ _ _ _ _ _ _; first | (refine nxRM ?_) | (refine nxRM1 fun _ => ?_))
    | (show YG _ _ _ _ _ _ _ _; refine YG.mk (fun hb => by (try (have hc := And.left hb; have hb := And.right hb; rw [hc])); (try rw [hb]); first | exact (y_callA (q1) ⟨rfl, rfl⟩) | exact (y_callA (q2) ⟨rfl, rfl⟩) | exact V.y vAuto) ?_)
    | (show VG _ _ _ _ _ _ _ _; refine VG.mk (fun hb => by (try (have hc := And.left hb; have hb := And.right hb; rw [hc])); (try rw [hb]); exact vAuto) ?_)
    | (refine nxX ?_)
    | (refine G.condN rfl (fun hc => ?_) (fun hc => ?_) <;> (try first | exact False.elim hc | (exfalso; omega))))
  exact X.ret (vs := [_]) rfl ⟨rfl, rfl⟩ rfl (fun w hw => ⟨rfl, hw.ext⟩)
theorem pbey_c {c d n : Int} (h1 : -21600000 ≤ c ∧ c ≤ 21600000) (h2 : -21600000 ≤ n ∧ n ≤ 21600000) : Cont Tryz.prog 125 [arcV c d, .int .i64 n] (.int .i64 (TT.turnI (n - c))) := fun w => by
  have q1 := wrap_c (n := n - c) (by omega)
  refine enter0 Tryz.func125 rfl rfl rfl ?_
  repeat' (first
    | (refine nxN ?_)
    | (show YK _ _ _ _ _ _ _; first | refine YK.mk (y_callA (q1) ⟨rfl, rfl⟩) ?_)
    | (show YK _ _ _ _ _ _ _; refine YK.ofV vAuto ?_)
    | (show VK _ _ _ _ _ _ _; refine VK.mk vAuto ?_)
    | (show RS _ _ _ _ _ _ _ _; first | (refine nxRS ?_) | (refine nxRS1 fun _ => ?_))
    | (show RM _ _ _ _ _ _ _ _ _ _; first | (refine nxRM ?_) | (refine nxRM1 fun _ => ?_))
    | (show YG _ _ _ _ _ _ _ _; refine YG.mk (fun hb => by (try (have hc := And.left hb; have hb := And.right hb; rw [hc])); (try rw [hb]); first | exact (y_callA (q1) ⟨rfl, rfl⟩) | exact V.y vAuto) ?_)
    | (show VG _ _ _ _ _ _ _ _; refine VG.mk (fun hb => by (try (have hc := And.left hb; have hb := And.right hb; rw [hc])); (try rw [hb]); exact vAuto) ?_)
    | (refine nxX ?_)
    | (refine G.condN rfl (fun hc => ?_) (fun hc => ?_) <;> (try first | exact False.elim hc | (exfalso; omega))))
  exact X.ret (vs := [_]) rfl ⟨rfl, rfl⟩ rfl (fun w hw => ⟨rfl, hw.ext⟩)
theorem phas_c {c d n : Int} (h : -10800000 ≤ c ∧ c < 10800000 ∧ c ≤ d ∧ d - c < 21600000) (h2 : -10800000 ≤ n ∧ n ≤ 10800000) : Cont Tryz.prog 109 [arcV c d, .int .i64 n] (.bool (decide (TT.turnI (n - c) ≤ d - c))) := fun w => by
  have q1 := pall_c h.2.2.2
  have q2 := pbey_c (c := c) (d := d) (n := n) (by omega) (by omega)
  generalize TT.turnI (n - c) = k at *
  refine enter0 Tryz.func109 rfl rfl rfl ?_
  repeat' (first
    | (refine nxN ?_)
    | (show YK _ _ _ _ _ _ _; first | refine YK.mk (y_callA (q1) ⟨rfl, rfl⟩) ?_ | refine YK.mk (y_callA (q2) ⟨rfl, rfl, rfl⟩) ?_)
    | (show YK _ _ _ _ _ _ _; refine YK.ofV vAuto ?_)
    | (show VK _ _ _ _ _ _ _; refine VK.mk vAuto ?_)
    | (show RS _ _ _ _ _ _ _ _; first | (refine nxRS ?_) | (refine nxRS1 fun _ => ?_))
    | (show RM _ _ _ _ _ _ _ _ _ _; first | (refine nxRM ?_) | (refine nxRM1 fun _ => ?_))
    | (show YG _ _ _ _ _ _ _ _; refine YG.mk (fun hb => by (try (have hc := And.left hb; have hb := And.right hb; rw [hc])); (try rw [hb]); first | exact (y_callA (q1) ⟨rfl, rfl⟩) | exact (y_callA (q2) ⟨rfl, rfl, rfl⟩) | exact V.y vAuto) ?_)
    | (show VG _ _ _ _ _ _ _ _; refine VG.mk (fun hb => by (try (have hc := And.left hb; have hb := And.right hb; rw [hc])); (try rw [hb]); exact vAuto) ?_)
    | (refine G.mixedA 1 [.go 0, .go 1, .go 2, .go 3, .go 4, .go 6, .go 7, .go 8, .go 9, .go 10, .go 5, .go 11, .go 12, .go 13] ?_)
    | (refine nxX ?_)
    | (refine G.condN rfl (fun hc => ?_) (fun hc => ?_) <;> (try first | exact False.elim hc | (exfalso; omega))))
  exact X.ret (vs := [_]) rfl ⟨rfl, rfl⟩ rfl (fun w hw => ⟨ret_bool (by simp), hw.ext⟩)
/-- Is the point in the box? -/
def inBx (a b c d la lo : Int) : Bool := if la < a ∨ b < la then false else decide (la = 5400000) || decide (la = -5400000) || decide (TT.turnI (lo - c) ≤ d - c)
theorem pcon_c {a b c d la lo : Int} (h : BxOk a b c d) (hp : pointB la lo = true) : Cont Tryz.prog 77 [plV a b c d, ptV la lo] (.tuple [.bool (inBx a b c d la lo), .int .i64 0].toArray) := fun w => by
  have q1 := pval_c h
  have q2 := vpoint_c la lo
  rw [hp] at q2
  simp only [pointB, Bool.and_eq_true, decide_eq_true_eq] at hp
  have q3 := phas_c (n := lo) h.lon (by omega)
  unfold inBx
  obtain ⟨hA, hO⟩ := h
  generalize TT.turnI (lo - c) = k at *
  refine enter0 Tryz.func77 rfl rfl rfl ?_
  repeat' (first
    | (refine nxN ?_)
    | (show YK _ _ _ _ _ ⟨_, .load 28 _, _, _, _, _⟩ _; refine YK.ofV (y_loadPart (k := 2) (by rfl) (by exact memA) (by decide +kernel) (by rfl)) ?_)
    | (show VG _ _ _ _ _ _ ⟨_, .load 28 _, _, _, _, _⟩ _; refine VG.mk (fun hb => by (try rw [hb]); exact y_loadPart (k := 2) (by rfl) (by exact memA) (by decide +kernel) (by rfl)) ?_)
    | (show YG _ _ _ _ _ _ ⟨_, .load 28 _, _, _, _, _⟩ _; refine YG.mk (fun hb => by (try rw [hb]); exact V.y (y_loadPart (k := 2) (by rfl) (by exact memA) (by decide +kernel) (by rfl))) ?_)
    | (show YK _ _ _ _ _ _ _; first | refine YK.mk (y_callA (q1) ⟨rfl, rfl⟩) ?_ | refine YK.mk (y_callA (q2) ⟨rfl, rfl⟩) ?_ | refine YK.mk (y_callA (q3) ⟨rfl, rfl, rfl⟩) ?_)
    | (show YK _ _ _ _ _ _ _; refine YK.ofV vAuto ?_)
    | (show VK _ _ _ _ _ _ _; refine VK.mk vAuto ?_)
    | (show RS _ _ _ _ _ _ _ _; first | (refine nxRS ?_) | (refine nxRS1 fun _ => ?_))
    | (show RM _ _ _ _ _ _ _ _ _ _; first | (refine nxRM ?_) | (refine nxRM1 fun _ => ?_))
    | (show YG _ _ _ _ _ _ _ _; refine YG.mk (fun hb => by (try (have hc := And.left hb; have hb := And.right hb; rw [hc])); (try rw [hb]); first | exact (y_callA (q1) ⟨rfl, rfl⟩) | exact (y_callA (q2) ⟨rfl, rfl⟩) | exact (y_callA (q3) ⟨rfl, rfl, rfl⟩) | exact V.y vAuto) ?_)
    | (show VG _ _ _ _ _ _ _ _; refine VG.mk (fun hb => by (try (have hc := And.left hb; have hb := And.right hb; rw [hc])); (try rw [hb]); exact vAuto) ?_)
    | (refine nxX ?_)
    | (refine G.condN rfl (fun hc => ?_) (fun hc => ?_) <;> (try first | exact False.elim hc | (exfalso; omega))))
  · exact X.ret (vs := [_, _]) rfl ⟨rfl, rfl, rfl⟩ rfl (fun w hw => ⟨by rw [if_pos (by omega)], hw.ext⟩)
  · exact X.ret (vs := [_, _]) rfl ⟨rfl, rfl, rfl⟩ rfl (fun w hw => ⟨by rw [if_neg (by omega)], hw.ext⟩)
end Go.Proofs.YthilhhegchmjeaaGreat
/- What a region draws: its closure, with cells.Contains as a premise. -/
set_option linter.unusedVariables false
set_option maxHeartbeats 8000000
namespace Go.Proofs.YthilhhegchmjeaaGreat
open Go.RowKit
variable {b : Nat} {la lo u cs : Int} {z : Sl} {rows : List Sl} {wd : Nat}
theorem region1_c {C : World → Prop} (ok : ShOk la lo u cs rows wd) {b3 b4 : Nat} {zr : Value} {i j : Int} {inn : Bool} {e : Int}
    (hC : ∀ w w', C w → Below w.heap.size w w' → C w') (hsh : ∀ w, C w → ShR b la lo u cs z rows wd w) (h3 : ∀ w, C w → ∀ k v, [ptS b][k]? = some v → w.cell? ⟨b3, k, none⟩ = some v) (h4 : ∀ w, C w → ∀ k v, [zr][k]? = some v → w.cell? ⟨b4, k, none⟩ = some v)
    (h1 : -1000 ≤ i ∧ i ≤ 1000) (h2 : -1000 ≤ j ∧ j ≤ 1000) (hp : (pntI wd rows.length la lo u cs i j).2.2 = 0)
    (hcon : ContIn Tryz.prog C 44 [zr, ptV (pntI wd rows.length la lo u cs i j).1 (pntI wd rows.length la lo u cs i j).2.1] (.tuple [.bool inn, .int .i64 e].toArray)) :
    ContIn Tryz.prog C 42 [.int .i64 i, .int .i64 j, bxV b3, bxV b4] (.bool (decide (e = 0) && inn)) := fun w hs => by
  have c3 := h3 w hs
  have c4 := h4 w hs
  have q1 := point_c (b := b) (z := z) ok (i := i) (j := j) (by omega) (by omega)
  rw [hp] at q1
  refine enter Tryz.func42 rfl rfl rfl (Hp := [Hl.rd z.v cSl 1 rows]) (fun h hm => by
    rcases List.mem_singleton.1 hm with rfl
    exact ⟨⟨(hsh w hs).rows, fun h => by cases h⟩, rfl⟩) ?_
  repeat' (first
    | (refine nxN ?_)
    | (show VK _ _ _ _ _ ⟨_, .load 35 _, _, _, _, _⟩ _; refine VK.mk (y_loadX (by rfl) (c3 _ _ (by rfl)) (by decide +kernel)) ?_)
    | (show YK _ _ _ _ _ ⟨_, .load 35 _, _, _, _, _⟩ _; refine YK.ofV (y_loadX (by rfl) (c3 _ _ (by rfl)) (by decide +kernel)) ?_)
    | (show VG _ _ _ _ _ _ ⟨_, .load 35 _, _, _, _, _⟩ _; refine VG.mk (fun hb => by (try (have hc := And.left hb; have hb := And.right hb; rw [hc])); (try rw [hb]); exact y_loadX (by rfl) (c3 _ _ (by rfl)) (by decide +kernel)) ?_)
    | (show YG _ _ _ _ _ _ ⟨_, .load 35 _, _, _, _, _⟩ _; refine YG.mk (fun hb => by (try (have hc := And.left hb; have hb := And.right hb; rw [hc])); (try rw [hb]); exact V.y (y_loadX (by rfl) (c3 _ _ (by rfl)) (by decide +kernel))) ?_)
    | (show VK _ _ _ _ _ ⟨_, .load 31 _, _, _, _, _⟩ _; refine VK.mk (y_loadX (by rfl) (c4 _ _ (by rfl)) (by decide +kernel)) ?_)
    | (show YK _ _ _ _ _ ⟨_, .load 31 _, _, _, _, _⟩ _; refine YK.ofV (y_loadX (by rfl) (c4 _ _ (by rfl)) (by decide +kernel)) ?_)
    | (show VG _ _ _ _ _ _ ⟨_, .load 31 _, _, _, _, _⟩ _; refine VG.mk (fun hb => by (try (have hc := And.left hb; have hb := And.right hb; rw [hc])); (try rw [hb]); exact y_loadX (by rfl) (c4 _ _ (by rfl)) (by decide +kernel)) ?_)
    | (show YG _ _ _ _ _ _ ⟨_, .load 31 _, _, _, _, _⟩ _; refine YG.mk (fun hb => by (try (have hc := And.left hb; have hb := And.right hb; rw [hc])); (try rw [hb]); exact V.y (y_loadX (by rfl) (c4 _ _ (by rfl)) (by decide +kernel))) ?_)
    | (show YK _ _ _ _ _ ⟨_, .call { callee := .value (.func 43), args := _, argTypes := _ }, _, _, _, _⟩ _; refine YK.mk (y_callIn (q1) (fun w' hw' => (hsh w hs).keep hw'.ext) ⟨rfl, rfl, rfl, rfl⟩ (by decide +kernel)) ?_)
    | (show YG _ _ _ _ _ _ ⟨_, .call { callee := .value (.func 43), args := _, argTypes := _ }, _, _, _, _⟩ _; refine YG.mk (fun hb => by (try (have hc := And.left hb; have hb := And.right hb; rw [hc])); (try rw [hb]); exact y_callIn (q1) (fun w' hw' => (hsh w hs).keep hw'.ext) ⟨rfl, rfl, rfl, rfl⟩ (by decide +kernel)) ?_)
    | (show YK _ _ _ _ _ ⟨_, .call { callee := .value (.func 44), args := _, argTypes := _ }, _, _, _, _⟩ _; refine YK.mk (y_callIn (hcon) (fun w' hw' => hC _ _ hs hw'.ext) ⟨rfl, rfl, rfl⟩ (by decide +kernel)) ?_)
    | (show YG _ _ _ _ _ _ ⟨_, .call { callee := .value (.func 44), args := _, argTypes := _ }, _, _, _, _⟩ _; refine YG.mk (fun hb => by (try (have hc := And.left hb; have hb := And.right hb; rw [hc])); (try rw [hb]); exact y_callIn (hcon) (fun w' hw' => hC _ _ hs hw'.ext) ⟨rfl, rfl, rfl⟩ (by decide +kernel)) ?_)
    | (refine nxV ?_)
    | (show RS _ _ _ _ _ _ _ _; first | (refine nxRS ?_) | (refine nxRS1 fun _ => ?_))
    | (show RM _ _ _ _ _ _ _ _ _ _; first | (refine nxRM ?_) | (refine nxRM1 fun _ => ?_))
    | (refine nxG ?_)
    | (refine nxX ?_)
    | (refine G.condN rfl (fun hc => ?_) (fun hc => ?_) <;> (try first | exact False.elim hc | (exfalso; omega))))
  exact X.ret (vs := [_]) rfl ⟨rfl, rfl⟩ rfl (fun w hw => ⟨rfl, hw.ext⟩)
theorem region1_no {C : World → Prop} (ok : ShOk la lo u cs rows wd) {b3 : Nat} {v4 : Value} {i j e : Int}
    (hsh : ∀ w, C w → ShR b la lo u cs z rows wd w) (h3 : ∀ w, C w → ∀ k v, [ptS b][k]? = some v → w.cell? ⟨b3, k, none⟩ = some v)
    (h1 : -1000 ≤ i ∧ i ≤ 1000) (h2 : -1000 ≤ j ∧ j ≤ 1000) (hp : (pntI wd rows.length la lo u cs i j).2.2 = e) (he : e ≠ 0) :
    ContIn Tryz.prog C 42 [.int .i64 i, .int .i64 j, bxV b3, v4] (.bool false) := fun w hs => by
  have c3 := h3 w hs
  have q1 := point_c (b := b) (z := z) ok (i := i) (j := j) (by omega) (by omega)
  rw [hp] at q1
  refine enter Tryz.func42 rfl rfl rfl (Hp := [Hl.rd z.v cSl 1 rows]) (fun h hm => by
    rcases List.mem_singleton.1 hm with rfl
    exact ⟨⟨(hsh w hs).rows, fun h => by cases h⟩, rfl⟩) ?_
  repeat' (first
    | (refine nxN ?_)
    | (show VK _ _ _ _ _ ⟨_, .load 35 _, _, _, _, _⟩ _; refine VK.mk (y_loadX (by rfl) (c3 _ _ (by rfl)) (by decide +kernel)) ?_)
    | (show YK _ _ _ _ _ ⟨_, .load 35 _, _, _, _, _⟩ _; refine YK.ofV (y_loadX (by rfl) (c3 _ _ (by rfl)) (by decide +kernel)) ?_)
    | (show VG _ _ _ _ _ _ ⟨_, .load 35 _, _, _, _, _⟩ _; refine VG.mk (fun hb => by (try (have hc := And.left hb; have hb := And.right hb; rw [hc])); (try rw [hb]); exact y_loadX (by rfl) (c3 _ _ (by rfl)) (by decide +kernel)) ?_)
    | (show YG _ _ _ _ _ _ ⟨_, .load 35 _, _, _, _, _⟩ _; refine YG.mk (fun hb => by (try (have hc := And.left hb; have hb := And.right hb; rw [hc])); (try rw [hb]); exact V.y (y_loadX (by rfl) (c3 _ _ (by rfl)) (by decide +kernel))) ?_)
    | (show YK _ _ _ _ _ ⟨_, .call { callee := .value (.func 43), args := _, argTypes := _ }, _, _, _, _⟩ _; refine YK.mk (y_callIn (q1) (fun w' hw' => (hsh w hs).keep hw'.ext) ⟨rfl, rfl, rfl, rfl⟩ (by decide +kernel)) ?_)
    | (show YG _ _ _ _ _ _ ⟨_, .call { callee := .value (.func 43), args := _, argTypes := _ }, _, _, _, _⟩ _; refine YG.mk (fun hb => by (try (have hc := And.left hb; have hb := And.right hb; rw [hc])); (try rw [hb]); exact y_callIn (q1) (fun w' hw' => (hsh w hs).keep hw'.ext) ⟨rfl, rfl, rfl, rfl⟩ (by decide +kernel)) ?_)
    | (refine nxV ?_)
    | (show RS _ _ _ _ _ _ _ _; first | (refine nxRS ?_) | (refine nxRS1 fun _ => ?_))
    | (show RM _ _ _ _ _ _ _ _ _ _; first | (refine nxRM ?_) | (refine nxRM1 fun _ => ?_))
    | (refine nxG ?_)
    | (refine nxX ?_)
    | (refine G.condN rfl (fun hc => ?_) (fun hc => ?_) <;> (try first | exact False.elim hc | (exfalso; omega))))
  exact X.ret (vs := [_]) rfl ⟨rfl, rfl⟩ rfl (fun w hw => ⟨rfl, hw.ext⟩)
end Go.Proofs.YthilhhegchmjeaaGreat
/- cells.Contains; a region drawn. -/
set_option linter.unusedVariables false
set_option maxHeartbeats 8000000
namespace Go.Proofs.YthilhhegchmjeaaGreat
open Go.RowKit
/-- Does a region contain a point? -/
def conB (l : List RR.CellT) (la lo : Int) : Bool := l.any fun x => inBx (bxA x) (bxB x) (bxC x) (bxD x) la lo
theorem ccon_c (v : Value) (l : List RR.CellT) (ok : ∀ x ∈ l, RR.okC x) (hv : RR.IdxOk l) (hl : l.length ≤ 4000) {la lo : Int} (hp : pointB la lo = true) : ContR Tryz.prog [Hl.rd v cT 3 l] 44 [v, ptV la lo] (.tuple [.bool (conB l la lo), .int .i64 0].toArray) := fun w hw0 => by
  have q1 := vreg_c v l ok hv hl
  have q2 := vpoint_c la lo
  rw [hp] at q2
  refine enter Tryz.func44 rfl rfl rfl hw0 ?_
  repeat' (first
    | (refine nxN ?_)
    | (show YK _ _ _ _ _ _ _; first | refine YK.mk (y_callRA (q1) ⟨rfl, rfl⟩) ?_ | refine YK.mk (y_callA (q2) ⟨rfl, rfl⟩) ?_)
    | (show YK _ _ _ _ _ _ _; refine YK.ofV vAuto ?_)
    | (show VK _ _ _ _ _ _ _; refine VK.mk vAuto ?_)
    | (show RS _ _ _ _ _ _ _ _; first | (refine nxRS ?_) | (refine nxRS1 fun _ => ?_))
    | (show RM _ _ _ _ _ _ _ _ _ _; first | (refine nxRM ?_) | (refine nxRM1 fun _ => ?_))
    | (show YG _ _ _ _ _ _ _ _; refine YG.mk (fun hb => by (try (have hc := And.left hb; have hb := And.right hb; rw [hc])); (try rw [hb]); first | exact (y_callRA (q1) ⟨rfl, rfl⟩) | exact (y_callA (q2) ⟨rfl, rfl⟩) | exact V.y vAuto) ?_)
    | (show VG _ _ _ _ _ _ _ _; refine VG.mk (fun hb => by (try (have hc := And.left hb; have hb := And.right hb; rw [hc])); (try rw [hb]); exact vAuto) ?_)
    | (refine G.mixedA 6 [.go 0, .go 2, .go 1, .go 3, .go 4, .go 5, .go 6, .go 7, .go 8] ?_)
    | (refine nxX ?_)
    | (refine G.condN rfl (fun hc => ?_) (fun hc => ?_) <;> (try first | exact False.elim hc | (exfalso; omega))))
  rename_i b3
  refine G.loop (ι := Nat) (fun i => [(3, .pointer (some ⟨b3, 0, none⟩)), (18, v), (19, .int .i64 l.length), (20, .int .i64 (i : Int))]) (fun _ => [Hl.blk b3 23 [.int .i64 la, .int .i64 lo], Hl.rd v cT 3 l]) (fun i => i ≤ l.length ∧ conB (l.take i) la lo = false) (fun i => l.length - i) 0 ⟨Nat.zero_le _, rfl⟩ ⟨rfl, rfl, rfl, rfl, trivial⟩ (by exact fun w h => h.sub (by repeat (first | exact List.Sublist.refl _ | apply List.Sublist.cons_cons | apply List.Sublist.cons))) ?_
  rintro i mx ⟨g1, g2⟩ hmx
  (try dsimp only at g1 g2 hmx ⊢)
  rcases Nat.lt_or_ge i l.length with hi | hi
  · have hx : nth l (i : Int) ∈ l := by rw [nth_get hi]; exact List.getElem_mem hi
    have q3 := box_c (ok _ hx)
    have q4 := pcon_c (box_ok (ok _ hx)) hp
    have e1 : conB (l.take (i + 1)) la lo = (conB (l.take i) la lo || inBx (bxA (nth l (i : Int))) (bxB (nth l (i : Int))) (bxC (nth l (i : Int))) (bxD (nth l (i : Int))) la lo) := by
      unfold conB
      rw [List.take_add_one, List.getElem?_eq_getElem hi, List.any_append, nth_get hi]; simp
    have e2 : inBx (bxA (nth l (i : Int))) (bxB (nth l (i : Int))) (bxC (nth l (i : Int))) (bxD (nth l (i : Int))) la lo = true → conB l la lo = true := fun h => by
      unfold conB
      rw [List.any_eq_true]
      exact ⟨_, hx, h⟩
    rw [g2, Bool.false_or] at e1
    generalize bxA (nth l (i : Int)) = A at *
    generalize bxB (nth l (i : Int)) = B at *
    generalize bxC (nth l (i : Int)) = C at *
    generalize bxD (nth l (i : Int)) = D at *
    cases hin : inBx A B C D la lo <;> rw [hin] at q4
    · repeat' (first
    | (refine nxN ?_)
    | (show YK _ _ _ _ _ _ _; first | refine YK.mk (y_callA (q3) ⟨rfl, rfl⟩) ?_ | refine YK.mk (y_callA (q4) ⟨rfl, rfl, rfl⟩) ?_)
    | (show YK _ _ _ _ _ _ _; refine YK.ofV vAuto ?_)
    | (show VK _ _ _ _ _ _ _; refine VK.mk vAuto ?_)
    | (show RS _ _ _ _ _ _ _ _; first | (refine nxRS ?_) | (refine nxRS1 fun _ => ?_))
    | (show RM _ _ _ _ _ _ _ _ _ _; first | (refine nxRM ?_) | (refine nxRM1 fun _ => ?_))
    | (show YG _ _ _ _ _ _ _ _; refine YG.mk (fun hb => by (try (have hc := And.left hb; have hb := And.right hb; rw [hc])); (try rw [hb]); first | exact (y_callA (q3) ⟨rfl, rfl⟩) | exact (y_callA (q4) ⟨rfl, rfl, rfl⟩) | exact V.y vAuto) ?_)
    | (show VG _ _ _ _ _ _ _ _; refine VG.mk (fun hb => by (try (have hc := And.left hb; have hb := And.right hb; rw [hc])); (try rw [hb]); exact vAuto) ?_)
    | (refine G.mixedA 6 [.go 0, .go 2, .go 1, .go 3, .go 4, .go 5, .go 6, .go 7, .go 8] ?_)
    | (refine nxX ?_)
    | (refine G.condN rfl (fun hc => ?_) (fun hc => ?_) <;> (try first | exact False.elim hc | (exfalso; omega))))
      all_goals first | (exfalso; simp at hc; done) | exact X.again (i + 1) ⟨by omega, by rw [e1, hin]⟩ (by omega) ⟨rfl, rfl, rfl, rfl, trivial⟩ (by exact fun w h => h.sub (by repeat (first | exact List.Sublist.refl _ | apply List.Sublist.cons_cons | apply List.Sublist.cons)))
    · repeat' (first
    | (refine nxN ?_)
    | (show YK _ _ _ _ _ _ _; first | refine YK.mk (y_callA (q3) ⟨rfl, rfl⟩) ?_ | refine YK.mk (y_callA (q4) ⟨rfl, rfl, rfl⟩) ?_)
    | (show YK _ _ _ _ _ _ _; refine YK.ofV vAuto ?_)
    | (show VK _ _ _ _ _ _ _; refine VK.mk vAuto ?_)
    | (show RS _ _ _ _ _ _ _ _; first | (refine nxRS ?_) | (refine nxRS1 fun _ => ?_))
    | (show RM _ _ _ _ _ _ _ _ _ _; first | (refine nxRM ?_) | (refine nxRM1 fun _ => ?_))
    | (show YG _ _ _ _ _ _ _ _; refine YG.mk (fun hb => by (try (have hc := And.left hb; have hb := And.right hb; rw [hc])); (try rw [hb]); first | exact (y_callA (q3) ⟨rfl, rfl⟩) | exact (y_callA (q4) ⟨rfl, rfl, rfl⟩) | exact V.y vAuto) ?_)
    | (show VG _ _ _ _ _ _ _ _; refine VG.mk (fun hb => by (try (have hc := And.left hb; have hb := And.right hb; rw [hc])); (try rw [hb]); exact vAuto) ?_)
    | (refine G.mixedA 6 [.go 0, .go 2, .go 1, .go 3, .go 4, .go 5, .go 6, .go 7, .go 8] ?_)
    | (refine nxX ?_)
    | (refine G.condN rfl (fun hc => ?_) (fun hc => ?_) <;> (try first | exact False.elim hc | (exfalso; omega))))
      all_goals first | (exfalso; simp at hc; done) | exact X.ret (vs := [_, _]) rfl ⟨rfl, rfl, rfl⟩ rfl (fun w hw => ⟨by rw [e2 hin], hw.ext⟩)
  · obtain rfl : i = l.length := by omega
    rw [List.take_length] at g2
    repeat' (first
    | (refine nxN ?_)
    | (refine nxV ?_)
    | (show RS _ _ _ _ _ _ _ _; first | (refine nxRS ?_) | (refine nxRS1 fun _ => ?_))
    | (show RM _ _ _ _ _ _ _ _ _ _; first | (refine nxRM ?_) | (refine nxRM1 fun _ => ?_))
    | (refine nxG ?_)
    | (refine G.mixedA 6 [.go 0, .go 2, .go 1, .go 3, .go 4, .go 5, .go 6, .go 7, .go 8] ?_)
    | (refine nxX ?_)
    | (refine G.condN rfl (fun hc => ?_) (fun hc => ?_) <;> (try first | exact False.elim hc | (exfalso; omega))))
    exact X.ret (vs := [_, _]) rfl ⟨rfl, rfl, rfl⟩ rfl (fun w hw => ⟨by rw [g2], hw.ext⟩)
end Go.Proofs.YthilhhegchmjeaaGreat
/- A region drawn. -/
set_option linter.unusedVariables false
set_option maxHeartbeats 8000000
namespace Go.Proofs.YthilhhegchmjeaaGreat
open Go.RowKit
variable {xt : Nat → List Value} {b : Nat} {la lo u cs : Int} {z : Sl} {wd : Nat}
theorem y_makeFunc0 : True := trivial
/-- A region that can be read. -/
abbrev RgR (v : Value) (l : List RR.CellT) (w : World) : Prop := RO w v 3 l.length (l.flatMap cT)
theorem contR_in {P : Program} {v : Value} {l : List RR.CellT} {f : FuncId} {args : List Value} {u : Value} (h : ContR P [Hl.rd v cT 3 l] f args u) : ContIn P (RgR v l) f args u := fun w hw => h w fun x hx => by
  rcases List.mem_singleton.1 hx with rfl
  exact ⟨⟨hw, fun g => by cases g⟩, rfl⟩
/-- The world in which a region's pixels are asked for. -/
structure RgW (b b3 b4 : Nat) (la lo u cs : Int) (z : Sl) (rows : List Sl) (wd : Nat) (v : Value) (l : List RR.CellT) (w : World) : Prop where
  sh : ShR b la lo u cs z rows wd w
  c3 : ∀ k u, [ptS b][k]? = some u → w.cell? ⟨b3, k, none⟩ = some u
  c4 : ∀ k u, [v][k]? = some u → w.cell? ⟨b4, k, none⟩ = some u
  ro : RgR v l w
theorem cells_keep {w w' : World} {cs : List Value} {b : Nat} (hw : Below w.heap.size w w') (h : ∀ k v, cs[k]? = some v → w.cell? ⟨b, k, none⟩ = some v) : ∀ k v, cs[k]? = some v → w'.cell? ⟨b, k, none⟩ = some v := fun k v hk =>
  (World.cell?_of_block (w := w) (hw.block b (World.block_lt_of_cell? w _ (h k v hk)))).trans (h k v hk)
theorem RgW.keep {b b3 b4 : Nat} {rows : List Sl} {v : Value} {l : List RR.CellT} {w w' : World} (h : RgW b b3 b4 la lo u cs z rows wd v l w) (hw : Below w.heap.size w w') : RgW b b3 b4 la lo u cs z rows wd v l w' :=
  ⟨h.sh.keep hw, cells_keep hw h.c3, cells_keep hw h.c4, h.ro.stay hw⟩
/-- Which pixels a region marks. -/
def regSel (wd h : Nat) (la lo u cs : Int) (l : List RR.CellT) (i j : Nat) : Bool := decide ((pntI wd h la lo u cs i j).2.2 = 0) && conB l (pntI wd h la lo u cs i j).1 (pntI wd h la lo u cs i j).2.1
theorem pnt_ok {wd h : Nat} {la lo u cs i j : Int} (he : (pntI wd h la lo u cs i j).2.2 = 0) : pointB (pntI wd h la lo u cs i j).1 (pntI wd h la lo u cs i j).2.1 = true := by
  unfold pntI at he ⊢
  split at he
  · split at he
    · rename_i h1 h2
      rw [if_pos h1, if_pos h2]; exact h2
    · exact absurd he (by decide)
  · exact absurd he (by decide)
theorem regSel_c {rows : List Sl} {b3 b4 : Nat} {v : Value} {l : List RR.CellT} (ok : ShOk la lo u cs rows wd) (okl : ∀ x ∈ l, RR.okC x) (hv : RR.IdxOk l) (hl : l.length ≤ 4000) {i j : Nat} (hi : i < wd) (hj : j < rows.length) :
    ContIn Tryz.prog (RgW b b3 b4 la lo u cs z rows wd v l) 42 [.int .i64 (i : Int), .int .i64 (j : Int), bxV b3, bxV b4] (.bool (regSel wd rows.length la lo u cs l i j)) := by
  have hr := ok.r1
  have hw := ok.w1
  unfold regSel
  by_cases he : (pntI wd rows.length la lo u cs i j).2.2 = 0
  · rw [decide_eq_true he]
    have hcon := ccon_c v l okl hv hl (pnt_ok he)
    have q := region1_c (z := z) (b := b) (C := RgW b b3 b4 la lo u cs z rows wd v l) ok (b3 := b3) (b4 := b4) (zr := v) (i := (i : Int)) (j := (j : Int)) (fun w w' h h' => h.keep h') (fun w h => h.sh) (fun w h => h.c3) (fun w h => h.c4) (by omega) (by omega) he (fun w h => contR_in hcon w h.ro)
    exact q
  · rw [decide_eq_false he, Bool.false_and]
    exact region1_no (z := z) (b := b) (C := RgW b b3 b4 la lo u cs z rows wd v l) ok (b3 := b3) (v4 := bxV b4) (i := (i : Int)) (j := (j : Int)) (fun w h => h.sh) (fun w h => h.c3) (by omega) (by omega) rfl he
/-- The boxes of a region. -/
abbrev rgH (b b3 b4 : Nat) (v : Value) : List Hl := [bxH b3 35 (ptS b), bxH b4 31 v]
theorem drawReg_c {rs : List (Sl × List Int)} {m : Int} {b3 b4 : Nat} {v : Value} {l : List RR.CellT} (ok : ShOk la lo u cs (rs.map Prod.fst) wd) (hlen : ∀ r ∈ rs, r.2.length = wd ∧ hdOk wd r.1) (okl : ∀ x ∈ l, RR.okC x) (hv : RR.IdxOk l) (hl : l.length ≤ 4000) :
    ContL Tryz.prog (RgR v l) (shB b la lo u cs z.v :: rwS z (rs.map Prod.fst) :: (rowsH xt rs ++ rgH b b3 b4 v)) 27 [ptS b, .int .u8 m, .func (.func 42) #[] #[bxV b3, bxV b4]] (fun _ : Unit => True) (fun _ => .tuple #[]) (fun _ => shB b la lo u cs z.v :: rwS z (rs.map Prod.fst) :: (rowsH xt (pR (regSel wd rs.length la lo u cs l) m rs.length 0 rs) ++ rgH b b3 b4 v)) := fun w0 HR w hC hs => by
  have hr := ok.r1
  have hw := ok.w1
  rw [List.length_map] at hr
  have hs' : St w0 (shB b la lo u cs z.v :: rwS z (rs.map Prod.fst) :: (rowsH xt rs ++ (rgH b b3 b4 v ++ HR))) w := by
    rw [← List.append_assoc]; exact hs
  refine (draw_c (fid := 42) (cap := #[bxV b3, bxV b4]) (sel := regSel wd rs.length la lo u cs l) (m := m) (wd := wd) (C := RgW b b3 b4 la lo u cs z (rs.map Prod.fst) wd v l) (fun i j hi hj => ?_) (by decide +kernel) (fun rs' w' _ hw' => ⟨ShR.ofSt hw' (.head _) (.tail _ (.head _)), fun k u hk => (hw'.cell (.tail _ (.tail _ (List.mem_append_right _ (List.mem_append_left _ (.head _))))) k).trans hk, fun k u hk => (hw'.cell (.tail _ (.tail _ (List.mem_append_right _ (List.mem_append_left _ (.tail _ (.head _)))))) k).trans hk, hC.stay hw'.ext⟩) hlen hr.2 hw.2 hs').mono ?_
  · have q := regSel_c (b := b) (z := z) (b3 := b3) (b4 := b4) (v := v) ok okl hv hl (i := i) (j := j) hi (by rw [List.length_map]; exact hj)
    rw [List.length_map] at q
    exact q
  · rintro e w' ⟨rfl, h⟩
    refine ⟨(), trivial, rfl, ?_⟩
    rw [← List.append_assoc] at h
    exact h
theorem perm_rg {x3 x4 s1 s2 : Hl} {A HR : List Hl} : (x4 :: x3 :: s1 :: s2 :: (A ++ HR)).Perm ((s1 :: s2 :: (A ++ [x3, x4])) ++ HR) := by
  classical
  refine List.perm_iff_count.2 fun a => ?_
  simp only [List.count_cons, List.count_append, List.cons_append, List.count_nil]
  omega
theorem sub_rg {b1 b2 s1 s2 : Hl} {A HR : List Hl} : ((s1 :: s2 :: A) ++ HR).Sublist ((s1 :: s2 :: (A ++ [b1, b2])) ++ HR) := by
  refine List.Sublist.cons_cons _ (List.Sublist.cons_cons _ ?_)
  show (A ++ HR).Sublist ((A ++ [b1, b2]) ++ HR)
  rw [List.append_assoc]
  refine (List.Sublist.refl A).append ?_
  repeat (first | exact List.Sublist.refl _ | apply List.Sublist.cons)
theorem region_ok {rs : List (Sl × List Int)} {m : Int} {v : Sl} {l : List RR.CellT} (ok : ShOk la lo u cs (rs.map Prod.fst) wd) (hlen : ∀ r ∈ rs, r.2.length = wd ∧ hdOk wd r.1) (hm : 33 ≤ m ∧ m ≤ 126) (okl : ∀ x ∈ l, RR.okC x) (hv : RR.IdxOk l) (hl : l.length ≤ 4000) :
    ContL Tryz.prog (RgR v.v l) (shB b la lo u cs z.v :: rwS z (rs.map Prod.fst) :: rowsH xt rs) 10 [ptS b, v.v, .int .u8 m] (fun _ : Unit => True) (fun _ => .int .i64 0) (fun _ => shB b la lo u cs z.v :: rwS z (rs.map Prod.fst) :: rowsH xt (pR (regSel wd rs.length la lo u cs l) m rs.length 0 rs)) := fun w0 HR w hC hs => by
  have q1 := marks_c (b := b) (m := m) (by omega)
  rw [show (decide (33 ≤ m) && decide (m ≤ 126)) = true by simp [hm]] at q1
  have q2 := contR_in (vreg_c v.v l okl hv hl)
  have qd := fun b3 b4 => drawReg_c (xt := xt) (b := b) (z := z) (m := m) (b3 := b3) (b4 := b4) (v := v.v) ok hlen okl hv hl
  refine enterU Tryz.func10 rfl rfl rfl (H := shB b la lo u cs z.v :: rwS z (rs.map Prod.fst) :: (rowsH xt rs ++ HR)) hs ?_
  repeat' (first
    | (refine nxN ?_)
    | (show YK _ _ _ _ _ ⟨_, .call { callee := .value (.func 41), args := _, argTypes := _ }, _, _, _, _⟩ _; refine YK.mk (y_callIn (q2) (fun w' hw' => hC.stay hw'.ext) ⟨rfl, rfl⟩ (by decide +kernel)) ?_)
    | (show YG _ _ _ _ _ _ ⟨_, .call { callee := .value (.func 41), args := _, argTypes := _ }, _, _, _, _⟩ _; refine YG.mk (fun hb => by (try (have hc := And.left hb; have hb := And.right hb; rw [hc])); (try rw [hb]); exact y_callIn (q2) (fun w' hw' => hC.stay hw'.ext) ⟨rfl, rfl⟩ (by decide +kernel)) ?_)
    | (show YK _ _ _ _ _ ⟨_, .makeFunc _ _ _, _, _, _, _⟩ _; refine YK.ofV (y_makeFunc (vs := [_, _]) ⟨rfl, rfl, rfl⟩) ?_)
    | (show RS _ _ _ _ _ _ _ (⟨_, .call { callee := .value (.func 27), args := _, argTypes := _ }, _, _, _, _⟩ :: _); refine RS.callPm (qd _ _) hC perm_rg ?_; rintro ⟨⟩ -; dsimp only [List.cons_append, List.nil_append])
    | (show YK _ _ _ _ _ _ _; first | refine YK.mk (y_callA (q1) ⟨rfl, rfl, rfl⟩) ?_)
    | (show YK _ _ _ _ _ _ _; refine YK.ofV vAuto ?_)
    | (show VK _ _ _ _ _ _ _; refine VK.mk vAuto ?_)
    | (show RS _ _ _ _ _ _ _ _; first | (refine nxRS ?_) | (refine nxRS1 fun _ => ?_))
    | (show RM _ _ _ _ _ _ _ _ _ _; first | (refine nxRM ?_) | (refine nxRM1 fun _ => ?_))
    | (show YG _ _ _ _ _ _ _ _; refine YG.mk (fun hb => by (try (have hc := And.left hb; have hb := And.right hb; rw [hc])); (try rw [hb]); first | exact (y_callA (q1) ⟨rfl, rfl, rfl⟩) | exact V.y vAuto) ?_)
    | (show VG _ _ _ _ _ _ _ _; refine VG.mk (fun hb => by (try (have hc := And.left hb; have hb := And.right hb; rw [hc])); (try rw [hb]); exact vAuto) ?_)
    | (refine nxX ?_)
    | (refine G.condN rfl (fun hc => ?_) (fun hc => ?_) <;> (try first | exact False.elim hc | (exfalso; omega))))
  exact X.ret (vs := [_]) rfl ⟨rfl, rfl⟩ rfl (fun w hw => ⟨(), trivial, rfl, St.sub hw sub_rg⟩)
end Go.Proofs.YthilhhegchmjeaaGreat
/- The reference of chapter 38: Valid, Within, before. -/
set_option linter.unusedVariables false
set_option maxHeartbeats 8000000
namespace Go.Proofs.YthilhhegchmjeaaGreat
open Go.RowKit
theorem rval_c (l r c : Int) : Cont Tryz.prog 79 [celV l r c] (.bool (cvB l r c)) := fun w => by
  unfold cvB
  by_cases hl : 0 ≤ l ∧ l ≤ 16
  · have hq := pow2_min (l := l) (by omega)
    have hb := pow2_bd hl
    generalize (2 : Int) ^ l.toNat = q at *
    refine enter0 Tryz.func79 rfl rfl rfl ?_
    repeat' (first
    | (show VK _ _ _ _ _ ⟨_, .binOp .shl _ _ _ _, _, _, _, _⟩ _; refine VK.mk (y_shl (by rfl) (by rfl) (by omega) hq (IntWalk.i64_in _ (by omega))) ?_)
    | (show YK _ _ _ _ _ ⟨_, .binOp .shl _ _ _ _, _, _, _, _⟩ _; refine YK.ofV (y_shl (by rfl) (by rfl) (by omega) hq (IntWalk.i64_in _ (by omega))) ?_)
    | (show VG _ _ _ _ _ _ ⟨_, .binOp .shl _ _ _ _, _, _, _, _⟩ _; refine VG.mk (fun hb => by (try (have hc := And.left hb; have hb := And.right hb; rw [hc])); (try rw [hb]); exact y_shl (by rfl) (by rfl) (by omega) hq (IntWalk.i64_in _ (by omega))) ?_)
    | (show YG _ _ _ _ _ _ ⟨_, .binOp .shl _ _ _ _, _, _, _, _⟩ _; refine YG.mk (fun hb => by (try (have hc := And.left hb; have hb := And.right hb; rw [hc])); (try rw [hb]); exact V.y (y_shl (by rfl) (by rfl) (by omega) hq (IntWalk.i64_in _ (by omega)))) ?_)
    | (show VK _ _ _ _ _ ⟨_, .binOp .shr _ _ _ _, _, _, _, _⟩ _; refine VK.mk (y_shr (by rfl) (by rfl) (by omega) hq) ?_)
    | (show YK _ _ _ _ _ ⟨_, .binOp .shr _ _ _ _, _, _, _, _⟩ _; refine YK.ofV (y_shr (by rfl) (by rfl) (by omega) hq) ?_)
    | (show VG _ _ _ _ _ _ ⟨_, .binOp .shr _ _ _ _, _, _, _, _⟩ _; refine VG.mk (fun hb => by (try (have hc := And.left hb; have hb := And.right hb; rw [hc])); (try rw [hb]); exact y_shr (by rfl) (by rfl) (by omega) hq) ?_)
    | (show YG _ _ _ _ _ _ ⟨_, .binOp .shr _ _ _ _, _, _, _, _⟩ _; refine YG.mk (fun hb => by (try (have hc := And.left hb; have hb := And.right hb; rw [hc])); (try rw [hb]); exact V.y (y_shr (by rfl) (by rfl) (by omega) hq)) ?_)
    | (refine nxV ?_)
    | (show RS _ _ _ _ _ _ _ _; first | (refine nxRS ?_) | (refine nxRS1 fun _ => ?_))
    | (show RM _ _ _ _ _ _ _ _ _ _; first | (refine nxRM ?_) | (refine nxRM1 fun _ => ?_))
    | (refine nxG ?_)
    | (refine nxX ?_)
    | (refine G.condN rfl (fun hc => ?_) (fun hc => ?_) <;> (try first | exact False.elim hc | (exfalso; omega))))
    all_goals first | (exfalso; omega) | exact X.ret (vs := [_]) rfl ⟨rfl, rfl⟩ rfl (fun w hw => ⟨ret_bool (by simp [Int.one_mul, hl]), hw.ext⟩)
  · refine enter0 Tryz.func79 rfl rfl rfl ?_
    repeat' (first
    | (refine nxV ?_)
    | (show RS _ _ _ _ _ _ _ _; first | (refine nxRS ?_) | (refine nxRS1 fun _ => ?_))
    | (show RM _ _ _ _ _ _ _ _ _ _; first | (refine nxRM ?_) | (refine nxRM1 fun _ => ?_))
    | (refine nxG ?_)
    | (refine nxX ?_)
    | (refine G.condN rfl (fun hc => ?_) (fun hc => ?_) <;> (try first | exact False.elim hc | (exfalso; omega))))
    all_goals first
      | (exfalso; omega)
      | (refine X.ret (vs := [_]) rfl ⟨rfl, rfl⟩ rfl (fun w hw => ⟨ret_bool ?_, hw.ext⟩)
         have : (decide (0 ≤ l) && decide (l ≤ 16)) = false := by
           rw [Bool.and_eq_false_iff, decide_eq_false_iff_not, decide_eq_false_iff_not]; omega
         simp [this])
theorem decN_eq {a b : Nat} : decide ((a : Int) = (b : Int)) = decide (a = b) := decide_eq_decide.2 (by omega)
theorem decN_lt {a b : Nat} : decide ((a : Int) < (b : Int)) = decide (a < b) := decide_eq_decide.2 (by omega)
theorem rwith_c {x y : RR.CellT} (hx : RR.okC x) (hy : RR.okC y) : Cont Tryz.prog 80 [celV x.lv x.r x.c, celV y.lv y.r y.c] (.bool (RR.within x y)) := fun w => by
  have h1 := okC_bd hx
  have h2 := okC_bd hy
  by_cases hd : y.lv ≤ x.lv
  · have e : RR.within x y = (decide (x.r / 2 ^ (x.lv - y.lv) = y.r) && decide (x.c / 2 ^ (x.lv - y.lv) = y.c)) := by
      unfold RR.within
      rw [decide_eq_true hd, Bool.true_and]
    have d1 := Nat.div_le_self x.r (2 ^ (x.lv - y.lv))
    have d2 := Nat.div_le_self x.c (2 ^ (x.lv - y.lv))
    rw [e]
    clear e
    generalize hR : x.r / 2 ^ (x.lv - y.lv) = rr at *
    generalize hC : x.c / 2 ^ (x.lv - y.lv) = cc at *
    refine enter0 Tryz.func80 rfl rfl rfl ?_
    repeat' (first
    | (show VK _ _ _ _ _ ⟨_, .binOp .shr _ _ _ _, _, _, _, _⟩ _; refine VK.mk (y_shrA (m := x.r) (j := x.lv - y.lv) (by rfl) (by rfl) (by omega) (by omega) hR) ?_)
    | (show YK _ _ _ _ _ ⟨_, .binOp .shr _ _ _ _, _, _, _, _⟩ _; refine YK.ofV (y_shrA (m := x.r) (j := x.lv - y.lv) (by rfl) (by rfl) (by omega) (by omega) hR) ?_)
    | (show VG _ _ _ _ _ _ ⟨_, .binOp .shr _ _ _ _, _, _, _, _⟩ _; refine VG.mk (fun hb => by (try (have hc := And.left hb; have hb := And.right hb; rw [hc])); (try rw [hb]); exact y_shrA (m := x.r) (j := x.lv - y.lv) (by rfl) (by rfl) (by omega) (by omega) hR) ?_)
    | (show YG _ _ _ _ _ _ ⟨_, .binOp .shr _ _ _ _, _, _, _, _⟩ _; refine YG.mk (fun hb => by (try (have hc := And.left hb; have hb := And.right hb; rw [hc])); (try rw [hb]); exact V.y (y_shrA (m := x.r) (j := x.lv - y.lv) (by rfl) (by rfl) (by omega) (by omega) hR)) ?_)
    | (show VK _ _ _ _ _ ⟨_, .binOp .shr _ _ _ _, _, _, _, _⟩ _; refine VK.mk (y_shrA (m := x.c) (j := x.lv - y.lv) (by rfl) (by rfl) (by omega) (by omega) hC) ?_)
    | (show YK _ _ _ _ _ ⟨_, .binOp .shr _ _ _ _, _, _, _, _⟩ _; refine YK.ofV (y_shrA (m := x.c) (j := x.lv - y.lv) (by rfl) (by rfl) (by omega) (by omega) hC) ?_)
    | (show VG _ _ _ _ _ _ ⟨_, .binOp .shr _ _ _ _, _, _, _, _⟩ _; refine VG.mk (fun hb => by (try (have hc := And.left hb; have hb := And.right hb; rw [hc])); (try rw [hb]); exact y_shrA (m := x.c) (j := x.lv - y.lv) (by rfl) (by rfl) (by omega) (by omega) hC) ?_)
    | (show YG _ _ _ _ _ _ ⟨_, .binOp .shr _ _ _ _, _, _, _, _⟩ _; refine YG.mk (fun hb => by (try (have hc := And.left hb; have hb := And.right hb; rw [hc])); (try rw [hb]); exact V.y (y_shrA (m := x.c) (j := x.lv - y.lv) (by rfl) (by rfl) (by omega) (by omega) hC)) ?_)
    | (refine nxV ?_)
    | (show RS _ _ _ _ _ _ _ _; first | (refine nxRS ?_) | (refine nxRS1 fun _ => ?_))
    | (show RM _ _ _ _ _ _ _ _ _ _; first | (refine nxRM ?_) | (refine nxRM1 fun _ => ?_))
    | (refine nxG ?_)
    | (refine G.mixedA 2 [.go 0, .go 1, .go 2, .go 3, .go 4, .go 5, .go 6, .go 7, .go 8, .go 9, .go 10, .go 11, .go 12, .go 13, .go 14, .go 15, .go 16, .go 17, .go 18, .go 19, .go 20] ?_)
    | (refine nxX ?_)
    | (refine G.condN rfl (fun hc => ?_) (fun hc => ?_) <;> (try first | exact False.elim hc | (exfalso; omega))))
    refine X.ret (vs := [_]) rfl ⟨rfl, rfl⟩ rfl (fun w hw => ⟨ret_bool ?_, hw.ext⟩)
    simp [hd, decN_eq]
  · have e : RR.within x y = false := by
      unfold RR.within
      rw [decide_eq_false hd, Bool.false_and, Bool.false_and]
    rw [e]
    refine enter0 Tryz.func80 rfl rfl rfl ?_
    repeat' (first
    | (refine nxN ?_)
    | (refine nxV ?_)
    | (show RS _ _ _ _ _ _ _ _; first | (refine nxRS ?_) | (refine nxRS1 fun _ => ?_))
    | (show RM _ _ _ _ _ _ _ _ _ _; first | (refine nxRM ?_) | (refine nxRM1 fun _ => ?_))
    | (refine nxG ?_)
    | (refine G.mixedA 2 [.go 0, .go 1, .go 2, .go 3, .go 4, .go 5, .go 6, .go 7, .go 8, .go 9, .go 10, .go 11, .go 12, .go 13, .go 14, .go 15, .go 16, .go 17, .go 18, .go 19, .go 20] ?_)
    | (refine nxX ?_)
    | (refine G.condN rfl (fun hc => ?_) (fun hc => ?_) <;> (try first | exact False.elim hc | (exfalso; omega))))
    refine X.ret (vs := [_]) rfl ⟨rfl, rfl⟩ rfl (fun w hw => ⟨ret_bool ?_, hw.ext⟩)
    simp [hd]
theorem befL_succ {a b : RR.CellT} {k n : Nat} : RR.befL a b k (n + 1) = if a.r / 2 ^ (a.lv - k) ≠ b.r / 2 ^ (b.lv - k) then decide (a.r / 2 ^ (a.lv - k) < b.r / 2 ^ (b.lv - k)) else if a.c / 2 ^ (a.lv - k) ≠ b.c / 2 ^ (b.lv - k) then decide (a.c / 2 ^ (a.lv - k) < b.c / 2 ^ (b.lv - k)) else RR.befL a b (k + 1) n := rfl
theorem rbef_c {x y : RR.CellT} (hx : RR.okC x) (hy : RR.okC y) : Cont Tryz.prog 81 [celV x.lv x.r x.c, celV y.lv y.r y.c] (.bool (RR.before x y)) := fun w => by
  have h1 := okC_bd hx
  have h2 := okC_bd hy
  refine enter0 Tryz.func81 rfl rfl rfl ?_
  repeat' (first
    | (refine nxN ?_)
    | (refine nxV ?_)
    | (show RS _ _ _ _ _ _ _ _; first | (refine nxRS ?_) | (refine nxRS1 fun _ => ?_))
    | (show RM _ _ _ _ _ _ _ _ _ _; first | (refine nxRM ?_) | (refine nxRM1 fun _ => ?_))
    | (refine nxG ?_)
    | (refine G.mixedA 4 [.go 0, .go 1, .go 2, .go 3, .go 4, .go 5, .go 6, .go 7, .go 8, .go 9, .go 10, .go 11, .go 12, .go 13, .go 14, .go 15] ?_)
    | (refine G.mixedA 5 [.go 0, .go 1, .go 2, .go 3, .go 4, .go 5, .go 6, .go 7, .go 8, .go 9, .go 10, .go 11, .go 12, .go 13, .go 14, .go 15] ?_)
    | (refine nxX ?_)
    | (refine G.condN rfl (fun hc => ?_) (fun hc => ?_) <;> (try first | exact False.elim hc | (exfalso; omega))))
  rename_i b2 b3
  refine G.loop (ι := Nat) (fun k => [(2, .pointer (some ⟨b2, 0, none⟩)), (3, .pointer (some ⟨b3, 0, none⟩)), (5, .int .i64 (k : Int))]) (fun _ => [Hl.blk b3 110 [.int .i64 y.lv, .int .i64 y.r, .int .i64 y.c], Hl.blk b2 110 [.int .i64 x.lv, .int .i64 x.r, .int .i64 x.c]]) (fun k => k ≤ min x.lv y.lv + 1 ∧ RR.before x y = RR.befL x y k (min x.lv y.lv + 1 - k)) (fun k => min x.lv y.lv + 1 - k) 0 ⟨Nat.zero_le _, rfl⟩ ⟨rfl, rfl, rfl, trivial⟩ (by exact fun w h => h.sub (by repeat (first | exact List.Sublist.refl _ | apply List.Sublist.cons_cons | apply List.Sublist.cons))) ?_
  rintro k mx ⟨g1, g2⟩ hmx
  (try dsimp only at g1 g2 hmx ⊢)
  rcases Nat.lt_or_ge k (min x.lv y.lv + 1) with hk | hk
  · obtain ⟨n, hn⟩ : ∃ n, min x.lv y.lv + 1 - k = n + 1 := ⟨min x.lv y.lv - k, by omega⟩
    have g3 := g2
    rw [hn, befL_succ] at g3
    have d1 := Nat.div_le_self x.r (2 ^ (x.lv - k))
    have d2 := Nat.div_le_self y.r (2 ^ (y.lv - k))
    have d3 := Nat.div_le_self x.c (2 ^ (x.lv - k))
    have d4 := Nat.div_le_self y.c (2 ^ (y.lv - k))
    generalize hR1 : x.r / 2 ^ (x.lv - k) = r1 at *
    generalize hR2 : y.r / 2 ^ (y.lv - k) = r2 at *
    generalize hC1 : x.c / 2 ^ (x.lv - k) = c1 at *
    generalize hC2 : y.c / 2 ^ (y.lv - k) = c2 at *
    generalize RR.before x y = bb at *
    clear g2
    repeat' (first
    | (refine nxN ?_)
    | (show VK _ _ _ _ _ ⟨_, .binOp .shr _ _ _ _, _, _, _, _⟩ _; refine VK.mk (y_shrA (m := x.r) (j := x.lv - k) (by rfl) (by rfl) (by omega) (by omega) hR1) ?_)
    | (show YK _ _ _ _ _ ⟨_, .binOp .shr _ _ _ _, _, _, _, _⟩ _; refine YK.ofV (y_shrA (m := x.r) (j := x.lv - k) (by rfl) (by rfl) (by omega) (by omega) hR1) ?_)
    | (show VG _ _ _ _ _ _ ⟨_, .binOp .shr _ _ _ _, _, _, _, _⟩ _; refine VG.mk (fun hb => by (try (have hc := And.left hb; have hb := And.right hb; rw [hc])); (try rw [hb]); exact y_shrA (m := x.r) (j := x.lv - k) (by rfl) (by rfl) (by omega) (by omega) hR1) ?_)
    | (show YG _ _ _ _ _ _ ⟨_, .binOp .shr _ _ _ _, _, _, _, _⟩ _; refine YG.mk (fun hb => by (try (have hc := And.left hb; have hb := And.right hb; rw [hc])); (try rw [hb]); exact V.y (y_shrA (m := x.r) (j := x.lv - k) (by rfl) (by rfl) (by omega) (by omega) hR1)) ?_)
    | (show VK _ _ _ _ _ ⟨_, .binOp .shr _ _ _ _, _, _, _, _⟩ _; refine VK.mk (y_shrA (m := y.r) (j := y.lv - k) (by rfl) (by rfl) (by omega) (by omega) hR2) ?_)
    | (show YK _ _ _ _ _ ⟨_, .binOp .shr _ _ _ _, _, _, _, _⟩ _; refine YK.ofV (y_shrA (m := y.r) (j := y.lv - k) (by rfl) (by rfl) (by omega) (by omega) hR2) ?_)
    | (show VG _ _ _ _ _ _ ⟨_, .binOp .shr _ _ _ _, _, _, _, _⟩ _; refine VG.mk (fun hb => by (try (have hc := And.left hb; have hb := And.right hb; rw [hc])); (try rw [hb]); exact y_shrA (m := y.r) (j := y.lv - k) (by rfl) (by rfl) (by omega) (by omega) hR2) ?_)
    | (show YG _ _ _ _ _ _ ⟨_, .binOp .shr _ _ _ _, _, _, _, _⟩ _; refine YG.mk (fun hb => by (try (have hc := And.left hb; have hb := And.right hb; rw [hc])); (try rw [hb]); exact V.y (y_shrA (m := y.r) (j := y.lv - k) (by rfl) (by rfl) (by omega) (by omega) hR2)) ?_)
    | (show VK _ _ _ _ _ ⟨_, .binOp .shr _ _ _ _, _, _, _, _⟩ _; refine VK.mk (y_shrA (m := x.c) (j := x.lv - k) (by rfl) (by rfl) (by omega) (by omega) hC1) ?_)
    | (show YK _ _ _ _ _ ⟨_, .binOp .shr _ _ _ _, _, _, _, _⟩ _; refine YK.ofV (y_shrA (m := x.c) (j := x.lv - k) (by rfl) (by rfl) (by omega) (by omega) hC1) ?_)
    | (show VG _ _ _ _ _ _ ⟨_, .binOp .shr _ _ _ _, _, _, _, _⟩ _; refine VG.mk (fun hb => by (try (have hc := And.left hb; have hb := And.right hb; rw [hc])); (try rw [hb]); exact y_shrA (m := x.c) (j := x.lv - k) (by rfl) (by rfl) (by omega) (by omega) hC1) ?_)
    | (show YG _ _ _ _ _ _ ⟨_, .binOp .shr _ _ _ _, _, _, _, _⟩ _; refine YG.mk (fun hb => by (try (have hc := And.left hb; have hb := And.right hb; rw [hc])); (try rw [hb]); exact V.y (y_shrA (m := x.c) (j := x.lv - k) (by rfl) (by rfl) (by omega) (by omega) hC1)) ?_)
    | (show VK _ _ _ _ _ ⟨_, .binOp .shr _ _ _ _, _, _, _, _⟩ _; refine VK.mk (y_shrA (m := y.c) (j := y.lv - k) (by rfl) (by rfl) (by omega) (by omega) hC2) ?_)
    | (show YK _ _ _ _ _ ⟨_, .binOp .shr _ _ _ _, _, _, _, _⟩ _; refine YK.ofV (y_shrA (m := y.c) (j := y.lv - k) (by rfl) (by rfl) (by omega) (by omega) hC2) ?_)
    | (show VG _ _ _ _ _ _ ⟨_, .binOp .shr _ _ _ _, _, _, _, _⟩ _; refine VG.mk (fun hb => by (try (have hc := And.left hb; have hb := And.right hb; rw [hc])); (try rw [hb]); exact y_shrA (m := y.c) (j := y.lv - k) (by rfl) (by rfl) (by omega) (by omega) hC2) ?_)
    | (show YG _ _ _ _ _ _ ⟨_, .binOp .shr _ _ _ _, _, _, _, _⟩ _; refine YG.mk (fun hb => by (try (have hc := And.left hb; have hb := And.right hb; rw [hc])); (try rw [hb]); exact V.y (y_shrA (m := y.c) (j := y.lv - k) (by rfl) (by rfl) (by omega) (by omega) hC2)) ?_)
    | (refine nxV ?_)
    | (show RS _ _ _ _ _ _ _ _; first | (refine nxRS ?_) | (refine nxRS1 fun _ => ?_))
    | (show RM _ _ _ _ _ _ _ _ _ _; first | (refine nxRM ?_) | (refine nxRM1 fun _ => ?_))
    | (refine nxG ?_)
    | (refine G.mixedA 4 [.go 0, .go 1, .go 2, .go 3, .go 4, .go 5, .go 6, .go 7, .go 8, .go 9, .go 10, .go 11, .go 12, .go 13, .go 14, .go 15] ?_)
    | (refine G.mixedA 5 [.go 0, .go 1, .go 2, .go 3, .go 4, .go 5, .go 6, .go 7, .go 8, .go 9, .go 10, .go 11, .go 12, .go 13, .go 14, .go 15] ?_)
    | (refine nxX ?_)
    | (refine G.condN rfl (fun hc => ?_) (fun hc => ?_) <;> (try first | exact False.elim hc | (exfalso; omega))))
    · refine X.ret (vs := [_]) rfl ⟨rfl, rfl⟩ rfl (fun w hw => ⟨ret_bool ?_, hw.ext⟩)
      rw [g3, if_pos (by omega), decN_lt]
    · refine X.ret (vs := [_]) rfl ⟨rfl, rfl⟩ rfl (fun w hw => ⟨ret_bool ?_, hw.ext⟩)
      rw [g3, if_neg (by omega), if_pos (by omega), decN_lt]
    · rw [if_neg (by omega), if_neg (by omega)] at g3
      exact X.again (k + 1) ⟨by omega, by rw [g3]; congr 1; omega⟩ (by omega) ⟨rfl, rfl, rfl, trivial⟩ (by exact fun w h => h.sub (by repeat (first | exact List.Sublist.refl _ | apply List.Sublist.cons_cons | apply List.Sublist.cons)))
  · have e : RR.befL x y k (min x.lv y.lv + 1 - k) = false := by rw [show min x.lv y.lv + 1 - k = 0 by omega]; rfl
    rw [g2, e]
    repeat' (first
    | (refine nxN ?_)
    | (refine nxV ?_)
    | (show RS _ _ _ _ _ _ _ _; first | (refine nxRS ?_) | (refine nxRS1 fun _ => ?_))
    | (show RM _ _ _ _ _ _ _ _ _ _; first | (refine nxRM ?_) | (refine nxRM1 fun _ => ?_))
    | (refine nxG ?_)
    | (refine G.mixedA 4 [.go 0, .go 1, .go 2, .go 3, .go 4, .go 5, .go 6, .go 7, .go 8, .go 9, .go 10, .go 11, .go 12, .go 13, .go 14, .go 15] ?_)
    | (refine G.mixedA 5 [.go 0, .go 1, .go 2, .go 3, .go 4, .go 5, .go 6, .go 7, .go 8, .go 9, .go 10, .go 11, .go 12, .go 13, .go 14, .go 15] ?_)
    | (refine nxX ?_)
    | (refine G.condN rfl (fun hc => ?_) (fun hc => ?_) <;> (try first | exact False.elim hc | (exfalso; omega))))
    all_goals first | (exfalso; omega) | exact X.ret (vs := [_]) rfl ⟨rfl, rfl⟩ rfl (fun w hw => ⟨rfl, hw.ext⟩)
end Go.Proofs.YthilhhegchmjeaaGreat
/- The reference's children of a parent; brothers. -/
set_option linter.unusedVariables false
set_option maxHeartbeats 8000000
namespace Go.Proofs.YthilhhegchmjeaaGreat
open Go.RowKit
theorem len_consV {zs : List Value} {k : Nat} (h : zs.length = k + 1) : ∃ z r, zs = z :: r ∧ r.length = k := by
  cases zs with
  | nil => cases h
  | cons z r => exact ⟨z, r, rfl, by simpa using h⟩
theorem fill_stepK {place : Nat → Option (Nat × Nat)} {cells cells' : Array Value} {i off size : Nat} {v : Value} {rest : List (Nat × Value)} (h1 : place i = some (off, size)) (h2 : v.cells.size = size) (h3 : off + size ≤ cells.size) (h4 : v.cells.zipIdx.foldl (fun cs (c, j) => cs.setIfInBounds (off + j) c) cells = cells') : Instr.fill place cells ((i, v) :: rest) = Instr.fill place cells' rest := by
  subst h2
  rw [Instr.fill]
  simp only [h1]
  rw [if_neg (show ¬ ((decide (v.cells.size ≠ v.cells.size) || decide (off + v.cells.size > cells.size)) = true) from by simp; omega)]
  exact congrArg (fun q => Instr.fill place q rest) h4
theorem fill4K {a b c d : Cel} {zs : List Value} (hz : zs.length = 12) : Instr.fill (fun i => some (i * 3, 3)) zs.toArray ((List.range' 0 4).zip [kV a, kV b, kV c, kV d]) = some (cK a ++ (cK b ++ (cK c ++ cK d))).toArray := by
  obtain ⟨z0, r0, rfl, h0⟩ := len_consV hz
  obtain ⟨z1, r1, rfl, h1⟩ := len_consV h0
  obtain ⟨z2, r2, rfl, h2⟩ := len_consV h1
  obtain ⟨z3, r3, rfl, h3⟩ := len_consV h2
  obtain ⟨z4, r4, rfl, h4⟩ := len_consV h3
  obtain ⟨z5, r5, rfl, h5⟩ := len_consV h4
  obtain ⟨z6, r6, rfl, h6⟩ := len_consV h5
  obtain ⟨z7, r7, rfl, h7⟩ := len_consV h6
  obtain ⟨z8, r8, rfl, h8⟩ := len_consV h7
  obtain ⟨z9, r9, rfl, h9⟩ := len_consV h8
  obtain ⟨z10, r10, rfl, h10⟩ := len_consV h9
  obtain ⟨z11, r11, rfl, h11⟩ := len_consV h10
  obtain rfl := List.eq_nil_of_length_eq_zero h11
  show Instr.fill (fun i => some (i * 3, 3)) #[z0, z1, z2, z3, z4, z5, z6, z7, z8, z9, z10, z11] [(0, kV a), (1, kV b), (2, kV c), (3, kV d)] = _
  rw [fill_stepK (i := 0) (off := 0) (size := 3) (cells' := #[.int .i64 a.l, .int .i64 a.r, .int .i64 a.c, z3, z4, z5, z6, z7, z8, z9, z10, z11]) rfl rfl (by simp) rfl]
  rw [fill_stepK (i := 1) (off := 3) (size := 3) (cells' := #[.int .i64 a.l, .int .i64 a.r, .int .i64 a.c, .int .i64 b.l, .int .i64 b.r, .int .i64 b.c, z6, z7, z8, z9, z10, z11]) rfl rfl (by simp) rfl]
  rw [fill_stepK (i := 2) (off := 6) (size := 3) (cells' := #[.int .i64 a.l, .int .i64 a.r, .int .i64 a.c, .int .i64 b.l, .int .i64 b.r, .int .i64 b.c, .int .i64 c.l, .int .i64 c.r, .int .i64 c.c, z9, z10, z11]) rfl rfl (by simp) rfl]
  rw [fill_stepK (i := 3) (off := 9) (size := 3) (cells' := #[.int .i64 a.l, .int .i64 a.r, .int .i64 a.c, .int .i64 b.l, .int .i64 b.r, .int .i64 b.c, .int .i64 c.l, .int .i64 c.r, .int .i64 c.c, .int .i64 d.l, .int .i64 d.r, .int .i64 d.c]) rfl rfl (by simp) rfl]
  rfl
section
variable {P : Program} {n : Nat} {L : FL} {w0 : World} {H : List Hl} {Q : Exit → Act → World → Prop} {ops : Array Oper} {rest : List Oper} {dd : Nat} {ty : TypeId} {pos : String} {af : Array Edge} {t e : TypeId} {bytes : Nat}
theorem RS.lit4K' {x0 x1 x2 x3 : Operand} {a b c d : Cel} (h : ∀ v' : Sl, RS P ops Q n ((dd, v'.v) :: L) w0 (Hl.rw v'.v e cK 3 [a, b, c, d] :: H) rest) (hx0 : evO L x0 = some (kV a)) (hx1 : evO L x1 = some (kV b)) (hx2 : evO L x2 = some (kV c)) (hx3 : evO L x3 = some (kV d)) [ht : RowTy P t e 3 bytes] (hd : Nat.blt dd n = true := by rfl) :
    RS P ops Q n L w0 H (⟨some dd, .buildSlice t 4 #[(0, x0), (1, x1), (2, x2), (3, x3)], ty, pos, af, none⟩ :: rest) := RS.actX rfl (x_litS (parts := [(0, x0), (1, x1), (2, x2), (3, x3)]) (vs := [kV a, kV b, kV c, kV d]) (cs := cK a ++ (cK b ++ (cK c ++ cK d))) (f := cK) (l := [a, b, c, d]) ⟨hx0, hx1, hx2, hx3, rfl⟩ rfl rfl rfl rfl (fun zs hz => fill4K (a := a) (b := b) (c := c) (d := d) hz) rfl rfl rfl (rowTy_B ht.is) hd) fun v' _ => h v'
end
theorem rpar_c {L r c : Nat} (h : L ≤ 100 ∧ r ≤ 100000 ∧ c ≤ 200000) : Cont Tryz.prog 112 [celV ((L + 1 : Nat) : Int) r c] (celV L ((r / 2 : Nat) : Int) ((c / 2 : Nat) : Int)) := fun w => by
  refine enter0 Tryz.func112 rfl rfl rfl ?_
  repeat' (first
    | (refine nxN ?_)
    | (refine nxV ?_)
    | (show RS _ _ _ _ _ _ _ _; first | (refine nxRS ?_) | (refine nxRS1 fun _ => ?_))
    | (show RM _ _ _ _ _ _ _ _ _ _; first | (refine nxRM ?_) | (refine nxRM1 fun _ => ?_))
    | (refine nxG ?_)
    | (refine nxX ?_)
    | (refine G.condN rfl (fun hc => ?_) (fun hc => ?_) <;> (try first | exact False.elim hc | (exfalso; omega))))
  refine X.ret (vs := [_]) rfl ⟨⟨_, _, _, _, rfl, (by exact memA), (by (repeat (first | exact .nil | apply LenIs.cons))), by decide +kernel, rfl⟩, rfl⟩ rfl (fun w hw => ⟨?_, hw.ext⟩)
  show Ending.returned (celV (((L + 1 : Nat) : Int) - 1) ((r : Int) / 2) ((c : Int) / 2)) = _
  rw [show ((L + 1 : Nat) : Int) - 1 = (L : Int) by omega]; rfl
theorem rchi_c {L r c : Nat} (h : L ≤ 100 ∧ r ≤ 100000 ∧ c ≤ 200000) : ContX Tryz.prog [] 111 [celV L r c] (fun _ : Sl => True) (fun z => z.v) (fun z => [Hl.nw z.v cT 3 [(⟨L + 1, 2 * r, 2 * c⟩ : RR.CellT), ⟨L + 1, 2 * r, 2 * c + 1⟩, ⟨L + 1, 2 * r + 1, 2 * c⟩, ⟨L + 1, 2 * r + 1, 2 * c + 1⟩]]) := fun w hw0 => by
  refine enter Tryz.func111 rfl rfl rfl hw0 ?_
  repeat' (first
    | (refine nxN ?_)
    | (show RS _ _ _ _ _ _ _ (⟨some 35, .buildSlice _ _ _, _, _, _, _⟩ :: _); refine RS.lit4K' (a := (⟨(L : Int) + 1, 2 * (r : Int), 2 * (c : Int)⟩ : Cel)) (b := ⟨(L : Int) + 1, 2 * (r : Int), 2 * (c : Int) + 1⟩) (c := ⟨(L : Int) + 1, 2 * (r : Int) + 1, 2 * (c : Int)⟩) (d := ⟨(L : Int) + 1, 2 * (r : Int) + 1, 2 * (c : Int) + 1⟩) ?_ (by rfl) (by rfl) (by rfl) (by rfl); intro y1)
    | (refine nxV ?_)
    | (show RS _ _ _ _ _ _ _ _; first | (refine nxRS ?_) | (refine nxRS1 fun _ => ?_))
    | (show RM _ _ _ _ _ _ _ _ _ _; first | (refine nxRM ?_) | (refine nxRM1 fun _ => ?_))
    | (refine nxG ?_)
    | (refine G.mixedA 1 [.go 0, .go 1, .go 2, .go 3, .go 4, .go 5, .go 6, .go 7] ?_)
    | (refine nxX ?_)
    | (refine G.condN rfl (fun hc => ?_) (fun hc => ?_) <;> (try first | exact False.elim hc | (exfalso; omega))))
  exact X.retN (vs := [_]) y1 rfl ⟨rfl, rfl⟩ rfl trivial rfl (NewIn.rw (f := cT) (s := 3) (l := [(⟨L + 1, 2 * r, 2 * c⟩ : RR.CellT), ⟨L + 1, 2 * r, 2 * c + 1⟩, ⟨L + 1, 2 * r + 1, 2 * c⟩, ⟨L + 1, 2 * r + 1, 2 * c + 1⟩]) (by exact memA) NewIn.nil)
theorem rbro_c (v : Value) (q : List RR.CellT) (hq : q.length = 4) (ok : RR.okC (nth q 0)) : ContR Tryz.prog [Hl.rd v cT 3 q] 82 [v] (.bool (RR.broB (nth q 0) (nth q 1) (nth q 2) (nth q 3))) := fun w hw0 => by
  have hbd := okC_bd ok
  cases hL : (nth q 0).lv with
  | zero =>
    have e : RR.broB (nth q 0) (nth q 1) (nth q 2) (nth q 3) = false := by unfold RR.broB; rw [hL]; rfl
    rw [e]
    refine enter Tryz.func82 rfl rfl rfl hw0 ?_
    repeat' (first
    | (refine nxN ?_)
    | (refine nxV ?_)
    | (show RS _ _ _ _ _ _ _ _; first | (refine nxRS ?_) | (refine nxRS1 fun _ => ?_))
    | (show RM _ _ _ _ _ _ _ _ _ _; first | (refine nxRM ?_) | (refine nxRM1 fun _ => ?_))
    | (refine nxG ?_)
    | (refine G.mixedA 4 [.go 0, .go 1, .go 2, .go 3, .go 4, .go 5, .go 6, .go 7, .go 8, .go 9, .go 10, .go 11, .go 12, .go 13, .go 14, .go 15, .go 16, .go 17, .go 18, .go 19, .go 20, .go 21, .go 22, .go 23, .go 24, .go 25, .go 26, .go 27, .go 28, .go 29, .go 30, .go 31, .go 32, .go 33, .go 34] ?_)
    | (refine nxX ?_)
    | (refine G.condN rfl (fun hc => ?_) (fun hc => ?_) <;> (try first | exact False.elim hc | (exfalso; omega))))
    all_goals first | (exfalso; omega) | exact X.ret (vs := [_]) rfl ⟨rfl, rfl⟩ rfl (fun w hw => ⟨rfl, hw.ext⟩)
  | succ L =>
    have q1 := rpar_c (L := L) (r := (nth q 0).r) (c := (nth q 0).c) (by omega)
    have q2 := rchi_c (L := L) (r := (nth q 0).r / 2) (c := (nth q 0).c / 2) (by omega)
    have k0 : RR.kid (nth q 0) 0 0 = nth [(⟨L + 1, 2 * ((nth q 0).r / 2), 2 * ((nth q 0).c / 2)⟩ : RR.CellT), ⟨L + 1, 2 * ((nth q 0).r / 2), 2 * ((nth q 0).c / 2) + 1⟩, ⟨L + 1, 2 * ((nth q 0).r / 2) + 1, 2 * ((nth q 0).c / 2)⟩, ⟨L + 1, 2 * ((nth q 0).r / 2) + 1, 2 * ((nth q 0).c / 2) + 1⟩] 0 := by unfold RR.kid; rw [hL]; rfl
    have k1 : RR.kid (nth q 0) 0 1 = nth [(⟨L + 1, 2 * ((nth q 0).r / 2), 2 * ((nth q 0).c / 2)⟩ : RR.CellT), ⟨L + 1, 2 * ((nth q 0).r / 2), 2 * ((nth q 0).c / 2) + 1⟩, ⟨L + 1, 2 * ((nth q 0).r / 2) + 1, 2 * ((nth q 0).c / 2)⟩, ⟨L + 1, 2 * ((nth q 0).r / 2) + 1, 2 * ((nth q 0).c / 2) + 1⟩] 1 := by unfold RR.kid; rw [hL]; rfl
    have k2 : RR.kid (nth q 0) 1 0 = nth [(⟨L + 1, 2 * ((nth q 0).r / 2), 2 * ((nth q 0).c / 2)⟩ : RR.CellT), ⟨L + 1, 2 * ((nth q 0).r / 2), 2 * ((nth q 0).c / 2) + 1⟩, ⟨L + 1, 2 * ((nth q 0).r / 2) + 1, 2 * ((nth q 0).c / 2)⟩, ⟨L + 1, 2 * ((nth q 0).r / 2) + 1, 2 * ((nth q 0).c / 2) + 1⟩] 2 := by unfold RR.kid; rw [hL]; rfl
    have k3 : RR.kid (nth q 0) 1 1 = nth [(⟨L + 1, 2 * ((nth q 0).r / 2), 2 * ((nth q 0).c / 2)⟩ : RR.CellT), ⟨L + 1, 2 * ((nth q 0).r / 2), 2 * ((nth q 0).c / 2) + 1⟩, ⟨L + 1, 2 * ((nth q 0).r / 2) + 1, 2 * ((nth q 0).c / 2)⟩, ⟨L + 1, 2 * ((nth q 0).r / 2) + 1, 2 * ((nth q 0).c / 2) + 1⟩] 3 := by unfold RR.kid; rw [hL]; rfl
    have kl : ([(⟨L + 1, 2 * ((nth q 0).r / 2), 2 * ((nth q 0).c / 2)⟩ : RR.CellT), ⟨L + 1, 2 * ((nth q 0).r / 2), 2 * ((nth q 0).c / 2) + 1⟩, ⟨L + 1, 2 * ((nth q 0).r / 2) + 1, 2 * ((nth q 0).c / 2)⟩, ⟨L + 1, 2 * ((nth q 0).r / 2) + 1, 2 * ((nth q 0).c / 2) + 1⟩]).length = 4 := rfl
    have e : RR.broB (nth q 0) (nth q 1) (nth q 2) (nth q 3) = (decide (nth q 0 = RR.kid (nth q 0) 0 0) && decide (nth q 1 = RR.kid (nth q 0) 0 1) && decide (nth q 2 = RR.kid (nth q 0) 1 0) && decide (nth q 3 = RR.kid (nth q 0) 1 1)) := by
      unfold RR.broB
      rw [decide_eq_true (by omega), Bool.true_and]
    rw [e, k0, k1, k2, k3]
    clear e k0 k1 k2 k3
    rw [← hL] at q1
    generalize [(⟨L + 1, 2 * ((nth q 0).r / 2), 2 * ((nth q 0).c / 2)⟩ : RR.CellT), ⟨L + 1, 2 * ((nth q 0).r / 2), 2 * ((nth q 0).c / 2) + 1⟩, ⟨L + 1, 2 * ((nth q 0).r / 2) + 1, 2 * ((nth q 0).c / 2)⟩, ⟨L + 1, 2 * ((nth q 0).r / 2) + 1, 2 * ((nth q 0).c / 2) + 1⟩] = ch at *
    refine enter Tryz.func82 rfl rfl rfl hw0 ?_
    repeat' (first
    | (refine nxN ?_)
    | (show RS _ _ _ _ _ _ _ (⟨some 13, _, _, _, _, _⟩ :: _); refine RS.callX q2 ⟨rfl, rfl⟩ ?_; rintro z -; dsimp only [List.cons_append, List.nil_append])
    | (show YK _ _ _ _ _ _ _; first | refine YK.mk (y_callA (q1) ⟨rfl, rfl⟩) ?_)
    | (show YK _ _ _ _ _ _ _; refine YK.ofV vAuto ?_)
    | (show VK _ _ _ _ _ _ _; refine VK.mk vAuto ?_)
    | (show RS _ _ _ _ _ _ _ _; first | (refine nxRS ?_) | (refine nxRS1 fun _ => ?_))
    | (show RM _ _ _ _ _ _ _ _ _ _; first | (refine nxRM ?_) | (refine nxRM1 fun _ => ?_))
    | (show YG _ _ _ _ _ _ _ _; refine YG.mk (fun hb => by (try (have hc := And.left hb; have hb := And.right hb; rw [hc])); (try rw [hb]); first | exact (y_callA (q1) ⟨rfl, rfl⟩) | exact V.y vAuto) ?_)
    | (show VG _ _ _ _ _ _ _ _; refine VG.mk (fun hb => by (try (have hc := And.left hb; have hb := And.right hb; rw [hc])); (try rw [hb]); exact vAuto) ?_)
    | (refine G.mixedA 4 [.go 0, .go 1, .go 2, .go 3, .go 4, .go 5, .go 6, .go 7, .go 8, .go 9, .go 10, .go 11, .go 12, .go 13, .go 14, .go 15, .go 16, .go 17, .go 18, .go 19, .go 20, .go 21, .go 22, .go 23, .go 24, .go 25, .go 26, .go 27, .go 28, .go 29, .go 30, .go 31, .go 32, .go 33, .go 34] ?_)
    | (refine nxX ?_)
    | (refine G.condN rfl (fun hc => ?_) (fun hc => ?_) <;> (try first | exact False.elim hc | (exfalso; omega))))
    all_goals first | (exfalso; omega) | exact X.ret (vs := [_]) rfl ⟨rfl, rfl⟩ rfl (fun w hw => ⟨ret_bool (by simp [eqT]), hw.ext⟩) | trace_state
end Go.Proofs.YthilhhegchmjeaaGreat
/- The reference's ValidRegion. -/
set_option linter.unusedVariables false
set_option maxHeartbeats 8000000
namespace Go.Proofs.YthilhhegchmjeaaGreat
open Go.RowKit
theorem get_nth {l : List RR.CellT} {i : Nat} (h : i < l.length) : l[i]? = some (nth l (i : Int)) := by
  rw [List.getElem?_eq_getElem h, nth_get h]
theorem get_some_nth {l : List RR.CellT} {i : Nat} {a : RR.CellT} (h : l[i]? = some a) : a = nth l (i : Int) := by
  have hi : i < l.length := by
    rcases Nat.lt_or_ge i l.length with h2 | h2
    · exact h2
    · rw [List.getElem?_eq_none h2] at h; cases h
  rw [get_nth hi] at h
  exact (Option.some.inj h).symm
theorem rvreg_bad (v : Value) (l : List Cel) (hl : l.length ≤ 4000) (ha : l.all ckB = false) : ContR Tryz.prog [Hl.rd v cK 3 l] 45 [v] (.bool false) := fun w hw0 => by
  refine enter Tryz.func45 rfl rfl rfl hw0 ?_
  repeat' (first
    | (refine nxN ?_)
    | (refine nxV ?_)
    | (show RS _ _ _ _ _ _ _ _; first | (refine nxRS ?_) | (refine nxRS1 fun _ => ?_))
    | (show RM _ _ _ _ _ _ _ _ _ _; first | (refine nxRM ?_) | (refine nxRM1 fun _ => ?_))
    | (refine nxG ?_)
    | (refine G.mixedA 11 [.go 0, .go 1, .go 2, .go 3, .go 4, .go 5, .go 6, .go 7, .go 8, .go 9, .go 10, .go 11, .go 12, .go 13, .go 14, .go 15, .go 16, .go 17, .go 18, .go 19, .go 20, .go 21, .go 22, .go 23, .go 24, .go 25, .go 26, .go 27, .go 28, .go 29, .go 30, .go 31, .go 32, .go 33, .go 34] ?_)
    | (refine nxX ?_)
    | (refine G.condN rfl (fun hc => ?_) (fun hc => ?_) <;> (try first | exact False.elim hc | (exfalso; omega))))
  all_goals first | (exfalso; omega) | skip
  refine G.loop (ι := Nat) (fun i => [(0, v), (3, .int .i64 (i : Int))]) (fun _ => [Hl.rd v cK 3 l]) (fun i => i ≤ l.length ∧ (l.take i).all ckB = true) (fun i => l.length - i) 0 ⟨Nat.zero_le _, rfl⟩ ⟨rfl, rfl, trivial⟩ (by exact fun w h => h.sub (by repeat (first | exact List.Sublist.refl _ | apply List.Sublist.cons_cons | apply List.Sublist.cons))) ?_
  rintro i mx ⟨g1, g2⟩ hmx
  (try dsimp only at g1 g2 hmx ⊢)
  rcases Nat.lt_or_ge i l.length with hi | hi
  · have q1 := rval_c (nth l (i : Int)).l (nth l (i : Int)).r (nth l (i : Int)).c
    have e1 : (l.take (i + 1)).all ckB = ((l.take i).all ckB && ckB (nth l (i : Int))) := by
      rw [List.take_add_one, List.getElem?_eq_getElem hi, List.all_append, nth_mem hi]; simp
    rw [g2, Bool.true_and] at e1
    have e2 : ckB (nth l (i : Int)) = cvB (nth l (i : Int)).l (nth l (i : Int)).r (nth l (i : Int)).c := rfl
    cases hv : cvB (nth l (i : Int)).l (nth l (i : Int)).r (nth l (i : Int)).c <;> rw [hv] at q1 e2
    · repeat' (first
    | (refine nxN ?_)
    | (show YK _ _ _ _ _ _ _; first | refine YK.mk (y_callA (q1) ⟨rfl, rfl⟩) ?_)
    | (show YK _ _ _ _ _ _ _; refine YK.ofV vAuto ?_)
    | (show VK _ _ _ _ _ _ _; refine VK.mk vAuto ?_)
    | (show RS _ _ _ _ _ _ _ _; first | (refine nxRS ?_) | (refine nxRS1 fun _ => ?_))
    | (show RM _ _ _ _ _ _ _ _ _ _; first | (refine nxRM ?_) | (refine nxRM1 fun _ => ?_))
    | (show YG _ _ _ _ _ _ _ _; refine YG.mk (fun hb => by (try (have hc := And.left hb; have hb := And.right hb; rw [hc])); (try rw [hb]); first | exact (y_callA (q1) ⟨rfl, rfl⟩) | exact V.y vAuto) ?_)
    | (show VG _ _ _ _ _ _ _ _; refine VG.mk (fun hb => by (try (have hc := And.left hb; have hb := And.right hb; rw [hc])); (try rw [hb]); exact vAuto) ?_)
    | (refine G.mixedA 11 [.go 0, .go 1, .go 2, .go 3, .go 4, .go 5, .go 6, .go 7, .go 8, .go 9, .go 10, .go 11, .go 12, .go 13, .go 14, .go 15, .go 16, .go 17, .go 18, .go 19, .go 20, .go 21, .go 22, .go 23, .go 24, .go 25, .go 26, .go 27, .go 28, .go 29, .go 30, .go 31, .go 32, .go 33, .go 34] ?_)
    | (refine nxX ?_)
    | (refine G.condN rfl (fun hc => ?_) (fun hc => ?_) <;> (try first | exact False.elim hc | (exfalso; omega))))
      all_goals first | (exfalso; simp at hc; done) | exact X.ret (vs := [_]) rfl ⟨rfl, rfl⟩ rfl (fun w hw => ⟨rfl, hw.ext⟩)
    · repeat' (first
    | (refine nxN ?_)
    | (show YK _ _ _ _ _ _ _; first | refine YK.mk (y_callA (q1) ⟨rfl, rfl⟩) ?_)
    | (show YK _ _ _ _ _ _ _; refine YK.ofV vAuto ?_)
    | (show VK _ _ _ _ _ _ _; refine VK.mk vAuto ?_)
    | (show RS _ _ _ _ _ _ _ _; first | (refine nxRS ?_) | (refine nxRS1 fun _ => ?_))
    | (show RM _ _ _ _ _ _ _ _ _ _; first | (refine nxRM ?_) | (refine nxRM1 fun _ => ?_))
    | (show YG _ _ _ _ _ _ _ _; refine YG.mk (fun hb => by (try (have hc := And.left hb; have hb := And.right hb; rw [hc])); (try rw [hb]); first | exact (y_callA (q1) ⟨rfl, rfl⟩) | exact V.y vAuto) ?_)
    | (show VG _ _ _ _ _ _ _ _; refine VG.mk (fun hb => by (try (have hc := And.left hb; have hb := And.right hb; rw [hc])); (try rw [hb]); exact vAuto) ?_)
    | (refine G.mixedA 11 [.go 0, .go 1, .go 2, .go 3, .go 4, .go 5, .go 6, .go 7, .go 8, .go 9, .go 10, .go 11, .go 12, .go 13, .go 14, .go 15, .go 16, .go 17, .go 18, .go 19, .go 20, .go 21, .go 22, .go 23, .go 24, .go 25, .go 26, .go 27, .go 28, .go 29, .go 30, .go 31, .go 32, .go 33, .go 34] ?_)
    | (refine nxX ?_)
    | (refine G.condN rfl (fun hc => ?_) (fun hc => ?_) <;> (try first | exact False.elim hc | (exfalso; omega))))
      all_goals first | (exfalso; simp at hc; done) | exact X.again (i + 1) ⟨by omega, by rw [e1, e2]⟩ (by omega) ⟨rfl, rfl, trivial⟩ (by exact fun w h => h.sub (by repeat (first | exact List.Sublist.refl _ | apply List.Sublist.cons_cons | apply List.Sublist.cons)))
  · obtain rfl : i = l.length := by omega
    rw [List.take_length, ha] at g2
    cases g2
theorem rvreg_c (v : Value) (l : List RR.CellT) (ok : ∀ x ∈ l, RR.okC x) (hl : l.length ≤ 4000) {bb : Bool} (hbb : bb = true ↔ RR.IdxOk l) : ContR Tryz.prog [Hl.rd v cT 3 l] 45 [v] (.bool bb) := fun w hw0 => by
  have hok : ∀ i : Nat, i < l.length → RR.okC (nth l (i : Int)) := fun i hi => ok _ (by rw [nth_get hi]; exact List.getElem_mem hi)
  refine enter Tryz.func45 rfl rfl rfl hw0 ?_
  repeat' (first
    | (refine nxN ?_)
    | (refine nxV ?_)
    | (show RS _ _ _ _ _ _ _ _; first | (refine nxRS ?_) | (refine nxRS1 fun _ => ?_))
    | (show RM _ _ _ _ _ _ _ _ _ _; first | (refine nxRM ?_) | (refine nxRM1 fun _ => ?_))
    | (refine nxG ?_)
    | (refine G.mixedA 11 [.go 0, .go 1, .go 2, .go 3, .go 4, .go 5, .go 6, .go 7, .go 8, .go 9, .go 10, .go 11, .go 12, .go 13, .go 14, .go 15, .go 16, .go 17, .go 18, .go 19, .go 20, .go 21, .go 22, .go 23, .go 24, .go 25, .go 26, .go 27, .go 28, .go 29, .go 30, .go 31, .go 32, .go 33, .go 34] ?_)
    | (refine nxX ?_)
    | (refine G.condN rfl (fun hc => ?_) (fun hc => ?_) <;> (try first | exact False.elim hc | (exfalso; omega))))
  all_goals first | (exfalso; omega) | skip
  refine G.loop (ι := Nat) (fun i => [(0, v), (3, .int .i64 (i : Int))]) (fun _ => [Hl.rd v cT 3 l]) (fun i => i ≤ l.length) (fun i => l.length - i) 0 (Nat.zero_le _) ⟨rfl, rfl, trivial⟩ (by exact fun w h => h.sub (by repeat (first | exact List.Sublist.refl _ | apply List.Sublist.cons_cons | apply List.Sublist.cons))) ?_
  rintro i mx g1 hmx
  (try dsimp only at g1 hmx ⊢)
  rcases Nat.lt_or_ge i l.length with hi | hi
  · have q1 := rval_c (nth l (i : Int)).lv (nth l (i : Int)).r (nth l (i : Int)).c
    have e2 : cvB (nth l (i : Int)).lv (nth l (i : Int)).r (nth l (i : Int)).c = true := ofT_ok.2 (hok i hi)
    rw [e2] at q1
    repeat' (first
    | (refine nxN ?_)
    | (show YK _ _ _ _ _ _ _; first | refine YK.mk (y_callA (q1) ⟨rfl, rfl⟩) ?_)
    | (show YK _ _ _ _ _ _ _; refine YK.ofV vAuto ?_)
    | (show VK _ _ _ _ _ _ _; refine VK.mk vAuto ?_)
    | (show RS _ _ _ _ _ _ _ _; first | (refine nxRS ?_) | (refine nxRS1 fun _ => ?_))
    | (show RM _ _ _ _ _ _ _ _ _ _; first | (refine nxRM ?_) | (refine nxRM1 fun _ => ?_))
    | (show YG _ _ _ _ _ _ _ _; refine YG.mk (fun hb => by (try (have hc := And.left hb; have hb := And.right hb; rw [hc])); (try rw [hb]); first | exact (y_callA (q1) ⟨rfl, rfl⟩) | exact V.y vAuto) ?_)
    | (show VG _ _ _ _ _ _ _ _; refine VG.mk (fun hb => by (try (have hc := And.left hb; have hb := And.right hb; rw [hc])); (try rw [hb]); exact vAuto) ?_)
    | (refine G.mixedA 11 [.go 0, .go 1, .go 2, .go 3, .go 4, .go 5, .go 6, .go 7, .go 8, .go 9, .go 10, .go 11, .go 12, .go 13, .go 14, .go 15, .go 16, .go 17, .go 18, .go 19, .go 20, .go 21, .go 22, .go 23, .go 24, .go 25, .go 26, .go 27, .go 28, .go 29, .go 30, .go 31, .go 32, .go 33, .go 34] ?_)
    | (refine nxX ?_)
    | (refine G.condN rfl (fun hc => ?_) (fun hc => ?_) <;> (try first | exact False.elim hc | (exfalso; omega))))
    all_goals first | (exfalso; simp at hc; done) | exact X.again (i + 1) (by omega) (by omega) ⟨rfl, rfl, trivial⟩ (by exact fun w h => h.sub (by repeat (first | exact List.Sublist.refl _ | apply List.Sublist.cons_cons | apply List.Sublist.cons)))
  · clear hmx
    obtain rfl : i = l.length := by omega
    repeat' (first
    | (refine nxN ?_)
    | (refine nxV ?_)
    | (show RS _ _ _ _ _ _ _ _; first | (refine nxRS ?_) | (refine nxRS1 fun _ => ?_))
    | (show RM _ _ _ _ _ _ _ _ _ _; first | (refine nxRM ?_) | (refine nxRM1 fun _ => ?_))
    | (refine nxG ?_)
    | (refine G.mixedA 11 [.go 0, .go 1, .go 2, .go 3, .go 4, .go 5, .go 6, .go 7, .go 8, .go 9, .go 10, .go 11, .go 12, .go 13, .go 14, .go 15, .go 16, .go 17, .go 18, .go 19, .go 20, .go 21, .go 22, .go 23, .go 24, .go 25, .go 26, .go 27, .go 28, .go 29, .go 30, .go 31, .go 32, .go 33, .go 34] ?_)
    | (refine nxX ?_)
    | (refine G.condN rfl (fun hc => ?_) (fun hc => ?_) <;> (try first | exact False.elim hc | (exfalso; omega))))
    all_goals first | (exfalso; omega) | skip
    refine G.loop (ι := Nat) (fun j => [(0, v), (4, .int .i64 ((j + 1 : Nat) : Int))]) (fun _ => [Hl.rd v cT 3 l]) (fun j => (j = 0 ∨ j + 1 ≤ l.length) ∧ ∀ i a b, i < j → l[i]? = some a → l[i + 1]? = some b → RR.nextB a b = true) (fun j => l.length - j) 0 ⟨.inl rfl, fun i a b h => by omega⟩ ⟨rfl, rfl, trivial⟩ (by exact fun w h => h.sub (by repeat (first | exact List.Sublist.refl _ | apply List.Sublist.cons_cons | apply List.Sublist.cons))) ?_
    rintro j mx2 ⟨k1, k2⟩ hmx2
    (try dsimp only at k1 k2 hmx2 ⊢)
    rcases Nat.lt_or_ge (j + 1) l.length with hj | hj
    · have ej : ((j + 1 : Nat) : Int) - 1 = (j : Int) := by omega
      have q1 := rwith_c (hok (j + 1) hj) (hok j (by omega))
      have q2 := rwith_c (hok j (by omega)) (hok (j + 1) hj)
      have q3 := rbef_c (hok j (by omega)) (hok (j + 1) hj)
      rw [← ej] at q1 q2 q3
      have hnx : RR.nextB (nth l (((j + 1 : Nat) : Int) - 1)) (nth l ((j + 1 : Nat) : Int)) = (!RR.within (nth l ((j + 1 : Nat) : Int)) (nth l (((j + 1 : Nat) : Int) - 1)) && !RR.within (nth l (((j + 1 : Nat) : Int) - 1)) (nth l ((j + 1 : Nat) : Int)) && RR.before (nth l (((j + 1 : Nat) : Int) - 1)) (nth l ((j + 1 : Nat) : Int))) := rfl
      have hnx2 : bb = true → RR.nextB (nth l (((j + 1 : Nat) : Int) - 1)) (nth l ((j + 1 : Nat) : Int)) = true := fun h => by
        rw [ej]
        exact (hbb.1 h).next j _ _ (get_nth (by omega)) (get_nth hj)
      have hnx3 : RR.nextB (nth l (((j + 1 : Nat) : Int) - 1)) (nth l ((j + 1 : Nat) : Int)) = true → ∀ i a b, i < j + 1 → l[i]? = some a → l[i + 1]? = some b → RR.nextB a b = true := fun h i a b hij ha hb => by
        rcases Nat.lt_or_ge i j with h3 | h3
        · exact k2 i a b h3 ha hb
        · obtain rfl : i = j := by omega
          rw [get_some_nth ha, get_some_nth hb, ← ej]; exact h
      generalize RR.within (nth l ((j + 1 : Nat) : Int)) (nth l (((j + 1 : Nat) : Int) - 1)) = w1 at *
      generalize RR.within (nth l (((j + 1 : Nat) : Int) - 1)) (nth l ((j + 1 : Nat) : Int)) = w2 at *
      generalize RR.before (nth l (((j + 1 : Nat) : Int) - 1)) (nth l ((j + 1 : Nat) : Int)) = w3 at *
      generalize RR.nextB (nth l (((j + 1 : Nat) : Int) - 1)) (nth l ((j + 1 : Nat) : Int)) = nb at *
      repeat' (first
    | (refine nxN ?_)
    | (show YK _ _ _ _ _ _ _; first | refine YK.mk (y_callA (q1) ⟨rfl, rfl, rfl⟩) ?_ | refine YK.mk (y_callA (q2) ⟨rfl, rfl, rfl⟩) ?_ | refine YK.mk (y_callA (q3) ⟨rfl, rfl, rfl⟩) ?_)
    | (show YK _ _ _ _ _ _ _; refine YK.ofV vAuto ?_)
    | (show VK _ _ _ _ _ _ _; refine VK.mk vAuto ?_)
    | (show RS _ _ _ _ _ _ _ _; first | (refine nxRS ?_) | (refine nxRS1 fun _ => ?_))
    | (show RM _ _ _ _ _ _ _ _ _ _; first | (refine nxRM ?_) | (refine nxRM1 fun _ => ?_))
    | (show YG _ _ _ _ _ _ _ _; refine YG.mk (fun hb => by (try (have hc := And.left hb; have hb := And.right hb; rw [hc])); (try rw [hb]); first | exact (y_callA (q1) ⟨rfl, rfl, rfl⟩) | exact (y_callA (q2) ⟨rfl, rfl, rfl⟩) | exact (y_callA (q3) ⟨rfl, rfl, rfl⟩) | exact V.y vAuto) ?_)
    | (show VG _ _ _ _ _ _ _ _; refine VG.mk (fun hb => by (try (have hc := And.left hb; have hb := And.right hb; rw [hc])); (try rw [hb]); exact vAuto) ?_)
    | (refine G.mixedA 11 [.go 0, .go 1, .go 2, .go 3, .go 4, .go 5, .go 6, .go 7, .go 8, .go 9, .go 10, .go 11, .go 12, .go 13, .go 14, .go 15, .go 16, .go 17, .go 18, .go 19, .go 20, .go 21, .go 22, .go 23, .go 24, .go 25, .go 26, .go 27, .go 28, .go 29, .go 30, .go 31, .go 32, .go 33, .go 34] ?_)
    | (refine nxX ?_)
    | (refine G.condN rfl (fun hc => ?_) (fun hc => ?_) <;> (try first | exact False.elim hc | (exfalso; omega))))
      · have hb0 : bb = false := by
          cases hbv : bb with
          | false => rfl
          | true =>
            exfalso
            have h2 := hnx2 hbv
            rw [hnx] at h2
            simp only [Bool.and_eq_true, Bool.not_eq_true'] at h2
            obtain ⟨⟨rfl, rfl⟩, rfl⟩ := h2
            simp at hc
        rw [hb0]
        exact X.ret (vs := [_]) rfl ⟨rfl, rfl⟩ rfl (fun w hw => ⟨rfl, hw.ext⟩)
      · exact X.again (j + 1) ⟨.inr (by omega), hnx3 (by rw [hnx]; obtain ⟨⟨h3, h4⟩, h5⟩ := hc; rw [h3, h4, h5]; rfl)⟩ (by omega) ⟨rfl, (by exact congrArg (fun z => some (Value.int .i64 z)) (by omega)), trivial⟩ (by exact fun w h => h.sub (by repeat (first | exact List.Sublist.refl _ | apply List.Sublist.cons_cons | apply List.Sublist.cons)))
    · repeat' (first
    | (refine nxN ?_)
    | (refine nxV ?_)
    | (show RS _ _ _ _ _ _ _ _; first | (refine nxRS ?_) | (refine nxRS1 fun _ => ?_))
    | (show RM _ _ _ _ _ _ _ _ _ _; first | (refine nxRM ?_) | (refine nxRM1 fun _ => ?_))
    | (refine nxG ?_)
    | (refine G.mixedA 11 [.go 0, .go 1, .go 2, .go 3, .go 4, .go 5, .go 6, .go 7, .go 8, .go 9, .go 10, .go 11, .go 12, .go 13, .go 14, .go 15, .go 16, .go 17, .go 18, .go 19, .go 20, .go 21, .go 22, .go 23, .go 24, .go 25, .go 26, .go 27, .go 28, .go 29, .go 30, .go 31, .go 32, .go 33, .go 34] ?_)
    | (refine nxX ?_)
    | (refine G.condN rfl (fun hc => ?_) (fun hc => ?_) <;> (try first | exact False.elim hc | (exfalso; omega))))
      all_goals first | (exfalso; omega) | skip
      have hnext : ∀ i a b, l[i]? = some a → l[i + 1]? = some b → RR.nextB a b = true := fun i a b ha hb => by
        have hi : i + 1 < l.length := by
          rcases Nat.lt_or_ge (i + 1) l.length with h | h
          · exact h
          · rw [List.getElem?_eq_none h] at hb; cases hb
        exact k2 i a b (by omega) ha hb
      clear k1 k2 hmx2 hj hc
      refine G.loop (ι := Nat) (fun k => [(0, v), (5, .int .i64 ((k + 3 : Nat) : Int))]) (fun _ => [Hl.rd v cT 3 l]) (fun k => (k = 0 ∨ k + 3 ≤ l.length) ∧ ∀ i a b c d, i < k → l[i]? = some a → l[i + 1]? = some b → l[i + 2]? = some c → l[i + 3]? = some d → RR.broB a b c d = false) (fun k => l.length - k) 0 ⟨.inl rfl, fun i a b c d h => by omega⟩ ⟨rfl, rfl, trivial⟩ (by exact fun w h => h.sub (by repeat (first | exact List.Sublist.refl _ | apply List.Sublist.cons_cons | apply List.Sublist.cons))) ?_
      rintro k mx3 ⟨k1, k2⟩ hmx3
      (try dsimp only at k1 k2 hmx3 ⊢)
      rcases Nat.lt_or_ge (k + 3) l.length with hk | hk
      · have hA : (((k + 3 : Nat) : Int) - 3).toNat = k := by omega
        have hB : (((k + 3 : Nat) : Int) + 1).toNat = k + 4 := by omega
        have hq : ((l.drop (((k + 3 : Nat) : Int) - 3).toNat).take ((((k + 3 : Nat) : Int) + 1).toNat - (((k + 3 : Nat) : Int) - 3).toNat)).length = 4 := by
          rw [hA, hB, List.length_take, List.length_drop]; omega
        have hqn : ∀ e : Nat, e < 4 → nth ((l.drop (((k + 3 : Nat) : Int) - 3).toNat).take ((((k + 3 : Nat) : Int) + 1).toNat - (((k + 3 : Nat) : Int) - 3).toNat)) (e : Int) = nth l ((k + e : Nat) : Int) := fun e he => by
          rw [nth_get (by omega), nth_get (by omega)]
          simp only [hA, hB]
          rw [List.getElem_take, List.getElem_drop]
        have q0 := hqn 0 (by omega)
        have q1 := hqn 1 (by omega)
        have q2 := hqn 2 (by omega)
        have q3 := hqn 3 (by omega)
        have qb := rbro_c (cutV v 3 (((k + 3 : Nat) : Int) - 3).toNat (((k + 3 : Nat) : Int) + 1).toNat) _ hq (by rw [show (0 : Int) = ((0 : Nat) : Int) from rfl, q0]; exact hok _ (by omega))
        rw [show nth ((l.drop (((k + 3 : Nat) : Int) - 3).toNat).take ((((k + 3 : Nat) : Int) + 1).toNat - (((k + 3 : Nat) : Int) - 3).toNat)) 0 = nth l ((k + 0 : Nat) : Int) from q0, show nth ((l.drop (((k + 3 : Nat) : Int) - 3).toNat).take ((((k + 3 : Nat) : Int) + 1).toNat - (((k + 3 : Nat) : Int) - 3).toNat)) 1 = nth l ((k + 1 : Nat) : Int) from q1, show nth ((l.drop (((k + 3 : Nat) : Int) - 3).toNat).take ((((k + 3 : Nat) : Int) + 1).toNat - (((k + 3 : Nat) : Int) - 3).toNat)) 2 = nth l ((k + 2 : Nat) : Int) from q2, show nth ((l.drop (((k + 3 : Nat) : Int) - 3).toNat).take ((((k + 3 : Nat) : Int) + 1).toNat - (((k + 3 : Nat) : Int) - 3).toNat)) 3 = nth l ((k + 3 : Nat) : Int) from q3] at qb
        clear q0 q1 q2 q3 hqn hq
        have hbr2 : bb = true → RR.broB (nth l ((k + 0 : Nat) : Int)) (nth l ((k + 1 : Nat) : Int)) (nth l ((k + 2 : Nat) : Int)) (nth l ((k + 3 : Nat) : Int)) = false := fun h => (hbb.1 h).bros k _ _ _ _ (get_nth (by omega)) (get_nth (by omega)) (get_nth (by omega)) (get_nth (by omega))
        have hbr3 : RR.broB (nth l ((k + 0 : Nat) : Int)) (nth l ((k + 1 : Nat) : Int)) (nth l ((k + 2 : Nat) : Int)) (nth l ((k + 3 : Nat) : Int)) = false → ∀ i a b c d, i < k + 1 → l[i]? = some a → l[i + 1]? = some b → l[i + 2]? = some c → l[i + 3]? = some d → RR.broB a b c d = false := fun h i a b c d hij ha hb hc hd => by
          rcases Nat.lt_or_ge i k with h3 | h3
          · exact k2 i a b c d h3 ha hb hc hd
          · obtain rfl : i = k := by omega
            rw [get_some_nth ha, get_some_nth hb, get_some_nth hc, get_some_nth hd]; exact h
        have hbl : RR.broB (nth l ((k + 0 : Nat) : Int)) (nth l ((k + 1 : Nat) : Int)) (nth l ((k + 2 : Nat) : Int)) (nth l ((k + 3 : Nat) : Int)) = true → 0 < (nth l ((k + 3 : Nat) : Int)).lv := fun h => by
          have h2 := ((RR.broB_iff (hok _ (by omega)) (hok _ (by omega)) (hok _ (by omega)) (hok _ (by omega))).1 h)
          have h3 := h2.1
          have h4 := h2.2.2.2.1
          omega
        generalize RR.broB (nth l ((k + 0 : Nat) : Int)) (nth l ((k + 1 : Nat) : Int)) (nth l ((k + 2 : Nat) : Int)) (nth l ((k + 3 : Nat) : Int)) = br at *
        repeat' (first
    | (refine nxN ?_)
    | (show YK _ _ _ _ _ _ _; first | refine YK.mk (y_callRA (qb) ⟨rfl, rfl⟩) ?_)
    | (show YK _ _ _ _ _ _ _; refine YK.ofV vAuto ?_)
    | (show VK _ _ _ _ _ _ _; refine VK.mk vAuto ?_)
    | (show RS _ _ _ _ _ _ _ _; first | (refine nxRS ?_) | (refine nxRS1 fun _ => ?_))
    | (show RM _ _ _ _ _ _ _ _ _ _; first | (refine nxRM ?_) | (refine nxRM1 fun _ => ?_))
    | (show YG _ _ _ _ _ _ _ _; refine YG.mk (fun hb => by (try (have hc := And.left hb; have hb := And.right hb; rw [hc])); (try rw [hb]); first | exact (y_callRA (qb) ⟨rfl, rfl⟩) | exact V.y vAuto) ?_)
    | (show VG _ _ _ _ _ _ _ _; refine VG.mk (fun hb => by (try (have hc := And.left hb; have hb := And.right hb; rw [hc])); (try rw [hb]); exact vAuto) ?_)
    | (refine G.mixedA 11 [.go 0, .go 1, .go 2, .go 3, .go 4, .go 5, .go 6, .go 7, .go 8, .go 9, .go 10, .go 11, .go 12, .go 13, .go 14, .go 15, .go 16, .go 17, .go 18, .go 19, .go 20, .go 21, .go 22, .go 23, .go 24, .go 25, .go 26, .go 27, .go 28, .go 29, .go 30, .go 31, .go 32, .go 33, .go 34] ?_)
    | (refine nxX ?_)
    | (refine G.condN rfl (fun hc => ?_) (fun hc => ?_) <;> (try first | exact False.elim hc | (exfalso; omega))))
        · have hb0 : bb = false := by
            cases hbv : bb with
            | false => rfl
            | true =>
              have h2 := hbr2 hbv
              rw [hc.2] at h2
              cases h2
          rw [hb0]
          exact X.ret (vs := [_]) rfl ⟨rfl, rfl⟩ rfl (fun w hw => ⟨rfl, hw.ext⟩)
        · have hb0 : br = false := by
            cases hbv : br with
            | false => rfl
            | true =>
              have h2 := hbl hbv
              rcases hc with h3 | h3
              · omega
              · rw [hbv] at h3; cases h3
          exact X.again (k + 1) ⟨.inr (by omega), hbr3 hb0⟩ (by omega) ⟨rfl, (by exact congrArg (fun z => some (Value.int .i64 z)) (by omega)), trivial⟩ (by exact fun w h => h.sub (by repeat (first | exact List.Sublist.refl _ | apply List.Sublist.cons_cons | apply List.Sublist.cons)))
      · have hbt : bb = true := hbb.2 ⟨hnext, fun i a b c d ha hb hc hd => by
          have hi : i + 3 < l.length := by
            rcases Nat.lt_or_ge (i + 3) l.length with h | h
            · exact h
            · rw [List.getElem?_eq_none h] at hd; cases hd
          exact k2 i a b c d (by omega) ha hb hc hd⟩
        rw [hbt]
        repeat' (first
    | (refine nxN ?_)
    | (refine nxV ?_)
    | (show RS _ _ _ _ _ _ _ _; first | (refine nxRS ?_) | (refine nxRS1 fun _ => ?_))
    | (show RM _ _ _ _ _ _ _ _ _ _; first | (refine nxRM ?_) | (refine nxRM1 fun _ => ?_))
    | (refine nxG ?_)
    | (refine G.mixedA 11 [.go 0, .go 1, .go 2, .go 3, .go 4, .go 5, .go 6, .go 7, .go 8, .go 9, .go 10, .go 11, .go 12, .go 13, .go 14, .go 15, .go 16, .go 17, .go 18, .go 19, .go 20, .go 21, .go 22, .go 23, .go 24, .go 25, .go 26, .go 27, .go 28, .go 29, .go 30, .go 31, .go 32, .go 33, .go 34] ?_)
    | (refine nxX ?_)
    | (refine G.condN rfl (fun hc => ?_) (fun hc => ?_) <;> (try first | exact False.elim hc | (exfalso; omega))))
        all_goals first | (exfalso; omega) | exact X.ret (vs := [_]) rfl ⟨rfl, rfl⟩ rfl (fun w hw => ⟨rfl, hw.ext⟩)
end Go.Proofs.YthilhhegchmjeaaGreat
