/- Stars: names, numbers, the search by a name, Valid. -/
import Derived.Test.YtaglecidaedjfaaDoorTys
import Derived.Test.YtaglecidaedjfaaDoorStr
import Derived.Test.YtaglecidaedjfaaDoorRowSt
set_option linter.unusedVariables false
set_option maxHeartbeats 4000000
namespace Go.Proofs.YtaglecidaedjfaaDoor
open Go.RowKit

abbrev StarT := List UInt8 × Int × Int × Int
abbrev cSt (s : StarT) : List Value := [strV s.1, .int .i64 s.2.1, .int .i64 s.2.2.1, .int .i64 s.2.2.2]
abbrev stV (s : StarT) : Value := .agg [strV s.1, .int .i64 s.2.1, .int .i64 s.2.2.1, .int .i64 s.2.2.2].toArray
def letterB (b : Int) : Bool := decide (97 ≤ b) && decide (b ≤ 122) || decide (65 ≤ b) && decide (b ≤ 90)
def digitB (b : Int) : Bool := decide (48 ≤ b) && decide (b ≤ 57)
def wordB (b : Int) : Bool := letterB b || digitB b || decide (b = 95)
theorem letter_c (b : Int) : Cont Tryd.prog 64 [.int .u8 b] (.bool (letterB b)) := fun w => by
  refine enter0 Tryd.func64 rfl rfl rfl ?_
  repeat' (first
    | (refine nxV ?_)
    | (show RS _ _ _ _ _ _ _ _; first | (refine nxRS ?_) | (refine nxRS1 fun _ => ?_))
    | (show RM _ _ _ _ _ _ _ _ _ _; first | (refine nxRM ?_) | (refine nxRM1 fun _ => ?_))
    | (refine nxG ?_)
    | (refine nxX ?_)
    | (refine G.condN rfl (fun hc => ?_) (fun hc => ?_) <;> (try first | exact False.elim hc | (exfalso; omega))))
  refine X.ret (vs := [_]) rfl ⟨rfl, rfl⟩ rfl (fun w hw => ⟨ret_bool ?_, hw.ext⟩)
  unfold letterB
  simp
theorem digit_c (b : Int) : Cont Tryd.prog 95 [.int .u8 b] (.bool (digitB b)) := fun w => by
  refine enter0 Tryd.func95 rfl rfl rfl ?_
  repeat' (first
    | (refine nxV ?_)
    | (show RS _ _ _ _ _ _ _ _; first | (refine nxRS ?_) | (refine nxRS1 fun _ => ?_))
    | (show RM _ _ _ _ _ _ _ _ _ _; first | (refine nxRM ?_) | (refine nxRM1 fun _ => ?_))
    | (refine nxG ?_)
    | (refine nxX ?_)
    | (refine G.condN rfl (fun hc => ?_) (fun hc => ?_) <;> (try first | exact False.elim hc | (exfalso; omega))))
  refine X.ret (vs := [_]) rfl ⟨rfl, rfl⟩ rfl (fun w hw => ⟨ret_bool ?_, hw.ext⟩)
  unfold digitB
  simp
theorem word_c (b : Int) : Cont Tryd.prog 63 [.int .u8 b] (.bool (wordB b)) := fun w => by
  have h1 := letter_c b
  have h2 := digit_c b
  refine enter0 Tryd.func63 rfl rfl rfl ?_
  repeat' (first
    | (show YK _ _ _ _ _ _ _; first | refine YK.mk (y_callA (h1) ⟨rfl, rfl⟩) ?_ | refine YK.mk (y_callA (h2) ⟨rfl, rfl⟩) ?_)
    | (show YK _ _ _ _ _ _ _; refine YK.ofV vAuto ?_)
    | (show VK _ _ _ _ _ _ _; refine VK.mk vAuto ?_)
    | (show RS _ _ _ _ _ _ _ _; first | (refine nxRS ?_) | (refine nxRS1 fun _ => ?_))
    | (show RM _ _ _ _ _ _ _ _ _ _; first | (refine nxRM ?_) | (refine nxRM1 fun _ => ?_))
    | (show YG _ _ _ _ _ _ _ _; refine YG.mk (fun hb => by (try (have hc := And.left hb; have hb := And.right hb; rw [hc])); (try rw [hb]); first | exact (y_callA (h1) ⟨rfl, rfl⟩) | exact (y_callA (h2) ⟨rfl, rfl⟩) | exact V.y vAuto) ?_)
    | (show VG _ _ _ _ _ _ _ _; refine VG.mk (fun hb => by (try (have hc := And.left hb; have hb := And.right hb; rw [hc])); (try rw [hb]); exact vAuto) ?_)
    | (refine nxX ?_)
    | (refine G.condN rfl (fun hc => ?_) (fun hc => ?_) <;> (try first | exact False.elim hc | (exfalso; omega))))
  refine X.ret (vs := [_]) rfl ⟨rfl, rfl⟩ rfl (fun w hw => ⟨ret_bool ?_, hw.ext⟩)
  unfold wordB
  simp
def allP (p : Int → Bool) (l : List UInt8) : Bool := !l.isEmpty && l.all fun b => p b.toNat
theorem allP_f {p : Int → Bool} {l : List UInt8} {i : Nat} (hi : i < l.length) (h : p (nth l (i : Int)).toNat = false) : allP p l = false := by
  unfold allP
  rw [Bool.and_eq_false_iff]
  right
  rw [List.all_eq_false]
  exact ⟨nth l (i : Int), List.mem_of_getElem? (nth_some (by omega) (by omega)), by simp [h]⟩
theorem allP_t {p : Int → Bool} {l : List UInt8} (h : ∀ i : Nat, i < l.length → p (nth l (i : Int)).toNat = true) : allP p l = decide (¬ l = []) := by
  unfold allP
  have h1 : (l.all fun b => p b.toNat) = true := by
    rw [List.all_eq_true]
    intro b hb
    obtain ⟨i, hi, rfl⟩ := List.getElem_of_mem hb
    have e := nth_some (l := l) (m := (i : Int)) (by omega) (by omega)
    rw [Int.toNat_natCast, List.getElem?_eq_getElem hi] at e
    rw [Option.some.inj e]
    exact h i hi
  rw [h1]
  cases l <;> simp
theorem all_c {f : FuncId} (p : Int → Bool) (hp : ∀ b : Int, Cont Tryd.prog f [.int .u8 b] (.bool (p b))) (hg : isGo Tryd.prog f = true) (l : List UInt8) (hl : l.length ≤ 1000000) : Cont Tryd.prog 62 [strV l, .func (.func f) #[] #[]] (.bool (allP p l)) := fun w => by
  refine enter0 Tryd.func62 rfl rfl rfl ?_
  repeat' (first
    | (refine nxV ?_)
    | (show RS _ _ _ _ _ _ _ _; first | (refine nxRS ?_) | (refine nxRS1 fun _ => ?_))
    | (show RM _ _ _ _ _ _ _ _ _ _; first | (refine nxRM ?_) | (refine nxRM1 fun _ => ?_))
    | (refine nxG ?_)
    | (refine nxVS ?_)
    | (refine nxGS ?_)
    | (refine nxX ?_)
    | (refine G.condN rfl (fun hc => ?_) (fun hc => ?_) <;> (try first | exact False.elim hc | (exfalso; omega))))
  refine G.loop (ι := Nat) (fun i => [(0, strV l), (1, .func (.func f) #[] #[]), (7, .int .i64 l.length), (8, .int .i64 (i : Int))]) (fun _ => []) (fun i => i ≤ l.length ∧ ∀ k : Nat, k < i → p (nth l (k : Int)).toNat = true) (fun i => l.length - i) 0 ⟨Nat.zero_le _, fun k hk => by omega⟩ ⟨rfl, rfl, rfl, rfl, trivial⟩ (fun w h => h) ?_
  rintro i mx ⟨g1, g2⟩ hmx
  rcases Nat.lt_or_ge i l.length with hi | hi
  · have q1 : ContIn Tryd.prog (fun _ => True) f ([.int .u8 (nth l (i : Int)).toNat] ++ (#[] : Array Value).toList) (.bool (p (nth l (i : Int)).toNat)) := fun w _ => hp _ w
    cases hb : p (nth l (i : Int)).toNat with
    | true =>
      rw [hb] at q1
      repeat' (first
    | (show YK _ _ _ _ _ ⟨_, .call { callee := .value _, args := _, argTypes := _ }, _, _, _, _⟩ _; refine YK.mk (y_callV (f := f) (by rfl) q1 (fun _ _ => trivial) ⟨rfl, rfl⟩ hg) ?_)
    | (refine nxV ?_)
    | (show RS _ _ _ _ _ _ _ _; first | (refine nxRS ?_) | (refine nxRS1 fun _ => ?_))
    | (show RM _ _ _ _ _ _ _ _ _ _; first | (refine nxRM ?_) | (refine nxRM1 fun _ => ?_))
    | (refine nxG ?_)
    | (refine nxVS ?_)
    | (refine nxGS ?_)
    | (refine nxX ?_)
    | (refine G.condN rfl (fun hc => ?_) (fun hc => ?_) <;> (try first | exact False.elim hc | (exfalso; omega))))
      refine X.again (i + 1) ⟨by omega, fun k hk => ?_⟩ (by omega) ⟨rfl, rfl, rfl, rfl, trivial⟩ (fun w h => h)
      rcases Nat.lt_or_ge k i with h | h
      · exact g2 k h
      · rw [show k = i by omega]; exact hb
    | false =>
      rw [hb] at q1
      repeat' (first
    | (show YK _ _ _ _ _ ⟨_, .call { callee := .value _, args := _, argTypes := _ }, _, _, _, _⟩ _; refine YK.mk (y_callV (f := f) (by rfl) q1 (fun _ _ => trivial) ⟨rfl, rfl⟩ hg) ?_)
    | (refine nxV ?_)
    | (show RS _ _ _ _ _ _ _ _; first | (refine nxRS ?_) | (refine nxRS1 fun _ => ?_))
    | (show RM _ _ _ _ _ _ _ _ _ _; first | (refine nxRM ?_) | (refine nxRM1 fun _ => ?_))
    | (refine nxG ?_)
    | (refine nxVS ?_)
    | (refine nxGS ?_)
    | (refine nxX ?_)
    | (refine G.condN rfl (fun hc => ?_) (fun hc => ?_) <;> (try first | exact False.elim hc | (exfalso; omega))))
      exact X.ret (vs := [_]) rfl ⟨rfl, rfl⟩ rfl (fun w hw => ⟨ret_bool (allP_f hi hb).symm, hw.ext⟩)
  · repeat' (first
    | (refine nxV ?_)
    | (show RS _ _ _ _ _ _ _ _; first | (refine nxRS ?_) | (refine nxRS1 fun _ => ?_))
    | (show RM _ _ _ _ _ _ _ _ _ _; first | (refine nxRM ?_) | (refine nxRM1 fun _ => ?_))
    | (refine nxG ?_)
    | (refine nxVS ?_)
    | (refine nxGS ?_)
    | (refine nxX ?_)
    | (refine G.condN rfl (fun hc => ?_) (fun hc => ?_) <;> (try first | exact False.elim hc | (exfalso; omega))))
    refine X.ret (vs := [_]) rfl ⟨rfl, rfl⟩ rfl (fun w hw => ⟨ret_bool ?_, hw.ext⟩)
    rw [allP_t (fun k hk => g2 k (by omega))]
    simp
theorem and_ff (x : Bool) : ¬ ((x && false) = true) := by simp
def nameB (l : List UInt8) : Bool := decide ((l.length : Int) ≤ 20) && allP wordB l && letterB (nth l 0).toNat
theorem isName_c (l : List UInt8) (hl : l.length ≤ 1000000) : Cont Tryd.prog 32 [strV l] (.bool (nameB l)) := fun w => by
  have q1 := all_c wordB word_c (by decide +kernel) l hl
  have q2 := letter_c ((nth l 0).toNat : Int)
  have hne : allP wordB l = true → 0 < l.length := fun h => by
    cases l with
    | nil => cases h
    | cons b r => simp
  refine enter0 Tryd.func32 rfl rfl rfl ?_
  cases hb : allP wordB l with
  | true =>
    rw [hb] at q1
    have := hne hb
    repeat' (first
    | (show YK _ _ _ _ _ _ _; first | refine YK.mk (y_callA (q1) ⟨rfl, rfl, rfl⟩) ?_ | refine YK.mk (y_callA (q2) ⟨rfl, rfl⟩) ?_)
    | (show YK _ _ _ _ _ _ _; refine YK.ofV vAuto ?_)
    | (show VK _ _ _ _ _ _ _; refine VK.mk vAuto ?_)
    | (show RS _ _ _ _ _ _ _ _; first | (refine nxRS ?_) | (refine nxRS1 fun _ => ?_))
    | (show RM _ _ _ _ _ _ _ _ _ _; first | (refine nxRM ?_) | (refine nxRM1 fun _ => ?_))
    | (show YG _ _ _ _ _ _ _ _; refine YG.mk (fun hb => by (try (have hc := And.left hb; have hb := And.right hb; rw [hc])); (try rw [hb]); first | exact (y_callA (q1) ⟨rfl, rfl, rfl⟩) | exact (y_callA (q2) ⟨rfl, rfl⟩) | exact V.y vAuto) ?_)
    | (show VG _ _ _ _ _ _ _ _; refine VG.mk (fun hb => by (try (have hc := And.left hb; have hb := And.right hb; rw [hc])); (try rw [hb]); exact vAuto) ?_)
    | (refine nxVS ?_)
    | (refine nxGS ?_)
    | (refine nxX ?_)
    | (refine G.condN rfl (fun hc => ?_) (fun hc => ?_) <;> (try first | exact False.elim hc | (exfalso; omega))))
    refine X.ret (vs := [_]) rfl ⟨rfl, rfl⟩ rfl (fun w hw => ⟨ret_bool ?_, hw.ext⟩)
    simp [nameB, hb]
  | false =>
    rw [hb] at q1
    repeat' (first
    | (show YG _ _ _ _ _ _ _ _; refine YG.mk (v := .bool false) (fun hb => absurd hb (and_ff _)) ?_)
    | (show VG _ _ _ _ _ _ _ _; refine VG.mk (v := .bool false) (fun hb => absurd hb (and_ff _)) ?_)
    | (show YK _ _ _ _ _ _ _; first | refine YK.mk (y_callA (q1) ⟨rfl, rfl, rfl⟩) ?_ | refine YK.mk (y_callA (q2) ⟨rfl, rfl⟩) ?_)
    | (show YK _ _ _ _ _ _ _; refine YK.ofV vAuto ?_)
    | (show VK _ _ _ _ _ _ _; refine VK.mk vAuto ?_)
    | (show RS _ _ _ _ _ _ _ _; first | (refine nxRS ?_) | (refine nxRS1 fun _ => ?_))
    | (show RM _ _ _ _ _ _ _ _ _ _; first | (refine nxRM ?_) | (refine nxRM1 fun _ => ?_))
    | (show YG _ _ _ _ _ _ _ _; refine YG.mk (fun hb => by (try (have hc := And.left hb; have hb := And.right hb; rw [hc])); (try rw [hb]); first | exact (y_callA (q1) ⟨rfl, rfl, rfl⟩) | exact (y_callA (q2) ⟨rfl, rfl⟩) | exact V.y vAuto) ?_)
    | (show VG _ _ _ _ _ _ _ _; refine VG.mk (fun hb => by (try (have hc := And.left hb; have hb := And.right hb; rw [hc])); (try rw [hb]); exact vAuto) ?_)
    | (refine nxVS ?_)
    | (refine nxGS ?_)
    | (refine nxX ?_)
    | (refine G.condN rfl (fun hc => ?_) (fun hc => ?_) <;> (try first | exact False.elim hc | (exfalso; omega))))
    refine X.ret (vs := [_]) rfl ⟨rfl, rfl⟩ rfl (fun w hw => ⟨ret_bool ?_, hw.ext⟩)
    simp [nameB, hb]
def numB (s : StarT) : Bool := decide (0 ≤ s.2.1) && decide (s.2.1 ≤ 215999) && decide (-54000 ≤ s.2.2.1) && decide (s.2.2.1 ≤ 54000) && decide (-20 ≤ s.2.2.2) && decide (s.2.2.2 ≤ 150)
theorem numbers_c (s : StarT) : Cont Tryd.prog 33 [stV s] (.bool (numB s)) := fun w => by
  refine enter0 Tryd.func33 rfl rfl rfl ?_
  repeat' (first
    | (refine nxV ?_)
    | (show RS _ _ _ _ _ _ _ _; first | (refine nxRS ?_) | (refine nxRS1 fun _ => ?_))
    | (show RM _ _ _ _ _ _ _ _ _ _; first | (refine nxRM ?_) | (refine nxRM1 fun _ => ?_))
    | (refine nxG ?_)
    | (refine nxVS ?_)
    | (refine nxGS ?_)
    | (refine nxX ?_)
    | (refine G.condN rfl (fun hc => ?_) (fun hc => ?_) <;> (try first | exact False.elim hc | (exfalso; omega))))
  refine X.ret (vs := [_]) rfl ⟨rfl, rfl⟩ rfl (fun w hw => ⟨ret_bool ?_, hw.ext⟩)
  unfold numB
  simp

/-! ### The search by a name -/
def idxS (l : List StarT) (nm : List UInt8) : Int := match (List.range l.length).find? (fun i : Nat => decide ((nth l (i : Int)).1 = nm)) with
  | some k => (k : Int)
  | none => -1
theorem findr_some {p : Nat → Bool} {m j : Nat} (hj : j < m) (h1 : ∀ k, k < j → p k = false) (h2 : p j = true) : (List.range m).find? p = some j :=
  List.find?_range_eq_some.2 ⟨h2, List.mem_range.2 hj, fun k hk => by rw [h1 k hk]; rfl⟩
theorem findr_none {p : Nat → Bool} {m : Nat} (h1 : ∀ k, k < m → p k = false) : (List.range m).find? p = none :=
  List.find?_range_eq_none.2 fun k hk => by rw [h1 k hk]; rfl
abbrev boxS (B : Nat) : Value := .slice (some ⟨B, 0, none⟩) 1 1
abbrev c1S (v : Value) : List Value := [v]
theorem boxS_of {w0 w : World} {H : List Hl} {b : Nat} {t : TypeId} {v : Value} (hw : St w0 H w) (hm : Hl.blk b t [v] ∈ H) : RO w (boxS b) 1 1 [v] := by
  refine ⟨rfl, some ⟨b, 0, none⟩, 1, rfl, Nat.le_refl _, fun _ => ⟨_, rfl, fun j u hu => ?_⟩, fun g => by cases g⟩
  match j, hu with
  | 0, hu => exact (hw.cell hm 0).trans hu
theorem boxS_m (xv : Value) : (0 : Int) ≤ 0 ∧ (0 : Int) < ([xv].length : Nat) := ⟨by decide, by simp⟩
theorem index1_c (B : Nat) (s : StarT) (nm : List UInt8) : ContIn Tryd.prog (fun w => RO w (boxS B) 1 1 [strV nm]) 65 ([stV s] ++ (#[.pointer (some ⟨B, 0, none⟩)] : Array Value).toList) (.bool (decide (s.1 = nm))) := fun w hw0 => by
  refine enter Tryd.func65 rfl rfl rfl (Hp := [Hl.rd (boxS B) c1S 1 [strV nm]]) (fun h hm => by
    rcases List.mem_singleton.1 hm with rfl
    exact ⟨⟨hw0, fun h => by cases h⟩, rfl⟩) ?_
  repeat' (first
    | (show YK _ _ _ _ _ ⟨_, .load 9 (.tmp 1), _, _, _, _⟩ _; refine YK.ofV (y_loadEl (inst := ⟨strV nm⟩) (u := strV nm) (v := boxS B) (s := 1) (m := 0) (i := 0) (f := c1S) (l := [strV nm]) (by rfl) (by exact rdA) (fun _ => rfl) (boxS_m _) (by rfl) (by rfl) (by decide +kernel)) ?_)
    | (refine nxV ?_)
    | (show RS _ _ _ _ _ _ _ _; first | (refine nxRS ?_) | (refine nxRS1 fun _ => ?_))
    | (show RM _ _ _ _ _ _ _ _ _ _; first | (refine nxRM ?_) | (refine nxRM1 fun _ => ?_))
    | (refine nxG ?_)
    | (refine nxVS ?_)
    | (refine nxGS ?_)
    | (refine nxX ?_)
    | (refine G.condN rfl (fun hc => ?_) (fun hc => ?_) <;> (try first | exact False.elim hc | (exfalso; omega))))
  exact X.ret (vs := [_]) rfl ⟨rfl, rfl⟩ rfl (fun w hw => ⟨rfl, hw.ext⟩)
theorem indexFS_c (B : Nat) (nm : List UInt8) (v : Value) (l : List StarT) (hl : l.length ≤ 1000000) :
    ContIn Tryd.prog (fun w => RO w v 4 l.length (l.flatMap cSt) ∧ RO w (boxS B) 1 1 [strV nm]) 61 [v, .func (.func 65) #[] #[.pointer (some ⟨B, 0, none⟩)]] (.int .i64 (idxS l nm)) := fun w hw0 => by
  refine enter Tryd.func61 rfl rfl rfl (Hp := [Hl.rd v cSt 4 l, Hl.rd (boxS B) c1S 1 [strV nm]]) (fun h hm => by
    rcases List.mem_cons.1 hm with rfl | hm
    · exact ⟨⟨hw0.1, fun h => by cases h⟩, rfl⟩
    rcases List.mem_singleton.1 hm with rfl
    exact ⟨⟨hw0.2, fun h => by cases h⟩, rfl⟩) ?_
  repeat' (first
    | (refine nxV ?_)
    | (show RS _ _ _ _ _ _ _ _; first | (refine nxRS ?_) | (refine nxRS1 fun _ => ?_))
    | (show RM _ _ _ _ _ _ _ _ _ _; first | (refine nxRM ?_) | (refine nxRM1 fun _ => ?_))
    | (refine nxG ?_)
    | (refine nxX ?_)
    | (refine G.condN rfl (fun hc => ?_) (fun hc => ?_) <;> (try first | exact False.elim hc | (exfalso; omega))))
  refine G.loop (ι := Nat) (fun i => [(0, v), (1, .func (.func 65) #[] #[.pointer (some ⟨B, 0, none⟩)]), (7, .int .i64 l.length), (8, .int .i64 (i : Int))]) (fun _ => [Hl.rd v cSt 4 l, Hl.rd (boxS B) c1S 1 [strV nm]]) (fun i => i ≤ l.length ∧ ∀ k : Nat, k < i → decide ((nth l (k : Int)).1 = nm) = false) (fun i => l.length - i) 0 ⟨by omega, fun k hk => by omega⟩ ⟨rfl, rfl, rfl, rfl, trivial⟩ (fun w h => h) ?_
  rintro i mx ⟨g1, g2⟩ hmx
  have hr : idxS l nm = match (List.range l.length).find? (fun i : Nat => decide ((nth l (i : Int)).1 = nm)) with
    | some k => (k : Int)
    | none => -1 := rfl
  rcases Nat.lt_or_ge i l.length with hi | hi
  · have q1 := index1_c B (nth l (i : Int)) nm
    cases hb : decide ((nth l (i : Int)).1 = nm) with
    | true =>
      rw [hb] at q1
      repeat' (first
    | (show YK _ _ _ _ _ ⟨_, .call { callee := .value _, args := _, argTypes := _ }, _, _, _, _⟩ _; refine YK.mk (y_callV (f := 65) (by rfl) q1 (fun w hw => (hw.all _ (List.Mem.tail _ (List.Mem.head _))).1) ⟨rfl, rfl⟩ (by decide +kernel)) ?_)
    | (refine nxV ?_)
    | (show RS _ _ _ _ _ _ _ _; first | (refine nxRS ?_) | (refine nxRS1 fun _ => ?_))
    | (show RM _ _ _ _ _ _ _ _ _ _; first | (refine nxRM ?_) | (refine nxRM1 fun _ => ?_))
    | (refine nxG ?_)
    | (refine nxVS ?_)
    | (refine nxGS ?_)
    | (refine nxX ?_)
    | (refine G.condN rfl (fun hc => ?_) (fun hc => ?_) <;> (try first | exact False.elim hc | (exfalso; omega))))
      rw [findr_some hi g2 hb] at hr
      exact X.ret (vs := [_]) rfl ⟨rfl, rfl⟩ rfl (fun w hw => ⟨ret_int hr.symm, hw.ext⟩)
    | false =>
      rw [hb] at q1
      repeat' (first
    | (show YK _ _ _ _ _ ⟨_, .call { callee := .value _, args := _, argTypes := _ }, _, _, _, _⟩ _; refine YK.mk (y_callV (f := 65) (by rfl) q1 (fun w hw => (hw.all _ (List.Mem.tail _ (List.Mem.head _))).1) ⟨rfl, rfl⟩ (by decide +kernel)) ?_)
    | (refine nxV ?_)
    | (show RS _ _ _ _ _ _ _ _; first | (refine nxRS ?_) | (refine nxRS1 fun _ => ?_))
    | (show RM _ _ _ _ _ _ _ _ _ _; first | (refine nxRM ?_) | (refine nxRM1 fun _ => ?_))
    | (refine nxG ?_)
    | (refine nxVS ?_)
    | (refine nxGS ?_)
    | (refine nxX ?_)
    | (refine G.condN rfl (fun hc => ?_) (fun hc => ?_) <;> (try first | exact False.elim hc | (exfalso; omega))))
      refine X.again (i + 1) ⟨by omega, fun k hk => ?_⟩ (by omega) ⟨rfl, rfl, rfl, rfl, trivial⟩ (by exact fun w h => h.sub (by repeat (first | exact List.Sublist.refl _ | apply List.Sublist.cons_cons | apply List.Sublist.cons)))
      rcases Nat.lt_or_ge k i with h | h
      · exact g2 k h
      · rw [show k = i by omega]; exact hb
  · repeat' (first
    | (refine nxV ?_)
    | (show RS _ _ _ _ _ _ _ _; first | (refine nxRS ?_) | (refine nxRS1 fun _ => ?_))
    | (show RM _ _ _ _ _ _ _ _ _ _; first | (refine nxRM ?_) | (refine nxRM1 fun _ => ?_))
    | (refine nxG ?_)
    | (refine nxX ?_)
    | (refine G.condN rfl (fun hc => ?_) (fun hc => ?_) <;> (try first | exact False.elim hc | (exfalso; omega))))
    rw [findr_none (fun k hk => g2 k (by omega))] at hr
    exact X.ret (vs := [_]) rfl ⟨rfl, rfl⟩ rfl (fun w hw => ⟨ret_int hr.symm, hw.ext⟩)
theorem index_c (nm : List UInt8) (v : Value) (l : List StarT) (hl : l.length ≤ 1000000) : ContR Tryd.prog [Hl.rd v cSt 4 l] 34 [v, strV nm] (.int .i64 (idxS l nm)) := fun w hw0 => by
  have q1 := fun B => indexFS_c B nm v l hl
  refine enter Tryd.func34 rfl rfl rfl hw0 ?_
  repeat' (first
    | (show YK _ _ _ _ _ ⟨_, .call { callee := .value _, args := _, argTypes := _ }, _, _, _, _⟩ _; refine YK.mk (y_callIn (q1 _) (fun w hw => ⟨(hw.all _ (List.Mem.tail _ (List.Mem.head _))).1, boxS_of hw (List.Mem.head _)⟩) ⟨rfl, rfl, rfl⟩ (by decide +kernel)) ?_)
    | (refine nxV ?_)
    | (show RS _ _ _ _ _ _ _ _; first | (refine nxRS ?_) | (refine nxRS1 fun _ => ?_))
    | (show RM _ _ _ _ _ _ _ _ _ _; first | (refine nxRM ?_) | (refine nxRM1 fun _ => ?_))
    | (refine nxG ?_)
    | (refine nxVS ?_)
    | (refine nxGS ?_)
    | (refine nxX ?_)
    | (refine G.condN rfl (fun hc => ?_) (fun hc => ?_) <;> (try first | exact False.elim hc | (exfalso; omega))))
  exact X.ret (vs := [_]) rfl ⟨rfl, rfl⟩ rfl (fun w hw => ⟨rfl, hw.ext⟩)
end Go.Proofs.YtaglecidaedjfaaDoor
