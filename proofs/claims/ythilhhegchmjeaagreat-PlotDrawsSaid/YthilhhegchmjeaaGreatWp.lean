/- Joined texts: Sh, Pix, Draw, Lin1, Val, Drw2, Line, Line2, RepY, New, Txt, RowL, Mark. -/
import Derived.Test.YthilhhegchmjeaaGreatWn
import Derived.Test.YthilhhegchmjeaaGreatWb
import Derived.Test.YthilhhegchmjeaaGreatWa
import Derived.Test.YthilhhegchmjeaaGreatShelf
import Derived.Lib.MakeNoZero
import Derived.Test.YthilhhegchmjeaaGreatJoinLay
/- A sheet that is only read: floor, size, one, middle, has, offset, marks. -/
set_option linter.unusedVariables false
set_option maxHeartbeats 8000000
namespace Go.Proofs.YthilhhegchmjeaaGreat
open Go.RowKit
theorem y_nePtr1 {P : Program} {n : Nat} {L : FL} {w0 : World} {H : List Hl} {d : Option Tmp} {ty : TypeId} {pos : String} {af : Array Edge} {g : Option (Nat × Bool)} {x y : Operand} {t t' e : TypeId} {a0 : Addr} (hx : evO L x = some (.pointer (some a0))) (hy : evO L y = some (.pointer none)) (ht : P.underlying t = some (.pointer e)) : V P n L w0 H ⟨d, .binOp .neq t x y t', ty, pos, af, g⟩ (.bool true) := by
  unfold V
  intro a w ha hw
  have h : ∀ k : Nat, (Op.equalIn (k + 1) t (.pointer (some a0)) (.pointer none)).run P w = .ok false w := fun k => by simp [Op.equalIn, run_underlying ht]
  simp [execOp, ha.eval hx, ha.eval hy, eqGuard, binOp, Op.equal, Op.maxDepth, h 9999]
theorem y_nePtr0 {P : Program} {n : Nat} {L : FL} {w0 : World} {H : List Hl} {d : Option Tmp} {ty : TypeId} {pos : String} {af : Array Edge} {g : Option (Nat × Bool)} {x y : Operand} {t t' e : TypeId} (hx : evO L x = some (.pointer none)) (hy : evO L y = some (.pointer none)) (ht : P.underlying t = some (.pointer e)) : V P n L w0 H ⟨d, .binOp .neq t x y t', ty, pos, af, g⟩ (.bool false) := by
  unfold V
  intro a w ha hw
  have h : ∀ k : Nat, (Op.equalIn (k + 1) t (.pointer none) (.pointer none)).run P w = .ok true w := fun k => by simp [Op.equalIn, run_underlying ht]
  simp [execOp, ha.eval hx, ha.eval hy, eqGuard, binOp, Op.equal, Op.maxDepth, h 9999]
theorem sh_ptr : Tryz.prog.underlying 35 = some (.pointer 62) := by kernel_rfl
theorem floor_eq {n d : Int} (h : 0 < d) : (n.tmod d < 0 → n.tdiv d - 1 = n / d ∧ n.tmod d + d = n % d ∧ n < 0) ∧ (0 ≤ n.tmod d → n.tdiv d = n / d ∧ n.tmod d = n % d) := by
  have e1 := Int.tdiv_eq_ediv (a := n) (b := d)
  have e2 := Int.tmod_eq_emod (a := n) (b := d)
  have e3 := Int.emod_nonneg n (show d ≠ 0 by omega)
  have e4 := Int.emod_lt_of_pos n h
  have e5 := Int.sign_eq_one_of_pos h
  by_cases hc : 0 ≤ n ∨ d ∣ n
  · rw [if_pos hc] at e1 e2
    exact ⟨fun g => by omega, fun _ => by omega⟩
  · rw [if_neg hc] at e1 e2
    have hn : n < 0 := Int.not_le.1 fun g => hc (.inl g)
    exact ⟨fun _ => by omega, fun g => by omega⟩
theorem ediv_in {a b k : Int} (hb : 0 < b) (h1 : -k ≤ a) (h2 : a ≤ k) : -k ≤ a / b ∧ a / b ≤ k := by
  have hk : 0 ≤ k := by omega
  have hkb : k * 1 ≤ k * b := Int.mul_le_mul_of_nonneg_left (by omega) hk
  refine ⟨(Int.le_ediv_iff_mul_le hb).2 ?_, Int.ediv_le_of_le_mul hb (by omega)⟩
  rw [Int.neg_mul]; omega
/-- The floor of a quotient by a positive number. -/
theorem pfloor_c {n d : Int} (h : (-4611686018427387904 ≤ n ∧ n ≤ 4611686018427387904) ∧ 0 < d) : Cont Tryz.prog 24 [.int .i64 n, .int .i64 d] (.int .i64 (n / d)) := fun w => by
  have e5 := ediv_in (k := 4611686018427387904) h.2 h.1.1 h.1.2
  refine enter0 Tryz.func24 rfl rfl rfl ?_
  repeat' (first
    | (refine nxV ?_)
    | (show RS _ _ _ _ _ _ _ _; first | (refine nxRS ?_) | (refine nxRS1 fun _ => ?_))
    | (show RM _ _ _ _ _ _ _ _ _ _; first | (refine nxRM ?_) | (refine nxRM1 fun _ => ?_))
    | (refine nxG ?_)
    | (refine nxX ?_)
    | (refine G.condN rfl (fun hc => ?_) (fun hc => ?_) <;> (try first | exact False.elim hc | (exfalso; omega))))
  · obtain ⟨g1, g2, g3⟩ := (floor_eq h.2).1 hc
    have g4 := Int.ediv_neg_of_neg_of_pos g3 h.2
    exact X.ret (vs := [_]) rfl ⟨rfl, rfl⟩ rfl (fun w hw => ⟨by rw [IntWalk.i64_in (n.tdiv d) (by omega), IntWalk.i64_in (n.tdiv d - 1) (by omega), g1], hw.ext⟩)
  · obtain ⟨g1, g2⟩ := (floor_eq h.2).2 hc
    exact X.ret (vs := [_]) rfl ⟨rfl, rfl⟩ rfl (fun w hw => ⟨by rw [IntWalk.i64_in (n.tdiv d) (by omega), g1], hw.ext⟩)
theorem psize_c {a : Int} (ha : -4611686018427387904 ≤ a ∧ a ≤ 4611686018427387904) : Cont Tryz.prog 30 [.int .i64 a] (.int .i64 (max a (-a))) := fun w => by
  refine enter0 Tryz.func30 rfl rfl rfl ?_
  repeat' (first
    | (refine nxV ?_)
    | (show RS _ _ _ _ _ _ _ _; first | (refine nxRS ?_) | (refine nxRS1 fun _ => ?_))
    | (show RM _ _ _ _ _ _ _ _ _ _; first | (refine nxRM ?_) | (refine nxRM1 fun _ => ?_))
    | (refine nxG ?_)
    | (refine nxX ?_)
    | (refine G.condN rfl (fun hc => ?_) (fun hc => ?_) <;> (try first | exact False.elim hc | (exfalso; omega))))
  exact X.ret (vs := [_]) rfl ⟨rfl, rfl⟩ rfl (fun w hw => ⟨rfl, hw.ext⟩)
theorem pone_c {a : Int} : Cont Tryz.prog 23 [.int .i64 a] (arcV a a) := fun w => by
  refine enter0 Tryz.func23 rfl rfl rfl ?_
  repeat' (first
    | (refine nxV ?_)
    | (show RS _ _ _ _ _ _ _ _; first | (refine nxRS ?_) | (refine nxRS1 fun _ => ?_))
    | (show RM _ _ _ _ _ _ _ _ _ _; first | (refine nxRM ?_) | (refine nxRM1 fun _ => ?_))
    | (refine nxG ?_)
    | (refine nxX ?_)
    | (refine G.condN rfl (fun hc => ?_) (fun hc => ?_) <;> (try first | exact False.elim hc | (exfalso; omega))))
  exact X.ret (vs := [_]) rfl ⟨⟨_, _, _, _, rfl, (by exact memA), (by (repeat (first | exact .nil | apply LenIs.cons))), by decide +kernel, rfl⟩, rfl⟩ rfl (fun w hw => ⟨rfl, hw.ext⟩)
instance : Inhabited Sl := ⟨⟨none, 0, 0⟩⟩
abbrev cSl (x : Sl) : List Value := [x.v]
/-- The sheet's cells: the center, the scale, the cosine, the rows. -/
abbrev shC (la lo u cs : Int) (z : Value) : List Value := [.int .i64 la, .int .i64 lo, .int .i64 u, .int .i64 cs, z]
/-- A sheet that can be read: its block, and its rows' headers (each of width wd). -/
structure ShR (b : Nat) (la lo u cs : Int) (z : Sl) (rows : List Sl) (wd : Nat) (w : World) : Prop where
  cell : ∀ k v, (shC la lo u cs z.v)[k]? = some v → w.cell? ⟨b, k, none⟩ = some v
  rows : RO w z.v 1 rows.length (rows.flatMap cSl)
theorem RO.stay {w w' : World} {v : Value} {s n : Nat} {xs : List Value} (h : RO w v s n xs) (hb : Below w.heap.size w w') : RO w' v s n xs :=
  (Hl.keep (h := .ro false v s n xs) (base := 0) ⟨h, fun g => by cases g⟩ fun b ho => hb.block b (Hl.lt (h := .ro false v s n xs) (base := 0) ⟨h, fun g => by cases g⟩ ho)).1
theorem ShR.keep {b : Nat} {la lo u cs : Int} {z : Sl} {rows : List Sl} {wd : Nat} {w w' : World} (h : ShR b la lo u cs z rows wd w) (hw : Below w.heap.size w w') : ShR b la lo u cs z rows wd w' := by
  refine ⟨fun k v hk => ?_, h.rows.stay hw⟩
  have h1 := h.cell k v hk
  have hlt := World.block_lt_of_cell? w _ h1
  exact (World.cell?_of_block (w := w) (hw.block b hlt)).trans h1
abbrev ptS (b : Nat) : Value := .pointer (some ⟨b, 0, none⟩)
section
variable {b : Nat} {la lo u cs : Int} {z : Sl} {rows : List Sl} {wd : Nat}
theorem middle_c (hr : 1 ≤ rows.length ∧ rows.length ≤ 1000) (hw : (nth rows 0).n = wd) (hw1 : 1 ≤ wd ∧ wd ≤ 1000) : ContIn Tryz.prog (ShR b la lo u cs z rows wd) 52 [ptS b] (.tuple [.int .i64 (((wd : Int) - 1) / 2), .int .i64 (((rows.length : Int) - 1) / 2)].toArray) := fun w hs => by
  have hcl := hs.cell
  refine enter Tryz.func52 rfl rfl rfl (Hp := [Hl.rd z.v cSl 1 rows]) (fun h hm => by
    rcases List.mem_singleton.1 hm with rfl
    exact ⟨⟨hs.rows, fun h => by cases h⟩, rfl⟩) ?_
  repeat' (first
    | (refine nxN ?_)
    | (show VK _ _ _ _ _ ⟨_, .load 36 _, _, _, _, _⟩ _; refine VK.mk (y_loadX (by rfl) (hcl _ _ (by rfl)) (by decide +kernel)) ?_)
    | (show YK _ _ _ _ _ ⟨_, .load 36 _, _, _, _, _⟩ _; refine YK.ofV (y_loadX (by rfl) (hcl _ _ (by rfl)) (by decide +kernel)) ?_)
    | (show VG _ _ _ _ _ _ ⟨_, .load 36 _, _, _, _, _⟩ _; refine VG.mk (fun hb => by (try (have hc := And.left hb; have hb := And.right hb; rw [hc])); (try rw [hb]); exact y_loadX (by rfl) (hcl _ _ (by rfl)) (by decide +kernel)) ?_)
    | (show YG _ _ _ _ _ _ ⟨_, .load 36 _, _, _, _, _⟩ _; refine YG.mk (fun hb => by (try (have hc := And.left hb; have hb := And.right hb; rw [hc])); (try rw [hb]); exact V.y (y_loadX (by rfl) (hcl _ _ (by rfl)) (by decide +kernel))) ?_)
    | (show VK _ _ _ _ _ ⟨_, .call { callee := .builtin .len, args := _, argTypes := #[85] }, _, _, _, _⟩ _; refine VK.mk (y_lenV (by rfl) (by decide +kernel)) ?_)
    | (show YK _ _ _ _ _ ⟨_, .call { callee := .builtin .len, args := _, argTypes := #[85] }, _, _, _, _⟩ _; refine YK.ofV (y_lenV (by rfl) (by decide +kernel)) ?_)
    | (show VG _ _ _ _ _ _ ⟨_, .call { callee := .builtin .len, args := _, argTypes := #[85] }, _, _, _, _⟩ _; refine VG.mk (fun hb => by (try (have hc := And.left hb; have hb := And.right hb; rw [hc])); (try rw [hb]); exact y_lenV (by rfl) (by decide +kernel)) ?_)
    | (show YG _ _ _ _ _ _ ⟨_, .call { callee := .builtin .len, args := _, argTypes := #[85] }, _, _, _, _⟩ _; refine YG.mk (fun hb => by (try (have hc := And.left hb; have hb := And.right hb; rw [hc])); (try rw [hb]); exact V.y (y_lenV (by rfl) (by decide +kernel))) ?_)
    | (refine nxV ?_)
    | (show RS _ _ _ _ _ _ _ _; first | (refine nxRS ?_) | (refine nxRS1 fun _ => ?_))
    | (show RM _ _ _ _ _ _ _ _ _ _; first | (refine nxRM ?_) | (refine nxRM1 fun _ => ?_))
    | (refine nxG ?_)
    | (refine G.mixedA 1 [.go 0, .go 1, .go 2, .go 3, .go 4, .go 5, .go 6, .go 7, .go 8, .go 9, .go 10, .go 11, .go 12, .go 13, .go 14, .go 15, .go 16, .go 17] ?_)
    | (refine nxX ?_)
    | (refine G.condN rfl (fun hc => ?_) (fun hc => ?_) <;> (try first | exact False.elim hc | (exfalso; omega))))
  refine X.ret (vs := [_, _]) rfl ⟨rfl, rfl, rfl⟩ rfl (fun w hw' => ⟨?_, hw'.ext⟩)
  have e2 : ((rows.length : Int) - 1).tdiv 2 = ((rows.length : Int) - 1) / 2 := Int.tdiv_eq_ediv_of_nonneg (by omega)
  rw [← e2, ← hw]
/-- Is there a pixel? -/
def hasI (wd h : Int) (i j : Int) : Bool := decide (0 ≤ j) && decide (j < h) && decide (0 ≤ i) && decide (i < wd)
theorem has_c {i j : Int} (hr : 1 ≤ rows.length ∧ rows.length ≤ 1000) (hw : (nth rows 0).n = wd) : ContIn Tryz.prog (ShR b la lo u cs z rows wd) 54 [ptS b, .int .i64 i, .int .i64 j] (.bool (hasI wd rows.length i j)) := fun w hs => by
  have hcl := hs.cell
  refine enter Tryz.func54 rfl rfl rfl (Hp := [Hl.rd z.v cSl 1 rows]) (fun h hm => by
    rcases List.mem_singleton.1 hm with rfl
    exact ⟨⟨hs.rows, fun h => by cases h⟩, rfl⟩) ?_
  repeat' (first
    | (refine nxN ?_)
    | (show VK _ _ _ _ _ ⟨_, .load 36 _, _, _, _, _⟩ _; refine VK.mk (y_loadX (by rfl) (hcl _ _ (by rfl)) (by decide +kernel)) ?_)
    | (show YK _ _ _ _ _ ⟨_, .load 36 _, _, _, _, _⟩ _; refine YK.ofV (y_loadX (by rfl) (hcl _ _ (by rfl)) (by decide +kernel)) ?_)
    | (show VG _ _ _ _ _ _ ⟨_, .load 36 _, _, _, _, _⟩ _; refine VG.mk (fun hb => by (try (have hc := And.left hb; have hb := And.right hb; rw [hc])); (try rw [hb]); exact y_loadX (by rfl) (hcl _ _ (by rfl)) (by decide +kernel)) ?_)
    | (show YG _ _ _ _ _ _ ⟨_, .load 36 _, _, _, _, _⟩ _; refine YG.mk (fun hb => by (try (have hc := And.left hb; have hb := And.right hb; rw [hc])); (try rw [hb]); exact V.y (y_loadX (by rfl) (hcl _ _ (by rfl)) (by decide +kernel))) ?_)
    | (show VK _ _ _ _ _ ⟨_, .call { callee := .builtin .len, args := _, argTypes := #[85] }, _, _, _, _⟩ _; refine VK.mk (y_lenV (by rfl) (by decide +kernel)) ?_)
    | (show YK _ _ _ _ _ ⟨_, .call { callee := .builtin .len, args := _, argTypes := #[85] }, _, _, _, _⟩ _; refine YK.ofV (y_lenV (by rfl) (by decide +kernel)) ?_)
    | (show VG _ _ _ _ _ _ ⟨_, .call { callee := .builtin .len, args := _, argTypes := #[85] }, _, _, _, _⟩ _; refine VG.mk (fun hb => by (try (have hc := And.left hb; have hb := And.right hb; rw [hc])); (try rw [hb]); exact y_lenV (by rfl) (by decide +kernel)) ?_)
    | (show YG _ _ _ _ _ _ ⟨_, .call { callee := .builtin .len, args := _, argTypes := #[85] }, _, _, _, _⟩ _; refine YG.mk (fun hb => by (try (have hc := And.left hb; have hb := And.right hb; rw [hc])); (try rw [hb]); exact V.y (y_lenV (by rfl) (by decide +kernel))) ?_)
    | (refine nxV ?_)
    | (show RS _ _ _ _ _ _ _ _; first | (refine nxRS ?_) | (refine nxRS1 fun _ => ?_))
    | (show RM _ _ _ _ _ _ _ _ _ _; first | (refine nxRM ?_) | (refine nxRM1 fun _ => ?_))
    | (refine nxG ?_)
    | (refine nxX ?_)
    | (refine G.condN rfl (fun hc => ?_) (fun hc => ?_) <;> (try first | exact False.elim hc | (exfalso; omega))))
  exact X.ret (vs := [_]) rfl ⟨rfl, rfl⟩ rfl (fun w hw' => ⟨by rw [← hw]; rfl, hw'.ext⟩)
theorem marks_c {m : Int} (hm : 0 ≤ m ∧ m ≤ 255) : Cont Tryz.prog 21 [ptS b, .int .u8 m] (.bool (decide (33 ≤ m) && decide (m ≤ 126))) := fun w => by
  refine enter0 Tryz.func21 rfl rfl rfl ?_
  repeat' (first
    | (show YK _ _ _ _ _ ⟨_, .binOp .neq _ _ (.const (.pointer none)) _, _, _, _, _⟩ _; refine YK.ofV (y_nePtr1 rfl rfl sh_ptr) ?_)
    | (refine nxV ?_)
    | (show RS _ _ _ _ _ _ _ _; first | (refine nxRS ?_) | (refine nxRS1 fun _ => ?_))
    | (show RM _ _ _ _ _ _ _ _ _ _; first | (refine nxRM ?_) | (refine nxRM1 fun _ => ?_))
    | (refine nxG ?_)
    | (refine nxX ?_)
    | (refine G.condN rfl (fun hc => ?_) (fun hc => ?_) <;> (try first | exact False.elim hc | (exfalso; omega))))
  exact X.ret (vs := [_]) rfl ⟨rfl, rfl⟩ rfl (fun w hw => ⟨rfl, hw.ext⟩)
theorem marks0_c {m : Int} : Cont Tryz.prog 21 [.pointer none, .int .u8 m] (.bool false) := fun w => by
  refine enter0 Tryz.func21 rfl rfl rfl ?_
  repeat' (first
    | (show YK _ _ _ _ _ ⟨_, .binOp .neq _ _ (.const (.pointer none)) _, _, _, _, _⟩ _; refine YK.ofV (y_nePtr0 rfl rfl sh_ptr) ?_)
    | (refine nxV ?_)
    | (show RS _ _ _ _ _ _ _ _; first | (refine nxRS ?_) | (refine nxRS1 fun _ => ?_))
    | (show RM _ _ _ _ _ _ _ _ _ _; first | (refine nxRM ?_) | (refine nxRM1 fun _ => ?_))
    | (refine nxG ?_)
    | (refine nxX ?_)
    | (refine G.condN rfl (fun hc => ?_) (fun hc => ?_) <;> (try first | exact False.elim hc | (exfalso; omega))))
  exact X.ret (vs := [_]) rfl ⟨rfl, rfl⟩ rfl (fun w hw => ⟨rfl, hw.ext⟩)
end
end Go.Proofs.YthilhhegchmjeaaGreat
/- Pixels and points of a sheet. -/
set_option linter.unusedVariables false
set_option maxHeartbeats 8000000
namespace Go.Proofs.YthilhhegchmjeaaGreat
open Go.RowKit
/-- The same direction, from minus half a turn to half a turn. -/
def signI (n : Int) : Int := if TT.turnI n ≥ 10800000 then TT.turnI n - 21600000 else TT.turnI n
theorem wrap_c {n : Int} (h : -4611686018427387904 ≤ n ∧ n ≤ 4611686018427387904) : Cont Tryz.prog 88 [.int .i64 n] (.int .i64 (TT.turnI n)) := fun w => by
  have ht := tmod_turn n
  have hb : -21600000 < n.tmod 21600000 ∧ n.tmod 21600000 < 21600000 := by omega
  refine enter0 Tryz.func88 rfl rfl rfl ?_
  repeat' (first
    | (refine nxV ?_)
    | (show RS _ _ _ _ _ _ _ _; first | (refine nxRS ?_) | (refine nxRS1 fun _ => ?_))
    | (show RM _ _ _ _ _ _ _ _ _ _; first | (refine nxRM ?_) | (refine nxRM1 fun _ => ?_))
    | (refine nxG ?_)
    | (refine nxX ?_)
    | (refine G.condN rfl (fun hc => ?_) (fun hc => ?_) <;> (try first | exact False.elim hc | (exfalso; omega))))
  all_goals refine X.ret (vs := [_]) rfl ⟨rfl, rfl⟩ rfl (fun w hw => ⟨congrArg Ending.returned (congrArg (Value.int .i64) ?_), hw.ext⟩)
  all_goals (unfold TT.turnI; omega)
theorem signed_c {n : Int} (h : -4611686018427387904 ≤ n ∧ n ≤ 4611686018427387904) : Cont Tryz.prog 53 [.int .i64 n] (.int .i64 (signI n)) := fun w => by
  have q1 := wrap_c h
  have hb := TT.turnI_bd n
  unfold signI
  generalize TT.turnI n = m at *
  by_cases hc : m ≥ 10800000
  · rw [if_pos hc]
    refine enter0 Tryz.func53 rfl rfl rfl ?_
    repeat' (first
    | (show YK _ _ _ _ _ _ _; first | refine YK.mk (y_callA (q1) ⟨rfl, rfl⟩) ?_)
    | (show YK _ _ _ _ _ _ _; refine YK.ofV vAuto ?_)
    | (show VK _ _ _ _ _ _ _; refine VK.mk vAuto ?_)
    | (show RS _ _ _ _ _ _ _ _; first | (refine nxRS ?_) | (refine nxRS1 fun _ => ?_))
    | (show RM _ _ _ _ _ _ _ _ _ _; first | (refine nxRM ?_) | (refine nxRM1 fun _ => ?_))
    | (show YG _ _ _ _ _ _ _ _; refine YG.mk (fun hb => by (try (have hc := And.left hb; have hb := And.right hb; rw [hc])); (try rw [hb]); first | exact (y_callA (q1) ⟨rfl, rfl⟩) | exact V.y vAuto) ?_)
    | (show VG _ _ _ _ _ _ _ _; refine VG.mk (fun hb => by (try (have hc := And.left hb; have hb := And.right hb; rw [hc])); (try rw [hb]); exact vAuto) ?_)
    | (refine nxX ?_)
    | (refine G.condN rfl (fun hc => ?_) (fun hc => ?_) <;> (try first | exact False.elim hc | (exfalso; omega))))
    exact X.ret (vs := [_]) rfl ⟨rfl, rfl⟩ rfl (fun w hw => ⟨rfl, hw.ext⟩)
  · rw [if_neg hc]
    refine enter0 Tryz.func53 rfl rfl rfl ?_
    repeat' (first
    | (show YK _ _ _ _ _ _ _; first | refine YK.mk (y_callA (q1) ⟨rfl, rfl⟩) ?_)
    | (show YK _ _ _ _ _ _ _; refine YK.ofV vAuto ?_)
    | (show VK _ _ _ _ _ _ _; refine VK.mk vAuto ?_)
    | (show RS _ _ _ _ _ _ _ _; first | (refine nxRS ?_) | (refine nxRS1 fun _ => ?_))
    | (show RM _ _ _ _ _ _ _ _ _ _; first | (refine nxRM ?_) | (refine nxRM1 fun _ => ?_))
    | (show YG _ _ _ _ _ _ _ _; refine YG.mk (fun hb => by (try (have hc := And.left hb; have hb := And.right hb; rw [hc])); (try rw [hb]); first | exact (y_callA (q1) ⟨rfl, rfl⟩) | exact V.y vAuto) ?_)
    | (show VG _ _ _ _ _ _ _ _; refine VG.mk (fun hb => by (try (have hc := And.left hb; have hb := And.right hb; rw [hc])); (try rw [hb]); exact vAuto) ?_)
    | (refine nxX ?_)
    | (refine G.condN rfl (fun hc => ?_) (fun hc => ?_) <;> (try first | exact False.elim hc | (exfalso; omega))))
    exact X.ret (vs := [_]) rfl ⟨rfl, rfl⟩ rfl (fun w hw => ⟨rfl, hw.ext⟩)
theorem signI_bd (n : Int) : -10800000 ≤ signI n ∧ signI n < 10800000 := by
  have := TT.turnI_bd n
  unfold signI
  split <;> omega
def pointB (la lo : Int) : Bool := decide (-5400000 ≤ la) && decide (la ≤ 5400000) && decide (-10800000 ≤ lo) && decide (lo < 10800000)
abbrev ptV (la lo : Int) : Value := .agg [.int .i64 la, .int .i64 lo].toArray
theorem vpoint_c (la lo : Int) : Cont Tryz.prog 50 [ptV la lo] (.bool (pointB la lo)) := fun w => by
  refine enter0 Tryz.func50 rfl rfl rfl ?_
  repeat' (first
    | (refine nxV ?_)
    | (show RS _ _ _ _ _ _ _ _; first | (refine nxRS ?_) | (refine nxRS1 fun _ => ?_))
    | (show RM _ _ _ _ _ _ _ _ _ _; first | (refine nxRM ?_) | (refine nxRM1 fun _ => ?_))
    | (refine nxG ?_)
    | (refine nxX ?_)
    | (refine G.condN rfl (fun hc => ?_) (fun hc => ?_) <;> (try first | exact False.elim hc | (exfalso; omega))))
  exact X.ret (vs := [_]) rfl ⟨rfl, rfl⟩ rfl (fun w hw => ⟨rfl, hw.ext⟩)
section
variable {b : Nat} {la lo u cs : Int} {z : Sl} {rows : List Sl} {wd : Nat}
/-- The sheet's numbers are in range. -/
structure ShOk (la lo u cs : Int) (rows : List Sl) (wd : Nat) : Prop where
  r1 : 1 ≤ rows.length ∧ rows.length ≤ 1000
  w0 : (nth rows 0).n = wd
  w1 : 1 ≤ wd ∧ wd ≤ 1000
  la : -5400000 ≤ la ∧ la ≤ 5400000
  lo : -10800000 ≤ lo ∧ lo < 10800000
  u : 2 ≤ u ∧ u ≤ 100000
  cs : 1 ≤ cs ∧ cs ≤ 1073741824
theorem offset_c (ok : ShOk la lo u cs rows wd) {i j : Int} (hi : -1000 ≤ i ∧ i ≤ 1000) (hj : -1000 ≤ j ∧ j ≤ 1000) : ContIn Tryz.prog (ShR b la lo u cs z rows wd) 29 [ptS b, .int .i64 i, .int .i64 j] (.tuple [.int .i64 ((i - ((wd : Int) - 1) / 2) * u), .int .i64 ((((rows.length : Int) - 1) / 2 - j) * 2 * u)].toArray) := fun w hs => by
  have hcl := hs.cell
  obtain ⟨r1, w0, w1, _, _, hu, _⟩ := ok
  have q1 := middle_c (b := b) (la := la) (lo := lo) (u := u) (cs := cs) (z := z) r1 w0 w1
  have b1 := TT.abs_mul_le (A := 2000) (u := 100000) (a := i - ((wd : Int) - 1) / 2) (t := u) (by omega) (by omega)
  have b2 := TT.abs_mul_le (A := 4000) (u := 100000) (a := (((rows.length : Int) - 1) / 2 - j) * 2) (t := u) (by omega) (by omega)
  refine enter Tryz.func29 rfl rfl rfl (Hp := [Hl.rd z.v cSl 1 rows]) (fun h hm => by
    rcases List.mem_singleton.1 hm with rfl
    exact ⟨⟨hs.rows, fun h => by cases h⟩, rfl⟩) ?_
  repeat' (first
    | (refine nxN ?_)
    | (show VK _ _ _ _ _ ⟨_, .load 36 _, _, _, _, _⟩ _; refine VK.mk (y_loadX (by rfl) (hcl _ _ (by rfl)) (by decide +kernel)) ?_)
    | (show YK _ _ _ _ _ ⟨_, .load 36 _, _, _, _, _⟩ _; refine YK.ofV (y_loadX (by rfl) (hcl _ _ (by rfl)) (by decide +kernel)) ?_)
    | (show VG _ _ _ _ _ _ ⟨_, .load 36 _, _, _, _, _⟩ _; refine VG.mk (fun hb => by (try (have hc := And.left hb; have hb := And.right hb; rw [hc])); (try rw [hb]); exact y_loadX (by rfl) (hcl _ _ (by rfl)) (by decide +kernel)) ?_)
    | (show YG _ _ _ _ _ _ ⟨_, .load 36 _, _, _, _, _⟩ _; refine YG.mk (fun hb => by (try (have hc := And.left hb; have hb := And.right hb; rw [hc])); (try rw [hb]); exact V.y (y_loadX (by rfl) (hcl _ _ (by rfl)) (by decide +kernel))) ?_)
    | (show VK _ _ _ _ _ ⟨_, .load 3 _, _, _, _, _⟩ _; refine VK.mk (y_loadX (by rfl) (hcl _ _ (by rfl)) (by decide +kernel)) ?_)
    | (show YK _ _ _ _ _ ⟨_, .load 3 _, _, _, _, _⟩ _; refine YK.ofV (y_loadX (by rfl) (hcl _ _ (by rfl)) (by decide +kernel)) ?_)
    | (show VG _ _ _ _ _ _ ⟨_, .load 3 _, _, _, _, _⟩ _; refine VG.mk (fun hb => by (try (have hc := And.left hb; have hb := And.right hb; rw [hc])); (try rw [hb]); exact y_loadX (by rfl) (hcl _ _ (by rfl)) (by decide +kernel)) ?_)
    | (show YG _ _ _ _ _ _ ⟨_, .load 3 _, _, _, _, _⟩ _; refine YG.mk (fun hb => by (try (have hc := And.left hb; have hb := And.right hb; rw [hc])); (try rw [hb]); exact V.y (y_loadX (by rfl) (hcl _ _ (by rfl)) (by decide +kernel))) ?_)
    | (show VK _ _ _ _ _ ⟨_, .call { callee := .builtin .len, args := _, argTypes := #[85] }, _, _, _, _⟩ _; refine VK.mk (y_lenV (by rfl) (by decide +kernel)) ?_)
    | (show YK _ _ _ _ _ ⟨_, .call { callee := .builtin .len, args := _, argTypes := #[85] }, _, _, _, _⟩ _; refine YK.ofV (y_lenV (by rfl) (by decide +kernel)) ?_)
    | (show VG _ _ _ _ _ _ ⟨_, .call { callee := .builtin .len, args := _, argTypes := #[85] }, _, _, _, _⟩ _; refine VG.mk (fun hb => by (try (have hc := And.left hb; have hb := And.right hb; rw [hc])); (try rw [hb]); exact y_lenV (by rfl) (by decide +kernel)) ?_)
    | (show YG _ _ _ _ _ _ ⟨_, .call { callee := .builtin .len, args := _, argTypes := #[85] }, _, _, _, _⟩ _; refine YG.mk (fun hb => by (try (have hc := And.left hb; have hb := And.right hb; rw [hc])); (try rw [hb]); exact V.y (y_lenV (by rfl) (by decide +kernel))) ?_)
    | (show YK _ _ _ _ _ ⟨_, .call { callee := .value (.func 52), args := _, argTypes := _ }, _, _, _, _⟩ _; refine YK.mk (y_callIn (q1) (fun w' hw' => hs.keep hw'.ext) ⟨rfl, rfl⟩ (by decide +kernel)) ?_)
    | (show YG _ _ _ _ _ _ ⟨_, .call { callee := .value (.func 52), args := _, argTypes := _ }, _, _, _, _⟩ _; refine YG.mk (fun hb => by (try (have hc := And.left hb; have hb := And.right hb; rw [hc])); (try rw [hb]); exact y_callIn (q1) (fun w' hw' => hs.keep hw'.ext) ⟨rfl, rfl⟩ (by decide +kernel)) ?_)
    | (refine nxV ?_)
    | (show RS _ _ _ _ _ _ _ _; first | (refine nxRS ?_) | (refine nxRS1 fun _ => ?_))
    | (show RM _ _ _ _ _ _ _ _ _ _; first | (refine nxRM ?_) | (refine nxRM1 fun _ => ?_))
    | (refine nxG ?_)
    | (refine G.mixedA 2 [.go 0, .go 1, .go 2, .go 3, .go 4, .go 5, .go 6, .go 7, .go 8, .go 9, .go 10, .go 11, .go 12, .go 13, .go 14, .go 15, .go 16, .go 17, .go 18] ?_)
    | (refine nxX ?_)
    | (refine G.condN rfl (fun hc => ?_) (fun hc => ?_) <;> (try first | exact False.elim hc | (exfalso; omega))))
  exact X.ret (vs := [_, _]) rfl ⟨rfl, rfl, rfl⟩ rfl (fun w hw => ⟨rfl, hw.ext⟩)
def colI (wd : Nat) (lo u cs plo : Int) : Int := ((wd : Int) - 1) / 2 + (2 * signI (plo - lo) * cs + u * 1073741824) / (2 * u * 1073741824)
def rowI (h : Nat) (la u pla : Int) : Int := ((h : Int) - 1) / 2 - (pla - la + u) / (2 * u)
def pixI (wd h : Nat) (la lo u cs pla plo : Int) : Int × Int × Int :=
  if pointB pla plo = true then (if hasI wd h (colI wd lo u cs plo) (rowI h la u pla) = true then (colI wd lo u cs plo, rowI h la u pla, 0) else (0, 0, 25)) else (0, 0, 1)
theorem pixel_c (ok : ShOk la lo u cs rows wd) {pla plo : Int} (h1 : -9223372036854775808 ≤ pla ∧ pla ≤ 9223372036854775807) (h2 : -9223372036854775808 ≤ plo ∧ plo ≤ 9223372036854775807) :
    ContIn Tryz.prog (ShR b la lo u cs z rows wd) 17 [ptS b, ptV pla plo] (.tuple [.int .i64 (pixI wd rows.length la lo u cs pla plo).1, .int .i64 (pixI wd rows.length la lo u cs pla plo).2.1, .int .i64 (pixI wd rows.length la lo u cs pla plo).2.2].toArray) := fun w hs => by
  have hcl := hs.cell
  have q0 := vpoint_c pla plo
  unfold pixI
  cases hp : pointB pla plo with
  | false =>
    rw [if_neg (by decide)]
    rw [hp] at q0
    refine enter Tryz.func17 rfl rfl rfl (Hp := [Hl.rd z.v cSl 1 rows]) (fun h hm => by
      rcases List.mem_singleton.1 hm with rfl
      exact ⟨⟨hs.rows, fun h => by cases h⟩, rfl⟩) ?_
    repeat' (first
    | (show YK _ _ _ _ _ ⟨_, .binOp .eql _ _ (.const (.pointer none)) _, _, _, _, _⟩ _; refine YK.ofV (y_eqNil1 rfl rfl sh_ptr) ?_)
    | (show YK _ _ _ _ _ _ _; first | refine YK.mk (y_callA (q0) ⟨rfl, rfl⟩) ?_)
    | (show YK _ _ _ _ _ _ _; refine YK.ofV vAuto ?_)
    | (show VK _ _ _ _ _ _ _; refine VK.mk vAuto ?_)
    | (show RS _ _ _ _ _ _ _ _; first | (refine nxRS ?_) | (refine nxRS1 fun _ => ?_))
    | (show RM _ _ _ _ _ _ _ _ _ _; first | (refine nxRM ?_) | (refine nxRM1 fun _ => ?_))
    | (show YG _ _ _ _ _ _ _ _; refine YG.mk (fun hb => by (try (have hc := And.left hb; have hb := And.right hb; rw [hc])); (try rw [hb]); first | exact (y_callA (q0) ⟨rfl, rfl⟩) | exact V.y vAuto) ?_)
    | (show VG _ _ _ _ _ _ _ _; refine VG.mk (fun hb => by (try (have hc := And.left hb; have hb := And.right hb; rw [hc])); (try rw [hb]); exact vAuto) ?_)
    | (refine G.mixedA 4 [.go 0, .go 1, .go 2, .go 3, .go 4, .go 5, .go 6, .go 7, .go 8, .go 11, .go 12, .go 13, .go 14, .go 16, .go 17, .go 18, .go 19, .go 20, .go 22, .go 23, .go 24, .go 25, .go 26, .go 27, .go 9, .go 10, .go 15, .go 21, .go 28, .go 29, .go 30] ?_)
    | (refine G.mixedA 5 [.go 0, .go 1, .go 2, .go 3, .go 4, .go 5, .go 6, .go 7, .go 8, .go 9, .go 10, .go 11, .go 12, .go 13, .go 14, .go 15, .go 16, .go 17, .go 18, .go 19, .go 20, .go 21] ?_)
    | (refine nxX ?_)
    | (refine G.condN rfl (fun hc => ?_) (fun hc => ?_) <;> (try first | exact False.elim hc | (exfalso; omega))))
    exact X.ret (vs := [_, _, _]) rfl ⟨rfl, rfl, rfl, rfl⟩ rfl (fun w hw => ⟨rfl, hw.ext⟩)
  | true =>
    rw [if_pos rfl]
    rw [hp] at q0
    simp only [pointB, Bool.and_eq_true, decide_eq_true_eq] at hp
    obtain ⟨r1, w0, w1, hla, hlo, hu, hcs⟩ := ok
    have q1 := middle_c (b := b) (la := la) (lo := lo) (u := u) (cs := cs) (z := z) r1 w0 w1
    have q2 := signed_c (n := plo - lo) (by omega)
    have hsg := signI_bd (plo - lo)
    have b1 := TT.abs_mul_le (A := 21600000) (u := 1073741824) (a := 2 * signI (plo - lo)) (t := cs) (by omega) (by omega)
    have q3 := pfloor_c (n := 2 * signI (plo - lo) * cs + u * 1073741824) (d := 2 * u * 1073741824) (by omega)
    have q4 := pfloor_c (n := pla - la + u) (d := 2 * u) (by omega)
    have e3 := ediv_in (a := 2 * signI (plo - lo) * cs + u * 1073741824) (b := 2 * u * 1073741824) (k := 4611686018427387904) (by omega) (by omega) (by omega)
    have e4 := ediv_in (a := pla - la + u) (b := 2 * u) (k := 4611686018427387904) (by omega) (by omega) (by omega)
    have q5 := has_c (b := b) (la := la) (lo := lo) (u := u) (cs := cs) (z := z) (i := colI wd lo u cs plo) (j := rowI rows.length la u pla) r1 w0
    have ec : colI wd lo u cs plo = ((wd : Int) - 1) / 2 + (2 * signI (plo - lo) * cs + u * 1073741824) / (2 * u * 1073741824) := rfl
    have er : rowI rows.length la u pla = ((rows.length : Int) - 1) / 2 - (pla - la + u) / (2 * u) := rfl
    cases hh : hasI wd rows.length (colI wd lo u cs plo) (rowI rows.length la u pla) <;> rw [hh] at q5 <;> rw [ec, er] at q5 <;> rw [ec, er] <;> clear ec er hh <;> (
      generalize signI (plo - lo) = sg at *
      refine enter Tryz.func17 rfl rfl rfl (Hp := [Hl.rd z.v cSl 1 rows]) (fun h hm => by
        rcases List.mem_singleton.1 hm with rfl
        exact ⟨⟨hs.rows, fun h => by cases h⟩, rfl⟩) ?_
      repeat' (first
    | (refine nxN ?_)
    | (show VK _ _ _ _ _ ⟨_, .load 36 _, _, _, _, _⟩ _; refine VK.mk (y_loadX (by rfl) (hcl _ _ (by rfl)) (by decide +kernel)) ?_)
    | (show YK _ _ _ _ _ ⟨_, .load 36 _, _, _, _, _⟩ _; refine YK.ofV (y_loadX (by rfl) (hcl _ _ (by rfl)) (by decide +kernel)) ?_)
    | (show VG _ _ _ _ _ _ ⟨_, .load 36 _, _, _, _, _⟩ _; refine VG.mk (fun hb => by (try (have hc := And.left hb; have hb := And.right hb; rw [hc])); (try rw [hb]); exact y_loadX (by rfl) (hcl _ _ (by rfl)) (by decide +kernel)) ?_)
    | (show YG _ _ _ _ _ _ ⟨_, .load 36 _, _, _, _, _⟩ _; refine YG.mk (fun hb => by (try (have hc := And.left hb; have hb := And.right hb; rw [hc])); (try rw [hb]); exact V.y (y_loadX (by rfl) (hcl _ _ (by rfl)) (by decide +kernel))) ?_)
    | (show VK _ _ _ _ _ ⟨_, .load 3 _, _, _, _, _⟩ _; refine VK.mk (y_loadX (by rfl) (hcl _ _ (by rfl)) (by decide +kernel)) ?_)
    | (show YK _ _ _ _ _ ⟨_, .load 3 _, _, _, _, _⟩ _; refine YK.ofV (y_loadX (by rfl) (hcl _ _ (by rfl)) (by decide +kernel)) ?_)
    | (show VG _ _ _ _ _ _ ⟨_, .load 3 _, _, _, _, _⟩ _; refine VG.mk (fun hb => by (try (have hc := And.left hb; have hb := And.right hb; rw [hc])); (try rw [hb]); exact y_loadX (by rfl) (hcl _ _ (by rfl)) (by decide +kernel)) ?_)
    | (show YG _ _ _ _ _ _ ⟨_, .load 3 _, _, _, _, _⟩ _; refine YG.mk (fun hb => by (try (have hc := And.left hb; have hb := And.right hb; rw [hc])); (try rw [hb]); exact V.y (y_loadX (by rfl) (hcl _ _ (by rfl)) (by decide +kernel))) ?_)
    | (show VK _ _ _ _ _ ⟨_, .call { callee := .builtin .len, args := _, argTypes := #[85] }, _, _, _, _⟩ _; refine VK.mk (y_lenV (by rfl) (by decide +kernel)) ?_)
    | (show YK _ _ _ _ _ ⟨_, .call { callee := .builtin .len, args := _, argTypes := #[85] }, _, _, _, _⟩ _; refine YK.ofV (y_lenV (by rfl) (by decide +kernel)) ?_)
    | (show VG _ _ _ _ _ _ ⟨_, .call { callee := .builtin .len, args := _, argTypes := #[85] }, _, _, _, _⟩ _; refine VG.mk (fun hb => by (try (have hc := And.left hb; have hb := And.right hb; rw [hc])); (try rw [hb]); exact y_lenV (by rfl) (by decide +kernel)) ?_)
    | (show YG _ _ _ _ _ _ ⟨_, .call { callee := .builtin .len, args := _, argTypes := #[85] }, _, _, _, _⟩ _; refine YG.mk (fun hb => by (try (have hc := And.left hb; have hb := And.right hb; rw [hc])); (try rw [hb]); exact V.y (y_lenV (by rfl) (by decide +kernel))) ?_)
    | (show YK _ _ _ _ _ ⟨_, .call { callee := .value (.func 52), args := _, argTypes := _ }, _, _, _, _⟩ _; refine YK.mk (y_callIn (q1) (fun w' hw' => hs.keep hw'.ext) ⟨rfl, rfl⟩ (by decide +kernel)) ?_)
    | (show YG _ _ _ _ _ _ ⟨_, .call { callee := .value (.func 52), args := _, argTypes := _ }, _, _, _, _⟩ _; refine YG.mk (fun hb => by (try (have hc := And.left hb; have hb := And.right hb; rw [hc])); (try rw [hb]); exact y_callIn (q1) (fun w' hw' => hs.keep hw'.ext) ⟨rfl, rfl⟩ (by decide +kernel)) ?_)
    | (show YK _ _ _ _ _ ⟨_, .call { callee := .value (.func 54), args := _, argTypes := _ }, _, _, _, _⟩ _; refine YK.mk (y_callIn (q5) (fun w' hw' => hs.keep hw'.ext) ⟨rfl, rfl, rfl, rfl⟩ (by decide +kernel)) ?_)
    | (show YG _ _ _ _ _ _ ⟨_, .call { callee := .value (.func 54), args := _, argTypes := _ }, _, _, _, _⟩ _; refine YG.mk (fun hb => by (try (have hc := And.left hb; have hb := And.right hb; rw [hc])); (try rw [hb]); exact y_callIn (q5) (fun w' hw' => hs.keep hw'.ext) ⟨rfl, rfl, rfl, rfl⟩ (by decide +kernel)) ?_)
    | (show YK _ _ _ _ _ ⟨_, .binOp .eql _ _ (.const (.pointer none)) _, _, _, _, _⟩ _; refine YK.ofV (y_eqNil1 rfl rfl sh_ptr) ?_)
    | (show YK _ _ _ _ _ _ _; first | refine YK.mk (y_callA (q0) ⟨rfl, rfl⟩) ?_ | refine YK.mk (y_callA (q2) ⟨rfl, rfl⟩) ?_ | refine YK.mk (y_callA (q3) ⟨rfl, rfl, rfl⟩) ?_ | refine YK.mk (y_callA (q4) ⟨rfl, rfl, rfl⟩) ?_)
    | (show YK _ _ _ _ _ _ _; refine YK.ofV vAuto ?_)
    | (show VK _ _ _ _ _ _ _; refine VK.mk vAuto ?_)
    | (show RS _ _ _ _ _ _ _ _; first | (refine nxRS ?_) | (refine nxRS1 fun _ => ?_))
    | (show RM _ _ _ _ _ _ _ _ _ _; first | (refine nxRM ?_) | (refine nxRM1 fun _ => ?_))
    | (show YG _ _ _ _ _ _ _ _; refine YG.mk (fun hb => by (try (have hc := And.left hb; have hb := And.right hb; rw [hc])); (try rw [hb]); first | exact (y_callA (q0) ⟨rfl, rfl⟩) | exact (y_callA (q2) ⟨rfl, rfl⟩) | exact (y_callA (q3) ⟨rfl, rfl, rfl⟩) | exact (y_callA (q4) ⟨rfl, rfl, rfl⟩) | exact V.y vAuto) ?_)
    | (show VG _ _ _ _ _ _ _ _; refine VG.mk (fun hb => by (try (have hc := And.left hb; have hb := And.right hb; rw [hc])); (try rw [hb]); exact vAuto) ?_)
    | (refine G.mixedA 4 [.go 0, .go 1, .go 2, .go 3, .go 4, .go 5, .go 6, .go 7, .go 8, .go 11, .go 12, .go 13, .go 14, .go 16, .go 17, .go 18, .go 19, .go 20, .go 22, .go 23, .go 24, .go 25, .go 26, .go 27, .go 9, .go 10, .go 15, .go 21, .go 28, .go 29, .go 30] ?_)
    | (refine G.mixedA 5 [.go 0, .go 1, .go 2, .go 3, .go 4, .go 5, .go 6, .go 7, .go 8, .go 9, .go 10, .go 11, .go 12, .go 13, .go 14, .go 15, .go 16, .go 17, .go 18, .go 19, .go 20, .go 21] ?_)
    | (refine nxX ?_)
    | (refine G.condN rfl (fun hc => ?_) (fun hc => ?_) <;> (try first | exact False.elim hc | (exfalso; omega))))
      exact X.ret (vs := [_, _, _]) rfl ⟨rfl, rfl, rfl, rfl⟩ rfl (fun w hw => ⟨rfl, hw.ext⟩))
def latI (h : Nat) (la u j : Int) : Int := la + (((h : Int) - 1) / 2 - j) * 2 * u
def lonI (wd : Nat) (lo u cs i : Int) : Int := signI (lo + (i - ((wd : Int) - 1) / 2) * u * 1073741824 / cs)
def pntI (wd h : Nat) (la lo u cs i j : Int) : Int × Int × Int :=
  if hasI wd h i j = true then (if pointB (latI h la u j) (lonI wd lo u cs i) = true then (latI h la u j, lonI wd lo u cs i, 0) else (0, 0, 25)) else (0, 0, 2)
theorem point_c (ok : ShOk la lo u cs rows wd) {i j : Int} (h1 : -9223372036854775808 ≤ i ∧ i ≤ 9223372036854775807) (h2 : -9223372036854775808 ≤ j ∧ j ≤ 9223372036854775807) :
    ContIn Tryz.prog (ShR b la lo u cs z rows wd) 43 [ptS b, .int .i64 i, .int .i64 j] (.tuple [ptV (pntI wd rows.length la lo u cs i j).1 (pntI wd rows.length la lo u cs i j).2.1, .int .i64 (pntI wd rows.length la lo u cs i j).2.2].toArray) := fun w hs => by
  have hcl := hs.cell
  have q0 := has_c (b := b) (la := la) (lo := lo) (u := u) (cs := cs) (z := z) (i := i) (j := j) ok.r1 ok.w0
  unfold pntI
  cases hp : hasI wd rows.length i j with
  | false =>
    rw [if_neg (by decide)]
    rw [hp] at q0
    refine enter Tryz.func43 rfl rfl rfl (Hp := [Hl.rd z.v cSl 1 rows]) (fun h hm => by
      rcases List.mem_singleton.1 hm with rfl
      exact ⟨⟨hs.rows, fun h => by cases h⟩, rfl⟩) ?_
    repeat' (first
    | (show YK _ _ _ _ _ ⟨_, .call { callee := .value (.func 54), args := _, argTypes := _ }, _, _, _, _⟩ _; refine YK.mk (y_callIn (q0) (fun w' hw' => hs.keep hw'.ext) ⟨rfl, rfl, rfl, rfl⟩ (by decide +kernel)) ?_)
    | (show YG _ _ _ _ _ _ ⟨_, .call { callee := .value (.func 54), args := _, argTypes := _ }, _, _, _, _⟩ _; refine YG.mk (fun hb => by (try (have hc := And.left hb; have hb := And.right hb; rw [hc])); (try rw [hb]); exact y_callIn (q0) (fun w' hw' => hs.keep hw'.ext) ⟨rfl, rfl, rfl, rfl⟩ (by decide +kernel)) ?_)
    | (show YK _ _ _ _ _ ⟨_, .binOp .eql _ _ (.const (.pointer none)) _, _, _, _, _⟩ _; refine YK.ofV (y_eqNil1 rfl rfl sh_ptr) ?_)
    | (refine nxV ?_)
    | (show RS _ _ _ _ _ _ _ _; first | (refine nxRS ?_) | (refine nxRS1 fun _ => ?_))
    | (show RM _ _ _ _ _ _ _ _ _ _; first | (refine nxRM ?_) | (refine nxRM1 fun _ => ?_))
    | (refine nxG ?_)
    | (refine G.mixedA 6 [.go 0, .go 1, .go 2, .go 3, .go 4, .go 5, .go 6, .go 7, .go 8, .go 9, .go 10, .go 11, .go 12, .go 13, .go 14, .go 15, .go 16, .go 17, .pend 22, .go 18, .go 19, .go 20, .go 21, .done, .go 23] ?_)
    | (refine nxX ?_)
    | (refine G.condN rfl (fun hc => ?_) (fun hc => ?_) <;> (try first | exact False.elim hc | (exfalso; omega))))
    exact X.ret (vs := [_, _]) rfl ⟨⟨_, _, _, _, rfl, (by exact memA), (by (repeat (first | exact .nil | apply LenIs.cons))), by decide +kernel, rfl⟩, rfl, rfl⟩ rfl (fun w hw => ⟨rfl, hw.ext⟩)
  | true =>
    rw [if_pos rfl]
    rw [hp] at q0
    simp only [hasI, Bool.and_eq_true, decide_eq_true_eq] at hp
    have r1 := ok.r1
    have w1 := ok.w1
    have q1 := offset_c (b := b) (z := z) ok (i := i) (j := j) (by omega) (by omega)
    obtain ⟨_, _, _, hla, hlo, hu, hcs⟩ := ok
    have b1 := TT.abs_mul_le (A := 2000) (u := 100000) (a := i - ((wd : Int) - 1) / 2) (t := u) (by omega) (by omega)
    have b2 := TT.abs_mul_le (A := 4000) (u := 100000) (a := (((rows.length : Int) - 1) / 2 - j) * 2) (t := u) (by omega) (by omega)
    have q3 := pfloor_c (n := (i - ((wd : Int) - 1) / 2) * u * 1073741824) (d := cs) (by omega)
    have e3 := ediv_in (a := (i - ((wd : Int) - 1) / 2) * u * 1073741824) (b := cs) (k := 2000 * 100000 * 1073741824) (by omega) (by omega) (by omega)
    have q4 := signed_c (n := lo + (i - ((wd : Int) - 1) / 2) * u * 1073741824 / cs) (by omega)
    have q5 := vpoint_c (latI rows.length la u j) (lonI wd lo u cs i)
    have ec : lonI wd lo u cs i = signI (lo + (i - ((wd : Int) - 1) / 2) * u * 1073741824 / cs) := rfl
    have er : latI rows.length la u j = la + (((rows.length : Int) - 1) / 2 - j) * 2 * u := rfl
    cases hh : pointB (latI rows.length la u j) (lonI wd lo u cs i) <;> rw [hh] at q5 <;> rw [ec, er] at q5 <;> rw [ec, er] <;> clear ec er hh <;> (
      refine enter Tryz.func43 rfl rfl rfl (Hp := [Hl.rd z.v cSl 1 rows]) (fun h hm => by
        rcases List.mem_singleton.1 hm with rfl
        exact ⟨⟨hs.rows, fun h => by cases h⟩, rfl⟩) ?_
      repeat' (first
    | (refine nxN ?_)
    | (show VK _ _ _ _ _ ⟨_, .load 36 _, _, _, _, _⟩ _; refine VK.mk (y_loadX (by rfl) (hcl _ _ (by rfl)) (by decide +kernel)) ?_)
    | (show YK _ _ _ _ _ ⟨_, .load 36 _, _, _, _, _⟩ _; refine YK.ofV (y_loadX (by rfl) (hcl _ _ (by rfl)) (by decide +kernel)) ?_)
    | (show VG _ _ _ _ _ _ ⟨_, .load 36 _, _, _, _, _⟩ _; refine VG.mk (fun hb => by (try (have hc := And.left hb; have hb := And.right hb; rw [hc])); (try rw [hb]); exact y_loadX (by rfl) (hcl _ _ (by rfl)) (by decide +kernel)) ?_)
    | (show YG _ _ _ _ _ _ ⟨_, .load 36 _, _, _, _, _⟩ _; refine YG.mk (fun hb => by (try (have hc := And.left hb; have hb := And.right hb; rw [hc])); (try rw [hb]); exact V.y (y_loadX (by rfl) (hcl _ _ (by rfl)) (by decide +kernel))) ?_)
    | (show VK _ _ _ _ _ ⟨_, .load 3 _, _, _, _, _⟩ _; refine VK.mk (y_loadX (by rfl) (hcl _ _ (by rfl)) (by decide +kernel)) ?_)
    | (show YK _ _ _ _ _ ⟨_, .load 3 _, _, _, _, _⟩ _; refine YK.ofV (y_loadX (by rfl) (hcl _ _ (by rfl)) (by decide +kernel)) ?_)
    | (show VG _ _ _ _ _ _ ⟨_, .load 3 _, _, _, _, _⟩ _; refine VG.mk (fun hb => by (try (have hc := And.left hb; have hb := And.right hb; rw [hc])); (try rw [hb]); exact y_loadX (by rfl) (hcl _ _ (by rfl)) (by decide +kernel)) ?_)
    | (show YG _ _ _ _ _ _ ⟨_, .load 3 _, _, _, _, _⟩ _; refine YG.mk (fun hb => by (try (have hc := And.left hb; have hb := And.right hb; rw [hc])); (try rw [hb]); exact V.y (y_loadX (by rfl) (hcl _ _ (by rfl)) (by decide +kernel))) ?_)
    | (show VK _ _ _ _ _ ⟨_, .call { callee := .builtin .len, args := _, argTypes := #[85] }, _, _, _, _⟩ _; refine VK.mk (y_lenV (by rfl) (by decide +kernel)) ?_)
    | (show YK _ _ _ _ _ ⟨_, .call { callee := .builtin .len, args := _, argTypes := #[85] }, _, _, _, _⟩ _; refine YK.ofV (y_lenV (by rfl) (by decide +kernel)) ?_)
    | (show VG _ _ _ _ _ _ ⟨_, .call { callee := .builtin .len, args := _, argTypes := #[85] }, _, _, _, _⟩ _; refine VG.mk (fun hb => by (try (have hc := And.left hb; have hb := And.right hb; rw [hc])); (try rw [hb]); exact y_lenV (by rfl) (by decide +kernel)) ?_)
    | (show YG _ _ _ _ _ _ ⟨_, .call { callee := .builtin .len, args := _, argTypes := #[85] }, _, _, _, _⟩ _; refine YG.mk (fun hb => by (try (have hc := And.left hb; have hb := And.right hb; rw [hc])); (try rw [hb]); exact V.y (y_lenV (by rfl) (by decide +kernel))) ?_)
    | (show YK _ _ _ _ _ ⟨_, .call { callee := .value (.func 29), args := _, argTypes := _ }, _, _, _, _⟩ _; refine YK.mk (y_callIn (q1) (fun w' hw' => hs.keep hw'.ext) ⟨rfl, rfl, rfl, rfl⟩ (by decide +kernel)) ?_)
    | (show YG _ _ _ _ _ _ ⟨_, .call { callee := .value (.func 29), args := _, argTypes := _ }, _, _, _, _⟩ _; refine YG.mk (fun hb => by (try (have hc := And.left hb; have hb := And.right hb; rw [hc])); (try rw [hb]); exact y_callIn (q1) (fun w' hw' => hs.keep hw'.ext) ⟨rfl, rfl, rfl, rfl⟩ (by decide +kernel)) ?_)
    | (show YK _ _ _ _ _ ⟨_, .call { callee := .value (.func 54), args := _, argTypes := _ }, _, _, _, _⟩ _; refine YK.mk (y_callIn (q0) (fun w' hw' => hs.keep hw'.ext) ⟨rfl, rfl, rfl, rfl⟩ (by decide +kernel)) ?_)
    | (show YG _ _ _ _ _ _ ⟨_, .call { callee := .value (.func 54), args := _, argTypes := _ }, _, _, _, _⟩ _; refine YG.mk (fun hb => by (try (have hc := And.left hb; have hb := And.right hb; rw [hc])); (try rw [hb]); exact y_callIn (q0) (fun w' hw' => hs.keep hw'.ext) ⟨rfl, rfl, rfl, rfl⟩ (by decide +kernel)) ?_)
    | (show YK _ _ _ _ _ ⟨_, .binOp .eql _ _ (.const (.pointer none)) _, _, _, _, _⟩ _; refine YK.ofV (y_eqNil1 rfl rfl sh_ptr) ?_)
    | (show YK _ _ _ _ _ _ _; first | refine YK.mk (y_callA (q3) ⟨rfl, rfl, rfl⟩) ?_ | refine YK.mk (y_callA (q4) ⟨rfl, rfl⟩) ?_ | refine YK.mk (y_callA (q5) ⟨rfl, rfl⟩) ?_)
    | (show YK _ _ _ _ _ _ _; refine YK.ofV vAuto ?_)
    | (show VK _ _ _ _ _ _ _; refine VK.mk vAuto ?_)
    | (show RS _ _ _ _ _ _ _ _; first | (refine nxRS ?_) | (refine nxRS1 fun _ => ?_))
    | (show RM _ _ _ _ _ _ _ _ _ _; first | (refine nxRM ?_) | (refine nxRM1 fun _ => ?_))
    | (show YG _ _ _ _ _ _ _ _; refine YG.mk (fun hb => by (try (have hc := And.left hb; have hb := And.right hb; rw [hc])); (try rw [hb]); first | exact (y_callA (q3) ⟨rfl, rfl, rfl⟩) | exact (y_callA (q4) ⟨rfl, rfl⟩) | exact (y_callA (q5) ⟨rfl, rfl⟩) | exact V.y vAuto) ?_)
    | (show VG _ _ _ _ _ _ _ _; refine VG.mk (fun hb => by (try (have hc := And.left hb; have hb := And.right hb; rw [hc])); (try rw [hb]); exact vAuto) ?_)
    | (refine G.mixedA 6 [.go 0, .go 1, .go 2, .go 3, .go 4, .go 5, .go 6, .go 7, .go 8, .go 9, .go 10, .go 11, .go 12, .go 13, .go 14, .go 15, .go 16, .go 17, .pend 22, .go 18, .go 19, .go 20, .go 21, .done, .go 23] ?_)
    | (refine nxX ?_)
    | (refine G.condN rfl (fun hc => ?_) (fun hc => ?_) <;> (try first | exact False.elim hc | (exfalso; omega))))
      exact X.ret (vs := [_, _]) rfl ⟨⟨_, _, _, _, rfl, (by exact memA), (by (repeat (first | exact .nil | apply LenIs.cons))), by decide +kernel, rfl⟩, rfl, rfl⟩ rfl (fun w hw => ⟨rfl, hw.ext⟩))
end
end Go.Proofs.YthilhhegchmjeaaGreat
/- Drawing: all pixels that are chosen get a mark. -/
set_option linter.unusedVariables false
set_option maxHeartbeats 8000000
namespace Go.Proofs.YthilhhegchmjeaaGreat
open Go.RowKit
/-- A row of pixels, the first k of them drawn. -/
def pK (sel : Nat → Bool) (m : Int) (k : Nat) (l : List Int) : List Int := (List.range l.length).map fun i => if decide (i < k) && sel i then m else l.getD i 0
theorem pK_len (sel : Nat → Bool) (m : Int) (k : Nat) (l : List Int) : (pK sel m k l).length = l.length := by simp [pK]
theorem pK_get {sel : Nat → Bool} {m : Int} {k : Nat} {l : List Int} {i : Nat} (h : i < l.length) : (pK sel m k l)[i]? = some (if decide (i < k) && sel i then m else l.getD i 0) := by
  unfold pK
  rw [List.getElem?_map, List.getElem?_range h]; rfl
theorem pK_0 (sel : Nat → Bool) (m : Int) (l : List Int) : pK sel m 0 l = l := by
  refine List.ext_getElem? fun i => ?_
  rcases Nat.lt_or_ge i l.length with h | h
  · rw [pK_get h, List.getElem?_eq_getElem h]
    simp [List.getD, List.getElem?_eq_getElem h]
  · rw [List.getElem?_eq_none (by rw [pK_len]; exact h), List.getElem?_eq_none h]
theorem pK_no {sel : Nat → Bool} {m : Int} {k : Nat} {l : List Int} (h : sel k = false) : pK sel m (k + 1) l = pK sel m k l := by
  refine List.ext_getElem? fun i => ?_
  rcases Nat.lt_or_ge i l.length with hi | hi
  · rw [pK_get hi, pK_get hi]
    congr 1
    by_cases e : i = k
    · subst e; simp [h]
    · rw [show decide (i < k + 1) = decide (i < k) from decide_eq_decide.2 (by omega)]
  · rw [List.getElem?_eq_none (by rw [pK_len]; exact hi), List.getElem?_eq_none (by rw [pK_len]; exact hi)]
theorem pK_yes {sel : Nat → Bool} {m : Int} {k : Nat} {l : List Int} (h : sel k = true) : pK sel m (k + 1) l = (pK sel m k l).set k m := by
  refine List.ext_getElem? fun i => ?_
  rcases Nat.lt_or_ge i l.length with hi | hi
  · rw [pK_get hi, List.getElem?_set, pK_len]
    by_cases e : k = i
    · subst e; rw [if_pos rfl, if_pos hi]; simp [h]
    · rw [if_neg e, pK_get hi, show decide (i < k + 1) = decide (i < k) from decide_eq_decide.2 (by omega)]
  · rw [List.getElem?_eq_none (by rw [pK_len]; exact hi), List.getElem?_eq_none (by rw [List.length_set, pK_len]; exact hi)]
/-- The rows of a sheet as heaplets. -/
def blkS (s : Sl) : Nat := match s.a with
  | some a => a.block
  | none => 0
/-- A row's block: its pixels, and what room lies behind them. -/
abbrev pxH (xt : Nat → List Value) (s : Sl) (l : List Int) : Hl := Hl.blk (blkS s) 5 (l.map (Value.int .u8) ++ xt (blkS s))
/-- Does a row's header lie at its block's start, and say its width? -/
abbrev hdOk (wd : Nat) (s : Sl) : Prop := s.n = wd ∧ s.n ≤ s.c ∧ s.a = some ⟨blkS s, 0, none⟩
theorem flatY (l : List Int) : l.flatMap cB = l.map (Value.int .u8) := by
  induction l with
  | nil => rfl
  | cons a r ih => rw [List.flatMap_cons, ih]; rfl
theorem RdT.px {H : List Hl} {xt : Nat → List Value} {s : Sl} {l : List Int} {wd : Nat} (hm : pxH xt s l ∈ H) (ho : hdOk wd s) (hl : l.length = wd) : RdT H s.v cB 1 l := fun w0 w hw => by
  obtain ⟨h1, h2, h3⟩ := ho
  refine ⟨by rw [flatY]; simp, s.a, s.c, by rw [hl, ← h1], by omega, fun _ => ⟨⟨blkS s, 0, none⟩, h3, fun j u hj => ?_⟩, fun h => by rw [h3] at h; cases h⟩
  have hc := hw.cell hm j
  rw [flatY] at hj
  have ha : (⟨blkS s, 0, none⟩ : Addr).add j = ⟨blkS s, j, none⟩ := by unfold Addr.add; split <;> simp_all
  rw [ha, hc, List.getElem?_append_left (List.getElem?_eq_some_iff.1 hj).1]
  exact hj
section
variable {P : Program} {n : Nat} {L : FL} {w0 : World} {H : List Hl} {Q : Exit → Act → World → Prop} {ops : Array Oper} {rest : List Oper} {ty : TypeId} {pos : String} {af : Array Edge} {x y : Operand} {t : TypeId}
theorem RS.storePx {xt : Nat → List Value} {s : Sl} {l : List Int} {i wd : Nat} {m : Int} {H' : List Hl} (h : RS P ops Q n L w0 H' rest) (hx : evO L x = some (elA s.v 1 (i : Int) 0)) (hy : evO L y = some (.int .u8 m)) (hu : Upd (pxH xt s l) (pxH xt s (l.set i m)) H H') (hi : i < l.length) (ho : hdOk wd s) (hs : scalarB P t = true) :
    RS P ops Q n L w0 H (⟨none, .store t x y, ty, pos, af, none⟩ :: rest) := by
  have ha : elA s.v 1 (i : Int) 0 = .pointer (some ⟨blkS s, i, none⟩) := by
    unfold Sl.v
    rw [ho.2.2]
    have ha : (⟨blkS s, 0, none⟩ : Addr).add i = ⟨blkS s, i, none⟩ := by unfold Addr.add; split <;> simp_all
    simp [elA, ha]
  rw [ha] at hx
  have hc : (l.map (Value.int .u8) ++ xt (blkS s)).set i (.int .u8 m) = (l.set i m).map (Value.int .u8) ++ xt (blkS s) := by
    rw [List.set_append_left _ _ (by simpa using hi), List.map_set]
  refine RS.actX rfl (x_store (cs := l.map (Value.int .u8) ++ xt (blkS s)) (u := .int .u8 m) hx hy rfl (H' := H') (by rw [hc]; exact hu) (by rw [Nat.blt_eq]; simp; omega) hs) fun _ _ => h
end
/-- The rows of a sheet as heaplets. -/
def rowsH (xt : Nat → List Value) (rs : List (Sl × List Int)) : List Hl := rs.map fun r => pxH xt r.1 r.2
/-- The first j rows drawn. -/
def pR (sel : Nat → Nat → Bool) (m : Int) : Nat → Nat → List (Sl × List Int) → List (Sl × List Int)
  | _, _, [] => []
  | 0, _, rs => rs
  | j + 1, a, r :: rs => (r.1, pK (fun i => sel i a) m r.2.length r.2) :: pR sel m j (a + 1) rs
theorem pR_fst (sel : Nat → Nat → Bool) (m : Int) : ∀ (rs : List (Sl × List Int)) (j a : Nat), (pR sel m j a rs).map Prod.fst = rs.map Prod.fst
  | [], 0, _ => rfl
  | [], j + 1, _ => rfl
  | r :: rs, 0, _ => rfl
  | r :: rs, j + 1, a => by
    show r.1 :: (pR sel m j (a + 1) rs).map Prod.fst = r.1 :: rs.map Prod.fst
    rw [pR_fst]
/-- The rows, with row j apart. -/
theorem pR_split (sel : Nat → Nat → Bool) (m : Int) : ∀ (rs : List (Sl × List Int)) (j a : Nat) (r : Sl × List Int), rs[j]? = some r → ∃ A B, pR sel m j a rs = A ++ r :: B ∧ pR sel m (j + 1) a rs = A ++ (r.1, pK (fun i => sel i (a + j)) m r.2.length r.2) :: B ∧ A.length = j
  | [], j, a, r, h => by simp at h
  | x :: rs, 0, a, r, h => by
    simp only [List.getElem?_cons_zero, Option.some.injEq] at h
    subst h
    refine ⟨[], rs, rfl, ?_, rfl⟩
    show (x.1, pK (fun i => sel i a) m x.2.length x.2) :: pR sel m 0 (a + 1) rs = _
    cases rs <;> rfl
  | x :: rs, j + 1, a, r, h => by
    obtain ⟨A, B, h1, h2, h3⟩ := pR_split sel m rs j (a + 1) r (by simpa using h)
    refine ⟨(x.1, pK (fun i => sel i a) m x.2.length x.2) :: A, B, ?_, ?_, by simp [h3]⟩
    · show (x.1, pK (fun i => sel i a) m x.2.length x.2) :: pR sel m j (a + 1) rs = _
      rw [h1]; rfl
    · show (x.1, pK (fun i => sel i a) m x.2.length x.2) :: pR sel m (j + 1) (a + 1) rs = _
      rw [h2, show a + 1 + j = a + (j + 1) by omega]; rfl
theorem rowsH_app (xt : Nat → List Value) (A B : List (Sl × List Int)) : rowsH xt (A ++ B) = rowsH xt A ++ rowsH xt B := List.map_append
abbrev shB (b : Nat) (la lo u cs : Int) (z : Value) : Hl := Hl.blk b 62 (shC la lo u cs z)
abbrev rwS (z : Sl) (l : List Sl) : Hl := Hl.rw z.v 85 cSl 1 l
theorem nth_fst {rs : List (Sl × List Int)} {j : Nat} {r : Sl × List Int} (h : rs[j]? = some r) : nth (rs.map Prod.fst) (j : Int) = r.1 := by
  unfold nth
  rw [Int.toNat_natCast, List.getD_eq_getElem?_getD, List.getElem?_map, h]; rfl
theorem draw_c {xt : Nat → List Value} {fid : Nat} {cap : Array Value} {sel : Nat → Nat → Bool} {m : Int} {b : Nat} {la lo u cs : Int} {z : Sl} {rs : List (Sl × List Int)} {wd : Nat} {C : World → Prop} {HR : List Hl} {w0 w : World}
    (hsel : ∀ i j : Nat, i < wd → j < rs.length → ContIn Tryz.prog C fid ([.int .i64 (i : Int), .int .i64 (j : Int)] ++ cap.toList) (.bool (sel i j))) (hgo : isGo Tryz.prog fid = true)
    (hC : ∀ (rs' : List (Sl × List Int)) w', rs'.map Prod.fst = rs.map Prod.fst → St w0 (shB b la lo u cs z.v :: rwS z (rs.map Prod.fst) :: (rowsH xt rs' ++ HR)) w' → C w')
    (hlen : ∀ r ∈ rs, r.2.length = wd ∧ hdOk wd r.1) (hr : rs.length ≤ 1000) (hw : wd ≤ 1000) (hs : St w0 (shB b la lo u cs z.v :: rwS z (rs.map Prod.fst) :: (rowsH xt rs ++ HR)) w) :
    Calls Tryz.prog 27 [ptS b, .int .u8 m, .func (.func fid) #[] cap].toArray w fun e w' => e = .returned (.tuple #[]) ∧ St w0 (shB b la lo u cs z.v :: rwS z (rs.map Prod.fst) :: (rowsH xt (pR sel m rs.length 0 rs) ++ HR)) w' := by
  have hml : (rs.map Prod.fst).length = rs.length := List.length_map _
  have h0 : pR sel m 0 0 rs = rs := by cases rs <;> rfl
  refine enterU Tryz.func27 rfl rfl rfl hs ?_
  repeat' (first
    | (refine nxN ?_)
    | (refine nxV ?_)
    | (show RS _ _ _ _ _ _ _ _; first | (refine nxRS ?_) | (refine nxRS1 fun _ => ?_))
    | (show RM _ _ _ _ _ _ _ _ _ _; first | (refine nxRM ?_) | (refine nxRM1 fun _ => ?_))
    | (refine nxG ?_)
    | (refine nxX ?_)
    | (refine G.condN rfl (fun hc => ?_) (fun hc => ?_) <;> (try first | exact False.elim hc | (exfalso; omega))))
  refine G.loop (ι := Nat) (fun j => [(0, ptS b), (1, .int .u8 m), (2, .func (.func fid) #[] cap), (12, z.v), (13, .int .i64 ((rs.map Prod.fst).length : Nat)), (14, .int .i64 (j : Int))]) (fun j => shB b la lo u cs z.v :: rwS z (rs.map Prod.fst) :: (rowsH xt (pR sel m j 0 rs) ++ HR)) (fun j => j ≤ rs.length) (fun j => rs.length - j) 0 (Nat.zero_le _) ⟨rfl, rfl, rfl, rfl, rfl, rfl, trivial⟩ (fun w h => by rw [h0]; exact h) ?_
  rintro j mx hj hmx
  (try dsimp only at hj hmx ⊢)
  rcases Nat.lt_or_ge j rs.length with hjl | hjl
  · obtain ⟨r, hrj⟩ : ∃ r, rs[j]? = some r := ⟨rs[j], List.getElem?_eq_getElem hjl⟩
    have hnth := nth_fst hrj
    obtain ⟨A, B, s1, s2, s3⟩ := pR_split sel m rs j 0 r hrj
    rw [Nat.zero_add] at s2
    obtain ⟨hl1, hl3⟩ := hlen r (List.mem_of_getElem? hrj)
    have hl2 := hl3.1
    repeat' (first
    | (refine nxN ?_)
    | (show YK _ _ _ _ _ ⟨_, .load 85 _, _, _, _, _⟩ _; refine YK.ofV (v := r.1.v) (y_loadEl (inst := inferInstance) (v := z.v) (s := 1) (m := (j : Int)) (i := 0) (f := cSl) (l := rs.map Prod.fst) (by rfl) (by exact rdA) (fun _ => rfl) ⟨by omega, by omega⟩ (by rfl) (by rw [hnth]; rfl) (by decide +kernel)) ?_)
    | (show VK _ _ _ _ _ ⟨_, .call { callee := .builtin .len, args := _, argTypes := #[85] }, _, _, _, _⟩ _; refine VK.mk (y_lenV (by rfl) (by decide +kernel)) ?_)
    | (show YK _ _ _ _ _ ⟨_, .call { callee := .builtin .len, args := _, argTypes := #[85] }, _, _, _, _⟩ _; refine YK.ofV (y_lenV (by rfl) (by decide +kernel)) ?_)
    | (show VG _ _ _ _ _ _ ⟨_, .call { callee := .builtin .len, args := _, argTypes := #[85] }, _, _, _, _⟩ _; refine VG.mk (fun hb => by (try (have hc := And.left hb; have hb := And.right hb; rw [hc])); (try rw [hb]); exact y_lenV (by rfl) (by decide +kernel)) ?_)
    | (show YG _ _ _ _ _ _ ⟨_, .call { callee := .builtin .len, args := _, argTypes := #[85] }, _, _, _, _⟩ _; refine YG.mk (fun hb => by (try (have hc := And.left hb; have hb := And.right hb; rw [hc])); (try rw [hb]); exact V.y (y_lenV (by rfl) (by decide +kernel))) ?_)
    | (refine nxV ?_)
    | (show RS _ _ _ _ _ _ _ _; first | (refine nxRS ?_) | (refine nxRS1 fun _ => ?_))
    | (show RM _ _ _ _ _ _ _ _ _ _; first | (refine nxRM ?_) | (refine nxRM1 fun _ => ?_))
    | (refine nxG ?_)
    | (refine nxX ?_)
    | (refine G.condN rfl (fun hc => ?_) (fun hc => ?_) <;> (try first | exact False.elim hc | (exfalso; omega))))
    have hp0 := pK_0 (fun i => sel i j) m r.2
    have permA : ∀ (l : List Int), (shB b la lo u cs z.v :: rwS z (rs.map Prod.fst) :: (rowsH xt (A ++ (r.1, l) :: B) ++ HR)).Perm (pxH xt r.1 l :: shB b la lo u cs z.v :: rwS z (rs.map Prod.fst) :: (rowsH xt A ++ rowsH xt B ++ HR)) := fun l => by
      have e : rowsH xt (A ++ (r.1, l) :: B) = rowsH xt A ++ pxH xt r.1 l :: rowsH xt B := by rw [rowsH_app]; rfl
      rw [e]
      have h1 : (rowsH xt A ++ pxH xt r.1 l :: rowsH xt B ++ HR).Perm (pxH xt r.1 l :: (rowsH xt A ++ rowsH xt B ++ HR)) := by
        rw [List.append_assoc, List.append_assoc, List.cons_append]
        exact List.perm_middle
      exact ((h1.cons _).cons _).trans (((List.Perm.swap _ _ _).cons _).trans (List.Perm.swap _ _ _))
    refine G.loop (ι := Nat) (fun i => [(0, ptS b), (1, .int .u8 m), (2, .func (.func fid) #[] cap), (6, .int .i64 (j : Int)), (7, r.1.v), (12, z.v), (13, .int .i64 ((rs.map Prod.fst).length : Nat)), (14, .int .i64 (j : Int)), (20, .int .i64 (r.1.n : Nat)), (21, .int .i64 (i : Int))]) (fun i => pxH xt r.1 (pK (fun i => sel i j) m i r.2) :: shB b la lo u cs z.v :: rwS z (rs.map Prod.fst) :: (rowsH xt A ++ rowsH xt B ++ HR)) (fun i => i ≤ wd) (fun i => wd - i) 0 (Nat.zero_le _) ⟨rfl, rfl, rfl, rfl, rfl, rfl, rfl, rfl, rfl, rfl, trivial⟩ (fun w h => by
      rw [hp0]
      rw [s1] at h
      exact h.perm (permA r.2)) ?_
    rintro i mx2 hi hmx2
    (try dsimp only at hi hmx2 ⊢)
    have hpl := pK_len (fun i => sel i j) m i r.2
    rcases Nat.lt_or_ge i wd with hil | hil
    · have q1 := hsel i j hil hjl
      have hCw : ∀ w', St w0 (pxH xt r.1 (pK (fun i => sel i j) m i r.2) :: shB b la lo u cs z.v :: rwS z (rs.map Prod.fst) :: (rowsH xt A ++ rowsH xt B ++ HR)) w' → C w' := fun w' hw' => hC (A ++ (r.1, pK (fun i => sel i j) m i r.2) :: B) w' (by
        have e := congrArg (List.map Prod.fst) s1
        rw [pR_fst] at e
        rw [e, List.map_append, List.map_append]; rfl) (hw'.perm (permA _).symm)
      have pn := pK_no (sel := fun i => sel i j) (m := m) (k := i) (l := r.2)
      have py := pK_yes (sel := fun i => sel i j) (m := m) (k := i) (l := r.2)
      cases hsij : sel i j with
      | false =>
        rw [hsij] at q1
        have pn' := pn hsij
        clear pn py
        repeat' (first
    | (show YK _ _ _ _ _ ⟨_, .call { callee := .value _, args := _, argTypes := _ }, _, _, _, _⟩ _; refine YK.mk (y_callV (by rfl) q1 hCw ⟨rfl, rfl, rfl⟩ hgo) ?_)
    | (refine nxV ?_)
    | (show RS _ _ _ _ _ _ _ _; first | (refine nxRS ?_) | (refine nxRS1 fun _ => ?_))
    | (show RM _ _ _ _ _ _ _ _ _ _; first | (refine nxRM ?_) | (refine nxRM1 fun _ => ?_))
    | (refine nxG ?_)
    | (refine nxX ?_)
    | (refine G.condN rfl (fun hc => ?_) (fun hc => ?_) <;> (try first | exact False.elim hc | (exfalso; omega))))
        refine X.again (i + 1) (by omega) (by omega) ⟨rfl, rfl, rfl, rfl, rfl, rfl, rfl, rfl, rfl, rfl, trivial⟩ (fun w h => ?_)
        rw [pn']
        exact h
      | true =>
        rw [hsij] at q1
        have py' := py hsij
        clear pn py
        generalize pK (fun i => sel i j) m i r.2 = cur at *
        repeat' (first
    | (show YK _ _ _ _ _ ⟨_, .call { callee := .value _, args := _, argTypes := _ }, _, _, _, _⟩ _; refine YK.mk (y_callV (by rfl) q1 hCw ⟨rfl, rfl, rfl⟩ hgo) ?_)
    | (show RS _ _ _ _ _ _ _ (⟨none, .store _ _ _, _, _, _, _⟩ :: _); refine RS.storePx (xt := xt) (s := r.1) (l := cur) (i := i) (m := m) ?_ (by rfl) (by rfl) (by exact updA) (by omega) hl3 (by decide +kernel))
    | (show YK _ _ _ _ _ ⟨_, .indexAddr 85 _ _, _, _, _, _⟩ _; refine YK.ofV (y_indexAddr (v := r.1.v) (s := 1) (m := (i : Int)) (f := cB) (l := cur) (by rfl) (by rfl) (RdT.px (by exact memA) hl3 (by omega)) (fun _ => rfl) ⟨by omega, by omega⟩ (by rfl) (by decide +kernel)) ?_)
    | (refine nxV ?_)
    | (show RS _ _ _ _ _ _ _ _; first | (refine nxRS ?_) | (refine nxRS1 fun _ => ?_))
    | (show RM _ _ _ _ _ _ _ _ _ _; first | (refine nxRM ?_) | (refine nxRM1 fun _ => ?_))
    | (refine nxG ?_)
    | (refine nxX ?_)
    | (refine G.condN rfl (fun hc => ?_) (fun hc => ?_) <;> (try first | exact False.elim hc | (exfalso; omega))))
        refine X.again (i + 1) (by omega) (by omega) ⟨rfl, rfl, rfl, rfl, rfl, rfl, rfl, rfl, rfl, rfl, trivial⟩ (fun w h => ?_)
        rw [py']
        exact h
    · obtain rfl : i = wd := by omega
      repeat' (first
    | (refine nxV ?_)
    | (show RS _ _ _ _ _ _ _ _; first | (refine nxRS ?_) | (refine nxRS1 fun _ => ?_))
    | (show RM _ _ _ _ _ _ _ _ _ _; first | (refine nxRM ?_) | (refine nxRM1 fun _ => ?_))
    | (refine nxG ?_)
    | (refine nxX ?_)
    | (refine G.condN rfl (fun hc => ?_) (fun hc => ?_) <;> (try first | exact False.elim hc | (exfalso; omega))))
      refine X.again (j + 1) (by omega) (by omega) ⟨rfl, rfl, rfl, rfl, rfl, rfl, trivial⟩ (fun w h => ?_)
      rw [s2, hl1]
      exact h.perm (permA _).symm
  · obtain rfl : j = rs.length := by omega
    repeat' (first
    | (refine nxV ?_)
    | (show RS _ _ _ _ _ _ _ _; first | (refine nxRS ?_) | (refine nxRS1 fun _ => ?_))
    | (show RM _ _ _ _ _ _ _ _ _ _; first | (refine nxRM ?_) | (refine nxRM1 fun _ => ?_))
    | (refine nxG ?_)
    | (refine nxX ?_)
    | (refine G.condN rfl (fun hc => ?_) (fun hc => ?_) <;> (try first | exact False.elim hc | (exfalso; omega))))
    exact X.endN rfl (fun w hw => ⟨rfl, hw⟩)
end Go.Proofs.YthilhhegchmjeaaGreat
/- What a line draws: its closure. -/
set_option linter.unusedVariables false
set_option maxHeartbeats 8000000
namespace Go.Proofs.YthilhhegchmjeaaGreat
open Go.RowKit
abbrev bxV (b : Nat) : Value := .pointer (some ⟨b, 0, none⟩)
/-- The world in which a line's pixels are asked for. -/
structure LnW (b b3 b4 b5 b6 : Nat) (la lo u cs : Int) (z : Sl) (rows : List Sl) (wd : Nat) (ca sa d : Int) (w : World) : Prop where
  sh : ShR b la lo u cs z rows wd w
  c3 : ∀ k v, [ptS b][k]? = some v → w.cell? ⟨b3, k, none⟩ = some v
  c4 : ∀ k v, [Value.int .i64 ca][k]? = some v → w.cell? ⟨b4, k, none⟩ = some v
  c5 : ∀ k v, [Value.int .i64 sa][k]? = some v → w.cell? ⟨b5, k, none⟩ = some v
  c6 : ∀ k v, [Value.int .i64 d][k]? = some v → w.cell? ⟨b6, k, none⟩ = some v
/-- Does the line touch this pixel? -/
def lineI (u ca sa d e n : Int) : Bool := decide (2 * max (ca * e + sa * n - 8192 * d) (-(ca * e + sa * n - 8192 * d)) ≤ u * (max ca (-ca) + 2 * max sa (-sa)))
variable {b : Nat} {la lo u cs : Int} {z : Sl} {rows : List Sl} {wd : Nat}
theorem line1_c (ok : ShOk la lo u cs rows wd) {b3 b4 b5 b6 : Nat} {ca sa d : Int} (hca : -8192 ≤ ca ∧ ca ≤ 8192) (hsa : -8192 ≤ sa ∧ sa ≤ 8192) (hd : -1000000000 ≤ d ∧ d ≤ 1000000000) {i j : Int} (hi : -1000 ≤ i ∧ i ≤ 1000) (hj : -1000 ≤ j ∧ j ≤ 1000) :
    ContIn Tryz.prog (LnW b b3 b4 b5 b6 la lo u cs z rows wd ca sa d) 28 [.int .i64 i, .int .i64 j, bxV b3, bxV b4, bxV b5, bxV b6] (.bool (lineI u ca sa d ((i - ((wd : Int) - 1) / 2) * u) ((((rows.length : Int) - 1) / 2 - j) * 2 * u))) := fun w hs => by
  have hcl := hs.sh.cell
  have h3 := hs.c3
  have h4 := hs.c4
  have h5 := hs.c5
  have h6 := hs.c6
  have q1 := offset_c (b := b) (z := z) ok hi hj
  obtain ⟨r1, w0, w1, _, _, hu, _⟩ := ok
  have b1 := TT.abs_mul_le (A := 2000) (u := 100000) (a := i - ((wd : Int) - 1) / 2) (t := u) (by omega) (by omega)
  have b2 := TT.abs_mul_le (A := 4000) (u := 100000) (a := (((rows.length : Int) - 1) / 2 - j) * 2) (t := u) (by omega) (by omega)
  generalize (i - ((wd : Int) - 1) / 2) * u = e at *
  generalize (((rows.length : Int) - 1) / 2 - j) * 2 * u = n at *
  have b3 := TT.abs_mul_le (A := 8192) (u := 400000000) (a := ca) (t := e) (by omega) (by omega)
  have b4 := TT.abs_mul_le (A := 8192) (u := 400000000) (a := sa) (t := n) (by omega) (by omega)
  have b5 := TT.abs_mul_le (A := 100000) (u := 24576) (a := u) (t := max ca (-ca) + 2 * max sa (-sa)) (by omega) (by omega)
  have q2 := psize_c (a := ca * e + sa * n - 8192 * d) (by omega)
  have q3 := psize_c (a := ca) (by omega)
  have q4 := psize_c (a := sa) (by omega)
  unfold lineI
  refine enter Tryz.func28 rfl rfl rfl (Hp := [Hl.rd z.v cSl 1 rows]) (fun h hm => by
    rcases List.mem_singleton.1 hm with rfl
    exact ⟨⟨hs.sh.rows, fun h => by cases h⟩, rfl⟩) ?_
  repeat' (first
    | (refine nxN ?_)
    | (show VK _ _ _ _ _ ⟨_, .load 35 _, _, _, _, _⟩ _; refine VK.mk (y_loadX (by rfl) (h3 _ _ (by rfl)) (by decide +kernel)) ?_)
    | (show YK _ _ _ _ _ ⟨_, .load 35 _, _, _, _, _⟩ _; refine YK.ofV (y_loadX (by rfl) (h3 _ _ (by rfl)) (by decide +kernel)) ?_)
    | (show VG _ _ _ _ _ _ ⟨_, .load 35 _, _, _, _, _⟩ _; refine VG.mk (fun hb => by (try (have hc := And.left hb; have hb := And.right hb; rw [hc])); (try rw [hb]); exact y_loadX (by rfl) (h3 _ _ (by rfl)) (by decide +kernel)) ?_)
    | (show YG _ _ _ _ _ _ ⟨_, .load 35 _, _, _, _, _⟩ _; refine YG.mk (fun hb => by (try (have hc := And.left hb; have hb := And.right hb; rw [hc])); (try rw [hb]); exact V.y (y_loadX (by rfl) (h3 _ _ (by rfl)) (by decide +kernel))) ?_)
    | (show VK _ _ _ _ _ ⟨_, .load 3 _, _, _, _, _⟩ _; refine VK.mk (y_loadX (by rfl) (h4 _ _ (by rfl)) (by decide +kernel)) ?_)
    | (show YK _ _ _ _ _ ⟨_, .load 3 _, _, _, _, _⟩ _; refine YK.ofV (y_loadX (by rfl) (h4 _ _ (by rfl)) (by decide +kernel)) ?_)
    | (show VG _ _ _ _ _ _ ⟨_, .load 3 _, _, _, _, _⟩ _; refine VG.mk (fun hb => by (try (have hc := And.left hb; have hb := And.right hb; rw [hc])); (try rw [hb]); exact y_loadX (by rfl) (h4 _ _ (by rfl)) (by decide +kernel)) ?_)
    | (show YG _ _ _ _ _ _ ⟨_, .load 3 _, _, _, _, _⟩ _; refine YG.mk (fun hb => by (try (have hc := And.left hb; have hb := And.right hb; rw [hc])); (try rw [hb]); exact V.y (y_loadX (by rfl) (h4 _ _ (by rfl)) (by decide +kernel))) ?_)
    | (show VK _ _ _ _ _ ⟨_, .load 3 _, _, _, _, _⟩ _; refine VK.mk (y_loadX (by rfl) (h5 _ _ (by rfl)) (by decide +kernel)) ?_)
    | (show YK _ _ _ _ _ ⟨_, .load 3 _, _, _, _, _⟩ _; refine YK.ofV (y_loadX (by rfl) (h5 _ _ (by rfl)) (by decide +kernel)) ?_)
    | (show VG _ _ _ _ _ _ ⟨_, .load 3 _, _, _, _, _⟩ _; refine VG.mk (fun hb => by (try (have hc := And.left hb; have hb := And.right hb; rw [hc])); (try rw [hb]); exact y_loadX (by rfl) (h5 _ _ (by rfl)) (by decide +kernel)) ?_)
    | (show YG _ _ _ _ _ _ ⟨_, .load 3 _, _, _, _, _⟩ _; refine YG.mk (fun hb => by (try (have hc := And.left hb; have hb := And.right hb; rw [hc])); (try rw [hb]); exact V.y (y_loadX (by rfl) (h5 _ _ (by rfl)) (by decide +kernel))) ?_)
    | (show VK _ _ _ _ _ ⟨_, .load 3 _, _, _, _, _⟩ _; refine VK.mk (y_loadX (by rfl) (h6 _ _ (by rfl)) (by decide +kernel)) ?_)
    | (show YK _ _ _ _ _ ⟨_, .load 3 _, _, _, _, _⟩ _; refine YK.ofV (y_loadX (by rfl) (h6 _ _ (by rfl)) (by decide +kernel)) ?_)
    | (show VG _ _ _ _ _ _ ⟨_, .load 3 _, _, _, _, _⟩ _; refine VG.mk (fun hb => by (try (have hc := And.left hb; have hb := And.right hb; rw [hc])); (try rw [hb]); exact y_loadX (by rfl) (h6 _ _ (by rfl)) (by decide +kernel)) ?_)
    | (show YG _ _ _ _ _ _ ⟨_, .load 3 _, _, _, _, _⟩ _; refine YG.mk (fun hb => by (try (have hc := And.left hb; have hb := And.right hb; rw [hc])); (try rw [hb]); exact V.y (y_loadX (by rfl) (h6 _ _ (by rfl)) (by decide +kernel))) ?_)
    | (show VK _ _ _ _ _ ⟨_, .load 36 _, _, _, _, _⟩ _; refine VK.mk (y_loadX (by rfl) (hcl _ _ (by rfl)) (by decide +kernel)) ?_)
    | (show YK _ _ _ _ _ ⟨_, .load 36 _, _, _, _, _⟩ _; refine YK.ofV (y_loadX (by rfl) (hcl _ _ (by rfl)) (by decide +kernel)) ?_)
    | (show VG _ _ _ _ _ _ ⟨_, .load 36 _, _, _, _, _⟩ _; refine VG.mk (fun hb => by (try (have hc := And.left hb; have hb := And.right hb; rw [hc])); (try rw [hb]); exact y_loadX (by rfl) (hcl _ _ (by rfl)) (by decide +kernel)) ?_)
    | (show YG _ _ _ _ _ _ ⟨_, .load 36 _, _, _, _, _⟩ _; refine YG.mk (fun hb => by (try (have hc := And.left hb; have hb := And.right hb; rw [hc])); (try rw [hb]); exact V.y (y_loadX (by rfl) (hcl _ _ (by rfl)) (by decide +kernel))) ?_)
    | (show VK _ _ _ _ _ ⟨_, .load 3 _, _, _, _, _⟩ _; refine VK.mk (y_loadX (by rfl) (hcl _ _ (by rfl)) (by decide +kernel)) ?_)
    | (show YK _ _ _ _ _ ⟨_, .load 3 _, _, _, _, _⟩ _; refine YK.ofV (y_loadX (by rfl) (hcl _ _ (by rfl)) (by decide +kernel)) ?_)
    | (show VG _ _ _ _ _ _ ⟨_, .load 3 _, _, _, _, _⟩ _; refine VG.mk (fun hb => by (try (have hc := And.left hb; have hb := And.right hb; rw [hc])); (try rw [hb]); exact y_loadX (by rfl) (hcl _ _ (by rfl)) (by decide +kernel)) ?_)
    | (show YG _ _ _ _ _ _ ⟨_, .load 3 _, _, _, _, _⟩ _; refine YG.mk (fun hb => by (try (have hc := And.left hb; have hb := And.right hb; rw [hc])); (try rw [hb]); exact V.y (y_loadX (by rfl) (hcl _ _ (by rfl)) (by decide +kernel))) ?_)
    | (show YK _ _ _ _ _ ⟨_, .call { callee := .value (.func 29), args := _, argTypes := _ }, _, _, _, _⟩ _; refine YK.mk (y_callIn (q1) (fun w' hw' => hs.sh.keep hw'.ext) ⟨rfl, rfl, rfl, rfl⟩ (by decide +kernel)) ?_)
    | (show YG _ _ _ _ _ _ ⟨_, .call { callee := .value (.func 29), args := _, argTypes := _ }, _, _, _, _⟩ _; refine YG.mk (fun hb => by (try (have hc := And.left hb; have hb := And.right hb; rw [hc])); (try rw [hb]); exact y_callIn (q1) (fun w' hw' => hs.sh.keep hw'.ext) ⟨rfl, rfl, rfl, rfl⟩ (by decide +kernel)) ?_)
    | (show YK _ _ _ _ _ _ _; first | refine YK.mk (y_callA (q2) ⟨rfl, rfl⟩) ?_ | refine YK.mk (y_callA (q3) ⟨rfl, rfl⟩) ?_ | refine YK.mk (y_callA (q4) ⟨rfl, rfl⟩) ?_)
    | (show YK _ _ _ _ _ _ _; refine YK.ofV vAuto ?_)
    | (show VK _ _ _ _ _ _ _; refine VK.mk vAuto ?_)
    | (show RS _ _ _ _ _ _ _ _; first | (refine nxRS ?_) | (refine nxRS1 fun _ => ?_))
    | (show RM _ _ _ _ _ _ _ _ _ _; first | (refine nxRM ?_) | (refine nxRM1 fun _ => ?_))
    | (show YG _ _ _ _ _ _ _ _; refine YG.mk (fun hb => by (try (have hc := And.left hb; have hb := And.right hb; rw [hc])); (try rw [hb]); first | exact (y_callA (q2) ⟨rfl, rfl⟩) | exact (y_callA (q3) ⟨rfl, rfl⟩) | exact (y_callA (q4) ⟨rfl, rfl⟩) | exact V.y vAuto) ?_)
    | (show VG _ _ _ _ _ _ _ _; refine VG.mk (fun hb => by (try (have hc := And.left hb; have hb := And.right hb; rw [hc])); (try rw [hb]); exact vAuto) ?_)
    | (refine G.mixedA 2 [.go 0, .go 1, .go 2, .go 3, .go 4, .go 5, .go 6, .go 7, .go 8, .go 9, .go 12, .go 13, .go 14, .go 15, .go 16, .go 18, .go 10, .go 11, .go 17, .go 19, .go 20, .go 21, .go 22, .go 23, .go 24] ?_)
    | (refine nxX ?_)
    | (refine G.condN rfl (fun hc => ?_) (fun hc => ?_) <;> (try first | exact False.elim hc | (exfalso; omega))))
  exact X.ret (vs := [_]) rfl ⟨rfl, rfl⟩ rfl (fun w hw => ⟨rfl, hw.ext⟩)
end Go.Proofs.YthilhhegchmjeaaGreat
/- Valid lines. -/
set_option linter.unusedVariables false
set_option maxHeartbeats 8000000
namespace Go.Proofs.YthilhhegchmjeaaGreat
open Go.RowKit
def fitsB (n : Int) : Bool := decide (-1099511627776 ≤ n) && decide (n ≤ 1099511627776)
def avalB (lo hi : Int) : Bool := decide (lo ≤ hi) && fitsB lo && fitsB hi
def nearB (la lo : Int) : Bool := decide (-5340000 ≤ la) && decide (la ≤ 5340000) && decide (-10800000 ≤ lo) && decide (lo < 10800000)
def lvalB (la lo zl zh il ih : Int) : Bool := nearB la lo && avalB zl zh && decide (0 ≤ zl) && decide (zl < 21600000) && decide (zh - zl < 10800000) && avalB il ih && decide (-600000 ≤ il) && decide (ih ≤ 600000)
abbrev lineV (la lo zl zh il ih : Int) : Value := .agg [.int .i64 la, .int .i64 lo, .int .i64 zl, .int .i64 zh, .int .i64 il, .int .i64 ih].toArray
theorem afits_c {n : Int} : Cont Tryz.prog 94 [.int .i64 n] (.bool (fitsB n)) := fun w => by
  refine enter0 Tryz.func94 rfl rfl rfl ?_
  repeat' (first
    | (refine nxV ?_)
    | (show RS _ _ _ _ _ _ _ _; first | (refine nxRS ?_) | (refine nxRS1 fun _ => ?_))
    | (show RM _ _ _ _ _ _ _ _ _ _; first | (refine nxRM ?_) | (refine nxRM1 fun _ => ?_))
    | (refine nxG ?_)
    | (refine nxX ?_)
    | (refine G.condN rfl (fun hc => ?_) (fun hc => ?_) <;> (try first | exact False.elim hc | (exfalso; omega))))
  exact X.ret (vs := [_]) rfl ⟨rfl, rfl⟩ rfl (fun w hw => ⟨rfl, hw.ext⟩)
theorem aval_c {lo hi : Int} : Cont Tryz.prog 63 [arcV lo hi] (.bool (avalB lo hi)) := fun w => by
  have q1 := afits_c (n := lo)
  have q2 := afits_c (n := hi)
  refine enter0 Tryz.func63 rfl rfl rfl ?_
  repeat' (first
    | (show YK _ _ _ _ _ _ _; first | refine YK.mk (y_callA (q1) ⟨rfl, rfl⟩) ?_ | refine YK.mk (y_callA (q2) ⟨rfl, rfl⟩) ?_)
    | (show YK _ _ _ _ _ _ _; refine YK.ofV vAuto ?_)
    | (show VK _ _ _ _ _ _ _; refine VK.mk vAuto ?_)
    | (show RS _ _ _ _ _ _ _ _; first | (refine nxRS ?_) | (refine nxRS1 fun _ => ?_))
    | (show RM _ _ _ _ _ _ _ _ _ _; first | (refine nxRM ?_) | (refine nxRM1 fun _ => ?_))
    | (show YG _ _ _ _ _ _ _ _; refine YG.mk (fun hb => by (try (have hc := And.left hb; have hb := And.right hb; rw [hc])); (try rw [hb]); first | exact (y_callA (q1) ⟨rfl, rfl⟩) | exact (y_callA (q2) ⟨rfl, rfl⟩) | exact V.y vAuto) ?_)
    | (show VG _ _ _ _ _ _ _ _; refine VG.mk (fun hb => by (try (have hc := And.left hb; have hb := And.right hb; rw [hc])); (try rw [hb]); exact vAuto) ?_)
    | (refine nxX ?_)
    | (refine G.condN rfl (fun hc => ?_) (fun hc => ?_) <;> (try first | exact False.elim hc | (exfalso; omega))))
  exact X.ret (vs := [_]) rfl ⟨rfl, rfl⟩ rfl (fun w hw => ⟨rfl, hw.ext⟩)
theorem near_c {la lo : Int} : Cont Tryz.prog 62 [ptV la lo] (.bool (nearB la lo)) := fun w => by
  refine enter0 Tryz.func62 rfl rfl rfl ?_
  repeat' (first
    | (refine nxV ?_)
    | (show RS _ _ _ _ _ _ _ _; first | (refine nxRS ?_) | (refine nxRS1 fun _ => ?_))
    | (show RM _ _ _ _ _ _ _ _ _ _; first | (refine nxRM ?_) | (refine nxRM1 fun _ => ?_))
    | (refine nxG ?_)
    | (refine nxX ?_)
    | (refine G.condN rfl (fun hc => ?_) (fun hc => ?_) <;> (try first | exact False.elim hc | (exfalso; omega))))
  exact X.ret (vs := [_]) rfl ⟨rfl, rfl⟩ rfl (fun w hw => ⟨rfl, hw.ext⟩)
theorem lval_c {la lo zl zh il ih : Int} : Cont Tryz.prog 22 [lineV la lo zl zh il ih] (.bool (lvalB la lo zl zh il ih)) := fun w => by
  have q1 := near_c (la := la) (lo := lo)
  have q2 := aval_c (lo := zl) (hi := zh)
  have q3 := aval_c (lo := il) (hi := ih)
  unfold lvalB
  cases hz : avalB zl zh with
  | true =>
    rw [hz] at q2
    simp only [avalB, fitsB, Bool.and_eq_true, decide_eq_true_eq] at hz
    refine enter0 Tryz.func22 rfl rfl rfl ?_
    repeat' (first
    | (show YK _ _ _ _ _ ⟨_, .load 28 _, _, _, _, _⟩ _; refine YK.ofV (y_loadPart (k := 2) (by rfl) (by exact memA) (by decide +kernel) (by rfl)) ?_)
    | (show VK _ _ _ _ _ ⟨_, .load 28 _, _, _, _, _⟩ _; refine VK.mk (y_loadPart (k := 2) (by rfl) (by exact memA) (by decide +kernel) (by rfl)) ?_)
    | (show VG _ _ _ _ _ _ ⟨_, .load 28 _, _, _, _, _⟩ _; refine VG.mk (fun hb => by (try (have hc := And.left hb; have hb := And.right hb; rw [hc])); (try rw [hb]); exact y_loadPart (k := 2) (by rfl) (by exact memA) (by decide +kernel) (by rfl)) ?_)
    | (show YG _ _ _ _ _ _ ⟨_, .load 28 _, _, _, _, _⟩ _; refine YG.mk (fun hb => by (try (have hc := And.left hb; have hb := And.right hb; rw [hc])); (try rw [hb]); exact V.y (y_loadPart (k := 2) (by rfl) (by exact memA) (by decide +kernel) (by rfl))) ?_)
    | (show YK _ _ _ _ _ ⟨_, .load 23 _, _, _, _, _⟩ _; refine YK.ofV (y_loadPart (k := 2) (by rfl) (by exact memA) (by decide +kernel) (by rfl)) ?_)
    | (show VK _ _ _ _ _ ⟨_, .load 23 _, _, _, _, _⟩ _; refine VK.mk (y_loadPart (k := 2) (by rfl) (by exact memA) (by decide +kernel) (by rfl)) ?_)
    | (show VG _ _ _ _ _ _ ⟨_, .load 23 _, _, _, _, _⟩ _; refine VG.mk (fun hb => by (try (have hc := And.left hb; have hb := And.right hb; rw [hc])); (try rw [hb]); exact y_loadPart (k := 2) (by rfl) (by exact memA) (by decide +kernel) (by rfl)) ?_)
    | (show YG _ _ _ _ _ _ ⟨_, .load 23 _, _, _, _, _⟩ _; refine YG.mk (fun hb => by (try (have hc := And.left hb; have hb := And.right hb; rw [hc])); (try rw [hb]); exact V.y (y_loadPart (k := 2) (by rfl) (by exact memA) (by decide +kernel) (by rfl))) ?_)
    | (show YK _ _ _ _ _ _ _; first | refine YK.mk (y_callA (q1) ⟨rfl, rfl⟩) ?_ | refine YK.mk (y_callA (q2) ⟨rfl, rfl⟩) ?_ | refine YK.mk (y_callA (q3) ⟨rfl, rfl⟩) ?_)
    | (show YK _ _ _ _ _ _ _; refine YK.ofV vAuto ?_)
    | (show VK _ _ _ _ _ _ _; refine VK.mk vAuto ?_)
    | (show RS _ _ _ _ _ _ _ _; first | (refine nxRS ?_) | (refine nxRS1 fun _ => ?_))
    | (show RM _ _ _ _ _ _ _ _ _ _; first | (refine nxRM ?_) | (refine nxRM1 fun _ => ?_))
    | (show YG _ _ _ _ _ _ _ _; refine YG.mk (fun hb => by (try (have hc := And.left hb; have hb := And.right hb; rw [hc])); (try rw [hb]); first | exact (y_callA (q1) ⟨rfl, rfl⟩) | exact (y_callA (q2) ⟨rfl, rfl⟩) | exact (y_callA (q3) ⟨rfl, rfl⟩) | exact V.y vAuto) ?_)
    | (show VG _ _ _ _ _ _ _ _; refine VG.mk (fun hb => by (try (have hc := And.left hb; have hb := And.right hb; rw [hc])); (try rw [hb]); exact vAuto) ?_)
    | (refine nxX ?_)
    | (refine G.condN rfl (fun hc => ?_) (fun hc => ?_) <;> (try first | exact False.elim hc | (exfalso; omega))))
    exact X.ret (vs := [_]) rfl ⟨rfl, rfl⟩ rfl (fun w hw => ⟨rfl, hw.ext⟩)
  | false =>
    rw [hz] at q2
    refine enter0 Tryz.func22 rfl rfl rfl ?_
    repeat' (first
    | (show YK _ _ _ _ _ ⟨_, .load 28 _, _, _, _, _⟩ _; refine YK.ofV (y_loadPart (k := 2) (by rfl) (by exact memA) (by decide +kernel) (by rfl)) ?_)
    | (show VK _ _ _ _ _ ⟨_, .load 28 _, _, _, _, _⟩ _; refine VK.mk (y_loadPart (k := 2) (by rfl) (by exact memA) (by decide +kernel) (by rfl)) ?_)
    | (show VG _ _ _ _ _ _ ⟨_, .load 28 _, _, _, _, _⟩ _; refine VG.mk (fun hb => by (try (have hc := And.left hb; have hb := And.right hb; rw [hc])); (try rw [hb]); exact y_loadPart (k := 2) (by rfl) (by exact memA) (by decide +kernel) (by rfl)) ?_)
    | (show YG _ _ _ _ _ _ ⟨_, .load 28 _, _, _, _, _⟩ _; refine YG.mk (fun hb => by (try (have hc := And.left hb; have hb := And.right hb; rw [hc])); (try rw [hb]); exact V.y (y_loadPart (k := 2) (by rfl) (by exact memA) (by decide +kernel) (by rfl))) ?_)
    | (show YK _ _ _ _ _ ⟨_, .load 23 _, _, _, _, _⟩ _; refine YK.ofV (y_loadPart (k := 2) (by rfl) (by exact memA) (by decide +kernel) (by rfl)) ?_)
    | (show VK _ _ _ _ _ ⟨_, .load 23 _, _, _, _, _⟩ _; refine VK.mk (y_loadPart (k := 2) (by rfl) (by exact memA) (by decide +kernel) (by rfl)) ?_)
    | (show VG _ _ _ _ _ _ ⟨_, .load 23 _, _, _, _, _⟩ _; refine VG.mk (fun hb => by (try (have hc := And.left hb; have hb := And.right hb; rw [hc])); (try rw [hb]); exact y_loadPart (k := 2) (by rfl) (by exact memA) (by decide +kernel) (by rfl)) ?_)
    | (show YG _ _ _ _ _ _ ⟨_, .load 23 _, _, _, _, _⟩ _; refine YG.mk (fun hb => by (try (have hc := And.left hb; have hb := And.right hb; rw [hc])); (try rw [hb]); exact V.y (y_loadPart (k := 2) (by rfl) (by exact memA) (by decide +kernel) (by rfl))) ?_)
    | (show YK _ _ _ _ _ _ _; first | refine YK.mk (y_callA (q1) ⟨rfl, rfl⟩) ?_ | refine YK.mk (y_callA (q2) ⟨rfl, rfl⟩) ?_ | refine YK.mk (y_callA (q3) ⟨rfl, rfl⟩) ?_)
    | (show YK _ _ _ _ _ _ _; refine YK.ofV vAuto ?_)
    | (show VK _ _ _ _ _ _ _; refine VK.mk vAuto ?_)
    | (show RS _ _ _ _ _ _ _ _; first | (refine nxRS ?_) | (refine nxRS1 fun _ => ?_))
    | (show RM _ _ _ _ _ _ _ _ _ _; first | (refine nxRM ?_) | (refine nxRM1 fun _ => ?_))
    | (show YG _ _ _ _ _ _ _ _; refine YG.mk (fun hb => by (try (have hc := And.left hb; have hb := And.right hb; rw [hc])); (try rw [hb]); first | exact (y_callA (q1) ⟨rfl, rfl⟩) | exact (y_callA (q2) ⟨rfl, rfl⟩) | exact (y_callA (q3) ⟨rfl, rfl⟩) | exact V.y vAuto) ?_)
    | (show VG _ _ _ _ _ _ _ _; refine VG.mk (fun hb => by (try (have hc := And.left hb; have hb := And.right hb; rw [hc])); (try rw [hb]); exact vAuto) ?_)
    | (refine nxX ?_)
    | (refine G.condN rfl (fun hc => ?_) (fun hc => ?_) <;> (try first | exact False.elim hc | (exfalso; omega))))
    refine X.ret (vs := [_]) rfl ⟨rfl, rfl⟩ rfl (fun w hw => ⟨congrArg Ending.returned (congrArg Value.bool ?_), hw.ext⟩)
    simp
end Go.Proofs.YthilhhegchmjeaaGreat
/- Drawing as a contract of a line's and of a region's walk. -/
set_option linter.unusedVariables false
set_option maxHeartbeats 8000000
namespace Go.Proofs.YthilhhegchmjeaaGreat
open Go.RowKit
section
variable {P : Program} {C : World → Prop} {n : Nat} {L : FL} {w0 : World} {H Xs R : List Hl} {Q : Exit → Act → World → Prop} {ops : Array Oper} {rest : List Oper} {dd : Nat} {ty : TypeId} {pos : String} {af : Array Edge} {ι : Type} {f : FuncId} {xs : List Operand} {vs : List Value} {tys : Array TypeId} {post : ι → Prop} {v : ι → Value} {Y : ι → List Hl}
/-- A contract on some of the caller's heaplets: they are shown by a permutation. -/
theorem RS.callPm (hc : ContL P C Xs f vs post v Y) (hC : C w0) (hp : H.Perm (Xs ++ R)) (h : ∀ z, post z → RS P ops Q n ((dd, v z) :: L) w0 (Y z ++ R) rest) (ha : AE L xs vs := by first | exact rfl | exact ⟨rfl, rfl⟩ | exact ⟨rfl, rfl, rfl⟩ | exact ⟨rfl, rfl, rfl, rfl⟩ | exact ⟨rfl, rfl, rfl, rfl, rfl⟩ | exact ⟨rfl, rfl, rfl, rfl, rfl, rfl⟩ | exact ⟨rfl, rfl, rfl, rfl, rfl, rfl, rfl⟩ | exact ⟨rfl, rfl, rfl, rfl, rfl, rfl, rfl, rfl⟩ | exact ⟨rfl, rfl, rfl, rfl, rfl, rfl, rfl, rfl, rfl⟩) (hg : isGo P f = true := by decide +kernel) (hd : Nat.blt dd n = true := by rfl) :
    RS P ops Q n L w0 H (⟨some dd, .call { callee := .value (.func f), args := xs.toArray, argTypes := tys }, ty, pos, af, none⟩ :: rest) := by
  refine RS.actX (post := post) rfl (fun a w hfr hw K Q hK => ?_) h
  unfold Oper.wp
  rw [run_call hfr ha hg]
  refine (hc w0 R w hC (hw.perm hp)).mono ?_
  rintro e w' ⟨z, hz, rfl, hs⟩
  exact hK _ _ ⟨z, hz, hfr.put (by simpa [Nat.blt_eq] using hd), hs⟩
end
variable {xt : Nat → List Value} {b : Nat} {la lo u cs : Int} {z : Sl} {wd : Nat}
theorem ShR.ofSt {w0 w : World} {H : List Hl} {rows : List Sl} (hw : St w0 H w) (h1 : shB b la lo u cs z.v ∈ H) (h2 : rwS z rows ∈ H) : ShR b la lo u cs z rows wd w :=
  ⟨fun k v hk => (hw.cell h1 k).trans hk, RO.of_row (hw.all _ h2)⟩
abbrev bxH (b : Nat) (t : TypeId) (v : Value) : Hl := .blk b t [v]
/-- The boxes of a line. -/
abbrev lnH (b b3 b4 b5 b6 : Nat) (ca sa d : Int) : List Hl := [bxH b3 35 (ptS b), bxH b4 3 (.int .i64 ca), bxH b5 3 (.int .i64 sa), bxH b6 3 (.int .i64 d)]
theorem LnW.ofSt {w0 w : World} {H : List Hl} {rows : List Sl} {b3 b4 b5 b6 : Nat} {ca sa d : Int} (hw : St w0 H w) (h1 : shB b la lo u cs z.v ∈ H) (h2 : rwS z rows ∈ H) (h3 : ∀ h ∈ lnH b b3 b4 b5 b6 ca sa d, h ∈ H) : LnW b b3 b4 b5 b6 la lo u cs z rows wd ca sa d w :=
  ⟨ShR.ofSt hw h1 h2, fun k v hk => (hw.cell (h3 _ (.head _)) k).trans hk, fun k v hk => (hw.cell (h3 _ (.tail _ (.head _))) k).trans hk, fun k v hk => (hw.cell (h3 _ (.tail _ (.tail _ (.head _)))) k).trans hk, fun k v hk => (hw.cell (h3 _ (.tail _ (.tail _ (.tail _ (.head _))))) k).trans hk⟩
/-- Which pixels a line marks. -/
def lineSel (wd h : Nat) (u ca sa d : Int) (i j : Nat) : Bool := lineI u ca sa d (((i : Int) - ((wd : Int) - 1) / 2) * u) ((((h : Int) - 1) / 2 - (j : Int)) * 2 * u)
theorem drawLine_c {rs : List (Sl × List Int)} {m : Int} {b3 b4 b5 b6 : Nat} {ca sa d : Int} (ok : ShOk la lo u cs (rs.map Prod.fst) wd) (hlen : ∀ r ∈ rs, r.2.length = wd ∧ hdOk wd r.1) (hca : -8192 ≤ ca ∧ ca ≤ 8192) (hsa : -8192 ≤ sa ∧ sa ≤ 8192) (hd : -1000000000 ≤ d ∧ d ≤ 1000000000) :
    ContL Tryz.prog (fun _ => True) (shB b la lo u cs z.v :: rwS z (rs.map Prod.fst) :: (rowsH xt rs ++ lnH b b3 b4 b5 b6 ca sa d)) 27 [ptS b, .int .u8 m, .func (.func 28) #[] #[bxV b3, bxV b4, bxV b5, bxV b6]] (fun _ : Unit => True) (fun _ => .tuple #[]) (fun _ => shB b la lo u cs z.v :: rwS z (rs.map Prod.fst) :: (rowsH xt (pR (lineSel wd rs.length u ca sa d) m rs.length 0 rs) ++ lnH b b3 b4 b5 b6 ca sa d)) := fun w0 HR w _ hs => by
  have hr := ok.r1
  have hw := ok.w1
  rw [List.length_map] at hr
  have hs' : St w0 (shB b la lo u cs z.v :: rwS z (rs.map Prod.fst) :: (rowsH xt rs ++ (lnH b b3 b4 b5 b6 ca sa d ++ HR))) w := by
    rw [← List.append_assoc]; exact hs
  refine (draw_c (fid := 28) (cap := #[bxV b3, bxV b4, bxV b5, bxV b6]) (sel := lineSel wd rs.length u ca sa d) (m := m) (wd := wd) (C := LnW b b3 b4 b5 b6 la lo u cs z (rs.map Prod.fst) wd ca sa d) (fun i j hi hj => ?_) (by decide +kernel) (fun rs' w' _ hw' => LnW.ofSt hw' (.head _) (.tail _ (.head _)) (fun h hm => .tail _ (.tail _ (List.mem_append_right _ (List.mem_append_left _ hm))))) hlen hr.2 hw.2 hs').mono ?_
  · have q := line1_c (b := b) (z := z) ok (b3 := b3) (b4 := b4) (b5 := b5) (b6 := b6) hca hsa hd (i := (i : Int)) (j := (j : Int)) (by omega) (by omega)
    rw [List.length_map] at q
    exact q
  · rintro e w' ⟨rfl, h⟩
    refine ⟨(), trivial, rfl, ?_⟩
    rw [← List.append_assoc] at h
    exact h
end Go.Proofs.YthilhhegchmjeaaGreat
/- A line drawn. -/
set_option linter.unusedVariables false
set_option maxHeartbeats 8000000
namespace Go.Proofs.YthilhhegchmjeaaGreat
open Go.RowKit
variable {xt : Nat → List Value} {b : Nat} {la lo u cs : Int} {z : Sl} {wd : Nat}
theorem validI_at {a : Int} (h : -1099511627776 ≤ a ∧ a ≤ 1099511627776) : validI a a = true := by simp [validI, h.1, h.2]
theorem perm_ln {x13 x12 x11 x10 x8 x7 x4 x3 s1 s2 : Hl} {A HR : List Hl} : (x13 :: x11 :: x12 :: x10 :: x8 :: x7 :: x4 :: x3 :: s1 :: s2 :: (A ++ HR)).Perm ((s1 :: s2 :: (A ++ [x3, x11, x12, x13])) ++ (x10 :: x8 :: x7 :: x4 :: HR)) := by
  classical
  refine List.perm_iff_count.2 fun a => ?_
  simp only [List.count_cons, List.count_append, List.cons_append, List.count_nil]
  omega
theorem sub_ln {b1 b2 b3 b4 y1 y2 y3 y4 s1 s2 : Hl} {A HR : List Hl} : ((s1 :: s2 :: A) ++ HR).Sublist ((s1 :: s2 :: (A ++ [b1, b2, b3, b4])) ++ (y1 :: y2 :: y3 :: y4 :: HR)) := by
  refine List.Sublist.cons_cons _ (List.Sublist.cons_cons _ ?_)
  show (A ++ HR).Sublist ((A ++ [b1, b2, b3, b4]) ++ (y1 :: y2 :: y3 :: y4 :: HR))
  rw [List.append_assoc]
  refine (List.Sublist.refl A).append ?_
  repeat (first | exact List.Sublist.refl _ | apply List.Sublist.cons)
def midI (a c : Int) : Int := (a + c) / 2
theorem line_ok {rs : List (Sl × List Int)} {m zl zh il ih : Int} (ok : ShOk la lo u cs (rs.map Prod.fst) wd) (hlen : ∀ r ∈ rs, r.2.length = wd ∧ hdOk wd r.1) (hm : 33 ≤ m ∧ m ≤ 126) (hv : lvalB la lo zl zh il ih = true)
    (hS : -1073741824 ≤ (TT.encl (midI zl zh) (midI zl zh)).1 ∧ (TT.encl (midI zl zh) (midI zl zh)).1 ≤ 1073741824) (hC : -1073741824 ≤ (TT.cosE (midI zl zh) (midI zl zh)).1 ∧ (TT.cosE (midI zl zh) (midI zl zh)).1 ≤ 1073741824) :
    ContL Tryz.prog (fun _ => True) (shB b la lo u cs z.v :: rwS z (rs.map Prod.fst) :: rowsH xt rs) 8 [ptS b, lineV la lo zl zh il ih, .int .u8 m] (fun _ : Unit => True) (fun _ => .int .i64 0) (fun _ => shB b la lo u cs z.v :: rwS z (rs.map Prod.fst) :: rowsH xt (pR (lineSel wd rs.length u ((TT.encl (midI zl zh) (midI zl zh)).1 / 131072) ((TT.cosE (midI zl zh) (midI zl zh)).1 / 131072) (midI il ih)) m rs.length 0 rs)) := fun w0 HR w _ hs => by
  have q1 := marks_c (b := b) (m := m) (by omega)
  rw [show (decide (33 ≤ m) && decide (m ≤ 126)) = true by simp [hm]] at q1
  have q2 := lval_c (la := la) (lo := lo) (zl := zl) (zh := zh) (il := il) (ih := ih)
  rw [hv] at q2
  simp only [lvalB, avalB, fitsB, nearB, Bool.and_eq_true, decide_eq_true_eq] at hv
  have q3 := pfloor_c (n := zl + zh) (d := 2) (by omega)
  have q4 := pone_c (a := (zl + zh) / 2)
  have q5 := Sin_c (lo := midI zl zh) (hi := midI zl zh) (validI_at (by unfold midI; omega))
  have q6 := Cos_c (lo := midI zl zh) (hi := midI zl zh) (validI_at (by unfold midI; omega))
  have q7 := pfloor_c (n := (TT.encl (midI zl zh) (midI zl zh)).1) (d := 131072) (by omega)
  have q8 := pfloor_c (n := (TT.cosE (midI zl zh) (midI zl zh)).1) (d := 131072) (by omega)
  have q9 := pfloor_c (n := il + ih) (d := 2) (by omega)
  have qd := fun b3 b4 b5 b6 => drawLine_c (xt := xt) (b := b) (z := z) (m := m) (b3 := b3) (b4 := b4) (b5 := b5) (b6 := b6) (ca := (TT.encl (midI zl zh) (midI zl zh)).1 / 131072) (sa := (TT.cosE (midI zl zh) (midI zl zh)).1 / 131072) (d := (il + ih) / 2) ok hlen (by omega) (by omega) (by omega)
  unfold midI at *
  refine enterU Tryz.func8 rfl rfl rfl (H := shB b la lo u cs z.v :: rwS z (rs.map Prod.fst) :: (rowsH xt rs ++ HR)) hs ?_
  repeat' (first
    | (refine nxN ?_)
    | (show YK _ _ _ _ _ ⟨_, .load 28 _, _, _, _, _⟩ _; refine YK.ofV (y_loadPart (k := 2) (by rfl) (by exact memA) (by decide +kernel) (by rfl)) ?_)
    | (show VK _ _ _ _ _ ⟨_, .load 28 _, _, _, _, _⟩ _; refine VK.mk (y_loadPart (k := 2) (by rfl) (by exact memA) (by decide +kernel) (by rfl)) ?_)
    | (show VG _ _ _ _ _ _ ⟨_, .load 28 _, _, _, _, _⟩ _; refine VG.mk (fun hb => by (try (have hc := And.left hb; have hb := And.right hb; rw [hc])); (try rw [hb]); exact y_loadPart (k := 2) (by rfl) (by exact memA) (by decide +kernel) (by rfl)) ?_)
    | (show YK _ _ _ _ _ ⟨_, .load 23 _, _, _, _, _⟩ _; refine YK.ofV (y_loadPart (k := 2) (by rfl) (by exact memA) (by decide +kernel) (by rfl)) ?_)
    | (show VK _ _ _ _ _ ⟨_, .load 23 _, _, _, _, _⟩ _; refine VK.mk (y_loadPart (k := 2) (by rfl) (by exact memA) (by decide +kernel) (by rfl)) ?_)
    | (show VG _ _ _ _ _ _ ⟨_, .load 23 _, _, _, _, _⟩ _; refine VG.mk (fun hb => by (try (have hc := And.left hb; have hb := And.right hb; rw [hc])); (try rw [hb]); exact y_loadPart (k := 2) (by rfl) (by exact memA) (by decide +kernel) (by rfl)) ?_)
    | (show YK _ _ _ _ _ ⟨_, .makeFunc _ _ _, _, _, _, _⟩ _; refine YK.ofV (y_makeFunc (vs := [_, _, _, _]) ⟨rfl, rfl, rfl, rfl, rfl⟩) ?_)
    | (show RS _ _ _ _ _ _ _ (⟨_, .call { callee := .value (.func 27), args := _, argTypes := _ }, _, _, _, _⟩ :: _); refine RS.callPm (qd _ _ _ _) trivial perm_ln ?_; rintro ⟨⟩ -; dsimp only [List.cons_append, List.nil_append])
    | (show YK _ _ _ _ _ _ _; first | refine YK.mk (y_callA (q1) ⟨rfl, rfl, rfl⟩) ?_ | refine YK.mk (y_callA (q2) ⟨rfl, rfl⟩) ?_ | refine YK.mk (y_callA (q3) ⟨rfl, rfl, rfl⟩) ?_ | refine YK.mk (y_callA (q4) ⟨rfl, rfl⟩) ?_ | refine YK.mk (y_callA (q5) ⟨rfl, rfl⟩) ?_ | refine YK.mk (y_callA (q6) ⟨rfl, rfl⟩) ?_ | refine YK.mk (y_callA (q7) ⟨rfl, rfl, rfl⟩) ?_ | refine YK.mk (y_callA (q8) ⟨rfl, rfl, rfl⟩) ?_ | refine YK.mk (y_callA (q9) ⟨rfl, rfl, rfl⟩) ?_)
    | (show YK _ _ _ _ _ _ _; refine YK.ofV vAuto ?_)
    | (show VK _ _ _ _ _ _ _; refine VK.mk vAuto ?_)
    | (show RS _ _ _ _ _ _ _ _; first | (refine nxRS ?_) | (refine nxRS1 fun _ => ?_))
    | (show RM _ _ _ _ _ _ _ _ _ _; first | (refine nxRM ?_) | (refine nxRM1 fun _ => ?_))
    | (show YG _ _ _ _ _ _ _ _; refine YG.mk (fun hb => by (try (have hc := And.left hb; have hb := And.right hb; rw [hc])); (try rw [hb]); first | exact (y_callA (q1) ⟨rfl, rfl, rfl⟩) | exact (y_callA (q2) ⟨rfl, rfl⟩) | exact (y_callA (q3) ⟨rfl, rfl, rfl⟩) | exact (y_callA (q4) ⟨rfl, rfl⟩) | exact (y_callA (q5) ⟨rfl, rfl⟩) | exact (y_callA (q6) ⟨rfl, rfl⟩) | exact (y_callA (q7) ⟨rfl, rfl, rfl⟩) | exact (y_callA (q8) ⟨rfl, rfl, rfl⟩) | exact (y_callA (q9) ⟨rfl, rfl, rfl⟩) | exact V.y vAuto) ?_)
    | (show VG _ _ _ _ _ _ _ _; refine VG.mk (fun hb => by (try (have hc := And.left hb; have hb := And.right hb; rw [hc])); (try rw [hb]); exact vAuto) ?_)
    | (refine G.mixedA 3 [.go 0, .go 1, .go 2, .go 3, .go 4, .go 5, .go 6, .go 7] ?_)
    | (refine G.mixedA 12 [.go 0, .go 1, .go 3, .go 4, .pend 6, .pend 7, .go 2, .go 5, .done, .done, .go 8, .go 9] ?_)
    | (refine nxX ?_)
    | (refine G.condN rfl (fun hc => ?_) (fun hc => ?_) <;> (try first | exact False.elim hc | (exfalso; omega))))
  · exfalso
    revert hc
    simp [eqCells, vEq]
  · exact X.ret (vs := [_]) rfl ⟨rfl, rfl⟩ rfl (fun w hw => ⟨(), trivial, rfl, St.sub hw sub_ln⟩)
end Go.Proofs.YthilhhegchmjeaaGreat
/- A line that is not drawn. -/
set_option linter.unusedVariables false
set_option maxHeartbeats 8000000
namespace Go.Proofs.YthilhhegchmjeaaGreat
open Go.RowKit
variable {xt : Nat → List Value} {b : Nat} {la lo u cs : Int} {z : Sl} {wd : Nat}
theorem line_arg {rs : List (Sl × List Int)} {pla plo m zl zh il ih : Int} (hm : 0 ≤ m ∧ m ≤ 255) (hv : ((decide (33 ≤ m) && decide (m ≤ 126)) && lvalB pla plo zl zh il ih) = false) :
    ContL Tryz.prog (fun _ => True) (shB b la lo u cs z.v :: rwS z (rs.map Prod.fst) :: rowsH xt rs) 8 [ptS b, lineV pla plo zl zh il ih, .int .u8 m] (fun _ : Unit => True) (fun _ => .int .i64 1) (fun _ => shB b la lo u cs z.v :: rwS z (rs.map Prod.fst) :: rowsH xt rs) := fun w0 HR w _ hs => by
  have q1 := marks_c (b := b) (m := m) hm
  have q2 := lval_c (la := pla) (lo := plo) (zl := zl) (zh := zh) (il := il) (ih := ih)
  cases h1 : (decide (33 ≤ m) && decide (m ≤ 126)) <;> cases h2 : lvalB pla plo zl zh il ih <;> rw [h1] at q1 hv <;> rw [h2] at q2 hv <;> first
    | (exfalso; revert hv; decide)
    | (clear hv h1 h2
       refine enterU Tryz.func8 rfl rfl rfl (H := shB b la lo u cs z.v :: rwS z (rs.map Prod.fst) :: (rowsH xt rs ++ HR)) hs ?_
       repeat' (first
    | (refine nxN ?_)
    | (show YK _ _ _ _ _ ⟨_, .load 28 _, _, _, _, _⟩ _; refine YK.ofV (y_loadPart (k := 2) (by rfl) (by exact memA) (by decide +kernel) (by rfl)) ?_)
    | (show VK _ _ _ _ _ ⟨_, .load 28 _, _, _, _, _⟩ _; refine VK.mk (y_loadPart (k := 2) (by rfl) (by exact memA) (by decide +kernel) (by rfl)) ?_)
    | (show VG _ _ _ _ _ _ ⟨_, .load 28 _, _, _, _, _⟩ _; refine VG.mk (fun hb => by (try (have hc := And.left hb; have hb := And.right hb; rw [hc])); (try rw [hb]); exact y_loadPart (k := 2) (by rfl) (by exact memA) (by decide +kernel) (by rfl)) ?_)
    | (show YK _ _ _ _ _ ⟨_, .load 23 _, _, _, _, _⟩ _; refine YK.ofV (y_loadPart (k := 2) (by rfl) (by exact memA) (by decide +kernel) (by rfl)) ?_)
    | (show VK _ _ _ _ _ ⟨_, .load 23 _, _, _, _, _⟩ _; refine VK.mk (y_loadPart (k := 2) (by rfl) (by exact memA) (by decide +kernel) (by rfl)) ?_)
    | (show VG _ _ _ _ _ _ ⟨_, .load 23 _, _, _, _, _⟩ _; refine VG.mk (fun hb => by (try (have hc := And.left hb; have hb := And.right hb; rw [hc])); (try rw [hb]); exact y_loadPart (k := 2) (by rfl) (by exact memA) (by decide +kernel) (by rfl)) ?_)
    | (show YK _ _ _ _ _ _ _; first | refine YK.mk (y_callA (q1) ⟨rfl, rfl, rfl⟩) ?_ | refine YK.mk (y_callA (q2) ⟨rfl, rfl⟩) ?_)
    | (show YK _ _ _ _ _ _ _; refine YK.ofV vAuto ?_)
    | (show VK _ _ _ _ _ _ _; refine VK.mk vAuto ?_)
    | (show RS _ _ _ _ _ _ _ _; first | (refine nxRS ?_) | (refine nxRS1 fun _ => ?_))
    | (show RM _ _ _ _ _ _ _ _ _ _; first | (refine nxRM ?_) | (refine nxRM1 fun _ => ?_))
    | (show YG _ _ _ _ _ _ _ _; refine YG.mk (fun hb => by (try (have hc := And.left hb; have hb := And.right hb; rw [hc])); (try rw [hb]); first | exact (y_callA (q1) ⟨rfl, rfl, rfl⟩) | exact (y_callA (q2) ⟨rfl, rfl⟩) | exact V.y vAuto) ?_)
    | (show VG _ _ _ _ _ _ _ _; refine VG.mk (fun hb => by (try (have hc := And.left hb; have hb := And.right hb; rw [hc])); (try rw [hb]); exact vAuto) ?_)
    | (refine G.mixedA 3 [.go 0, .go 1, .go 2, .go 3, .go 4, .go 5, .go 6, .go 7] ?_)
    | (refine G.mixedA 12 [.go 0, .go 1, .go 3, .go 4, .pend 6, .pend 7, .go 2, .go 5, .done, .done, .go 8, .go 9] ?_)
    | (refine nxX ?_)
    | (refine G.condN rfl (fun hc => ?_) (fun hc => ?_) <;> (try first | exact False.elim hc | (exfalso; omega))))
       exact X.ret (vs := [_]) rfl ⟨rfl, rfl⟩ rfl (fun w hw => ⟨(), trivial, rfl, St.sub hw (by repeat (first | exact List.Sublist.refl _ | apply List.Sublist.cons))⟩))
theorem line_shape {rs : List (Sl × List Int)} {pla plo m zl zh il ih : Int} (hm : 33 ≤ m ∧ m ≤ 126) (hv : lvalB pla plo zl zh il ih = true) (hne : ¬ (pla = la ∧ plo = lo)) :
    ContL Tryz.prog (fun _ => True) (shB b la lo u cs z.v :: rwS z (rs.map Prod.fst) :: rowsH xt rs) 8 [ptS b, lineV pla plo zl zh il ih, .int .u8 m] (fun _ : Unit => True) (fun _ => .int .i64 26) (fun _ => shB b la lo u cs z.v :: rwS z (rs.map Prod.fst) :: rowsH xt rs) := fun w0 HR w _ hs => by
  have q1 := marks_c (b := b) (m := m) (by omega)
  have q2 := lval_c (la := pla) (lo := plo) (zl := zl) (zh := zh) (il := il) (ih := ih)
  rw [show (decide (33 ≤ m) && decide (m ≤ 126)) = true by simp [hm]] at q1
  rw [hv] at q2
  clear hv
  refine enterU Tryz.func8 rfl rfl rfl (H := shB b la lo u cs z.v :: rwS z (rs.map Prod.fst) :: (rowsH xt rs ++ HR)) hs ?_
  repeat' (first
    | (refine nxN ?_)
    | (show YK _ _ _ _ _ ⟨_, .load 28 _, _, _, _, _⟩ _; refine YK.ofV (y_loadPart (k := 2) (by rfl) (by exact memA) (by decide +kernel) (by rfl)) ?_)
    | (show VK _ _ _ _ _ ⟨_, .load 28 _, _, _, _, _⟩ _; refine VK.mk (y_loadPart (k := 2) (by rfl) (by exact memA) (by decide +kernel) (by rfl)) ?_)
    | (show VG _ _ _ _ _ _ ⟨_, .load 28 _, _, _, _, _⟩ _; refine VG.mk (fun hb => by (try (have hc := And.left hb; have hb := And.right hb; rw [hc])); (try rw [hb]); exact y_loadPart (k := 2) (by rfl) (by exact memA) (by decide +kernel) (by rfl)) ?_)
    | (show YK _ _ _ _ _ ⟨_, .load 23 _, _, _, _, _⟩ _; refine YK.ofV (y_loadPart (k := 2) (by rfl) (by exact memA) (by decide +kernel) (by rfl)) ?_)
    | (show VK _ _ _ _ _ ⟨_, .load 23 _, _, _, _, _⟩ _; refine VK.mk (y_loadPart (k := 2) (by rfl) (by exact memA) (by decide +kernel) (by rfl)) ?_)
    | (show VG _ _ _ _ _ _ ⟨_, .load 23 _, _, _, _, _⟩ _; refine VG.mk (fun hb => by (try (have hc := And.left hb; have hb := And.right hb; rw [hc])); (try rw [hb]); exact y_loadPart (k := 2) (by rfl) (by exact memA) (by decide +kernel) (by rfl)) ?_)
    | (show YK _ _ _ _ _ _ _; first | refine YK.mk (y_callA (q1) ⟨rfl, rfl, rfl⟩) ?_ | refine YK.mk (y_callA (q2) ⟨rfl, rfl⟩) ?_)
    | (show YK _ _ _ _ _ _ _; refine YK.ofV vAuto ?_)
    | (show VK _ _ _ _ _ _ _; refine VK.mk vAuto ?_)
    | (show RS _ _ _ _ _ _ _ _; first | (refine nxRS ?_) | (refine nxRS1 fun _ => ?_))
    | (show RM _ _ _ _ _ _ _ _ _ _; first | (refine nxRM ?_) | (refine nxRM1 fun _ => ?_))
    | (show YG _ _ _ _ _ _ _ _; refine YG.mk (fun hb => by (try (have hc := And.left hb; have hb := And.right hb; rw [hc])); (try rw [hb]); first | exact (y_callA (q1) ⟨rfl, rfl, rfl⟩) | exact (y_callA (q2) ⟨rfl, rfl⟩) | exact V.y vAuto) ?_)
    | (show VG _ _ _ _ _ _ _ _; refine VG.mk (fun hb => by (try (have hc := And.left hb; have hb := And.right hb; rw [hc])); (try rw [hb]); exact vAuto) ?_)
    | (refine G.mixedA 3 [.go 0, .go 1, .go 2, .go 3, .go 4, .go 5, .go 6, .go 7] ?_)
    | (refine G.mixedA 12 [.go 0, .go 1, .go 3, .go 4, .pend 6, .pend 7, .go 2, .go 5, .done, .done, .go 8, .go 9] ?_)
    | (refine nxX ?_)
    | (refine G.condN rfl (fun hc => ?_) (fun hc => ?_) <;> (try first | exact False.elim hc | (exfalso; omega))))
  · exact X.ret (vs := [_]) rfl ⟨rfl, rfl⟩ rfl (fun w hw => ⟨(), trivial, rfl, St.sub hw (by repeat (first | exact List.Sublist.refl _ | apply List.Sublist.cons))⟩)
  · exact absurd (by simpa [eqCells, vEq] using hc) hne
end Go.Proofs.YthilhhegchmjeaaGreat
/- bytes.Repeat of one byte: a new block, filled. -/
set_option linter.unusedVariables false
set_option maxHeartbeats 4000000
namespace Go.Proofs.YthilhhegchmjeaaGreat
open Go.RowKit
section
variable {P : Program} {n : Nat} {L : FL} {w0 : World} {H : List Hl} {Q : Exit → Act → World → Prop} {ops : Array Oper} {rest : List Oper} {ty : TypeId} {pos : String} {af : Array Edge} {gd : Option (Nat × Bool)} {x y z : Operand} {t t' e : TypeId} {dd : Nat} {d : Option Tmp}
theorem add0 (g j : Nat) : (⟨g, 0, none⟩ : Addr).add j = ⟨g, j, none⟩ := by unfold Addr.add; split <;> simp_all
theorem y_cutLg {g k c : Nat} {m : Nat} (hx : evO L x = some (.slice (some ⟨g, 0, none⟩) k c)) (hy : evO L y = some (.int .i64 (m : Int))) (hm : m ≤ k ∧ m < c) (hk : k ≤ c) (hs : sliceB P t 1 = true) : V P n L w0 H ⟨d, .slice t x (some y) none none, ty, pos, af, gd⟩ (.slice (some ⟨g, m, none⟩) (k - m) (c - m)) := by
  unfold V
  intro a w ha hw
  obtain ⟨e, i, hu, hi, hsz⟩ := sliceB_spec hs
  have h1 := run_sliceBound (P := P) (w := w) .i64 (m : Int) k .sliceB (by omega) (by omega)
  have hc : ¬ c = m := by omega
  simp [execOp, ha.eval hx, ha.eval hy, Instr.sliceAt, Instr.slice, Instr.sliceBounds, run_underlying hu, h1, sizeOf, typeInfo, hi, hsz, hc, add0]
theorem y_cutHg {g k c : Nat} {m : Nat} (hx : evO L x = some (.slice (some ⟨g, 0, none⟩) k c)) (hy : evO L y = some (.int .i64 (m : Int))) (hm : m ≤ c ∧ 0 < c) (hk : k ≤ c) (hs : sliceB P t 1 = true) : V P n L w0 H ⟨d, .slice t x none (some y) none, ty, pos, af, gd⟩ (.slice (some ⟨g, 0, none⟩) m c) := by
  unfold V
  intro a w ha hw
  obtain ⟨e, i, hu, hi, hsz⟩ := sliceB_spec hs
  have h1 := run_sliceBound (P := P) (w := w) .i64 (m : Int) c .sliceAcap (by omega) (by omega)
  have hc : ¬ c = 0 := by omega
  simp [execOp, ha.eval hx, ha.eval hy, Instr.sliceAt, Instr.slice, Instr.sliceBounds, run_underlying hu, h1, sizeOf, typeInfo, hi, hc, add0]
theorem y_cut3 {g k c : Nat} {m : Nat} (hx : evO L x = some (.slice (some ⟨g, 0, none⟩) k c)) (hy : evO L y = some (.int .i64 (m : Int))) (hz : evO L z = some (.int .i64 (m : Int))) (hm : m ≤ c ∧ 0 < m) (hs : sliceB P t 1 = true) : V P n L w0 H ⟨d, .slice t x none (some y) (some z), ty, pos, af, gd⟩ (.slice (some ⟨g, 0, none⟩) m m) := by
  unfold V
  intro a w ha hw
  obtain ⟨e, i, hu, hi, hsz⟩ := sliceB_spec hs
  have h1 := run_sliceBound (P := P) (w := w) .i64 (m : Int) c .slice3Acap (by omega) (by omega)
  have h2 := run_sliceBound (P := P) (w := w) .i64 (m : Int) m .slice3B (by omega) (by omega)
  have hc : ¬ m = 0 := by omega
  simp [execOp, ha.eval hx, ha.eval hy, ha.eval hz, Instr.sliceAt, Instr.slice, Instr.sliceBounds, run_underlying hu, h1, h2, sizeOf, typeInfo, hi, add0]
theorem below_drew2 (w : World) : Below w.heap.size w w.drew.drew := ⟨rfl, rfl, rfl, Nat.le_refl _, fun _ _ => rfl⟩
/-- New bytes of whatever kind. -/
theorem x_noZero {f : FuncId} {tys : Array TypeId} {N : Nat} (hx : evO L x = some (.int .i64 (N : Int))) (hN : N ≤ 1000000) (ht : P.underlying t = some (.slice e))
    (hrun : ∀ w, (callFunc f #[.int .i64 (N : Int)]).run P w = ((Extern.BytealgMakeNoZero.makeNoZero #[ty] #[t] #[.int .i64 (N : Int)]).run P w).andThen fun v w' => .ok (.value v) w') (hd : Nat.blt dd n = true) :
    EX P n L w0 H ⟨some dd, .call { callee := .value (.func f), args := #[x], argTypes := tys }, ty, pos, af, gd⟩ (fun z : Nat × List Value => N ≤ z.2.length ∧ z.2.length ≤ maxLen) (fun z => (dd, .slice (some ⟨z.1, 0, none⟩) N z.2.length) :: L) (fun z => .blk z.1 e z.2 :: H) :=
  EX.of_run (fun a w ha hw => by
    obtain ⟨cs, h1, h2, h3⟩ := Lib.run_makeNoZero (P := P) w #[ty] t e ht N (by omega)
    refine ⟨.slice (some ⟨w.heap.size, 0, none⟩) N cs.size, w.drew.drew.alloc (.cells cs e), (w.heap.size, cs.toList), ?_, ⟨by simpa using h2, by simpa using h3 (by unfold maxLen; omega)⟩, by simp, ?_⟩
    · rw [show execOp a.eval ⟨some dd, .call { callee := .value (.func f), args := #[x], argTypes := tys }, ty, pos, af, gd⟩ = callFunc f (#[] ++ #[x].map a.eval ++ #[]) from rfl]
      simp [ha.eval hx, hrun w, h1]
    · have h4 := (hw.step (below_drew2 w)).alloc e cs.toList
      rw [Array.toArray_toList] at h4
      exact h4) hd
theorem blk_row {w : World} {base g : Nat} {cs : List Value} (h : Hl.holds base w (.blk g e cs)) (hl : cs.length ≤ maxLen) : w.ownsRow base e 1 (.slice (some ⟨g, 0, none⟩) cs.length cs.length) cs.length cs :=
  ⟨by simp, .inr ⟨g, cs.length, cs.toArray, rfl, h.1, h.2, Nat.le_refl _, hl, by simp, by simp⟩⟩
theorem row_blk {w : World} {base g k : Nat} {cs : List Value} (h : w.ownsRow base e 1 (.slice (some ⟨g, 0, none⟩) k k) k cs) : Hl.holds base w (.blk g e cs) := by
  obtain ⟨h1, h2⟩ := h
  rcases h2 with ⟨h2, _⟩ | ⟨g', cap, cur, h2, h3, h4, h5, h6, h7, h8⟩
  · cases h2
  · simp only [Value.slice.injEq, Option.some.injEq, Addr.mk.injEq, and_true, true_and] at h2
    obtain ⟨rfl, rfl⟩ := h2
    refine ⟨h3, ?_⟩
    rw [h4]
    have : cur.toList = cs := by
      rw [← h8, List.take_of_length_le]
      simp [h7]
    rw [← this, Array.toArray_toList]
/-- Bytes copied into a block. -/
theorem x_copyG {g off m dc sl sc : Nat} {cs us : List Value} {sa : Addr} {H' : List Hl} (hx : evO L x = some (.slice (some ⟨g, off, none⟩) m dc)) (hy : evO L y = some (.slice (some sa) sl sc)) (hl : us.length = Nat.min sl m) (hoff : off + us.length ≤ cs.length) (hlen : cs.length ≤ maxLen)
    (hsrc : ∀ w, St w0 H w → ∀ j u, us[j]? = some u → w.cell? (sa.add j) = some u) (hone : ∀ u ∈ us, u.oneCell' = true)
    (hu : Upd (Hl.blk g e cs) (Hl.blk g e (setAt cs off us)) H H') (ht : sliceB P t 1 = true) (hte : P.underlying t = some (.slice e)) (hd : Nat.blt dd n = true) :
    EX P n L w0 H ⟨some dd, .call { callee := .builtin .copy, args := #[x, y], argTypes := #[t, t'] }, ty, pos, af, gd⟩ (fun _ : Unit => True) (fun _ => (dd, .int .i64 ((us.length : Nat) : Int)) :: L) (fun _ => H') :=
  EX.of_run (fun a w ha hw => by
    obtain ⟨elem, i, hue, hi, hsz⟩ := sliceB_spec ht
    have hown := blk_row (hw.all _ hu.mem) hlen
    have hst := own_setAt us cs off w hown
    have hrun := run_copy_cells (P := P) w t t' ty elem g off m dc sa sl sc us hue (by rw [hi]; simp [hsz]) hl (hsrc w hw) (fun j hj => by
      have := hw.cell hu.mem (off + j)
      rw [this, List.getElem?_eq_getElem (by omega)]; rfl) (fun j hj => hw.free hu.mem _) hone
    refine ⟨_, w.setCells g off us, (), by
      simp [execOp, resolve, invoke, builtin, ha.eval hx, ha.eval hy, hrun, goInt], trivial, rfl, ?_⟩
    refine hw.turn hu rfl hst.2 ?_ fun b hb => .inl hb
    exact row_blk hst.1) hd
theorem RS.noZero {f : FuncId} {tys : Array TypeId} {N : Nat} (h : ∀ g cs, N ≤ cs.length → cs.length ≤ maxLen → RS P ops Q n ((dd, .slice (some ⟨g, 0, none⟩) N cs.length) :: L) w0 (.blk g e cs :: H) rest) (hx : evO L x = some (.int .i64 (N : Int))) (hN : N ≤ 1000000) (ht : P.underlying t = some (.slice e))
    (hrun : ∀ w, (callFunc f #[.int .i64 (N : Int)]).run P w = ((Extern.BytealgMakeNoZero.makeNoZero #[ty] #[t] #[.int .i64 (N : Int)]).run P w).andThen fun v w' => .ok (.value v) w') (hd : Nat.blt dd n = true) :
    RS P ops Q n L w0 H (⟨some dd, .call { callee := .value (.func f), args := #[x], argTypes := tys }, ty, pos, af, none⟩ :: rest) := RS.actX rfl (x_noZero hx hN ht hrun hd) fun z hz => h z.1 z.2 hz.1 hz.2
theorem RS.copyG {g off m dc sl sc : Nat} {cs us : List Value} {sa : Addr} {H' : List Hl} (h : RS P ops Q n ((dd, .int .i64 ((us.length : Nat) : Int)) :: L) w0 H' rest) (hx : evO L x = some (.slice (some ⟨g, off, none⟩) m dc)) (hy : evO L y = some (.slice (some sa) sl sc)) (hl : us.length = Nat.min sl m) (hoff : off + us.length ≤ cs.length) (hlen : cs.length ≤ maxLen)
    (hsrc : ∀ w, St w0 H w → ∀ j u, us[j]? = some u → w.cell? (sa.add j) = some u) (hone : ∀ u ∈ us, u.oneCell' = true)
    (hu : Upd (Hl.blk g e cs) (Hl.blk g e (setAt cs off us)) H H') (ht : sliceB P t 1 = true) (hte : P.underlying t = some (.slice e)) (hd : Nat.blt dd n = true) :
    RS P ops Q n L w0 H (⟨some dd, .call { callee := .builtin .copy, args := #[x, y], argTypes := #[t, t'] }, ty, pos, af, none⟩ :: rest) := RS.actX rfl (x_copyG hx hy hl hoff hlen hsrc hone hu ht hte hd) fun _ _ => h
theorem RM.copyG {HS : List Hl} {ord : List Mv} {i : Nat} {g off m dc sl sc : Nat} {cs us : List Value} {sa : Addr} {H' : List Hl} (h : RM P ops Q HS n [] ((dd, .int .i64 ((us.length : Nat) : Int)) :: L) w0 H' ord) (hop : ops[i]? = some ⟨some dd, .call { callee := .builtin .copy, args := #[x, y], argTypes := #[t, t'] }, ty, pos, af, none⟩) (hx : evO L x = some (.slice (some ⟨g, off, none⟩) m dc)) (hy : evO L y = some (.slice (some sa) sl sc)) (hl : us.length = Nat.min sl m) (hoff : off + us.length ≤ cs.length) (hlen : cs.length ≤ maxLen)
    (hsrc : ∀ w, St w0 H w → ∀ j u, us[j]? = some u → w.cell? (sa.add j) = some u) (hone : ∀ u ∈ us, u.oneCell' = true)
    (hu : Upd (Hl.blk g e cs) (Hl.blk g e (setAt cs off us)) H H') (ht : sliceB P t 1 = true) (hte : P.underlying t = some (.slice e)) (hd : Nat.blt dd n = true) (hs : ∀ w, St w0 H' w → St w0 HS w) :
    RM P ops Q HS n [] L w0 H (.go i :: ord) := RM.actX hop rfl rfl (x_copyG hx hy hl hoff hlen hsrc hone hu ht hte hd) (.inl fun _ => hs) fun _ _ => h
theorem y_minN {k : IntKind} {m m' r : Int} {tys : Array TypeId} (hx : evO L x = some (.int k m)) (hy : evO L y = some (.int k m')) (h : min m m' = r) : V P n L w0 H ⟨d, .call { callee := .builtin .min, args := #[x, y], argTypes := tys }, ty, pos, af, gd⟩ (.int k r) := by
  have := y_min (P := P) (n := n) (w0 := w0) (H := H) (d := d) (ty := ty) (pos := pos) (af := af) (g := gd) hx hy (tys := tys)
  rwa [h] at this
end
def repV (x : Int) (i : Nat) (cs : List Value) : List Value := List.replicate i (.int .u8 x) ++ cs.drop i
theorem repV_len {x : Int} {i : Nat} {cs : List Value} (h : i ≤ cs.length) : (repV x i cs).length = cs.length := by simp [repV]; omega
theorem repV_step {x : Int} {i q : Nat} {cs : List Value} (hq : i + q ≤ cs.length) : setAt (repV x i cs) i (List.replicate q (.int .u8 x)) = repV x (i + q) cs := by
  unfold repV
  have h := setAt_app (List.replicate q (.int .u8 x)) (List.replicate i (.int .u8 x)) (cs.drop i) 0
  rw [List.length_replicate, Nat.add_zero] at h
  rw [h]
  have e : cs.drop i = (cs.drop i).take q ++ cs.drop (i + q) := by rw [← List.drop_drop, List.take_append_drop]
  rw [e, setAt_all _ _ _ (by simp; omega), ← List.append_assoc, List.replicate_append_replicate]
theorem mulY_c {c : Nat} (h : c < 1000000) : Cont Tryz.prog 55 [.int .u64 1, .int .u64 (c : Int)] (.tuple [.int .u64 0, .int .u64 (c : Int)].toArray) := fun w => (Tryz.bits_Mul 1 c (by decide) (by omega) w).mono fun e w' ⟨he, hw⟩ => by
  refine ⟨?_, by subst hw; exact Below.refl _ _⟩
  rw [he, Nat.one_mul, Nat.div_eq_of_lt (by omega), Nat.mod_eq_of_lt (by omega)]; rfl
theorem noZero_run {N : Nat} (w : World) : (callFunc 87 #[.int .i64 (N : Int)]).run Tryz.prog w = ((Extern.BytealgMakeNoZero.makeNoZero #[3] #[85] #[.int .i64 (N : Int)]).run Tryz.prog w).andThen fun v w' => .ok (.value v) w' := by
  rw [run_callFunc_extern Tryz.func87 (by kernel_rfl) (by kernel_rfl) (by kernel_rfl) (e := Extern.BytealgMakeNoZero.makeNoZero #[3] #[85]) (by kernel_rfl)]
theorem repeatY_c {ua : Option Addr} {un uc : Nat} {x : Int} {c : Nat} (hc : 1 ≤ c ∧ c ≤ 1000) : ContL Tryz.prog (fun _ => True) [Hl.rw (.slice ua un uc) 5 cB 1 [x]] 51 [.slice ua un uc, .int .i64 (c : Int)] (fun _ : Nat × List Value => True) (fun z => .slice (some ⟨z.1, 0, none⟩) c c) (fun z => [Hl.blk z.1 5 (List.replicate c (.int .u8 x) ++ z.2)]) := fun w0 HR w _ hs => by
  have q1 := mulY_c (c := c) (by omega)
  obtain ⟨ug, rfl, rfl⟩ : ∃ ug, ua = some ⟨ug, 0, none⟩ ∧ un = 1 := by
    have h := hs.all _ (.head _)
    rcases h.2 with ⟨_, h'⟩ | ⟨g, cap, cur, h', _⟩
    · simp at h'
    · simp only [Value.slice.injEq] at h'
      exact ⟨g, h'.1, h'.2.1⟩
  have hsrc : ∀ {H : List Hl} {w' : World}, St w0 H w' → Hl.rw (.slice (some ⟨ug, 0, none⟩) 1 uc) 5 cB 1 [x] ∈ H → w'.cell? ((⟨ug, 0, none⟩ : Addr).add 0) = some (.int .u8 x) := fun hw hm => by
    obtain ⟨_, A, c', e', _, hcells, _⟩ := RO.of_row (hw.all _ hm)
    obtain ⟨a, ha, hcell⟩ := hcells (by simp)
    simp only [Value.slice.injEq] at e'
    obtain ⟨e1, _, _⟩ := e'
    rw [ha] at e1
    obtain rfl := Option.some.inj e1
    exact hcell 0 _ rfl
  refine enterU Tryz.func51 rfl rfl rfl (H := Hl.rw (.slice (some ⟨ug, 0, none⟩) 1 uc) 5 cB 1 [x] :: HR) hs ?_
  repeat' (first
    | (exfalso; have hcc := hc; simp at hcc; done)
    | (show RS _ _ _ _ _ _ _ (⟨some 54, .call _, _, _, _, _⟩ :: _); refine RS.noZero (N := c) (t := 85) (e := 5) ?_ (by rfl) (by omega) Tryz.underlying85 noZero_run rfl; intro g cs hl1 hl2)
    | (show YK _ _ _ _ _ ⟨_, .slice _ _ none (some _) (some _), _, _, _, _⟩ _; refine YK.ofV (y_cut3 (m := c) (by rfl) (by rfl) (by rfl) ⟨by omega, by omega⟩ (by decide +kernel)) ?_)
    | (show RS _ _ _ _ _ _ _ (⟨some 60, .call _, _, _, _, _⟩ :: _); refine RS.copyG (g := g) (off := 0) (cs := cs) (us := [.int .u8 x]) ?_ (by rfl) (by rfl) (by show 1 = min 1 c; omega) (by simp; omega) hl2 (fun w' hw' j u hj => by cases j with | zero => (obtain rfl := Option.some.inj hj; exact hsrc hw' (by exact memA)) | succ j => simp at hj) (by simp [Value.oneCell']) (by exact updA) (by decide +kernel) Tryz.underlying85 rfl)
    | (show YK _ _ _ _ _ _ _; first | refine YK.mk (y_callA (q1) ⟨rfl, rfl, rfl⟩) ?_)
    | (show YK _ _ _ _ _ _ _; refine YK.ofV vAuto ?_)
    | (show VK _ _ _ _ _ _ _; refine VK.mk vAuto ?_)
    | (show RS _ _ _ _ _ _ _ _; first | (refine nxRS ?_) | (refine nxRS1 fun _ => ?_))
    | (show RM _ _ _ _ _ _ _ _ _ _; first | (refine nxRM ?_) | (refine nxRM1 fun _ => ?_))
    | (show YG _ _ _ _ _ _ _ _; refine YG.mk (fun hb => by (try (have hc := And.left hb; have hb := And.right hb; rw [hc])); (try rw [hb]); first | exact (y_callA (q1) ⟨rfl, rfl, rfl⟩) | exact V.y vAuto) ?_)
    | (show VG _ _ _ _ _ _ _ _; refine VG.mk (fun hb => by (try (have hc := And.left hb; have hb := And.right hb; rw [hc])); (try rw [hb]); exact vAuto) ?_)
    | (refine G.mixedA 20 [.go 0, .go 1, .go 2, .go 3, .go 4, .go 5, .go 6, .go 7, .go 8, .go 9] ?_)
    | (refine nxX ?_)
    | (refine G.condN rfl (fun hc => ?_) (fun hc => ?_) <;> (try first | exact False.elim hc | (exfalso; omega))))
  have h1 : setAt cs 0 [.int .u8 x] = repV x 1 cs := by
    have := repV_step (x := x) (i := 0) (q := 1) (cs := cs) (by omega)
    simpa [repV] using this
  refine G.loop (ι := Nat) (fun i => [(7, .int .i64 (c : Int)), (8, .int .i64 (c : Int)), (9, .slice (some ⟨g, 0, none⟩) c c), (10, .int .i64 (i : Int))]) (fun i => Hl.blk g 5 (repV x i cs) :: HR) (fun i => 1 ≤ i ∧ i ≤ c) (fun i => c - i) 1 ⟨by omega, by omega⟩ ⟨rfl, rfl, rfl, rfl, trivial⟩ (fun w' h => by
    rw [h1] at h
    exact h.sub (by repeat (first | exact List.Sublist.refl _ | apply List.Sublist.cons_cons | apply List.Sublist.cons))) ?_
  rintro i mx ⟨g1, g2⟩ hmx
  (try dsimp only at g1 g2 hmx ⊢)
  rcases Nat.lt_or_ge i c with hi | hi
  · have hlr := repV_len (x := x) (i := i) (cs := cs) (by omega)
    have h2 := repV_step (x := x) (i := i) (q := min i (c - i)) (cs := cs) (by omega)
    have hmin : min (i : Int) (c : Int) = (i : Int) := by omega
    have hadd : (i : Int) + ((min i (c - i) : Nat) : Int) = ((i + min i (c - i) : Nat) : Int) := by omega
    have hlm : (List.replicate (min i (c - i)) (Value.int .u8 x)).length = min i (c - i) := List.length_replicate
    repeat' (first
    | (show YK _ _ _ _ _ ⟨some 66, _, _, _, _, _⟩ _; refine YK.ofV (y_minN (by rfl) (by rfl) hmin) ?_)
    | (show VK _ _ _ _ _ ⟨_, .slice _ _ (some _) none none, _, _, _, _⟩ _; refine VK.mk (y_cutLg (m := i) (by rfl) (by rfl) ⟨by omega, by omega⟩ (by omega) (by decide +kernel)) ?_)
    | (show VK _ _ _ _ _ ⟨_, .slice _ _ none (some _) none, _, _, _, _⟩ _; refine VK.mk (y_cutHg (m := i) (by rfl) (by rfl) ⟨by omega, by omega⟩ (by omega) (by decide +kernel)) ?_)
    | (show RM _ _ _ _ _ _ _ _ _ (.go 7 :: _); refine RM.copyG (g := g) (off := i) (cs := repV x i cs) (us := List.replicate (min i (c - i)) (.int .u8 x)) ?_ rfl (by rfl) (by rfl) (hlm.trans rfl) (by rw [hlm]; omega) (by omega) (fun w' hw' j u hj => by (rw [add0]; have hc3 := hw'.cell (b := g) (t := 5) (cs := repV x i cs) (by exact memA) j; rw [hc3]; have hjl := (List.getElem?_eq_some_iff.1 hj).1; rw [hlm] at hjl; rw [List.getElem?_replicate, if_pos hjl] at hj; rw [← hj]; unfold repV; rw [List.getElem?_append_left (by simp; omega), List.getElem?_replicate, if_pos (by omega)])) (fun u hu => by (rw [(List.mem_replicate.1 hu).2]; rfl)) (by exact updA) (by decide +kernel) Tryz.underlying85 rfl (fun w h => h.sub (by repeat (first | exact List.Sublist.refl _ | exact List.nil_sublist _ | apply List.Sublist.cons_cons | apply List.Sublist.cons))); rw [hlm])
    | (refine G.mixedM 20 [.go 0, .go 1, .go 2, .go 3, .go 4, .go 5, .go 6, .go 7, .go 8, .go 9] [false] ?_; dsimp only [maskH])
    | (refine nxV ?_)
    | (show RS _ _ _ _ _ _ _ _; first | (refine nxRS ?_) | (refine nxRS1 fun _ => ?_))
    | (show RM _ _ _ _ _ _ _ _ _ _; first | (refine nxRM ?_) | (refine nxRM1 fun _ => ?_))
    | (refine nxG ?_)
    | (refine nxX ?_)
    | (refine G.condN rfl (fun hc => ?_) (fun hc => ?_) <;> (try first | exact False.elim hc | (exfalso; omega))))
    trace_state
    refine X.again (i + min i (c - i)) ⟨by omega, by omega⟩ (by omega) ⟨rfl, rfl, rfl, congrArg (fun z => some (Value.int .i64 z)) hadd, trivial⟩ (fun w' h => ?_)
    rw [h2] at h
    exact h
  · obtain rfl : i = c := by omega
    repeat' (first
    | (refine nxV ?_)
    | (show RS _ _ _ _ _ _ _ _; first | (refine nxRS ?_) | (refine nxRS1 fun _ => ?_))
    | (show RM _ _ _ _ _ _ _ _ _ _; first | (refine nxRM ?_) | (refine nxRM1 fun _ => ?_))
    | (refine nxG ?_)
    | (refine G.mixedA 20 [.go 0, .go 1, .go 2, .go 3, .go 4, .go 5, .go 6, .go 7, .go 8, .go 9] ?_)
    | (refine nxX ?_)
    | (refine G.condN rfl (fun hc => ?_) (fun hc => ?_) <;> (try first | exact False.elim hc | (exfalso; omega))))
    exact X.ret (vs := [_]) rfl ⟨rfl, rfl⟩ rfl (fun w hw => ⟨(g, cs.drop i), trivial, rfl, hw⟩)
end Go.Proofs.YthilhhegchmjeaaGreat
/- A new sheet. -/
set_option linter.unusedVariables false
set_option maxHeartbeats 8000000
namespace Go.Proofs.YthilhhegchmjeaaGreat
open Go.RowKit
section
variable {P : Program} {n : Nat} {L : FL} {w0 : World} {H HS : List Hl} {Q : Exit → Act → World → Prop} {ops : Array Oper} {ord : List Mv} {rest : List Oper} {ty : TypeId} {pos : String} {af : Array Edge} {t e : TypeId} {x : Operand} {dd i bytes : Nat} {α : Type} {f : α → List Value} {a : α} {u : Value}
theorem RM.litG (h : ∀ v' : Sl, RM P ops Q HS n [] ((dd, v'.v) :: L) w0 (Hl.rw v'.v e f 1 [a] :: H) ord) (ho : ops[i]? = some ⟨some dd, .buildSlice t 1 #[(0, x)], ty, pos, af, none⟩) (hx : evO L x = some u) (hf : [u] = [a].flatMap f) (hone : u.oneCell' = true) [ht : RowTy P t e 1 bytes] (hd : Nat.blt dd n = true)
    (hs : ∀ (v' : Sl) w, St w0 (Hl.rw v'.v e f 1 [a] :: H) w → St w0 HS w) : RM P ops Q HS n [] L w0 H (.go i :: ord) :=
  RM.actX ho rfl rfl (x_lit (parts := [(0, x)]) (vs := [u]) (f := f) (l := [a]) ⟨hx, rfl⟩ (by show (u.oneCell' && true) = true; rw [hone]; rfl) rfl rfl rfl hf rfl (rowTy_B ht.is) hd) (.inl hs) fun v' _ => h v'
end
theorem built_sh (la lo u cs : Int) : Tryz.prog.built 62 [(0, .agg [.int .i64 la, .int .i64 lo].toArray), (1, .int .i64 u), (2, .int .i64 cs)] = some (shC la lo u cs (.slice none 0 0)).toArray := by kernel_rfl
/-- A sheet's rows when it is new. -/
abbrev newR (wd : Nat) (rs : List Sl) : List (Sl × List Int) := rs.map fun s => (s, List.replicate wd 46)
theorem newR_fst (wd : Nat) (rs : List Sl) : (newR wd rs).map Prod.fst = rs := by
  unfold newR
  rw [List.map_map]
  exact List.map_id rs
theorem rows_apart {w0 w : World} {xt : Nat → List Value} {wd g : Nat} {cs : List Value} {A HR : List Hl} {rs : List Sl} (h : St w0 (Hl.blk g 5 cs :: (A ++ (rowsH xt (newR wd rs) ++ HR))) w) : ∀ s ∈ rs, blkS s ≠ g := fun s hs he => by
  have h1 := h.apart.1 (pxH xt s (List.replicate wd 46)) (List.mem_append_right _ (List.mem_append_left _ (List.mem_map.2 ⟨(s, List.replicate wd 46), List.mem_map.2 ⟨s, hs, rfl⟩, rfl⟩))) g rfl (congrArg some he)
  exact absurd h1.1 (fun g => by cases g)
theorem rowsH_upd {xt : Nat → List Value} {wd g : Nat} {ex : List Value} : ∀ {rs : List Sl}, (∀ s ∈ rs, blkS s ≠ g) → rowsH (fun k => if k = g then ex else xt k) (newR wd rs) = rowsH xt (newR wd rs)
  | [], _ => rfl
  | s :: r, h => by
    have h1 := h s List.mem_cons_self
    have h2 := rowsH_upd (xt := xt) (wd := wd) (ex := ex) (rs := r) fun x hx => h x (List.mem_cons_of_mem _ hx)
    show pxH (fun k => if k = g then ex else xt k) s (List.replicate wd 46) :: rowsH (fun k => if k = g then ex else xt k) (newR wd r) = _
    rw [h2]
    show Hl.blk (blkS s) 5 ((List.replicate wd 46).map (Value.int .u8) ++ (if blkS s = g then ex else xt (blkS s))) :: rowsH xt (newR wd r) = _
    rw [if_neg h1]
    rfl
structure NewP (wd : Nat) (z : Nat × Sl × List Sl × (Nat → List Value)) : Prop where
  len : z.2.2.1.length = 2 * ((wd - 1) / 4) + 1
  ok : ∀ s ∈ z.2.2.1, hdOk wd s
theorem new_ok {la lo u : Int} {wd : Nat} (hp : pointB la lo = true) (hla : -4800000 ≤ la ∧ la ≤ 4800000) (hu : 2 ≤ u ∧ u ≤ 100000) (hw : 11 ≤ wd ∧ wd ≤ 121) (ho : wd % 2 = 1) :
    ContL Tryz.prog (fun _ => True) [] 16 [ptV la lo, .int .i64 u, .int .i64 (wd : Int)] (NewP wd) (fun z => .tuple [ptS z.1, .int .i64 0].toArray) (fun z => shB z.1 la lo u (TT.cosE la la).1 z.2.1.v :: rwS z.2.1 z.2.2.1 :: rowsH z.2.2.2 (newR wd z.2.2.1)) := fun w0 HR w _ hs => by
  have q1 := vpoint_c la lo
  rw [hp] at q1
  have q2 := psize_c (a := la) (by omega)
  have q3 := pone_c (a := la)
  have q4 := Cos_c (lo := la) (hi := la) (by simp only [validI, Bool.and_eq_true, decide_eq_true_eq]; omega)
  generalize TT.cosE la la = ce at *
  obtain ⟨cs, ch⟩ := ce
  dsimp only at q4
  have hodd : (wd : Int).tmod 2 = 1 := by rw [Int.tmod_eq_emod_of_nonneg (by omega)]; omega
  have hq : ((wd : Int) - 1).tdiv 4 = ((wd : Int) - 1) / 4 := Int.tdiv_eq_ediv_of_nonneg (by omega)
  refine enterU Tryz.func16 rfl rfl rfl (H := HR) hs ?_
  repeat' (first
    | (refine nxN ?_)
    | (show YK _ _ _ _ _ ⟨_, .build 62 _, _, _, _, _⟩ _; refine YK.ofV (y_build (parts := [(0, .tmp 51), (1, .tmp 52), (2, .tmp 54)]) (vs := [_, _, _]) ⟨rfl, rfl, rfl, rfl⟩ (built_sh _ _ _ _)) ?_)
    | (show VG _ _ _ _ _ _ ⟨some 38, .binOp .rem _ _ _ _, _, _, _, _⟩ _; refine VG.mk (fun _ => y_remN (by rfl) (by rfl) hodd (by decide)) ?_)
    | (show YK _ _ _ _ _ ⟨some 59, .binOp .quo _ _ _ _, _, _, _, _⟩ _; refine YK.ofV (y_quoN (by rfl) (by rfl) hq (by decide) (by omega)) ?_)
    | (show YK _ _ _ _ _ _ _; first | refine YK.mk (y_callA (q1) ⟨rfl, rfl⟩) ?_ | refine YK.mk (y_callA (q2) ⟨rfl, rfl⟩) ?_ | refine YK.mk (y_callA (q3) ⟨rfl, rfl⟩) ?_ | refine YK.mk (y_callA (q4) ⟨rfl, rfl⟩) ?_)
    | (show YK _ _ _ _ _ _ _; refine YK.ofV vAuto ?_)
    | (show VK _ _ _ _ _ _ _; refine VK.mk vAuto ?_)
    | (show RS _ _ _ _ _ _ _ _; first | (refine nxRS ?_) | (refine nxRS1 fun _ => ?_))
    | (show RM _ _ _ _ _ _ _ _ _ _; first | (refine nxRM ?_) | (refine nxRM1 fun _ => ?_))
    | (show YG _ _ _ _ _ _ _ _; refine YG.mk (fun hb => by (try (have hc := And.left hb; have hb := And.right hb; rw [hc])); (try rw [hb]); first | exact (y_callA (q1) ⟨rfl, rfl⟩) | exact (y_callA (q2) ⟨rfl, rfl⟩) | exact (y_callA (q3) ⟨rfl, rfl⟩) | exact (y_callA (q4) ⟨rfl, rfl⟩) | exact V.y vAuto) ?_)
    | (show VG _ _ _ _ _ _ _ _; refine VG.mk (fun hb => by (try (have hc := And.left hb; have hb := And.right hb; rw [hc])); (try rw [hb]); exact vAuto) ?_)
    | (refine G.mixedA 11 [.go 0, .go 1, .go 2, .go 3, .go 4, .go 6, .go 5, .go 7, .go 8, .go 9, .go 10, .go 11, .go 12] ?_)
    | (refine nxX ?_)
    | (refine G.condN rfl (fun hc => ?_) (fun hc => ?_) <;> (try first | exact False.elim hc | (exfalso; omega))))
  rename_i b
  refine G.loop (ι := Sl × List Sl × (Nat → List Value)) (fun z => [(2, .int .i64 (wd : Int)), (10, ptS b), (61, .int .i64 (2 * (((wd : Int) - 1) / 4) + 1)), (62, .int .i64 ((z.2.1.length : Nat) : Int))]) (fun z => shB b la lo u cs z.1.v :: rwS z.1 z.2.1 :: (rowsH z.2.2 (newR wd z.2.1) ++ HR)) (fun z => z.2.1.length ≤ 2 * ((wd - 1) / 4) + 1 ∧ ∀ s ∈ z.2.1, hdOk wd s) (fun z => 2 * ((wd - 1) / 4) + 1 - z.2.1.length) (⟨none, 0, 0⟩, [], fun _ => []) ⟨Nat.zero_le _, fun s hs => by cases hs⟩ ⟨rfl, rfl, rfl, rfl, trivial⟩ (fun w' h => by
    have h2 := (St.nilRow 85 cSl 1 h).perm (List.Perm.swap _ _ _)
    exact h2.sub (by repeat (first | exact List.Sublist.refl _ | apply List.Sublist.cons_cons | apply List.Sublist.cons))) ?_
  rintro ⟨z1, rs, xt⟩ mx ⟨g1, g2⟩ hmx
  dsimp only at g1 g2 hmx ⊢
  rcases Nat.lt_or_ge rs.length (2 * ((wd - 1) / 4) + 1) with hj | hj
  · have qr := fun (ua : Option Addr) (un uc : Nat) => repeatY_c (ua := ua) (un := un) (uc := uc) (x := 46) (c := wd) (by omega)
    repeat' (first
    | (refine nxN ?_)
    | (show RM _ _ _ _ _ _ _ _ _ (.go 5 :: _); refine RM.litG (f := cB) (a := (46 : Int)) ?_ rfl (by rfl) rfl rfl rfl (fun _ _ h => h.sub (by repeat (first | exact List.Sublist.refl _ | apply List.Sublist.cons_cons | apply List.Sublist.cons))); intro y1)
    | (show RM _ _ _ _ _ _ _ _ _ (.go 7 :: _); refine RM.callL (qr _ _ _) trivial ?_; rintro ⟨g, ex⟩ -; dsimp only [List.cons_append, List.nil_append])
    | (show RM _ _ _ _ _ _ _ _ _ (.go 8 :: _); refine RM.litG (f := cSl) (a := (⟨some ⟨g, 0, none⟩, wd, wd⟩ : Sl)) ?_ rfl (by rfl) rfl rfl rfl (fun _ _ h => h.sub (by repeat (first | exact List.Sublist.refl _ | apply List.Sublist.cons_cons | apply List.Sublist.cons))); intro y2)
    | (show RM _ _ _ _ _ _ _ _ _ (.go 9 :: _); refine RM.appendA (f' := cSl) (l := rs) (l' := [(⟨some ⟨g, 0, none⟩, wd, wd⟩ : Sl)]) ?_ rfl (by rfl) (by rfl) (by intro v'; exact updA) (by exact rdA) (by exact fun _ => rfl) (by (simp only [List.length_singleton]; omega)) rfl (fun _ _ h => h.sub (by repeat (first | exact List.Sublist.refl _ | apply List.Sublist.cons_cons | apply List.Sublist.cons))); intro y3)
    | (refine G.mixedM 11 [.go 0, .go 1, .go 2, .go 3, .go 4, .go 6, .go 5, .go 7, .go 8, .go 9, .go 10, .go 11, .go 12] [true, false] ?_; dsimp only [maskH])
    | (refine nxV ?_)
    | (show RS _ _ _ _ _ _ _ _; first | (refine nxRS ?_) | (refine nxRS1 fun _ => ?_))
    | (show RM _ _ _ _ _ _ _ _ _ _; first | (refine nxRM ?_) | (refine nxRM1 fun _ => ?_))
    | (refine nxG ?_)
    | (refine nxX ?_)
    | (refine G.condN rfl (fun hc => ?_) (fun hc => ?_) <;> (try first | exact False.elim hc | (exfalso; omega))))
    refine X.again (y3, rs ++ [(⟨some ⟨g, 0, none⟩, wd, wd⟩ : Sl)], fun k => if k = g then ex else xt k) ⟨by simp only [List.length_append, List.length_singleton]; omega, fun s hs => ?_⟩ (by simp only [List.length_append, List.length_singleton]; omega) ⟨rfl, rfl, rfl, congrArg (fun z => some (Value.int .i64 z)) (by simp only [List.length_append, List.length_singleton]; omega), trivial⟩ (fun w' h => ?_)
    · rcases List.mem_append.1 hs with hs | hs
      · exact g2 s hs
      · obtain rfl := List.mem_singleton.1 hs
        exact ⟨rfl, Nat.le_refl _, rfl⟩
    · have h1 := St.sub h (List.Sublist.cons _ (List.Sublist.refl _))
      have ap := rows_apart (A := [shB b la lo u cs y3.v, rwS y3 (rs ++ [(⟨some ⟨g, 0, none⟩, wd, wd⟩ : Sl)])]) h1
      have e1 : newR wd (rs ++ [(⟨some ⟨g, 0, none⟩, wd, wd⟩ : Sl)]) = newR wd rs ++ [((⟨some ⟨g, 0, none⟩, wd, wd⟩ : Sl), List.replicate wd 46)] := List.map_append
      have e2 : rowsH (fun k => if k = g then ex else xt k) [((⟨some ⟨g, 0, none⟩, wd, wd⟩ : Sl), List.replicate wd 46)] = [Hl.blk g 5 (List.replicate wd (.int .u8 46) ++ ex)] := by
        show [Hl.blk g 5 ((List.replicate wd (46 : Int)).map (Value.int .u8) ++ (if g = g then ex else xt g))] = _
        rw [if_pos rfl, List.map_replicate]
      dsimp only
      rw [e1, rowsH_app, rowsH_upd ap, e2]
      refine h1.perm ?_
      have p1 : (Hl.blk g 5 (List.replicate wd (.int .u8 46) ++ ex) :: (rowsH xt (newR wd rs) ++ HR)).Perm (rowsH xt (newR wd rs) ++ [Hl.blk g 5 (List.replicate wd (.int .u8 46) ++ ex)] ++ HR) := by
        rw [List.append_assoc]
        exact List.perm_middle.symm
      exact (List.Perm.swap _ _ _).trans ((((List.Perm.swap _ _ _).trans (p1.cons _))).cons _)
  · repeat' (first
    | (refine nxV ?_)
    | (show RS _ _ _ _ _ _ _ _; first | (refine nxRS ?_) | (refine nxRS1 fun _ => ?_))
    | (show RM _ _ _ _ _ _ _ _ _ _; first | (refine nxRM ?_) | (refine nxRM1 fun _ => ?_))
    | (refine nxG ?_)
    | (refine G.mixedA 11 [.go 0, .go 1, .go 2, .go 3, .go 4, .go 6, .go 5, .go 7, .go 8, .go 9, .go 10, .go 11, .go 12] ?_)
    | (refine nxX ?_)
    | (refine G.condN rfl (fun hc => ?_) (fun hc => ?_) <;> (try first | exact False.elim hc | (exfalso; omega))))
    exact X.ret (vs := [_, _]) rfl ⟨rfl, rfl, rfl⟩ rfl (fun w hw => ⟨(b, z1, rs, xt), ⟨by dsimp only; omega, g2⟩, rfl, hw⟩)
end Go.Proofs.YthilhhegchmjeaaGreat
/- A sheet's text. -/
set_option linter.unusedVariables false
set_option maxHeartbeats 8000000
namespace Go.Proofs.YthilhhegchmjeaaGreat
open Go.RowKit
section
variable {P : Program} {n : Nat} {L : FL} {w0 : World} {H : List Hl} {Q : Exit → Act → World → Prop} {ops : Array Oper} {rest : List Oper} {d : Option Tmp} {ty : TypeId} {pos : String} {af : Array Edge} {g : Option (Nat × Bool)} {x y : Operand} {t t' e : TypeId} {a0 : Addr} {dd bytes : Nat} {α : Type} {f : α → List Value} {a : α} {u : Value}
/-- A literal's bytes marked as a string's: only read from now on. -/
theorem x_mark {v : Value} {l : List α} {H' : List Hl} (hx : evO L x = some v) (hu : Upd (Hl.rw v e f 1 l) (Hl.nw v f 1 l) H H') (ht : P.underlying t = some (.slice e)) (he : P.underlying e = some (.int .u8)) (hne : l.flatMap f ≠ []) (hd : Nat.blt dd n = true) :
    EX P n L w0 H ⟨some dd, .convert t t x, ty, pos, af, g⟩ (fun _ : Unit => True) (fun _ => (dd, v) :: L) (fun _ => H') :=
  EX.of_run (fun a w ha hw => by
    have hown : w.ownsRow w0.heap.size e 1 v l.length (l.flatMap f) := hw.all _ hu.mem
    obtain ⟨hl, h2⟩ := hown
    rcases h2 with ⟨rfl, h0⟩ | ⟨q, cap, cur, rfl, hb, hg, hnc, hcm, hcs, htk⟩
    · exfalso
      rw [h0, Nat.zero_mul] at hl
      exact hne (List.eq_nil_of_length_eq_zero hl)
    · have hh : (w.freeze ⟨q, cur.size, none⟩ 1).heap[q]? = some (.cells cur e (cur.size, cur.size + 1)) := by
        unfold World.freeze
        rw [if_neg (by decide)]
        show (w.heap.modify q _)[q]? = _
        rw [Array.getElem?_modify, if_pos rfl, hg]
        simp
      have ho : ∀ k, k ≠ q → (w.freeze ⟨q, cur.size, none⟩ 1).heap[k]? = w.heap[k]? := fun k hk => by
        unfold World.freeze
        rw [if_neg (by decide)]
        show (w.heap.modify q _)[k]? = _
        rw [Array.getElem?_modify, if_neg (fun h => hk h.symm)]
      have hsz : (w.freeze ⟨q, cur.size, none⟩ 1).heap.size = w.heap.size := by
        unfold World.freeze
        rw [if_neg (by decide)]
        show (w.heap.modify q _).size = _
        simp
      have hsh : w.shape? q = some (e, cur.size) := by unfold World.shape?; rw [hg]
      refine ⟨.slice (some ⟨q, 0, none⟩) l.length cap, w.freeze ⟨q, cur.size, none⟩ 1, (), by
        simp [execOp, ha.eval hx, convert, run_underlying ht, run_underlying he, markStringish, hsh], trivial, rfl, ?_⟩
      refine hw.turn hu rfl ⟨rfl, rfl, rfl, by rw [hsz]; exact Nat.le_refl _, fun k _ hk => ho k fun hkq => hk (by rw [hkq]; rfl)⟩ ⟨⟨hl, some ⟨q, 0, none⟩, cap, rfl, hnc, fun _ => ⟨⟨q, 0, none⟩, rfl, fun j u hj => ?_⟩, fun h => by cases h⟩, fun _ _ b hb' => ?_⟩ fun b hb' => .inl ?_
      · have hc := cell_of_row (w.freeze ⟨q, cur.size, none⟩ 1) q j cur e _ hh
        rw [add0, hc]
        rw [← htk, List.getElem?_take] at hj
        split at hj
        · simpa using hj
        · cases hj
      · simp [Value.ownBlock] at hb'; omega
      · revert hb'
        show (match l.flatMap f with | [] => none | _ :: _ => some q) = some b → some q = some b
        cases l.flatMap f with
        | nil => intro h; cases h
        | cons u r => exact id) hd
theorem RS.mark {v : Value} {l : List α} {H' : List Hl} (h : RS P ops Q n ((dd, v) :: L) w0 H' rest) (hx : evO L x = some v) (hu : Upd (Hl.rw v e f 1 l) (Hl.nw v f 1 l) H H') (ht : P.underlying t = some (.slice e)) (he : P.underlying e = some (.int .u8)) (hne : l.flatMap f ≠ []) (hd : Nat.blt dd n = true) :
    RS P ops Q n L w0 H (⟨some dd, .convert t t x, ty, pos, af, none⟩ :: rest) := RS.actX rfl (x_mark hx hu ht he hne hd) fun _ _ => h
theorem RS.litG (h : ∀ v' : Sl, RS P ops Q n ((dd, v'.v) :: L) w0 (Hl.rw v'.v e f 1 [a] :: H) rest) (hx : evO L x = some u) (hf : [u] = [a].flatMap f) (hone : u.oneCell' = true) [ht : RowTy P t e 1 bytes] (hd : Nat.blt dd n = true) :
    RS P ops Q n L w0 H (⟨some dd, .buildSlice t 1 #[(0, x)], ty, pos, af, none⟩ :: rest) :=
  RS.actX rfl (x_lit (parts := [(0, x)]) (vs := [u]) (f := f) (l := [a]) ⟨hx, rfl⟩ (by show (u.oneCell' && true) = true; rw [hone]; rfl) rfl rfl rfl hf rfl (rowTy_B ht.is) hd) fun v' _ => h v'
end
/-- A sheet whose rows can be read. -/
structure TxW (b : Nat) (la lo u cs : Int) (z : Sl) (rs : List (Sl × List Int)) (wd : Nat) (w : World) : Prop where
  sh : ShR b la lo u cs z (rs.map Prod.fst) wd w
  za : ∃ g, z.a = some ⟨g, 0, none⟩
  rows : ∀ r ∈ rs, RO w r.1.v 1 r.2.length (r.2.flatMap cB)
/-- The pixels are bytes, but no ends of lines. -/
abbrev pxOk (wd : Nat) (rs : List (Sl × List Int)) : Prop := ∀ r ∈ rs, r.2.length = wd ∧ ∀ n ∈ r.2, 11 ≤ n ∧ n ≤ 255
theorem TxW.keep {b : Nat} {la lo u cs : Int} {z : Sl} {rs : List (Sl × List Int)} {wd : Nat} {w w' : World} (h : TxW b la lo u cs z rs wd w) (hw : Below w.heap.size w w') : TxW b la lo u cs z rs wd w' :=
  ⟨h.sh.keep hw, h.za, fun r hr => (h.rows r hr).stay hw⟩
theorem toB_get {l : List Int} (h : ∀ n ∈ l, 11 ≤ n ∧ n ≤ 255) {i : Nat} {x : UInt8} (hx : (toB l)[i]? = some x) : l[i]? = some (x.toNat : Int) := by
  unfold toB at hx
  rw [List.getElem?_map] at hx
  cases hl : l[i]? with
  | none => rw [hl] at hx; cases hx
  | some n =>
    rw [hl] at hx
    obtain rfl := Option.some.inj hx
    have hn := h n (List.mem_of_getElem? hl)
    have : (UInt8.ofNat n.toNat).toNat = n.toNat := by
      show n.toNat % 256 = _
      exact Nat.mod_eq_of_lt (by omega)
    rw [this]; congr 1; omega
theorem flatSl (l : List Sl) : l.flatMap cSl = l.map Sl.v := by
  induction l with
  | nil => rfl
  | cons a r ih => rw [List.flatMap_cons, ih]; rfl
theorem TxW.parts {b : Nat} {la lo u cs : Int} {z : Sl} {rs : List (Sl × List Int)} {wd : Nat} {w : World} (h : TxW b la lo u cs z rs wd w) (hp : pxOk wd rs) (h1 : 1 ≤ rs.length) : ∃ g, z.v = .slice (some ⟨g, 0, none⟩) rs.length z.c ∧ rs.length ≤ z.c ∧ Lib.PartsAt w ⟨g, 0, none⟩ (rs.map fun r => r.1.v) (rs.map fun r => toB r.2) := by
  obtain ⟨g, hg⟩ := h.za
  obtain ⟨hlen, A, c, hz, hle, hcell, _⟩ := h.sh.rows
  rw [List.length_map] at hz hle
  simp only [Value.slice.injEq] at hz
  obtain ⟨e1, e2, e3⟩ := hz
  have hne : (rs.map Prod.fst).flatMap cSl ≠ [] := by
    rw [flatSl]
    cases rs with
    | nil => simp at h1
    | cons a r => simp
  obtain ⟨a, ha, hc⟩ := hcell hne
  rw [← e1, hg] at ha
  obtain rfl := Option.some.inj ha
  refine ⟨g, by show Value.slice z.a z.n z.c = _; rw [hg, e2], by omega, by simp, fun i v hv => hc i v ?_, fun i v l hv hl => ?_⟩
  · rw [flatSl, List.map_map]
    exact hv
  · rw [List.getElem?_map] at hv hl
    cases hr : rs[i]? with
    | none => rw [hr] at hv; cases hv
    | some r =>
      rw [hr] at hv hl
      obtain rfl := Option.some.inj hv
      obtain rfl := Option.some.inj hl
      have hm := List.mem_of_getElem? hr
      obtain ⟨_, A', c', e', hle', hcell', _⟩ := h.rows r hm
      simp only [Value.slice.injEq] at e'
      obtain ⟨f1, f2, f3⟩ := e'
      refine ⟨r.1.a, r.1.c, by show Value.slice r.1.a r.1.n r.1.c = _; rw [f2]; simp [toB], fun hn => ?_, fun ad had j x hx => ?_⟩
      · cases hl2 : r.2 with
        | nil => show toB r.2 = []; rw [hl2]; rfl
        | cons q qs =>
          rw [hl2] at hcell'
          obtain ⟨a2, ha2, _⟩ := hcell' (by simp)
          rw [← f1, hn] at ha2
          cases ha2
      · have hx2 := toB_get (hp r hm).2 hx
        have hne2 : r.2.flatMap cB ≠ [] := by
          intro hh
          rw [flatY, List.map_eq_nil_iff] at hh
          rw [hh] at hx2; cases hx2
        obtain ⟨a2, ha2, hc2⟩ := hcell' hne2
        rw [← f1, had] at ha2
        obtain rfl := Option.some.inj ha2
        exact hc2 j _ (by rw [flatY, List.getElem?_map, hx2]; rfl)
/-- Rows joined. -/
theorem join_c {b : Nat} {la lo u cs : Int} {z : Sl} {rs : List (Sl × List Int)} {wd : Nat} {y : Sl} (hp : pxOk wd rs) (h1 : 2 ≤ rs.length ∧ rs.length ≤ 1000) (hw : wd ≤ 1000) : ContXI Tryz.prog (fun w => TxW b la lo u cs z rs wd w ∧ RO w y.v 1 1 [.int .u8 10]) 49 [z.v, y.v]
    (fun x : Sl × List Int => Lib.bytesOf x.2 = Lib.join (rs.map fun r => toB r.2) [10]) (fun x => x.1.v) (fun x => [Hl.nw x.1.v cB 1 x.2]) := fun w hC => by
  obtain ⟨g, e1, hc, hP⟩ := hC.1.parts hp (by omega)
  obtain ⟨_, A, c, e2, hle, hcell, _⟩ := hC.2
  obtain ⟨a, ha, hcl⟩ := hcell (by simp)
  have hS : Lib.HoldsBytes w y.v [10] := by
    simp only [Value.slice.injEq] at e2
    obtain ⟨f1, f2, f3⟩ := e2
    refine ⟨y.a, y.c, by show Value.slice y.a y.n y.c = _; rw [f2]; rfl, fun hn => by (rw [← f1, hn] at ha; cases ha), fun ad had i x hx => ?_⟩
    rw [← f1, had] at ha
    obtain rfl := Option.some.inj ha
    cases i with
    | zero => obtain rfl := Option.some.inj hx; exact hcl 0 _ rfl
    | succ i => simp at hx
  have hlens : Lib.lens (rs.map fun r => toB r.2) ≤ 1000 * rs.length := by
    unfold Lib.lens
    have : ∀ r ∈ rs, (toB r.2).length ≤ 1000 := fun r hr => by
      have := (hp r hr).1
      simp [toB]; omega
    clear hP hC e1 hc h1 hp
    induction rs with
    | nil => simp
    | cons a r ih =>
      have h1 := ih fun x hx => this x (List.mem_cons_of_mem _ hx)
      have h2 := this a List.mem_cons_self
      simp only [List.map_cons, List.sum_cons, List.length_cons]
      simp only [List.map_map] at h1 ⊢
      omega
  have hJ := Any.bytes_Join_many Tryz.joinL g 0 rs.length z.c (rs.map fun r => r.1.v) (rs.map fun r => toB r.2) y.v [10] w (by simp) h1.1 hP hc hS (by omega) (by simp only [List.length_singleton]; omega)
  rw [e1]
  refine Calls.mono hJ ?_
  rintro e w' ⟨v', rfl, hF, hb⟩
  obtain ⟨g2, cap, zs, rfl, hg2, hl2, hcm, hzl, hz, hby, hcells, _⟩ := hF
  refine ⟨(⟨some ⟨g2, 0, none⟩, (Lib.join (rs.map fun r => toB r.2) [10]).length, cap⟩, zs.take (Lib.join (rs.map fun r => toB r.2) [10]).length), hby, rfl, hb, fun x hx => ?_⟩
  rcases List.mem_singleton.1 hx with rfl
  have hlen : (zs.take (Lib.join (rs.map fun r => toB r.2) [10]).length).length = (Lib.join (rs.map fun r => toB r.2) [10]).length := by rw [List.length_take]; omega
  refine ⟨⟨⟨by rw [flatY]; simp, some ⟨g2, 0, none⟩, cap, by rw [hlen], by show (zs.take _).length ≤ cap; omega, fun _ => ⟨⟨g2, 0, none⟩, rfl, fun j v hj => ?_⟩, fun h => by cases h⟩, fun _ _ b hb => ?_⟩, rfl⟩
  · rw [flatY, List.getElem?_map] at hj
    rw [add0]
    cases hq : (zs.take (Lib.join (rs.map fun r => toB r.2) [10]).length)[j]? with
    | none => rw [hq] at hj; cases hj
    | some q =>
      rw [hq] at hj
      obtain rfl := Option.some.inj hj
      have hjl := (List.getElem?_eq_some_iff.1 hq).1
      rw [hlen] at hjl
      rw [hcells j (by omega)]
      rw [List.getElem?_take, if_pos hjl] at hq
      rw [List.getD_eq_getElem?_getD, hq]; rfl
  · simp [Value.ownBlock] at hb; omega
theorem text_c {b : Nat} {la lo u cs : Int} {z : Sl} {rs : List (Sl × List Int)} {wd : Nat} (hp : pxOk wd rs) (h1 : 2 ≤ rs.length ∧ rs.length ≤ 1000) (hw : 1 ≤ wd ∧ wd ≤ 1000) : ContIn Tryz.prog (TxW b la lo u cs z rs wd) 14 [ptS b] (strV (txtS (rs.map Prod.snd))) := fun w hs => by
  have hcl := hs.sh.cell
  have qj := fun y => join_c (b := b) (la := la) (lo := lo) (u := u) (cs := cs) (z := z) (y := y) hp h1 hw.2
  have hj := join_lns (rs.map fun r => toB r.2) (by cases rs with | nil => simp at h1 | cons a r => simp)
  have ht : txtS (rs.map Prod.snd) = lnsS (rs.map fun r => toB r.2) := by unfold txtS; rw [List.map_map]; rfl
  have hlen := lnsS_len (rs.map fun r => toB r.2) (k := wd) (fun x hx => by
    obtain ⟨r, hr, rfl⟩ := List.mem_map.1 hx
    have := (hp r hr).1
    simp [toB]; omega)
  have hpos : 2 ≤ (lnsS (rs.map fun r => toB r.2)).length := by
    rw [hlen, List.length_map]
    have := Nat.mul_le_mul h1.1 (show 1 ≤ wd + 1 by omega)
    omega
  have hup : (lnsS (rs.map fun r => toB r.2)).length ≤ 1001000 := by
    rw [hlen, List.length_map]
    exact Nat.mul_le_mul h1.2 (show wd + 1 ≤ 1001 by omega)
  rw [← hj, List.length_append] at hpos hup
  rw [ht, ← hj]
  clear hlen
  generalize Lib.join (rs.map fun r => toB r.2) [10] = J at *
  refine enter0 Tryz.func14 rfl rfl rfl ?_
  repeat' (first
    | (show YK _ _ _ _ _ ⟨_, .call { callee := .builtin .len, args := _, argTypes := #[9] }, _, _, _, _⟩ _; refine YK.ofV (y_lenS (by rfl) StrTy.is) ?_)
    | (show VK _ _ _ _ _ ⟨_, .call { callee := .builtin .len, args := _, argTypes := #[9] }, _, _, _, _⟩ _; refine VK.mk (y_lenS (by rfl) StrTy.is) ?_)
    | (show YG _ _ _ _ _ _ ⟨_, .call { callee := .builtin .len, args := _, argTypes := #[9] }, _, _, _, _⟩ _; refine YG.mk (fun hb => by (try (have hc := And.left hb; have hb := And.right hb; rw [hc])); (try rw [hb]); exact V.y (y_lenS (by rfl) StrTy.is)) ?_)
    | (show VG _ _ _ _ _ _ ⟨_, .call { callee := .builtin .len, args := _, argTypes := #[9] }, _, _, _, _⟩ _; refine VG.mk (fun hb => by (try (have hc := And.left hb; have hb := And.right hb; rw [hc])); (try rw [hb]); exact y_lenS (by rfl) StrTy.is) ?_)
    | (refine nxN ?_)
    | (show VK _ _ _ _ _ ⟨_, .load 36 _, _, _, _, _⟩ _; refine VK.mk (y_loadX (by rfl) (hcl _ _ (by rfl)) (by decide +kernel)) ?_)
    | (show YK _ _ _ _ _ ⟨_, .load 36 _, _, _, _, _⟩ _; refine YK.ofV (y_loadX (by rfl) (hcl _ _ (by rfl)) (by decide +kernel)) ?_)
    | (show VG _ _ _ _ _ _ ⟨_, .load 36 _, _, _, _, _⟩ _; refine VG.mk (fun hb => by (try (have hc := And.left hb; have hb := And.right hb; rw [hc])); (try rw [hb]); exact y_loadX (by rfl) (hcl _ _ (by rfl)) (by decide +kernel)) ?_)
    | (show YG _ _ _ _ _ _ ⟨_, .load 36 _, _, _, _, _⟩ _; refine YG.mk (fun hb => by (try (have hc := And.left hb; have hb := And.right hb; rw [hc])); (try rw [hb]); exact V.y (y_loadX (by rfl) (hcl _ _ (by rfl)) (by decide +kernel))) ?_)
    | (show YK _ _ _ _ _ ⟨_, .binOp .eql _ _ (.const (.pointer none)) _, _, _, _, _⟩ _; refine YK.ofV (y_eqNil1 rfl rfl sh_ptr) ?_)
    | (show RS _ _ _ _ _ _ _ (⟨some 9, .buildSlice _ _ _, _, _, _, _⟩ :: _); refine RS.litG (f := cB) (a := (10 : Int)) ?_ (by rfl) rfl rfl rfl; intro y1)
    | (show RS _ _ _ _ _ _ _ (⟨some 10, .convert _ _ _, _, _, _, _⟩ :: _); refine RS.mark (f := cB) (l := [(10 : Int)]) ?_ (by rfl) (by exact updA) Tryz.underlying85 Tryz.underlying5 (by simp) rfl)
    | (show RS _ _ _ _ _ _ _ (⟨some 11, _, _, _, _, _⟩ :: _); refine RS.callI (qj y1) ⟨rfl, rfl, rfl⟩ (fun w' hw' => ⟨hs.keep hw'.ext, (hw'.all _ (.head _)).1⟩) ?_; rintro ⟨x, zs⟩ hz; dsimp only at hz ⊢; dsimp only [List.cons_append, List.nil_append])
    | (show YK _ _ _ _ _ ⟨some 12, .convert _ _ _, _, _, _, _⟩ _; refine YK.ofV (v := strV J) (by (rw [← hz]; exact y_strOf (e := 5) (ls := zs) (by rfl) (RdT.nw (by exact memA)) Tryz.underlying85 Tryz.underlying5 Tryz.underlying9 (fun h0 => by (rw [h0] at hz; rw [← hz] at hpos; simp [Lib.bytesOf] at hpos)))) ?_)
    | (refine nxV ?_)
    | (show RS _ _ _ _ _ _ _ _; first | (refine nxRS ?_) | (refine nxRS1 fun _ => ?_))
    | (show RM _ _ _ _ _ _ _ _ _ _; first | (refine nxRM ?_) | (refine nxRM1 fun _ => ?_))
    | (refine nxG ?_)
    | (refine nxVS ?_)
    | (refine nxGS ?_)
    | (refine nxX ?_)
    | (refine G.condN rfl (fun hc => ?_) (fun hc => ?_) <;> (try first | exact False.elim hc | (exfalso; omega))))
  exact X.ret (vs := [_]) rfl ⟨rfl, rfl⟩ rfl (fun w hw => ⟨rfl, hw.ext⟩)
end Go.Proofs.YthilhhegchmjeaaGreat
/- The rows of a sheet's text. -/
set_option linter.unusedVariables false
set_option maxHeartbeats 8000000
namespace Go.Proofs.YthilhhegchmjeaaGreat
open Go.RowKit
end Go.Proofs.YthilhhegchmjeaaGreat
/- A mark set. -/
set_option linter.unusedVariables false
set_option maxHeartbeats 8000000
namespace Go.Proofs.YthilhhegchmjeaaGreat
open Go.RowKit
variable {xt : Nat → List Value} {b : Nat} {la lo u cs : Int} {z : Sl} {wd : Nat}
theorem mark_ok {rs A B : List (Sl × List Int)} {r : Sl × List Int} {pla plo m : Int} {i j : Nat} (ok : ShOk la lo u cs (rs.map Prod.fst) wd) (hm : 33 ≤ m ∧ m ≤ 126) (h1 : -9223372036854775808 ≤ pla ∧ pla ≤ 9223372036854775807) (h2 : -9223372036854775808 ≤ plo ∧ plo ≤ 9223372036854775807)
    (hp : pixI wd (rs.map Prod.fst).length la lo u cs pla plo = ((i : Int), (j : Int), 0)) (hrs : rs = A ++ r :: B) (hA : A.length = j) (hi : i < wd) (hl1 : r.2.length = wd) (hl3 : hdOk wd r.1) :
    ContL Tryz.prog (fun _ => True) (shB b la lo u cs z.v :: rwS z (rs.map Prod.fst) :: rowsH xt rs) 12 [ptS b, ptV pla plo, .int .u8 m] (fun _ : Unit => True) (fun _ => .int .i64 0) (fun _ => shB b la lo u cs z.v :: rwS z (rs.map Prod.fst) :: rowsH xt (A ++ (r.1, r.2.set i m) :: B)) := fun w0 HR w _ hs => by
  have q1 := marks_c (b := b) (m := m) (by omega)
  rw [show (decide (33 ≤ m) && decide (m ≤ 126)) = true by simp [hm]] at q1
  have q2 := pixel_c (b := b) (z := z) ok h1 h2
  rw [hp] at q2
  dsimp only at q2
  have hl2 := hl3.1
  have hrl := ok.r1
  have hwl := ok.w1
  have hml : (rs.map Prod.fst).length = rs.length := List.length_map _
  have hrj : rs[j]? = some r := by rw [hrs, ← hA, List.getElem?_append_right (Nat.le_refl _)]; simp
  have hjl : j < rs.length := by
    rcases Nat.lt_or_ge j rs.length with h | h
    · exact h
    · rw [List.getElem?_eq_none h] at hrj; cases hrj
  have hnth := nth_fst hrj
  have permA : ∀ (l : List Int), (shB b la lo u cs z.v :: rwS z (rs.map Prod.fst) :: (rowsH xt (A ++ (r.1, l) :: B) ++ HR)).Perm (pxH xt r.1 l :: shB b la lo u cs z.v :: rwS z (rs.map Prod.fst) :: (rowsH xt A ++ rowsH xt B ++ HR)) := fun l => by
    have e : rowsH xt (A ++ (r.1, l) :: B) = rowsH xt A ++ pxH xt r.1 l :: rowsH xt B := by rw [rowsH_app]; rfl
    rw [e]
    have h1 : (rowsH xt A ++ pxH xt r.1 l :: rowsH xt B ++ HR).Perm (pxH xt r.1 l :: (rowsH xt A ++ rowsH xt B ++ HR)) := by
      rw [List.append_assoc, List.append_assoc, List.cons_append]
      exact List.perm_middle
    exact ((h1.cons _).cons _).trans (((List.Perm.swap _ _ _).cons _).trans (List.Perm.swap _ _ _))
  have hs1 : St w0 (shB b la lo u cs z.v :: rwS z (rs.map Prod.fst) :: (rowsH xt rs ++ HR)) w := hs
  rw [show rowsH xt rs = rowsH xt (A ++ (r.1, r.2) :: B) by rw [hrs]] at hs1
  have hs2 := hs1.perm (permA r.2)
  refine enterU Tryz.func12 rfl rfl rfl hs2 ?_
  repeat' (first
    | (refine nxN ?_)
    | (show YK _ _ _ _ _ ⟨_, .call { callee := .value (.func 17), args := _, argTypes := _ }, _, _, _, _⟩ _; refine YK.mk (y_callIn (q2) (fun w' hw' => ShR.ofSt hw' (by exact memA) (by exact memA)) ⟨rfl, rfl, rfl⟩ (by decide +kernel)) ?_)
    | (show YG _ _ _ _ _ _ ⟨_, .call { callee := .value (.func 17), args := _, argTypes := _ }, _, _, _, _⟩ _; refine YG.mk (fun hb => by (try (have hc := And.left hb; have hb := And.right hb; rw [hc])); (try rw [hb]); exact y_callIn (q2) (fun w' hw' => ShR.ofSt hw' (by exact memA) (by exact memA)) ⟨rfl, rfl, rfl⟩ (by decide +kernel)) ?_)
    | (show YK _ _ _ _ _ ⟨_, .load 85 _, _, _, _, _⟩ _; refine YK.ofV (v := r.1.v) (y_loadEl (inst := inferInstance) (v := z.v) (s := 1) (m := (j : Int)) (i := 0) (f := cSl) (l := rs.map Prod.fst) (by rfl) (by exact rdA) (fun _ => rfl) ⟨by omega, by omega⟩ (by rfl) (by rw [hnth]; rfl) (by decide +kernel)) ?_)
    | (show YK _ _ _ _ _ ⟨_, .load 23 _, _, _, _, _⟩ _; refine YK.ofV (y_loadPart (k := 2) (by rfl) (by exact memA) (by decide +kernel) (by rfl)) ?_)
    | (show RS _ _ _ _ _ _ _ (⟨none, .store 5 _ _, _, _, _, _⟩ :: _); refine RS.storePx (xt := xt) (s := r.1) (l := r.2) (i := i) (m := m) ?_ (by rfl) (by rfl) (by exact updA) (by omega) hl3 (by decide +kernel))
    | (show YK _ _ _ _ _ ⟨_, .indexAddr 85 _ _, _, _, _, _⟩ _; refine YK.ofV (y_indexAddr (v := r.1.v) (s := 1) (m := (i : Int)) (f := cB) (l := r.2) (by rfl) (by rfl) (RdT.px (by exact memA) hl3 (by omega)) (fun _ => rfl) ⟨by omega, by omega⟩ (by rfl) (by decide +kernel)) ?_)
    | (show YK _ _ _ _ _ _ _; first | refine YK.mk (y_callA (q1) ⟨rfl, rfl, rfl⟩) ?_)
    | (show YK _ _ _ _ _ _ _; refine YK.ofV vAuto ?_)
    | (show VK _ _ _ _ _ _ _; refine VK.mk vAuto ?_)
    | (show RS _ _ _ _ _ _ _ _; first | (refine nxRS ?_) | (refine nxRS1 fun _ => ?_))
    | (show RM _ _ _ _ _ _ _ _ _ _; first | (refine nxRM ?_) | (refine nxRM1 fun _ => ?_))
    | (show YG _ _ _ _ _ _ _ _; refine YG.mk (fun hb => by (try (have hc := And.left hb; have hb := And.right hb; rw [hc])); (try rw [hb]); first | exact (y_callA (q1) ⟨rfl, rfl, rfl⟩) | exact V.y vAuto) ?_)
    | (show VG _ _ _ _ _ _ _ _; refine VG.mk (fun hb => by (try (have hc := And.left hb; have hb := And.right hb; rw [hc])); (try rw [hb]); exact vAuto) ?_)
    | (refine nxX ?_)
    | (refine G.condN rfl (fun hc => ?_) (fun hc => ?_) <;> (try first | exact False.elim hc | (exfalso; omega))))
  refine X.ret (vs := [_]) rfl ⟨rfl, rfl⟩ rfl (fun w hw => ⟨(), trivial, rfl, ?_⟩)
  have hw' := St.sub hw (List.Sublist.cons _ (List.Sublist.refl _))
  exact hw'.perm (permA _).symm
/-- A mark that cannot be seen, or a point outside. -/
theorem mark_arg {rs : List (Sl × List Int)} {pla plo m : Int} (hm : 0 ≤ m ∧ m ≤ 255) (hv : (decide (33 ≤ m) && decide (m ≤ 126)) = false) :
    ContL Tryz.prog (fun _ => True) (shB b la lo u cs z.v :: rwS z (rs.map Prod.fst) :: rowsH xt rs) 12 [ptS b, ptV pla plo, .int .u8 m] (fun _ : Unit => True) (fun _ => .int .i64 1) (fun _ => shB b la lo u cs z.v :: rwS z (rs.map Prod.fst) :: rowsH xt rs) := fun w0 HR w _ hs => by
  have q1 := marks_c (b := b) (m := m) hm
  rw [hv] at q1
  refine enterU Tryz.func12 rfl rfl rfl (H := shB b la lo u cs z.v :: rwS z (rs.map Prod.fst) :: (rowsH xt rs ++ HR)) hs ?_
  repeat' (first
    | (refine nxN ?_)
    | (show YK _ _ _ _ _ _ _; first | refine YK.mk (y_callA (q1) ⟨rfl, rfl, rfl⟩) ?_)
    | (show YK _ _ _ _ _ _ _; refine YK.ofV vAuto ?_)
    | (show VK _ _ _ _ _ _ _; refine VK.mk vAuto ?_)
    | (show RS _ _ _ _ _ _ _ _; first | (refine nxRS ?_) | (refine nxRS1 fun _ => ?_))
    | (show RM _ _ _ _ _ _ _ _ _ _; first | (refine nxRM ?_) | (refine nxRM1 fun _ => ?_))
    | (show YG _ _ _ _ _ _ _ _; refine YG.mk (fun hb => by (try (have hc := And.left hb; have hb := And.right hb; rw [hc])); (try rw [hb]); first | exact (y_callA (q1) ⟨rfl, rfl, rfl⟩) | exact V.y vAuto) ?_)
    | (show VG _ _ _ _ _ _ _ _; refine VG.mk (fun hb => by (try (have hc := And.left hb; have hb := And.right hb; rw [hc])); (try rw [hb]); exact vAuto) ?_)
    | (refine nxX ?_)
    | (refine G.condN rfl (fun hc => ?_) (fun hc => ?_) <;> (try first | exact False.elim hc | (exfalso; omega))))
  exact X.ret (vs := [_]) rfl ⟨rfl, rfl⟩ rfl (fun w hw => ⟨(), trivial, rfl, St.sub hw (by repeat (first | exact List.Sublist.refl _ | apply List.Sublist.cons))⟩)
theorem mark_out {rs : List (Sl × List Int)} {pla plo m e i j : Int} (ok : ShOk la lo u cs (rs.map Prod.fst) wd) (hm : 33 ≤ m ∧ m ≤ 126) (h1 : -9223372036854775808 ≤ pla ∧ pla ≤ 9223372036854775807) (h2 : -9223372036854775808 ≤ plo ∧ plo ≤ 9223372036854775807)
    (hp : pixI wd (rs.map Prod.fst).length la lo u cs pla plo = (i, j, e)) (he : e ≠ 0) :
    ContL Tryz.prog (fun _ => True) (shB b la lo u cs z.v :: rwS z (rs.map Prod.fst) :: rowsH xt rs) 12 [ptS b, ptV pla plo, .int .u8 m] (fun _ : Unit => True) (fun _ => .int .i64 e) (fun _ => shB b la lo u cs z.v :: rwS z (rs.map Prod.fst) :: rowsH xt rs) := fun w0 HR w _ hs => by
  have q1 := marks_c (b := b) (m := m) (by omega)
  rw [show (decide (33 ≤ m) && decide (m ≤ 126)) = true by simp [hm]] at q1
  have q2 := pixel_c (b := b) (z := z) ok h1 h2
  rw [hp] at q2
  dsimp only at q2
  refine enterU Tryz.func12 rfl rfl rfl (H := shB b la lo u cs z.v :: rwS z (rs.map Prod.fst) :: (rowsH xt rs ++ HR)) hs ?_
  repeat' (first
    | (refine nxN ?_)
    | (show YK _ _ _ _ _ ⟨_, .call { callee := .value (.func 17), args := _, argTypes := _ }, _, _, _, _⟩ _; refine YK.mk (y_callIn (q2) (fun w' hw' => ShR.ofSt hw' (by exact memA) (by exact memA)) ⟨rfl, rfl, rfl⟩ (by decide +kernel)) ?_)
    | (show YG _ _ _ _ _ _ ⟨_, .call { callee := .value (.func 17), args := _, argTypes := _ }, _, _, _, _⟩ _; refine YG.mk (fun hb => by (try (have hc := And.left hb; have hb := And.right hb; rw [hc])); (try rw [hb]); exact y_callIn (q2) (fun w' hw' => ShR.ofSt hw' (by exact memA) (by exact memA)) ⟨rfl, rfl, rfl⟩ (by decide +kernel)) ?_)
    | (show YK _ _ _ _ _ ⟨_, .load 23 _, _, _, _, _⟩ _; refine YK.ofV (y_loadPart (k := 2) (by rfl) (by exact memA) (by decide +kernel) (by rfl)) ?_)
    | (show YK _ _ _ _ _ _ _; first | refine YK.mk (y_callA (q1) ⟨rfl, rfl, rfl⟩) ?_)
    | (show YK _ _ _ _ _ _ _; refine YK.ofV vAuto ?_)
    | (show VK _ _ _ _ _ _ _; refine VK.mk vAuto ?_)
    | (show RS _ _ _ _ _ _ _ _; first | (refine nxRS ?_) | (refine nxRS1 fun _ => ?_))
    | (show RM _ _ _ _ _ _ _ _ _ _; first | (refine nxRM ?_) | (refine nxRM1 fun _ => ?_))
    | (show YG _ _ _ _ _ _ _ _; refine YG.mk (fun hb => by (try (have hc := And.left hb; have hb := And.right hb; rw [hc])); (try rw [hb]); first | exact (y_callA (q1) ⟨rfl, rfl, rfl⟩) | exact V.y vAuto) ?_)
    | (show VG _ _ _ _ _ _ _ _; refine VG.mk (fun hb => by (try (have hc := And.left hb; have hb := And.right hb; rw [hc])); (try rw [hb]); exact vAuto) ?_)
    | (refine nxX ?_)
    | (refine G.condN rfl (fun hc => ?_) (fun hc => ?_) <;> (try first | exact False.elim hc | (exfalso; omega))))
  exact X.ret (vs := [_]) rfl ⟨rfl, rfl⟩ rfl (fun w hw => ⟨(), trivial, rfl, St.sub hw (by repeat (first | exact List.Sublist.refl _ | apply List.Sublist.cons))⟩)
end Go.Proofs.YthilhhegchmjeaaGreat
