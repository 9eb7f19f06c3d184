/- Joined texts: One, Nil, LitS, Cel, Non, LawNo. -/
import Derived.Test.YthilhhegchmjeaaGreatDoorWp
import Derived.Test.YthilhhegchmjeaaGreatDoorWq
import Derived.Test.YthilhhegchmjeaaGreatDoorWa
import Derived.Test.YthilhhegchmjeaaGreatDoorWb
import Derived.Test.YthilhhegchmjeaaGreatDoorWm
/- One pixel marked on a new sheet, and its text's rows. -/
set_option linter.unusedVariables false
set_option maxHeartbeats 8000000
namespace Go.Proofs.YthilhhegchmjeaaGreatDoor
open Go.RowKit
theorem tx_sel {m la lo u : Int} {wd b : Nat} {z : Sl} {rs : List Sl} {xt : Nat → List Value} {sel : Nat → Nat → Bool} {cs : Int} (hm : 11 ≤ m ∧ m ≤ 255) (hw : 11 ≤ wd ∧ wd ≤ 121) (hz : NewP wd (b, z, rs, xt)) : ContIn Tryz.prog (TxW b la lo u cs z (pR sel m rs.length 0 (newR wd rs)) wd) 15 [ptS b] (strV (lnsS ((pixL sel m wd (2 * ((wd - 1) / 4) + 1)).map toB))) := by
  have hl : rs.length = 2 * ((wd - 1) / 4) + 1 := hz.len
  have hs := pR_new sel m wd rs
  have q := text_c (b := b) (la := la) (lo := lo) (u := u) (cs := cs) (z := z) (rs := pR sel m rs.length 0 (newR wd rs)) (wd := wd) (fun r hr => by
    have hm' : r.2 ∈ pixL sel m wd rs.length := by rw [← hs]; exact List.mem_map.2 ⟨r, hr, rfl⟩
    exact pixL_mem hm' hm) (by rw [pR_len, List.length_map]; omega) (by omega)
  rw [hs] at q
  rw [← hl]
  exact q
theorem pix_rowsM {m : Int} {sel : Nat → Nat → Bool} {wd h : Nat} (hm : 11 ≤ m ∧ m ≤ 255) : ∀ s ∈ (pixL sel m wd h).map toB, s.length = wd ∧ (10 : UInt8) ∉ s := fun s hs => by
  obtain ⟨l, hl, rfl⟩ := List.mem_map.1 hs
  obtain ⟨h1, h2⟩ := pixL_mem hl hm
  refine ⟨by simp [toB, h1], fun hm => ?_⟩
  obtain ⟨i, hi⟩ := List.getElem?_of_mem hm
  have := toB_get h2 hi
  have := h2 _ (List.mem_of_getElem? this)
  simp at this
theorem rw_sel {m : Int} {sel : Nat → Nat → Bool} {wd : Nat} (hm : 11 ≤ m ∧ m ≤ 255) (hw : 11 ≤ wd ∧ wd ≤ 121) : ContXI Tryz.prog LaidM 14 [strV (lnsS ((pixL sel m wd (2 * ((wd - 1) / 4) + 1)).map toB)), .int .i64 (wd : Int)] (fun _ : Sl => True) (fun z => .tuple [z.v, .bool true].toArray) (fun z => [Hl.nw z.v cS 1 ((pixL sel m wd (2 * ((wd - 1) / 4) + 1)).map toB)]) :=
  rows_c (by omega) (pix_rowsM hm) (by simp [pixL])
/-- A mark on a new sheet: one pixel. -/
theorem mark_new {la lo u pla plo m : Int} {wd b i j : Nat} {z : Sl} {rs : List Sl} {xt : Nat → List Value} (hp : pointB la lo = true) (hla : -4800000 ≤ la ∧ la ≤ 4800000) (hu : 2 ≤ u ∧ u ≤ 100000) (hw : 11 ≤ wd ∧ wd ≤ 121) (hz : NewP wd (b, z, rs, xt)) (hm : 33 ≤ m ∧ m ≤ 126) (hq : pointB pla plo = true) (hx : pixI wd rs.length la lo u (TT.cosE la la).1 pla plo = ((i : Int), (j : Int), 0)) (hi : i < wd) (hj : j < rs.length) :
    ContL Tryz.prog (fun _ => True) (shB b la lo u (TT.cosE la la).1 z.v :: rwS z rs :: rowsH xt (newR wd rs)) 13 [ptS b, ptV pla plo, .int .u8 m] (fun _ : Unit => True) (fun _ => .int .i64 0) (fun _ => shB b la lo u (TT.cosE la la).1 z.v :: rwS z rs :: rowsH xt (pR (sel1 i j) m rs.length 0 (newR wd rs))) := by
  have hok := shok_new hp hla hu hw hz.len hz.ok
  have hrs : rs = rs.take j ++ rs[j] :: rs.drop (j + 1) := by rw [List.getElem_cons_drop, List.take_append_drop]
  have hA : (rs.take j).length = j := by rw [List.length_take]; omega
  simp only [pointB, Bool.and_eq_true, decide_eq_true_eq] at hq
  have q := mark_ok (b := b) (z := z) (xt := xt) (rs := newR wd rs) (A := newR wd (rs.take j)) (B := newR wd (rs.drop (j + 1))) (r := (rs[j], List.replicate wd 46)) (pla := pla) (plo := plo) (m := m) (i := i) (j := j) (by rw [newR_fst]; exact hok) hm (by omega) (by omega) (by rw [newR_fst]; exact hx)
    (by
      have := congrArg (newR wd) hrs
      rw [this]
      simp only [newR, List.map_append, List.map_cons]) (by rw [List.length_map]; exact hA) hi List.length_replicate (hz.ok _ (List.getElem_mem hj))
  rw [newR_fst, pR_one hrs hA] at q
  exact q
end Go.Proofs.YthilhhegchmjeaaGreatDoor
/- A sheet that is none: every method answers. -/
set_option linter.unusedVariables false
set_option maxHeartbeats 8000000
namespace Go.Proofs.YthilhhegchmjeaaGreatDoor
open Go.RowKit
theorem pixel0_c {pla plo : Int} : Cont Tryz.prog 9 [.pointer none, ptV pla plo] (.tuple [.int .i64 0, .int .i64 0, .int .i64 1].toArray) := fun w => by
  have q0 := vpoint_c pla plo
  refine enter0 Tryz.func9 rfl rfl rfl ?_
  repeat' (first
    | (refine nxN ?_)
    | (show YK _ _ _ _ _ ⟨_, .binOp .eql _ _ (.const (.pointer none)) _, _, _, _, _⟩ _; refine YK.ofV (y_eqNil0 rfl rfl sh_ptr) ?_)
    | (show YK _ _ _ _ _ _ _; first | refine YK.mk (y_callA (q0) ⟨rfl, rfl⟩) ?_)
    | (show YK _ _ _ _ _ _ _; refine YK.ofV vAuto ?_)
    | (show VK _ _ _ _ _ _ _; refine VK.mk vAuto ?_)
    | (show RS _ _ _ _ _ _ _ _; first | (refine nxRS ?_) | (refine nxRS1 fun _ => ?_))
    | (show RM _ _ _ _ _ _ _ _ _ _; first | (refine nxRM ?_) | (refine nxRM1 fun _ => ?_))
    | (show YG _ _ _ _ _ _ _ _; refine YG.mk (fun hb => by (try (have hc := And.left hb; have hb := And.right hb; rw [hc])); (try rw [hb]); first | exact (y_callA (q0) ⟨rfl, rfl⟩) | exact V.y vAuto) ?_)
    | (show VG _ _ _ _ _ _ _ _; refine VG.mk (fun hb => by (try (have hc := And.left hb; have hb := And.right hb; rw [hc])); (try rw [hb]); exact vAuto) ?_)
    | (refine G.mixedA 4 [.go 0, .go 1, .go 2, .go 3, .go 4, .go 5, .go 6, .go 7, .go 8, .go 11, .go 12, .go 13, .go 14, .go 16, .go 17, .go 18, .go 19, .go 20, .go 22, .go 23, .go 24, .go 25, .go 26, .go 27, .go 9, .go 10, .go 15, .go 21, .go 28, .go 29, .go 30] ?_)
    | (refine G.mixedA 5 [.go 0, .go 1, .go 2, .go 3, .go 4, .go 5, .go 6, .go 7, .go 8, .go 9, .go 10, .go 11, .go 12, .go 13, .go 14, .go 15, .go 16, .go 17, .go 18, .go 19, .go 20, .go 21] ?_)
    | (refine nxX ?_)
    | (refine G.condN rfl (fun hc => ?_) (fun hc => ?_) <;> (try first | exact False.elim hc | (exfalso; omega))))
  exact X.ret (vs := [_, _, _]) rfl ⟨rfl, rfl, rfl, rfl⟩ rfl (fun w hw => ⟨rfl, hw.ext⟩)
theorem point0_c {i j : Int} : Cont Tryz.prog 10 [.pointer none, .int .i64 i, .int .i64 j] (.tuple [ptV 0 0, .int .i64 1].toArray) := fun w => by
  refine enter0 Tryz.func10 rfl rfl rfl ?_
  repeat' (first
    | (refine nxN ?_)
    | (show YK _ _ _ _ _ ⟨_, .binOp .eql _ _ (.const (.pointer none)) _, _, _, _, _⟩ _; refine YK.ofV (y_eqNil0 rfl rfl sh_ptr) ?_)
    | (refine nxV ?_)
    | (show RS _ _ _ _ _ _ _ _; first | (refine nxRS ?_) | (refine nxRS1 fun _ => ?_))
    | (show RM _ _ _ _ _ _ _ _ _ _; first | (refine nxRM ?_) | (refine nxRM1 fun _ => ?_))
    | (refine nxG ?_)
    | (refine G.mixedA 6 [.go 0, .go 1, .go 2, .go 3, .go 4, .go 5, .go 6, .go 7, .go 8, .go 9, .go 10, .go 11, .go 12, .go 13, .go 14, .go 15, .go 16, .go 17, .pend 22, .go 18, .go 19, .go 20, .go 21, .done, .go 23] ?_)
    | (refine nxX ?_)
    | (refine G.condN rfl (fun hc => ?_) (fun hc => ?_) <;> (try first | exact False.elim hc | (exfalso; omega))))
  all_goals first | exact X.ret (vs := [_, _]) rfl ⟨⟨_, _, _, _, rfl, (by exact memA), (by (repeat (first | exact .nil | apply LenIs.cons))), by decide +kernel, rfl⟩, rfl, rfl⟩ rfl (fun w hw => ⟨rfl, hw.ext⟩) | exact X.ret (vs := [_, _]) rfl ⟨rfl, rfl, rfl⟩ rfl (fun w hw => ⟨rfl, hw.ext⟩)
theorem line0_c {pla plo zl zh il ih m : Int} : Cont Tryz.prog 26 [.pointer none, lineV pla plo zl zh il ih, .int .u8 m] (.int .i64 1) := fun w => by
  have q1 := marks0_c (m := m)
  refine enter0 Tryz.func26 rfl rfl rfl ?_
  repeat' (first
    | (refine nxN ?_)
    | (show YK _ _ _ _ _ _ _; first | refine YK.mk (y_callA (q1) ⟨rfl, rfl, rfl⟩) ?_)
    | (show YK _ _ _ _ _ _ _; refine YK.ofV vAuto ?_)
    | (show VK _ _ _ _ _ _ _; refine VK.mk vAuto ?_)
    | (show RS _ _ _ _ _ _ _ _; first | (refine nxRS ?_) | (refine nxRS1 fun _ => ?_))
    | (show RM _ _ _ _ _ _ _ _ _ _; first | (refine nxRM ?_) | (refine nxRM1 fun _ => ?_))
    | (show YG _ _ _ _ _ _ _ _; refine YG.mk (fun hb => by (try (have hc := And.left hb; have hb := And.right hb; rw [hc])); (try rw [hb]); first | exact (y_callA (q1) ⟨rfl, rfl, rfl⟩) | exact V.y vAuto) ?_)
    | (show VG _ _ _ _ _ _ _ _; refine VG.mk (fun hb => by (try (have hc := And.left hb; have hb := And.right hb; rw [hc])); (try rw [hb]); exact vAuto) ?_)
    | (refine G.mixedA 3 [.go 0, .go 1, .go 2, .go 3, .go 4, .go 5, .go 6, .go 7] ?_)
    | (refine G.mixedA 12 [.go 0, .go 1, .go 3, .go 4, .pend 6, .pend 7, .go 2, .go 5, .done, .done, .go 8, .go 9] ?_)
    | (refine nxX ?_)
    | (refine G.condN rfl (fun hc => ?_) (fun hc => ?_) <;> (try first | exact False.elim hc | (exfalso; omega))))
  exact X.ret (vs := [_]) rfl ⟨rfl, rfl⟩ rfl (fun w hw => ⟨rfl, hw.ext⟩)
theorem region0_c {v : Value} {m : Int} : Cont Tryz.prog 24 [.pointer none, v, .int .u8 m] (.int .i64 1) := fun w => by
  have q1 := marks0_c (m := m)
  refine enter0 Tryz.func24 rfl rfl rfl ?_
  repeat' (first
    | (refine nxN ?_)
    | (show YK _ _ _ _ _ _ _; first | refine YK.mk (y_callA (q1) ⟨rfl, rfl, rfl⟩) ?_)
    | (show YK _ _ _ _ _ _ _; refine YK.ofV vAuto ?_)
    | (show VK _ _ _ _ _ _ _; refine VK.mk vAuto ?_)
    | (show RS _ _ _ _ _ _ _ _; first | (refine nxRS ?_) | (refine nxRS1 fun _ => ?_))
    | (show RM _ _ _ _ _ _ _ _ _ _; first | (refine nxRM ?_) | (refine nxRM1 fun _ => ?_))
    | (show YG _ _ _ _ _ _ _ _; refine YG.mk (fun hb => by (try (have hc := And.left hb; have hb := And.right hb; rw [hc])); (try rw [hb]); first | exact (y_callA (q1) ⟨rfl, rfl, rfl⟩) | exact V.y vAuto) ?_)
    | (show VG _ _ _ _ _ _ _ _; refine VG.mk (fun hb => by (try (have hc := And.left hb; have hb := And.right hb; rw [hc])); (try rw [hb]); exact vAuto) ?_)
    | (refine nxX ?_)
    | (refine G.condN rfl (fun hc => ?_) (fun hc => ?_) <;> (try first | exact False.elim hc | (exfalso; omega))))
  exact X.ret (vs := [_]) rfl ⟨rfl, rfl⟩ rfl (fun w hw => ⟨rfl, hw.ext⟩)
theorem mark0_c {pla plo m : Int} : Cont Tryz.prog 13 [.pointer none, ptV pla plo, .int .u8 m] (.int .i64 1) := fun w => by
  have q1 := marks0_c (m := m)
  refine enter0 Tryz.func13 rfl rfl rfl ?_
  repeat' (first
    | (refine nxN ?_)
    | (show YK _ _ _ _ _ _ _; first | refine YK.mk (y_callA (q1) ⟨rfl, rfl, rfl⟩) ?_)
    | (show YK _ _ _ _ _ _ _; refine YK.ofV vAuto ?_)
    | (show VK _ _ _ _ _ _ _; refine VK.mk vAuto ?_)
    | (show RS _ _ _ _ _ _ _ _; first | (refine nxRS ?_) | (refine nxRS1 fun _ => ?_))
    | (show RM _ _ _ _ _ _ _ _ _ _; first | (refine nxRM ?_) | (refine nxRM1 fun _ => ?_))
    | (show YG _ _ _ _ _ _ _ _; refine YG.mk (fun hb => by (try (have hc := And.left hb; have hb := And.right hb; rw [hc])); (try rw [hb]); first | exact (y_callA (q1) ⟨rfl, rfl, rfl⟩) | exact V.y vAuto) ?_)
    | (show VG _ _ _ _ _ _ _ _; refine VG.mk (fun hb => by (try (have hc := And.left hb; have hb := And.right hb; rw [hc])); (try rw [hb]); exact vAuto) ?_)
    | (refine nxX ?_)
    | (refine G.condN rfl (fun hc => ?_) (fun hc => ?_) <;> (try first | exact False.elim hc | (exfalso; omega))))
  exact X.ret (vs := [_]) rfl ⟨rfl, rfl⟩ rfl (fun w hw => ⟨rfl, hw.ext⟩)
theorem text0_c : Cont Tryz.prog 15 [.pointer none] (strV []) := fun w => by
  refine enter0 Tryz.func15 rfl rfl rfl ?_
  repeat' (first
    | (show YK _ _ _ _ _ ⟨_, .call { callee := .builtin .len, args := _, argTypes := #[9] }, _, _, _, _⟩ _; refine YK.ofV (y_lenS (by rfl) StrTy.is) ?_)
    | (show VK _ _ _ _ _ ⟨_, .call { callee := .builtin .len, args := _, argTypes := #[9] }, _, _, _, _⟩ _; refine VK.mk (y_lenS (by rfl) StrTy.is) ?_)
    | (show YG _ _ _ _ _ _ ⟨_, .call { callee := .builtin .len, args := _, argTypes := #[9] }, _, _, _, _⟩ _; refine YG.mk (fun hb => by (try (have hc := And.left hb; have hb := And.right hb; rw [hc])); (try rw [hb]); exact V.y (y_lenS (by rfl) StrTy.is)) ?_)
    | (show VG _ _ _ _ _ _ ⟨_, .call { callee := .builtin .len, args := _, argTypes := #[9] }, _, _, _, _⟩ _; refine VG.mk (fun hb => by (try (have hc := And.left hb; have hb := And.right hb; rw [hc])); (try rw [hb]); exact y_lenS (by rfl) StrTy.is) ?_)
    | (refine nxN ?_)
    | (show YK _ _ _ _ _ ⟨_, .binOp .eql _ _ (.const (.pointer none)) _, _, _, _, _⟩ _; refine YK.ofV (y_eqNil0 rfl rfl sh_ptr) ?_)
    | (refine nxV ?_)
    | (show RS _ _ _ _ _ _ _ _; first | (refine nxRS ?_) | (refine nxRS1 fun _ => ?_))
    | (show RM _ _ _ _ _ _ _ _ _ _; first | (refine nxRM ?_) | (refine nxRM1 fun _ => ?_))
    | (refine nxG ?_)
    | (refine nxVS ?_)
    | (refine nxGS ?_)
    | (refine nxX ?_)
    | (refine G.condN rfl (fun hc => ?_) (fun hc => ?_) <;> (try first | exact False.elim hc | (exfalso; omega))))
  exact X.ret (vs := [_]) rfl ⟨rfl, rfl⟩ rfl (fun w hw => ⟨rfl, hw.ext⟩)
theorem scale0_c : Cont Tryz.prog 20 [.pointer none] (.slice none 0 0) := fun w => by
  refine enter0 Tryz.func20 rfl rfl rfl ?_
  repeat' (first
    | (refine nxN ?_)
    | (show YK _ _ _ _ _ ⟨_, .binOp .eql _ _ (.const (.pointer none)) _, _, _, _, _⟩ _; refine YK.ofV (y_eqNil0 rfl rfl sh_ptr) ?_)
    | (refine nxV ?_)
    | (show RS _ _ _ _ _ _ _ _; first | (refine nxRS ?_) | (refine nxRS1 fun _ => ?_))
    | (show RM _ _ _ _ _ _ _ _ _ _; first | (refine nxRM ?_) | (refine nxRM1 fun _ => ?_))
    | (refine nxG ?_)
    | (refine G.mixedA 7 [.go 0, .go 1, .go 2, .go 3, .go 4, .go 5, .go 6, .go 7, .go 8, .go 11, .go 9, .go 10] ?_)
    | (refine nxX ?_)
    | (refine G.condN rfl (fun hc => ?_) (fun hc => ?_) <;> (try first | exact False.elim hc | (exfalso; omega))))
  exact X.ret (vs := [_]) rfl ⟨rfl, rfl⟩ rfl (fun w hw => ⟨rfl, hw.ext⟩)
end Go.Proofs.YthilhhegchmjeaaGreatDoor
/- A slice literal of structs; the law's constants. -/
set_option linter.unusedVariables false
set_option maxHeartbeats 4000000
namespace Go.Proofs.YthilhhegchmjeaaGreatDoor
open Go.RowKit
section
variable {P : Program} {n : Nat} {L : FL} {w0 : World} {H : List Hl} {dd : Tmp} {ty : TypeId} {pos : String} {af : Array Edge} {gd : Option (Nat × Bool)} {t e : TypeId} {s bytes : Nat} {α : Type} {f : α → List Value} {l : List α}
/-- A slice literal whose elements are values of s cells. -/
theorem x_litS {parts : List (Nat × Operand)} {vs cs : List Value} {k : Nat} (ha : AE L (parts.map (·.2)) vs) (hi : parts.map (·.1) = List.range' 0 k) (hk : Nat.ble (k * s) 16777216 = true) (hk2 : Nat.ble k 16777216 = true) (hk0 : Nat.blt 0 (k * s) = true)
    (hfill : ∀ zs : List Value, zs.length = k * s → Instr.fill (fun i => some (i * s, s)) zs.toArray ((List.range' 0 k).zip vs) = some cs.toArray) (hcl : cs.length = k * s)
    (hc : cs = l.flatMap f) (hlk : l.length = k) (ht : rowTyB P t e s bytes = true) (hd : Nat.blt dd n = true) :
    EX P n L w0 H ⟨some dd, .buildSlice t k parts.toArray, ty, pos, af, gd⟩ (fun _ : Sl => True) (fun v' => (dd, v'.v) :: L) (fun v' => Hl.rw v'.v e f s l :: H) :=
  EX.of_run (fun a w hfr hw => by
    obtain ⟨i, z, hu1, hi1, hz1, hs, hby, hzs, h0⟩ := rowTyB_spec ht
    have hk' : k * s ≤ 16777216 := Nat.le_of_ble_eq_true hk
    have hk2 : k ≤ 16777216 := Nat.le_of_ble_eq_true hk2
    have hk3 : ¬ (16777216 < k * s) := by omega
    have hk4 : ¬ (k * s = 0) := by have := Nat.le_of_ble_eq_true hk0; omega
    have hparts : (Array.map (fun x => match x with | (i, x) => (i, a.eval x)) parts.toArray).toList = (List.range' 0 k).zip vs := by
      have := ha.map hfr
      subst this
      rw [← hi]
      simp only [List.map_toArray, List.toList_toArray]
      clear hc hi ha hfill
      induction parts with
      | nil => rfl
      | cons p r ih => simp [ih]
    have hrun : (Instr.buildSlice t k (Array.map (fun x => match x with | (i, x) => (i, a.eval x)) parts.toArray)).run P w = .ok (.slice (some ⟨w.heap.size, 0, none⟩) k k) (w.alloc (.cells cs.toArray e)) := by
      unfold Instr.buildSlice
      have hsz : (P.info? e).map (·.size) = some s := by simp [hi1, hs]
      have hzv : (zeroValue e).run P w = .ok z w := by simp [zeroValue, typeInfo, hi1, hz1]
      simp only [Sem.run_bind, run_underlying hu1, Result.andThen_ok, run_sizeOf_of hsz, hparts]
      have h5 := hfill ((Array.map (fun x => z.cells[x % z.cells.size]!) (Array.range (k * s))).toList) (by simp)
      simp only [Array.toArray_toList] at h5
      simp [hk3, hk4, hzv, h5, newRow]
    refine ⟨.slice (some ⟨w.heap.size, 0, none⟩) k k, w.alloc (.cells cs.toArray e), ⟨some ⟨w.heap.size, 0, none⟩, k, k⟩, by simp only [execOp, Sem.run_bind, hrun, Result.andThen_ok, Sem.run_pure], trivial, rfl, ?_⟩
    have h6 := hw.newRow e cs.toArray s k (by simp [hcl]) (by simp only [maxLen]; omega)
    subst hc
    rw [← hlk] at h6 ⊢
    exact h6) hd
end
end Go.Proofs.YthilhhegchmjeaaGreatDoor
/- Cells: which are valid; their spans. -/
set_option linter.unusedVariables false
set_option maxHeartbeats 8000000
namespace Go.Proofs.YthilhhegchmjeaaGreatDoor
open Go.RowKit
abbrev celV (l r c : Int) : Value := .agg [.int .i64 l, .int .i64 r, .int .i64 c].toArray
/-- A cell, whether valid or not. -/
structure Cel where
  l : Int
  r : Int
  c : Int
deriving DecidableEq
instance : Inhabited Cel := ⟨⟨0, 0, 0⟩⟩
abbrev cK (x : Cel) : List Value := [.int .i64 x.l, .int .i64 x.r, .int .i64 x.c]
abbrev kV (x : Cel) : Value := celV x.l x.r x.c
theorem pow2_bd {l : Int} (h : 0 ≤ l ∧ l ≤ 16) : 1 ≤ (2 : Int) ^ l.toNat ∧ (2 : Int) ^ l.toNat ≤ 65536 := by
  have h1 : l.toNat ≤ 16 := by omega
  have e : (2 : Int) ^ l.toNat = ((2 ^ l.toNat : Nat) : Int) := by simp
  have h2 : 2 ^ l.toNat ≤ 2 ^ 16 := Nat.pow_le_pow_right (by decide) h1
  have h3 : 0 < 2 ^ l.toNat := Nat.pow_pos (by decide)
  rw [e]
  omega
theorem pow2_min {l : Int} (h : 0 ≤ l ∧ l ≤ 64) : (2 : Int) ^ (min l.toNat 64) = (2 : Int) ^ l.toNat := by rw [Nat.min_eq_left (by omega)]
/-- Is the cell valid? -/
def cvB (l r c : Int) : Bool := decide (0 ≤ l) && decide (l ≤ 16) && decide (0 ≤ r) && decide (r < 2 ^ l.toNat) && decide (0 ≤ c) && decide (c < 2 * 2 ^ l.toNat)
theorem cval_c (l r c : Int) : Cont Tryz.prog 119 [celV l r c] (.bool (cvB l r c)) := fun w => by
  unfold cvB
  by_cases hl : 0 ≤ l ∧ l ≤ 16
  · have hq := pow2_min (l := l) (by omega)
    have hb := pow2_bd hl
    generalize (2 : Int) ^ l.toNat = q at *
    refine enter0 Tryz.func119 rfl rfl rfl ?_
    repeat' (first
    | (show VK _ _ _ _ _ ⟨_, .binOp .shl _ _ _ _, _, _, _, _⟩ _; refine VK.mk (y_shl (by rfl) (by rfl) (by omega) hq (IntWalk.i64_in _ (by omega))) ?_)
    | (show YK _ _ _ _ _ ⟨_, .binOp .shl _ _ _ _, _, _, _, _⟩ _; refine YK.ofV (y_shl (by rfl) (by rfl) (by omega) hq (IntWalk.i64_in _ (by omega))) ?_)
    | (show VG _ _ _ _ _ _ ⟨_, .binOp .shl _ _ _ _, _, _, _, _⟩ _; refine VG.mk (fun hb => by (try (have hc := And.left hb; have hb := And.right hb; rw [hc])); (try rw [hb]); exact y_shl (by rfl) (by rfl) (by omega) hq (IntWalk.i64_in _ (by omega))) ?_)
    | (show YG _ _ _ _ _ _ ⟨_, .binOp .shl _ _ _ _, _, _, _, _⟩ _; refine YG.mk (fun hb => by (try (have hc := And.left hb; have hb := And.right hb; rw [hc])); (try rw [hb]); exact V.y (y_shl (by rfl) (by rfl) (by omega) hq (IntWalk.i64_in _ (by omega)))) ?_)
    | (show VK _ _ _ _ _ ⟨_, .binOp .shr _ _ _ _, _, _, _, _⟩ _; refine VK.mk (y_shr (by rfl) (by rfl) (by omega) hq) ?_)
    | (show YK _ _ _ _ _ ⟨_, .binOp .shr _ _ _ _, _, _, _, _⟩ _; refine YK.ofV (y_shr (by rfl) (by rfl) (by omega) hq) ?_)
    | (show VG _ _ _ _ _ _ ⟨_, .binOp .shr _ _ _ _, _, _, _, _⟩ _; refine VG.mk (fun hb => by (try (have hc := And.left hb; have hb := And.right hb; rw [hc])); (try rw [hb]); exact y_shr (by rfl) (by rfl) (by omega) hq) ?_)
    | (show YG _ _ _ _ _ _ ⟨_, .binOp .shr _ _ _ _, _, _, _, _⟩ _; refine YG.mk (fun hb => by (try (have hc := And.left hb; have hb := And.right hb; rw [hc])); (try rw [hb]); exact V.y (y_shr (by rfl) (by rfl) (by omega) hq)) ?_)
    | (refine nxV ?_)
    | (show RS _ _ _ _ _ _ _ _; first | (refine nxRS ?_) | (refine nxRS1 fun _ => ?_))
    | (show RM _ _ _ _ _ _ _ _ _ _; first | (refine nxRM ?_) | (refine nxRM1 fun _ => ?_))
    | (refine nxG ?_)
    | (refine G.mixedA 1 [.go 0, .go 1, .go 2, .go 3, .go 4, .go 5, .go 6, .go 7, .go 8, .go 9, .go 10, .go 11, .go 12, .go 13, .go 14, .go 15, .go 16, .go 17, .go 18, .go 19, .go 20, .go 21, .go 22, .go 23, .go 24, .go 25, .go 26, .go 27, .go 28, .go 29, .go 30, .go 31, .go 32, .go 33, .go 34] ?_)
    | (refine nxX ?_)
    | (refine G.condN rfl (fun hc => ?_) (fun hc => ?_) <;> (try first | exact False.elim hc | (exfalso; omega))))
    refine X.ret (vs := [_]) rfl ⟨rfl, rfl⟩ rfl (fun w hw => ⟨ret_bool (by simp [Int.one_mul]), hw.ext⟩)
  · refine enter0 Tryz.func119 rfl rfl rfl ?_
    repeat' (first
    | (refine nxV ?_)
    | (show RS _ _ _ _ _ _ _ _; first | (refine nxRS ?_) | (refine nxRS1 fun _ => ?_))
    | (show RM _ _ _ _ _ _ _ _ _ _; first | (refine nxRM ?_) | (refine nxRM1 fun _ => ?_))
    | (refine nxG ?_)
    | (refine G.mixedA 1 [.go 0, .go 1, .go 2, .go 3, .go 4, .go 5, .go 6, .go 7, .go 8, .go 9, .go 10, .go 11, .go 12, .go 13, .go 14, .go 15, .go 16, .go 17, .go 18, .go 19, .go 20, .go 21, .go 22, .go 23, .go 24, .go 25, .go 26, .go 27, .go 28, .go 29, .go 30, .go 31, .go 32, .go 33, .go 34] ?_)
    | (refine nxX ?_)
    | (refine G.condN rfl (fun hc => ?_) (fun hc => ?_) <;> (try first | exact False.elim hc | (exfalso; omega))))
    refine X.ret (vs := [_]) rfl ⟨rfl, rfl⟩ rfl (fun w hw => ⟨ret_bool ?_, hw.ext⟩)
    have : (decide (0 ≤ l) && decide (l ≤ 16)) = false := by
      rw [Bool.and_eq_false_iff, decide_eq_false_iff_not, decide_eq_false_iff_not]; omega
    simp [this]
theorem cinv_c (l r c : Int) : Cont Tryz.prog 91 [celV l r c] (.bool (!cvB l r c)) := fun w => by
  have q1 := cval_c l r c
  generalize cvB l r c = b at *
  refine enter0 Tryz.func91 rfl rfl rfl ?_
  repeat' (first
    | (show YK _ _ _ _ _ _ _; first | refine YK.mk (y_callA (q1) ⟨rfl, rfl⟩) ?_)
    | (show YK _ _ _ _ _ _ _; refine YK.ofV vAuto ?_)
    | (show VK _ _ _ _ _ _ _; refine VK.mk vAuto ?_)
    | (show RS _ _ _ _ _ _ _ _; first | (refine nxRS ?_) | (refine nxRS1 fun _ => ?_))
    | (show RM _ _ _ _ _ _ _ _ _ _; first | (refine nxRM ?_) | (refine nxRM1 fun _ => ?_))
    | (show YG _ _ _ _ _ _ _ _; refine YG.mk (fun hb => by (try (have hc := And.left hb; have hb := And.right hb; rw [hc])); (try rw [hb]); first | exact (y_callA (q1) ⟨rfl, rfl⟩) | exact V.y vAuto) ?_)
    | (show VG _ _ _ _ _ _ _ _; refine VG.mk (fun hb => by (try (have hc := And.left hb; have hb := And.right hb; rw [hc])); (try rw [hb]); exact vAuto) ?_)
    | (refine nxX ?_)
    | (refine G.condN rfl (fun hc => ?_) (fun hc => ?_) <;> (try first | exact False.elim hc | (exfalso; omega))))
  exact X.ret (vs := [_]) rfl ⟨rfl, rfl⟩ rfl (fun w hw => ⟨rfl, hw.ext⟩)
def ckB (x : Cel) : Bool := cvB x.l x.r x.c
abbrev invF : Value := .func (.func 91) #[] #[]
/-- Where the first cell is that is not valid. -/
def fbad : List Cel → Int → Int
  | [], _ => -1
  | x :: r, k => if ckB x = true then fbad r (k + 1) else k
theorem fbad_all : ∀ {l : List Cel} {k : Int}, 0 ≤ k → decide (fbad l k ≥ 0) = !l.all ckB
  | [], k, _ => rfl
  | x :: r, k, h => by
    unfold fbad
    cases hx : ckB x with
    | true => rw [if_pos rfl, fbad_all (by omega), List.all_cons, hx, Bool.true_and]
    | false => rw [if_neg (by decide), List.all_cons, hx, Bool.false_and, decide_eq_true h]; rfl
theorem fbad_bd : ∀ {l : List Cel} {k : Int}, 0 ≤ k → -1 ≤ fbad l k ∧ fbad l k ≤ k + l.length
  | [], k, _ => ⟨by simp [fbad], by simp [fbad]; omega⟩
  | x :: r, k, h => by
    have := fbad_bd (l := r) (k := k + 1) (by omega)
    unfold fbad
    rw [List.length_cons]
    split <;> omega
theorem nth_mem {α : Type} [Inhabited α] {l : List α} {i : Nat} (h : i < l.length) : nth l (i : Int) = l[i] := by
  unfold nth
  rw [Int.toNat_natCast, List.getD_eq_getElem?_getD, List.getElem?_eq_getElem h]; rfl
theorem celIx_c (v : Value) (l : List Cel) (hl : l.length ≤ 1000000) : ContR Tryz.prog [Hl.rd v cK 3 l] 118 [v, invF] (.int .i64 (fbad l 0)) := fun w hw0 => by
  refine enter Tryz.func118 rfl rfl rfl hw0 ?_
  repeat' (first
    | (refine nxV ?_)
    | (show RS _ _ _ _ _ _ _ _; first | (refine nxRS ?_) | (refine nxRS1 fun _ => ?_))
    | (show RM _ _ _ _ _ _ _ _ _ _; first | (refine nxRM ?_) | (refine nxRM1 fun _ => ?_))
    | (refine nxG ?_)
    | (refine nxX ?_)
    | (refine G.condN rfl (fun hc => ?_) (fun hc => ?_) <;> (try first | exact False.elim hc | (exfalso; omega))))
  refine G.loop (ι := Nat) (fun i => [(0, v), (1, invF), (7, .int .i64 l.length), (8, .int .i64 (i : Int))]) (fun _ => [Hl.rd v cK 3 l]) (fun i => i ≤ l.length ∧ fbad l 0 = fbad (l.drop i) i) (fun i => l.length - i) 0 ⟨Nat.zero_le _, rfl⟩ ⟨rfl, rfl, rfl, rfl, trivial⟩ (by exact fun w h => h.sub (by repeat (first | exact List.Sublist.refl _ | apply List.Sublist.cons_cons | apply List.Sublist.cons))) ?_
  rintro i mx ⟨g1, g2⟩ hmx
  (try dsimp only at g1 g2 hmx ⊢)
  rcases Nat.lt_or_ge i l.length with hi | hi
  · have hd : l.drop i = nth l (i : Int) :: l.drop (i + 1) := by rw [nth_mem hi, List.getElem_cons_drop]
    rw [hd] at g2
    have q1 := cinv_c (nth l (i : Int)).l (nth l (i : Int)).r (nth l (i : Int)).c
    cases hv : ckB (nth l (i : Int)) with
    | true =>
      have hv' := hv
      unfold ckB at hv'
      rw [hv'] at q1
      have q2 : ContIn Tryz.prog (fun _ => True) 91 ([kV (nth l (i : Int))] ++ (#[] : Array Value).toList) (.bool (!true)) := fun w' _ => q1 w'
      repeat' (first
    | (show YK _ _ _ _ _ ⟨_, .call _, _, _, _, _⟩ _; refine YK.mk (y_callV (f := 91) (by rfl) q2 (fun _ _ => trivial) ⟨rfl, rfl⟩ (by decide +kernel)) ?_)
    | (refine nxV ?_)
    | (show RS _ _ _ _ _ _ _ _; first | (refine nxRS ?_) | (refine nxRS1 fun _ => ?_))
    | (show RM _ _ _ _ _ _ _ _ _ _; first | (refine nxRM ?_) | (refine nxRM1 fun _ => ?_))
    | (refine nxG ?_)
    | (refine nxX ?_)
    | (refine G.condN rfl (fun hc => ?_) (fun hc => ?_) <;> (try first | exact False.elim hc | (exfalso; omega))))
      refine X.again (i + 1) ⟨by omega, ?_⟩ (by omega) ⟨rfl, rfl, rfl, rfl, trivial⟩ (by exact fun w h => h.sub (by repeat (first | exact List.Sublist.refl _ | apply List.Sublist.cons_cons | apply List.Sublist.cons)))
      rw [g2]
      show (if ckB (nth l (i : Int)) = true then fbad (l.drop (i + 1)) ((i : Int) + 1) else (i : Int)) = _
      rw [if_pos hv]; rfl
    | false =>
      have hv' := hv
      unfold ckB at hv'
      rw [hv'] at q1
      have q2 : ContIn Tryz.prog (fun _ => True) 91 ([kV (nth l (i : Int))] ++ (#[] : Array Value).toList) (.bool (!false)) := fun w' _ => q1 w'
      repeat' (first
    | (show YK _ _ _ _ _ ⟨_, .call _, _, _, _, _⟩ _; refine YK.mk (y_callV (f := 91) (by rfl) q2 (fun _ _ => trivial) ⟨rfl, rfl⟩ (by decide +kernel)) ?_)
    | (refine nxV ?_)
    | (show RS _ _ _ _ _ _ _ _; first | (refine nxRS ?_) | (refine nxRS1 fun _ => ?_))
    | (show RM _ _ _ _ _ _ _ _ _ _; first | (refine nxRM ?_) | (refine nxRM1 fun _ => ?_))
    | (refine nxG ?_)
    | (refine nxX ?_)
    | (refine G.condN rfl (fun hc => ?_) (fun hc => ?_) <;> (try first | exact False.elim hc | (exfalso; omega))))
      refine X.ret (vs := [_]) rfl ⟨rfl, rfl⟩ rfl (fun w hw => ⟨?_, hw.ext⟩)
      rw [g2]
      show Ending.returned (.int .i64 (i : Int)) = .returned (.int .i64 (if ckB (nth l (i : Int)) = true then fbad (l.drop (i + 1)) ((i : Int) + 1) else (i : Int)))
      rw [if_neg (by rw [hv]; decide)]
  · obtain rfl : i = l.length := by omega
    rw [List.drop_length] at g2
    repeat' (first
    | (refine nxV ?_)
    | (show RS _ _ _ _ _ _ _ _; first | (refine nxRS ?_) | (refine nxRS1 fun _ => ?_))
    | (show RM _ _ _ _ _ _ _ _ _ _; first | (refine nxRM ?_) | (refine nxRM1 fun _ => ?_))
    | (refine nxG ?_)
    | (refine nxX ?_)
    | (refine G.condN rfl (fun hc => ?_) (fun hc => ?_) <;> (try first | exact False.elim hc | (exfalso; omega))))
    exact X.ret (vs := [_]) rfl ⟨rfl, rfl⟩ rfl (fun w hw => ⟨by rw [g2]; rfl, hw.ext⟩)
theorem celCont_c (v : Value) (l : List Cel) (hl : l.length ≤ 1000000) : ContR Tryz.prog [Hl.rd v cK 3 l] 90 [v, invF] (.bool (!l.all ckB)) := fun w hw0 => by
  have q1 := celIx_c v l hl
  have e := fbad_all (l := l) (k := 0) (by omega)
  rw [← e]
  clear e
  generalize fbad l 0 = z at *
  refine enter Tryz.func90 rfl rfl rfl hw0 ?_
  repeat' (first
    | (show YK _ _ _ _ _ _ _; first | refine YK.mk (y_callRA (q1) ⟨rfl, rfl, rfl⟩) ?_)
    | (show YK _ _ _ _ _ _ _; refine YK.ofV vAuto ?_)
    | (show VK _ _ _ _ _ _ _; refine VK.mk vAuto ?_)
    | (show RS _ _ _ _ _ _ _ _; first | (refine nxRS ?_) | (refine nxRS1 fun _ => ?_))
    | (show RM _ _ _ _ _ _ _ _ _ _; first | (refine nxRM ?_) | (refine nxRM1 fun _ => ?_))
    | (show YG _ _ _ _ _ _ _ _; refine YG.mk (fun hb => by (try (have hc := And.left hb; have hb := And.right hb; rw [hc])); (try rw [hb]); first | exact (y_callRA (q1) ⟨rfl, rfl, rfl⟩) | exact V.y vAuto) ?_)
    | (show VG _ _ _ _ _ _ _ _; refine VG.mk (fun hb => by (try (have hc := And.left hb; have hb := And.right hb; rw [hc])); (try rw [hb]); exact vAuto) ?_)
    | (refine nxX ?_)
    | (refine G.condN rfl (fun hc => ?_) (fun hc => ?_) <;> (try first | exact False.elim hc | (exfalso; omega))))
  exact X.ret (vs := [_]) rfl ⟨rfl, rfl⟩ rfl (fun w hw => ⟨rfl, hw.ext⟩)
/-- A region of too many cells, or with one that is not valid. -/
theorem vreg_bad (v : Value) (l : List Cel) (hl : l.length ≤ 1000000) (h : 4000 < l.length ∨ l.all ckB = false) : ContR Tryz.prog [Hl.rd v cK 3 l] 58 [v] (.bool false) := fun w hw0 => by
  have q1 := celCont_c v l hl
  refine enter Tryz.func58 rfl rfl rfl hw0 ?_
  by_cases hn : (l.length : Int) ≤ 4000
  · have ha : l.all ckB = false := by rcases h with h | h; · omega
                                      · exact h
    rw [ha] at q1
    repeat' (first
    | (show YK _ _ _ _ _ _ _; first | refine YK.mk (y_callRA (q1) ⟨rfl, rfl, rfl⟩) ?_)
    | (show YK _ _ _ _ _ _ _; refine YK.ofV vAuto ?_)
    | (show VK _ _ _ _ _ _ _; refine VK.mk vAuto ?_)
    | (show RS _ _ _ _ _ _ _ _; first | (refine nxRS ?_) | (refine nxRS1 fun _ => ?_))
    | (show RM _ _ _ _ _ _ _ _ _ _; first | (refine nxRM ?_) | (refine nxRM1 fun _ => ?_))
    | (show YG _ _ _ _ _ _ _ _; refine YG.mk (fun hb => by (try (have hc := And.left hb; have hb := And.right hb; rw [hc])); (try rw [hb]); first | exact (y_callRA (q1) ⟨rfl, rfl, rfl⟩) | exact V.y vAuto) ?_)
    | (show VG _ _ _ _ _ _ _ _; refine VG.mk (fun hb => by (try (have hc := And.left hb; have hb := And.right hb; rw [hc])); (try rw [hb]); exact vAuto) ?_)
    | (refine nxX ?_)
    | (refine G.condN rfl (fun hc => ?_) (fun hc => ?_) <;> (try first | exact False.elim hc | (exfalso; omega))))
    all_goals first | (exfalso; omega) | exact X.ret (vs := [_]) rfl ⟨rfl, rfl⟩ rfl (fun w hw => ⟨rfl, hw.ext⟩)
  · repeat' (first
    | (show YK _ _ _ _ _ _ _; first | refine YK.mk (y_callRA (q1) ⟨rfl, rfl, rfl⟩) ?_)
    | (show YK _ _ _ _ _ _ _; refine YK.ofV vAuto ?_)
    | (show VK _ _ _ _ _ _ _; refine VK.mk vAuto ?_)
    | (show RS _ _ _ _ _ _ _ _; first | (refine nxRS ?_) | (refine nxRS1 fun _ => ?_))
    | (show RM _ _ _ _ _ _ _ _ _ _; first | (refine nxRM ?_) | (refine nxRM1 fun _ => ?_))
    | (show YG _ _ _ _ _ _ _ _; refine YG.mk (fun hb => by (try (have hc := And.left hb; have hb := And.right hb; rw [hc])); (try rw [hb]); first | exact (y_callRA (q1) ⟨rfl, rfl, rfl⟩) | exact V.y vAuto) ?_)
    | (show VG _ _ _ _ _ _ _ _; refine VG.mk (fun hb => by (try (have hc := And.left hb; have hb := And.right hb; rw [hc])); (try rw [hb]); exact vAuto) ?_)
    | (refine nxX ?_)
    | (refine G.condN rfl (fun hc => ?_) (fun hc => ?_) <;> (try first | exact False.elim hc | (exfalso; omega))))
    all_goals first | (exfalso; omega) | exact X.ret (vs := [_]) rfl ⟨rfl, rfl⟩ rfl (fun w hw => ⟨rfl, hw.ext⟩)
end Go.Proofs.YthilhhegchmjeaaGreatDoor
/- What is refused changes nothing: contracts that turn no heaplet. -/
set_option linter.unusedVariables false
set_option maxHeartbeats 8000000
namespace Go.Proofs.YthilhhegchmjeaaGreatDoor
open Go.RowKit
section
variable {b : Nat} {la lo u cs : Int} {z : Sl} {rows : List Sl} {wd : Nat}
theorem markA_c {pla plo m : Int} (hm : 0 ≤ m ∧ m ≤ 255) (hv : (decide (33 ≤ m) && decide (m ≤ 126)) = false) : Cont Tryz.prog 13 [ptS b, ptV pla plo, .int .u8 m] (.int .i64 1) := fun w => by
  have q1 := marks_c (b := b) (m := m) hm
  rw [hv] at q1
  refine enter0 Tryz.func13 rfl rfl rfl ?_
  repeat' (first
    | (refine nxN ?_)
    | (show YK _ _ _ _ _ _ _; first | refine YK.mk (y_callA (q1) ⟨rfl, rfl, rfl⟩) ?_)
    | (show YK _ _ _ _ _ _ _; refine YK.ofV vAuto ?_)
    | (show VK _ _ _ _ _ _ _; refine VK.mk vAuto ?_)
    | (show RS _ _ _ _ _ _ _ _; first | (refine nxRS ?_) | (refine nxRS1 fun _ => ?_))
    | (show RM _ _ _ _ _ _ _ _ _ _; first | (refine nxRM ?_) | (refine nxRM1 fun _ => ?_))
    | (show YG _ _ _ _ _ _ _ _; refine YG.mk (fun hb => by (try (have hc := And.left hb; have hb := And.right hb; rw [hc])); (try rw [hb]); first | exact (y_callA (q1) ⟨rfl, rfl, rfl⟩) | exact V.y vAuto) ?_)
    | (show VG _ _ _ _ _ _ _ _; refine VG.mk (fun hb => by (try (have hc := And.left hb; have hb := And.right hb; rw [hc])); (try rw [hb]); exact vAuto) ?_)
    | (refine nxX ?_)
    | (refine G.condN rfl (fun hc => ?_) (fun hc => ?_) <;> (try first | exact False.elim hc | (exfalso; omega))))
  exact X.ret (vs := [_]) rfl ⟨rfl, rfl⟩ rfl (fun w hw => ⟨rfl, hw.ext⟩)
theorem markE_c (ok : ShOk la lo u cs rows wd) {pla plo m i j e : Int} (hm : 33 ≤ m ∧ m ≤ 126) (h1 : -9223372036854775808 ≤ pla ∧ pla ≤ 9223372036854775807) (h2 : -9223372036854775808 ≤ plo ∧ plo ≤ 9223372036854775807) (hp : pixI wd rows.length la lo u cs pla plo = (i, j, e)) (he : e ≠ 0) :
    ContIn Tryz.prog (ShR b la lo u cs z rows wd) 13 [ptS b, ptV pla plo, .int .u8 m] (.int .i64 e) := fun w hs => by
  have q1 := marks_c (b := b) (m := m) (by omega)
  rw [show (decide (33 ≤ m) && decide (m ≤ 126)) = true by simp [hm]] at q1
  have q2 := pixel_c (b := b) (z := z) ok h1 h2
  rw [hp] at q2
  dsimp only at q2
  refine enter0 Tryz.func13 rfl rfl rfl ?_
  repeat' (first
    | (refine nxN ?_)
    | (show YK _ _ _ _ _ ⟨_, .call { callee := .value (.func 9), args := _, argTypes := _ }, _, _, _, _⟩ _; refine YK.mk (y_callIn (q2) (fun w' hw' => hs.keep hw'.ext) ⟨rfl, rfl, rfl⟩ (by decide +kernel)) ?_)
    | (show YG _ _ _ _ _ _ ⟨_, .call { callee := .value (.func 9), args := _, argTypes := _ }, _, _, _, _⟩ _; refine YG.mk (fun hb => by (try (have hc := And.left hb; have hb := And.right hb; rw [hc])); (try rw [hb]); exact y_callIn (q2) (fun w' hw' => hs.keep hw'.ext) ⟨rfl, rfl, rfl⟩ (by decide +kernel)) ?_)
    | (show YK _ _ _ _ _ ⟨_, .load 23 _, _, _, _, _⟩ _; refine YK.ofV (y_loadPart (k := 2) (by rfl) (by exact memA) (by decide +kernel) (by rfl)) ?_)
    | (show YK _ _ _ _ _ _ _; first | refine YK.mk (y_callA (q1) ⟨rfl, rfl, rfl⟩) ?_)
    | (show YK _ _ _ _ _ _ _; refine YK.ofV vAuto ?_)
    | (show VK _ _ _ _ _ _ _; refine VK.mk vAuto ?_)
    | (show RS _ _ _ _ _ _ _ _; first | (refine nxRS ?_) | (refine nxRS1 fun _ => ?_))
    | (show RM _ _ _ _ _ _ _ _ _ _; first | (refine nxRM ?_) | (refine nxRM1 fun _ => ?_))
    | (show YG _ _ _ _ _ _ _ _; refine YG.mk (fun hb => by (try (have hc := And.left hb; have hb := And.right hb; rw [hc])); (try rw [hb]); first | exact (y_callA (q1) ⟨rfl, rfl, rfl⟩) | exact V.y vAuto) ?_)
    | (show VG _ _ _ _ _ _ _ _; refine VG.mk (fun hb => by (try (have hc := And.left hb; have hb := And.right hb; rw [hc])); (try rw [hb]); exact vAuto) ?_)
    | (refine nxX ?_)
    | (refine G.condN rfl (fun hc => ?_) (fun hc => ?_) <;> (try first | exact False.elim hc | (exfalso; omega))))
  exact X.ret (vs := [_]) rfl ⟨rfl, rfl⟩ rfl (fun w hw => ⟨rfl, hw.ext⟩)
theorem lineE_c {pla plo zl zh il ih m : Int} (hm : 33 ≤ m ∧ m ≤ 126) (hv : lvalB pla plo zl zh il ih = false) : Cont Tryz.prog 26 [ptS b, lineV pla plo zl zh il ih, .int .u8 m] (.int .i64 1) := fun w => by
  have q1 := marks_c (b := b) (m := m) (by omega)
  have q2 := lval_c (la := pla) (lo := plo) (zl := zl) (zh := zh) (il := il) (ih := ih)
  rw [show (decide (33 ≤ m) && decide (m ≤ 126)) = true by simp [hm]] at q1
  rw [hv] at q2
  clear hv
  refine enter0 Tryz.func26 rfl rfl rfl ?_
  repeat' (first
    | (refine nxN ?_)
    | (show YK _ _ _ _ _ _ _; first | refine YK.mk (y_callA (q1) ⟨rfl, rfl, rfl⟩) ?_ | refine YK.mk (y_callA (q2) ⟨rfl, rfl⟩) ?_)
    | (show YK _ _ _ _ _ _ _; refine YK.ofV vAuto ?_)
    | (show VK _ _ _ _ _ _ _; refine VK.mk vAuto ?_)
    | (show RS _ _ _ _ _ _ _ _; first | (refine nxRS ?_) | (refine nxRS1 fun _ => ?_))
    | (show RM _ _ _ _ _ _ _ _ _ _; first | (refine nxRM ?_) | (refine nxRM1 fun _ => ?_))
    | (show YG _ _ _ _ _ _ _ _; refine YG.mk (fun hb => by (try (have hc := And.left hb; have hb := And.right hb; rw [hc])); (try rw [hb]); first | exact (y_callA (q1) ⟨rfl, rfl, rfl⟩) | exact (y_callA (q2) ⟨rfl, rfl⟩) | exact V.y vAuto) ?_)
    | (show VG _ _ _ _ _ _ _ _; refine VG.mk (fun hb => by (try (have hc := And.left hb; have hb := And.right hb; rw [hc])); (try rw [hb]); exact vAuto) ?_)
    | (refine G.mixedA 3 [.go 0, .go 1, .go 2, .go 3, .go 4, .go 5, .go 6, .go 7] ?_)
    | (refine G.mixedA 12 [.go 0, .go 1, .go 3, .go 4, .pend 6, .pend 7, .go 2, .go 5, .done, .done, .go 8, .go 9] ?_)
    | (refine nxX ?_)
    | (refine G.condN rfl (fun hc => ?_) (fun hc => ?_) <;> (try first | exact False.elim hc | (exfalso; omega))))
  exact X.ret (vs := [_]) rfl ⟨rfl, rfl⟩ rfl (fun w hw => ⟨rfl, hw.ext⟩)
theorem regE_c {v : Sl} {l : List Cel} {m : Int} (hm : 33 ≤ m ∧ m ≤ 126) (hl : l.length ≤ 1000000) (h : 4000 < l.length ∨ l.all ckB = false) : ContR Tryz.prog [Hl.rd v.v cK 3 l] 24 [ptS b, v.v, .int .u8 m] (.int .i64 1) := fun w hw0 => by
  have q1 := marks_c (b := b) (m := m) (by omega)
  rw [show (decide (33 ≤ m) && decide (m ≤ 126)) = true by simp [hm]] at q1
  have q2 := vreg_bad v.v l hl h
  refine enter Tryz.func24 rfl rfl rfl hw0 ?_
  repeat' (first
    | (refine nxN ?_)
    | (show YK _ _ _ _ _ _ _; first | refine YK.mk (y_callA (q1) ⟨rfl, rfl, rfl⟩) ?_ | refine YK.mk (y_callRA (q2) ⟨rfl, rfl⟩) ?_)
    | (show YK _ _ _ _ _ _ _; refine YK.ofV vAuto ?_)
    | (show VK _ _ _ _ _ _ _; refine VK.mk vAuto ?_)
    | (show RS _ _ _ _ _ _ _ _; first | (refine nxRS ?_) | (refine nxRS1 fun _ => ?_))
    | (show RM _ _ _ _ _ _ _ _ _ _; first | (refine nxRM ?_) | (refine nxRM1 fun _ => ?_))
    | (show YG _ _ _ _ _ _ _ _; refine YG.mk (fun hb => by (try (have hc := And.left hb; have hb := And.right hb; rw [hc])); (try rw [hb]); first | exact (y_callA (q1) ⟨rfl, rfl, rfl⟩) | exact (y_callRA (q2) ⟨rfl, rfl⟩) | exact V.y vAuto) ?_)
    | (show VG _ _ _ _ _ _ _ _; refine VG.mk (fun hb => by (try (have hc := And.left hb; have hb := And.right hb; rw [hc])); (try rw [hb]); exact vAuto) ?_)
    | (refine nxX ?_)
    | (refine G.condN rfl (fun hc => ?_) (fun hc => ?_) <;> (try first | exact False.elim hc | (exfalso; omega))))
  exact X.ret (vs := [_]) rfl ⟨rfl, rfl⟩ rfl (fun w hw => ⟨rfl, hw.ext⟩)
end
section
variable {P : Program} {ops : Array Oper} {Q : Exit → Act → World → Prop} {n : Nat} {L : FL} {w0 : World} {H : List Hl} {dd : Tmp} {ty : TypeId} {pos : String} {af : Array Edge} {t e : TypeId} {bytes : Nat} {x : Operand} {a : Cel} {rest : List Oper} {j gg : Nat} {want bb : Bool}
theorem x_lit1K (hx : evO L x = some (kV a)) [ht : RowTy P t e 3 bytes] (hd : Nat.blt dd n = true) {gd : Option (Nat × Bool)} : EX P n L w0 H ⟨some dd, .buildSlice t 1 #[(0, x)], ty, pos, af, gd⟩ (fun _ : Sl => True) (fun v' => (dd, v'.v) :: L) (fun v' => Hl.rw v'.v e cK 3 [a] :: H) :=
  x_litS (parts := [(0, x)]) (vs := [kV a]) (cs := cK a) (f := cK) (l := [a]) ⟨hx, rfl⟩ rfl rfl rfl rfl (fun zs hz => by
    match zs, hz with
    | [_, _, _], _ => rfl) rfl rfl rfl (rowTy_B ht.is) hd
/-- A slice of one cell, under a guard that is known. -/
theorem RS.lit1KT (h : ∀ v' : Sl, RS P ops Q n ((dd, v'.v) :: L) w0 (Hl.rw v'.v e cK 3 [a] :: H) rest) (hx : evO L x = some (kV a)) [ht : RowTy P t e 3 bytes] (hj : (ops[j]?).bind (·.dst) = some gg) (hl : lk L gg = some (.bool bb)) (hb : bb = want) (hd : Nat.blt dd n = true := by rfl) :
    RS P ops Q n L w0 H (⟨some dd, .buildSlice t 1 #[(0, x)], ty, pos, af, some (j, want)⟩ :: rest) := RS.actXT hj hl hb (x_lit1K hx hd) fun v' _ => h v'
end
theorem built_zl : Tryz.prog.built 64 [] = some [.int .i64 0, .int .i64 0, .int .i64 0, .int .i64 0, .int .i64 0, .int .i64 0].toArray := by kernel_rfl
theorem built_nl (la lo : Int) : Tryz.prog.built 64 [(0, .agg [.int .i64 la, .int .i64 lo].toArray), (1, .agg [.int .i64 (-1), .int .i64 0].toArray)] = some [.int .i64 la, .int .i64 lo, .int .i64 (-1), .int .i64 0, .int .i64 0, .int .i64 0].toArray := by kernel_rfl
theorem lval_neg {la lo : Int} : lvalB la lo (-1) 0 0 0 = false := by simp [lvalB]
theorem perm_y2 {a b x1 x2 : Hl} {A : List Hl} : (a :: b :: (A ++ [x1, x2])).Perm (x1 :: x2 :: a :: b :: A) := by
  classical
  refine List.perm_iff_count.2 fun c => ?_
  simp only [List.count_cons, List.count_append, List.count_nil]
  omega
theorem perm_y4 {a b x0 x1 x2 x3 : Hl} {A : List Hl} : (x0 :: x1 :: x2 :: x3 :: a :: b :: A).Perm ((a :: b :: A) ++ [x0, x1, x2, x3]) := by
  classical
  refine List.perm_iff_count.2 fun c => ?_
  simp only [List.count_cons, List.count_append, List.count_nil]
  omega
/-- A new sheet's text. -/
theorem tx_new {la lo u cs : Int} {wd b : Nat} {z : Sl} {rs : List Sl} {xt : Nat → List Value} (hw : 11 ≤ wd ∧ wd ≤ 121) (hz : NewP wd (b, z, rs, xt)) : ContIn Tryz.prog (TxW b la lo u cs z (newR wd rs) wd) 15 [ptS b] (strV (txtS (List.replicate (2 * ((wd - 1) / 4) + 1) (List.replicate wd 46)))) := by
  have hl : rs.length = 2 * ((wd - 1) / 4) + 1 := hz.len
  have e : (newR wd rs).map Prod.snd = List.replicate (2 * ((wd - 1) / 4) + 1) (List.replicate wd 46) := by
    rw [← hl]
    unfold newR
    rw [List.map_map]
    exact List.map_const' ..
  have q := text_c (b := b) (la := la) (lo := lo) (u := u) (cs := cs) (z := z) (rs := newR wd rs) (wd := wd) (fun r hr => by
    obtain ⟨s, _, rfl⟩ := List.mem_map.1 hr
    refine ⟨List.length_replicate, fun n hn => ?_⟩
    obtain rfl := List.eq_of_mem_replicate hn
    omega) (by rw [List.length_map]; omega) (by omega)
  rw [e] at q
  exact q
end Go.Proofs.YthilhhegchmjeaaGreatDoor
/- PlotNone: the walk of the law. -/
set_option linter.unusedVariables false
set_option maxHeartbeats 8000000
namespace Go.Proofs.YthilhhegchmjeaaGreatDoor
open Go.RowKit
theorem nn_ref {la lo u wd m e : Int} (he : newE la lo u wd = e) (h0 : e = 1 ∨ e = 2) : Cont Tryz.prog 6 [ptV la lo, .int .i64 u, .int .i64 wd, .int .u8 m] (.bool true) := fun w => by
  have q1 := made_no he h0
  refine enter0 Tryz.func6 rfl rfl rfl ?_
  repeat' (first
    | (show YK _ _ _ _ _ ⟨_, .call { callee := .builtin .len, args := _, argTypes := #[9] }, _, _, _, _⟩ _; refine YK.ofV (y_lenS (by rfl) StrTy.is) ?_)
    | (show VK _ _ _ _ _ ⟨_, .call { callee := .builtin .len, args := _, argTypes := #[9] }, _, _, _, _⟩ _; refine VK.mk (y_lenS (by rfl) StrTy.is) ?_)
    | (show YG _ _ _ _ _ _ ⟨_, .call { callee := .builtin .len, args := _, argTypes := #[9] }, _, _, _, _⟩ _; refine YG.mk (fun hb => by (try (have hc := And.left hb; have hb := And.right hb; rw [hc])); (try rw [hb]); exact V.y (y_lenS (by rfl) StrTy.is)) ?_)
    | (show VG _ _ _ _ _ _ ⟨_, .call { callee := .builtin .len, args := _, argTypes := #[9] }, _, _, _, _⟩ _; refine VG.mk (fun hb => by (try (have hc := And.left hb; have hb := And.right hb; rw [hc])); (try rw [hb]); exact y_lenS (by rfl) StrTy.is) ?_)
    | (refine nxN ?_)
    | (show VK _ _ _ _ _ ⟨_, .call { callee := .builtin .len, args := _, argTypes := #[39] }, _, _, _, _⟩ _; refine VK.mk (y_lenV (by rfl) (by decide +kernel)) ?_)
    | (show YK _ _ _ _ _ ⟨_, .call { callee := .builtin .len, args := _, argTypes := #[39] }, _, _, _, _⟩ _; refine YK.ofV (y_lenV (by rfl) (by decide +kernel)) ?_)
    | (show VG _ _ _ _ _ _ ⟨_, .call { callee := .builtin .len, args := _, argTypes := #[39] }, _, _, _, _⟩ _; refine VG.mk (fun hb => by (try (have hc := And.left hb; have hb := And.right hb; rw [hc])); (try rw [hb]); exact y_lenV (by rfl) (by decide +kernel)) ?_)
    | (show YG _ _ _ _ _ _ ⟨_, .call { callee := .builtin .len, args := _, argTypes := #[39] }, _, _, _, _⟩ _; refine YG.mk (fun hb => by (try (have hc := And.left hb; have hb := And.right hb; rw [hc])); (try rw [hb]); exact V.y (y_lenV (by rfl) (by decide +kernel))) ?_)
    | (show YG _ _ _ _ _ _ ⟨some 44, _, _, _, _, _⟩ _; refine YG.mk (fun hb => V.y (y_build0 (cs := [.int .i64 0, .int .i64 0, .int .i64 0, .int .i64 0, .int .i64 0, .int .i64 0]) (by kernel_rfl) (by kernel_rfl))) ?_)
    | (show VG _ _ _ _ _ _ ⟨some 44, _, _, _, _, _⟩ _; refine VG.mk (fun hb => y_build0 (cs := [.int .i64 0, .int .i64 0, .int .i64 0, .int .i64 0, .int .i64 0, .int .i64 0]) (by kernel_rfl) (by kernel_rfl)) ?_)
    | (show YK _ _ _ _ _ ⟨some 82, _, _, _, _, _⟩ _; refine YK.ofV (y_eqNil0 rfl rfl sh_ptr) ?_)
    | (show YG _ _ _ _ _ _ ⟨some 82, _, _, _, _, _⟩ _; refine YG.mk (fun hb => (y_eqNil0 rfl rfl sh_ptr).y) ?_)
    | (show VG _ _ _ _ _ _ ⟨some 82, _, _, _, _, _⟩ _; refine VG.mk (fun hb => y_eqNil0 rfl rfl sh_ptr) ?_)
    | (show YK _ _ _ _ _ _ _; first | refine YK.mk (y_callA (awake49_c) rfl) ?_ | refine YK.mk (y_callA (q1) ⟨rfl, rfl, rfl, rfl⟩) ?_ | refine YK.mk (y_callA (pixel0_c) ⟨rfl, rfl, rfl⟩) ?_ | refine YK.mk (y_callA (point0_c) ⟨rfl, rfl, rfl, rfl⟩) ?_ | refine YK.mk (y_callA (line0_c) ⟨rfl, rfl, rfl, rfl⟩) ?_ | refine YK.mk (y_callA (region0_c) ⟨rfl, rfl, rfl, rfl⟩) ?_ | refine YK.mk (y_callA (mark0_c) ⟨rfl, rfl, rfl, rfl⟩) ?_ | refine YK.mk (y_callA (text0_c) ⟨rfl, rfl⟩) ?_ | refine YK.mk (y_callA (scale0_c) ⟨rfl, rfl⟩) ?_)
    | (show YK _ _ _ _ _ _ _; refine YK.ofV vAuto ?_)
    | (show VK _ _ _ _ _ _ _; refine VK.mk vAuto ?_)
    | (show RS _ _ _ _ _ _ _ _; first | (refine nxRS ?_) | (refine nxRS1 fun _ => ?_))
    | (show RM _ _ _ _ _ _ _ _ _ _; first | (refine nxRM ?_) | (refine nxRM1 fun _ => ?_))
    | (show YG _ _ _ _ _ _ _ _; refine YG.mk (fun hb => by (try (have hc := And.left hb; have hb := And.right hb; rw [hc])); (try rw [hb]); first | exact (y_callA (awake49_c) rfl) | exact (y_callA (q1) ⟨rfl, rfl, rfl, rfl⟩) | exact (y_callA (pixel0_c) ⟨rfl, rfl, rfl⟩) | exact (y_callA (point0_c) ⟨rfl, rfl, rfl, rfl⟩) | exact (y_callA (line0_c) ⟨rfl, rfl, rfl, rfl⟩) | exact (y_callA (region0_c) ⟨rfl, rfl, rfl, rfl⟩) | exact (y_callA (mark0_c) ⟨rfl, rfl, rfl, rfl⟩) | exact (y_callA (text0_c) ⟨rfl, rfl⟩) | exact (y_callA (scale0_c) ⟨rfl, rfl⟩) | exact V.y vAuto) ?_)
    | (show VG _ _ _ _ _ _ _ _; refine VG.mk (fun hb => by (try (have hc := And.left hb; have hb := And.right hb; rw [hc])); (try rw [hb]); exact vAuto) ?_)
    | (refine nxVS ?_)
    | (refine nxGS ?_)
    | (refine nxX ?_)
    | (refine G.condN rfl (fun hc => ?_) (fun hc => ?_) <;> (try first | exact False.elim hc | (exfalso; omega))))
  all_goals first | (exfalso; omega) | exact X.ret (vs := [_]) rfl ⟨rfl, rfl⟩ rfl (fun w hw => ⟨rfl, hw.ext⟩)
theorem nn_bad {la lo u m : Int} {wd : Nat} (hp : pointB la lo = true) (hla : -4800000 ≤ la ∧ la ≤ 4800000) (hu : 2 ≤ u ∧ u ≤ 100000) (hw : 11 ≤ wd ∧ wd ≤ 121) (ho : wd % 2 = 1) (hm : 0 ≤ m ∧ m ≤ 255) (hb0 : ¬ (33 ≤ m ∧ m ≤ 126)) : Cont Tryz.prog 6 [ptV la lo, .int .i64 u, .int .i64 (wd : Int), .int .u8 m] (.bool true) := fun w => by
  have qm := made_ok hp hla hu hw ho
  have qa := fun b => markA_c (b := b) (pla := la) (plo := lo) hm (by rw [Bool.and_eq_false_iff, decide_eq_false_iff_not, decide_eq_false_iff_not]; omega)
  refine enter0 Tryz.func6 rfl rfl rfl ?_
  repeat' (first
    | (show YK _ _ _ _ _ ⟨_, .call { callee := .builtin .len, args := _, argTypes := #[9] }, _, _, _, _⟩ _; refine YK.ofV (y_lenS (by rfl) StrTy.is) ?_)
    | (show VK _ _ _ _ _ ⟨_, .call { callee := .builtin .len, args := _, argTypes := #[9] }, _, _, _, _⟩ _; refine VK.mk (y_lenS (by rfl) StrTy.is) ?_)
    | (show YG _ _ _ _ _ _ ⟨_, .call { callee := .builtin .len, args := _, argTypes := #[9] }, _, _, _, _⟩ _; refine YG.mk (fun hb => by (try (have hc := And.left hb; have hb := And.right hb; rw [hc])); (try rw [hb]); exact V.y (y_lenS (by rfl) StrTy.is)) ?_)
    | (show VG _ _ _ _ _ _ ⟨_, .call { callee := .builtin .len, args := _, argTypes := #[9] }, _, _, _, _⟩ _; refine VG.mk (fun hb => by (try (have hc := And.left hb; have hb := And.right hb; rw [hc])); (try rw [hb]); exact y_lenS (by rfl) StrTy.is) ?_)
    | (refine nxN ?_)
    | (show VK _ _ _ _ _ ⟨_, .call { callee := .builtin .len, args := _, argTypes := #[39] }, _, _, _, _⟩ _; refine VK.mk (y_lenV (by rfl) (by decide +kernel)) ?_)
    | (show YK _ _ _ _ _ ⟨_, .call { callee := .builtin .len, args := _, argTypes := #[39] }, _, _, _, _⟩ _; refine YK.ofV (y_lenV (by rfl) (by decide +kernel)) ?_)
    | (show VG _ _ _ _ _ _ ⟨_, .call { callee := .builtin .len, args := _, argTypes := #[39] }, _, _, _, _⟩ _; refine VG.mk (fun hb => by (try (have hc := And.left hb; have hb := And.right hb; rw [hc])); (try rw [hb]); exact y_lenV (by rfl) (by decide +kernel)) ?_)
    | (show YG _ _ _ _ _ _ ⟨_, .call { callee := .builtin .len, args := _, argTypes := #[39] }, _, _, _, _⟩ _; refine YG.mk (fun hb => by (try (have hc := And.left hb; have hb := And.right hb; rw [hc])); (try rw [hb]); exact V.y (y_lenV (by rfl) (by decide +kernel))) ?_)
    | (show YG _ _ _ _ _ _ ⟨some 44, _, _, _, _, _⟩ _; refine YG.mk (fun hb => V.y (y_build0 (cs := [.int .i64 0, .int .i64 0, .int .i64 0, .int .i64 0, .int .i64 0, .int .i64 0]) (by kernel_rfl) (by kernel_rfl))) ?_)
    | (show VG _ _ _ _ _ _ ⟨some 44, _, _, _, _, _⟩ _; refine VG.mk (fun hb => y_build0 (cs := [.int .i64 0, .int .i64 0, .int .i64 0, .int .i64 0, .int .i64 0, .int .i64 0]) (by kernel_rfl) (by kernel_rfl)) ?_)
    | (show YK _ _ _ _ _ ⟨some 82, _, _, _, _, _⟩ _; refine YK.ofV (y_eqNil1 rfl rfl sh_ptr) ?_)
    | (show YG _ _ _ _ _ _ ⟨some 82, _, _, _, _, _⟩ _; refine YG.mk (fun hb => (y_eqNil1 rfl rfl sh_ptr).y) ?_)
    | (show VG _ _ _ _ _ _ ⟨some 82, _, _, _, _, _⟩ _; refine VG.mk (fun hb => y_eqNil1 rfl rfl sh_ptr) ?_)
    | (show RS _ _ _ _ _ _ _ (⟨some 74, _, _, _, _, _⟩ :: _); refine RS.callL qm trivial ?_ ⟨rfl, rfl, rfl, rfl⟩; rintro ⟨⟨b, z, rs, xt⟩, y0⟩ ha; dsimp only [List.cons_append, List.nil_append]; refine RS.permH ?_ perm_y2; have qt := tx_new (la := la) (lo := lo) (u := u) (cs := (TT.cosE la la).1) hw ha; have hl := ha.len; dsimp only at hl; have hok := shok_new hp hla hu hw ha.len ha.ok; have qe := markE_c (b := b) (z := z) hok (pla := 5400001) (plo := 0) (m := 35) (i := 0) (j := 0) (e := 1) (by omega) (by omega) (by omega) rfl (by omega); have ql := lineE_c (b := b) (pla := la) (plo := lo) (zl := -1) (zh := 0) (il := 0) (ih := 0) (m := 35) (by omega) lval_neg)
    | (show YG _ _ _ _ _ _ ⟨some 95, _, _, _, _, _⟩ _; refine YG.mk (fun hb => V.y (y_build (parts := [(0, .tmp 93), (1, .tmp 94)]) (vs := [_, _]) ⟨rfl, rfl, rfl⟩ (built_nl _ _))) ?_)
    | (show VG _ _ _ _ _ _ ⟨some 95, _, _, _, _, _⟩ _; refine VG.mk (fun hb => y_build (parts := [(0, .tmp 93), (1, .tmp 94)]) (vs := [_, _]) ⟨rfl, rfl, rfl⟩ (built_nl _ _)) ?_)
    | (show RS _ _ _ _ _ _ _ (⟨some 102, .buildSlice _ _ _, _, _, _, _⟩ :: _); refine RS.lit1KT (a := (⟨-1, 0, 0⟩ : Cel)) (fun v' => ?_) (by rfl) (by rfl) (by rfl) (by rfl))
    | (show YK _ _ _ _ _ ⟨some 89, .call { callee := .value (.func 13), args := _, argTypes := _ }, _, _, _, _⟩ _; refine YK.mk (y_callIn (qe) (fun w' hw' => ShR.ofSt hw' (by exact memA) (by exact memA)) ⟨rfl, rfl, rfl, rfl⟩ (by decide +kernel)) ?_)
    | (show YG _ _ _ _ _ _ ⟨some 89, .call { callee := .value (.func 13), args := _, argTypes := _ }, _, _, _, _⟩ _; refine YG.mk (fun hb => by (try (have hc := And.left hb; have hb := And.right hb; rw [hc])); (try rw [hb]); exact y_callIn (qe) (fun w' hw' => ShR.ofSt hw' (by exact memA) (by exact memA)) ⟨rfl, rfl, rfl, rfl⟩ (by decide +kernel)) ?_)
    | (show YK _ _ _ _ _ ⟨_, .call { callee := .value (.func 15), args := _, argTypes := _ }, _, _, _, _⟩ _; refine YK.mk (y_callIn (qt) (fun w' hw' => TxW.ofSt (xt := xt) hw' (by exact memA) (by (rw [newR_fst]; exact memA)) (fun h hm => (by first | exact .tail _ (.tail _ (.tail _ (.tail _ (.tail _ hm)))) | exact .tail _ (.tail _ (.tail _ (.tail _ (.tail _ (.tail _ hm))))) | exact .tail _ (.tail _ (.tail _ (.tail _ (.tail _ (.tail _ (.tail _ hm)))))))) (newR_ok ha.ok) (by (rw [List.length_map]; omega))) ⟨rfl, rfl⟩ (by decide +kernel)) ?_)
    | (show YG _ _ _ _ _ _ ⟨_, .call { callee := .value (.func 15), args := _, argTypes := _ }, _, _, _, _⟩ _; refine YG.mk (fun hb => by (try (have hc := And.left hb; have hb := And.right hb; rw [hc])); (try rw [hb]); exact y_callIn (qt) (fun w' hw' => TxW.ofSt (xt := xt) hw' (by exact memA) (by (rw [newR_fst]; exact memA)) (fun h hm => (by first | exact .tail _ (.tail _ (.tail _ (.tail _ (.tail _ hm)))) | exact .tail _ (.tail _ (.tail _ (.tail _ (.tail _ (.tail _ hm))))) | exact .tail _ (.tail _ (.tail _ (.tail _ (.tail _ (.tail _ (.tail _ hm)))))))) (newR_ok ha.ok) (by (rw [List.length_map]; omega))) ⟨rfl, rfl⟩ (by decide +kernel)) ?_)
    | (show YK _ _ _ _ _ _ _; first | refine YK.mk (y_callA (awake49_c) rfl) ?_ | refine YK.mk (y_callA ((qa _)) ⟨rfl, rfl, rfl, rfl⟩) ?_ | refine YK.mk (y_callA (pixel0_c) ⟨rfl, rfl, rfl⟩) ?_ | refine YK.mk (y_callA (point0_c) ⟨rfl, rfl, rfl, rfl⟩) ?_ | refine YK.mk (y_callA (line0_c) ⟨rfl, rfl, rfl, rfl⟩) ?_ | refine YK.mk (y_callA (region0_c) ⟨rfl, rfl, rfl, rfl⟩) ?_ | refine YK.mk (y_callA (mark0_c) ⟨rfl, rfl, rfl, rfl⟩) ?_ | refine YK.mk (y_callA (text0_c) ⟨rfl, rfl⟩) ?_ | refine YK.mk (y_callA (scale0_c) ⟨rfl, rfl⟩) ?_ | refine YK.mk (y_callA (ql) ⟨rfl, rfl, rfl, rfl⟩) ?_ | refine YK.mk (y_callRA ((regE_c (b := b) (v := _) (l := [(⟨-1, 0, 0⟩ : Cel)]) (m := 35) (by omega) (by decide) (.inr (by decide)))) ⟨rfl, rfl, rfl, rfl⟩) ?_)
    | (show YK _ _ _ _ _ _ _; refine YK.ofV vAuto ?_)
    | (show VK _ _ _ _ _ _ _; refine VK.mk vAuto ?_)
    | (show RS _ _ _ _ _ _ _ _; first | (refine nxRS ?_) | (refine nxRS1 fun _ => ?_))
    | (show RM _ _ _ _ _ _ _ _ _ _; first | (refine nxRM ?_) | (refine nxRM1 fun _ => ?_))
    | (show YG _ _ _ _ _ _ _ _; refine YG.mk (fun hb => by (try (have hc := And.left hb; have hb := And.right hb; rw [hc])); (try rw [hb]); first | exact (y_callA (awake49_c) rfl) | exact (y_callA ((qa _)) ⟨rfl, rfl, rfl, rfl⟩) | exact (y_callA (pixel0_c) ⟨rfl, rfl, rfl⟩) | exact (y_callA (point0_c) ⟨rfl, rfl, rfl, rfl⟩) | exact (y_callA (line0_c) ⟨rfl, rfl, rfl, rfl⟩) | exact (y_callA (region0_c) ⟨rfl, rfl, rfl, rfl⟩) | exact (y_callA (mark0_c) ⟨rfl, rfl, rfl, rfl⟩) | exact (y_callA (text0_c) ⟨rfl, rfl⟩) | exact (y_callA (scale0_c) ⟨rfl, rfl⟩) | exact (y_callA (ql) ⟨rfl, rfl, rfl, rfl⟩) | exact (y_callRA ((regE_c (b := b) (v := _) (l := [(⟨-1, 0, 0⟩ : Cel)]) (m := 35) (by omega) (by decide) (.inr (by decide)))) ⟨rfl, rfl, rfl, rfl⟩) | exact V.y vAuto) ?_)
    | (show VG _ _ _ _ _ _ _ _; refine VG.mk (fun hb => by (try (have hc := And.left hb; have hb := And.right hb; rw [hc])); (try rw [hb]); exact vAuto) ?_)
    | (refine nxVS ?_)
    | (refine nxGS ?_)
    | (refine nxX ?_)
    | (refine G.condN rfl (fun hc => ?_) (fun hc => ?_) <;> (try first | exact False.elim hc | (exfalso; omega))))
  all_goals first | (exfalso; omega) | exact X.ret (vs := [_]) rfl ⟨rfl, rfl⟩ rfl (fun w hw => ⟨ret_bool (by simp), hw.ext⟩)
theorem nn_ok {la lo u m : Int} {wd : Nat} (hp : pointB la lo = true) (hla : -4800000 ≤ la ∧ la ≤ 4800000) (hu : 2 ≤ u ∧ u ≤ 100000) (hw : 11 ≤ wd ∧ wd ≤ 121) (ho : wd % 2 = 1) (hm : 33 ≤ m ∧ m ≤ 126) : ContIn Tryz.prog LaidM 6 [ptV la lo, .int .i64 u, .int .i64 (wd : Int), .int .u8 m] (.bool true) := fun w hI => by
  have qm := made_ok hp hla hu hw ho
  have ei : ((wd : Int) - 1) / 2 = (((wd - 1) / 2 : Nat) : Int) := by omega
  have ej : ((wd : Int) - 1) / 4 = (((wd - 1) / 4 : Nat) : Int) := by omega
  have hi : (wd - 1) / 2 < wd := by omega
  have hj : (wd - 1) / 4 < 2 * ((wd - 1) / 4) + 1 := by omega
  have hpx := pix_mid (wd := wd) (h := 2 * ((wd - 1) / 4) + 1) (u := u) (cs := (TT.cosE la la).1) hu.1 hp (by omega) (by omega)
  rw [show ((wd : Int) - 1) / 2 = (((wd - 1) / 2 : Nat) : Int) by omega, show (((2 * ((wd - 1) / 4) + 1 : Nat) : Int) - 1) / 2 = (((wd - 1) / 4 : Nat) : Int) by omega] at hpx
  obtain ⟨rw1, hr1, hr2⟩ := row_one (m := m) hi hj
  have hLl : ((pixL (sel1 ((wd - 1) / 2) ((wd - 1) / 4)) m wd (2 * ((wd - 1) / 4) + 1)).map toB).length = 2 * ((wd - 1) / 4) + 1 := by simp [pixL]
  have hn1 : nth ((pixL (sel1 ((wd - 1) / 2) ((wd - 1) / 4)) m wd (2 * ((wd - 1) / 4) + 1)).map toB) (((wd : Int) - 1) / 4) = rw1 := by
    rw [ej]; unfold nth
    rw [Int.toNat_natCast, List.getD_eq_getElem?_getD, hr1]; rfl
  have hlen : (nth ((pixL (sel1 ((wd - 1) / 2) ((wd - 1) / 4)) m wd (2 * ((wd - 1) / 4) + 1)).map toB) (((wd : Int) - 1) / 4)).length = wd := by
    rw [hn1]
    exact (pix_rowsM (by omega) _ (List.mem_of_getElem? hr1)).1
  have hn2 : ((nth (nth ((pixL (sel1 ((wd - 1) / 2) ((wd - 1) / 4)) m wd (2 * ((wd - 1) / 4) + 1)).map toB) (((wd : Int) - 1) / 4)) (((wd : Int) - 1) / 2)).toNat : Int) = m := by
    rw [hn1, ei]; unfold nth
    rw [Int.toNat_natCast, List.getD_eq_getElem?_getD, hr2]
    show ((m.toNat % 256 : Nat) : Int) = m
    omega
  clear hn1 hr1 hr2
  refine enter0 Tryz.func6 rfl rfl rfl ?_
  repeat' (first
    | (show YK _ _ _ _ _ ⟨_, .call { callee := .builtin .len, args := _, argTypes := #[9] }, _, _, _, _⟩ _; refine YK.ofV (y_lenS (by rfl) StrTy.is) ?_)
    | (show VK _ _ _ _ _ ⟨_, .call { callee := .builtin .len, args := _, argTypes := #[9] }, _, _, _, _⟩ _; refine VK.mk (y_lenS (by rfl) StrTy.is) ?_)
    | (show YG _ _ _ _ _ _ ⟨_, .call { callee := .builtin .len, args := _, argTypes := #[9] }, _, _, _, _⟩ _; refine YG.mk (fun hb => by (try (have hc := And.left hb; have hb := And.right hb; rw [hc])); (try rw [hb]); exact V.y (y_lenS (by rfl) StrTy.is)) ?_)
    | (show VG _ _ _ _ _ _ ⟨_, .call { callee := .builtin .len, args := _, argTypes := #[9] }, _, _, _, _⟩ _; refine VG.mk (fun hb => by (try (have hc := And.left hb; have hb := And.right hb; rw [hc])); (try rw [hb]); exact y_lenS (by rfl) StrTy.is) ?_)
    | (refine nxN ?_)
    | (show VK _ _ _ _ _ ⟨_, .call { callee := .builtin .len, args := _, argTypes := #[39] }, _, _, _, _⟩ _; refine VK.mk (y_lenV (by rfl) (by decide +kernel)) ?_)
    | (show YK _ _ _ _ _ ⟨_, .call { callee := .builtin .len, args := _, argTypes := #[39] }, _, _, _, _⟩ _; refine YK.ofV (y_lenV (by rfl) (by decide +kernel)) ?_)
    | (show VG _ _ _ _ _ _ ⟨_, .call { callee := .builtin .len, args := _, argTypes := #[39] }, _, _, _, _⟩ _; refine VG.mk (fun hb => by (try (have hc := And.left hb; have hb := And.right hb; rw [hc])); (try rw [hb]); exact y_lenV (by rfl) (by decide +kernel)) ?_)
    | (show YG _ _ _ _ _ _ ⟨_, .call { callee := .builtin .len, args := _, argTypes := #[39] }, _, _, _, _⟩ _; refine YG.mk (fun hb => by (try (have hc := And.left hb; have hb := And.right hb; rw [hc])); (try rw [hb]); exact V.y (y_lenV (by rfl) (by decide +kernel))) ?_)
    | (show YG _ _ _ _ _ _ ⟨some 44, _, _, _, _, _⟩ _; refine YG.mk (fun hb => V.y (y_build0 (cs := [.int .i64 0, .int .i64 0, .int .i64 0, .int .i64 0, .int .i64 0, .int .i64 0]) (by kernel_rfl) (by kernel_rfl))) ?_)
    | (show VG _ _ _ _ _ _ ⟨some 44, _, _, _, _, _⟩ _; refine VG.mk (fun hb => y_build0 (cs := [.int .i64 0, .int .i64 0, .int .i64 0, .int .i64 0, .int .i64 0, .int .i64 0]) (by kernel_rfl) (by kernel_rfl)) ?_)
    | (show YK _ _ _ _ _ ⟨some 82, _, _, _, _, _⟩ _; refine YK.ofV (y_eqNil1 rfl rfl sh_ptr) ?_)
    | (show YG _ _ _ _ _ _ ⟨some 82, _, _, _, _, _⟩ _; refine YG.mk (fun hb => (y_eqNil1 rfl rfl sh_ptr).y) ?_)
    | (show VG _ _ _ _ _ _ ⟨some 82, _, _, _, _, _⟩ _; refine VG.mk (fun hb => y_eqNil1 rfl rfl sh_ptr) ?_)
    | (show RS _ _ _ _ _ _ _ (⟨some 74, _, _, _, _, _⟩ :: _); refine RS.callL qm trivial ?_ ⟨rfl, rfl, rfl, rfl⟩; rintro ⟨⟨b, z, rs, xt⟩, y0⟩ ha; dsimp only [List.cons_append, List.nil_append]; refine RS.permH ?_ perm_y2; have qt := tx_new (la := la) (lo := lo) (u := u) (cs := (TT.cosE la la).1) hw ha; have hl := ha.len; dsimp only at hl; have hok := shok_new hp hla hu hw ha.len ha.ok; have qe := markE_c (b := b) (z := z) hok (pla := 5400001) (plo := 0) (m := 35) (i := 0) (j := 0) (e := 1) (by omega) (by omega) (by omega) rfl (by omega); have ql := lineE_c (b := b) (pla := la) (plo := lo) (zl := -1) (zh := 0) (il := 0) (ih := 0) (m := 35) (by omega) lval_neg)
    | (show YG _ _ _ _ _ _ ⟨some 95, _, _, _, _, _⟩ _; refine YG.mk (fun hb => V.y (y_build (parts := [(0, .tmp 93), (1, .tmp 94)]) (vs := [_, _]) ⟨rfl, rfl, rfl⟩ (built_nl _ _))) ?_)
    | (show VG _ _ _ _ _ _ ⟨some 95, _, _, _, _, _⟩ _; refine VG.mk (fun hb => y_build (parts := [(0, .tmp 93), (1, .tmp 94)]) (vs := [_, _]) ⟨rfl, rfl, rfl⟩ (built_nl _ _)) ?_)
    | (show RS _ _ _ _ _ _ _ (⟨some 102, .buildSlice _ _ _, _, _, _, _⟩ :: _); refine RS.lit1KT (a := (⟨-1, 0, 0⟩ : Cel)) (fun v' => ?_) (by rfl) (by rfl) (by rfl) (by rfl))
    | (show YK _ _ _ _ _ ⟨some 89, .call { callee := .value (.func 13), args := _, argTypes := _ }, _, _, _, _⟩ _; refine YK.mk (y_callIn (qe) (fun w' hw' => ShR.ofSt hw' (by exact memA) (by exact memA)) ⟨rfl, rfl, rfl, rfl⟩ (by decide +kernel)) ?_)
    | (show YG _ _ _ _ _ _ ⟨some 89, .call { callee := .value (.func 13), args := _, argTypes := _ }, _, _, _, _⟩ _; refine YG.mk (fun hb => by (try (have hc := And.left hb; have hb := And.right hb; rw [hc])); (try rw [hb]); exact y_callIn (qe) (fun w' hw' => ShR.ofSt hw' (by exact memA) (by exact memA)) ⟨rfl, rfl, rfl, rfl⟩ (by decide +kernel)) ?_)
    | (show RS _ _ _ _ _ _ _ (⟨some 115, _, _, _, _, _⟩ :: _); refine RS.callPm (mark_new (b := b) (z := z) (rs := rs) (xt := xt) (m := m) hp hla hu hw ha hm hp (by (rw [hl]; exact hpx)) hi (by (rw [hl]; exact hj))) trivial perm_y4 ?_ ⟨rfl, rfl, rfl, rfl⟩; rintro ⟨⟩ -; refine RS.permH ?_ perm_y4.symm)
    | (show YK _ _ _ _ _ ⟨some 132, .call { callee := .value (.func 15), args := _, argTypes := _ }, _, _, _, _⟩ _; refine YK.mk (y_callIn (tx_sel (m := m) (by omega) hw ha) (fun w' hw' => TxW.ofSt (xt := xt) hw' (by exact memA) (by (rw [pR_fst, newR_fst]; exact memA)) (fun h hm => .tail _ (.tail _ (.tail _ (.tail _ (.tail _ (.tail _ hm)))))) (pR_ok (newR_ok ha.ok)) (by (rw [pR_len, List.length_map]; omega))) ⟨rfl, rfl⟩ (by decide +kernel)) ?_)
    | (show YG _ _ _ _ _ _ ⟨some 132, .call { callee := .value (.func 15), args := _, argTypes := _ }, _, _, _, _⟩ _; refine YG.mk (fun hb => by (try (have hc := And.left hb; have hb := And.right hb; rw [hc])); (try rw [hb]); exact y_callIn (tx_sel (m := m) (by omega) hw ha) (fun w' hw' => TxW.ofSt (xt := xt) hw' (by exact memA) (by (rw [pR_fst, newR_fst]; exact memA)) (fun h hm => .tail _ (.tail _ (.tail _ (.tail _ (.tail _ (.tail _ hm)))))) (pR_ok (newR_ok ha.ok)) (by (rw [pR_len, List.length_map]; omega))) ⟨rfl, rfl⟩ (by decide +kernel)) ?_)
    | (show RS _ _ _ _ _ _ _ (⟨some 134, _, _, _, _, _⟩ :: _); refine RS.callI (rw_sel (m := m) (by omega) hw) ⟨rfl, rfl, rfl⟩ (fun w' hw' => hI.keep hw'.ext) ?_; rintro z2 -; dsimp only [List.cons_append, List.nil_append])
    | (show YK _ _ _ _ _ ⟨_, .call { callee := .value (.func 15), args := _, argTypes := _ }, _, _, _, _⟩ _; refine YK.mk (y_callIn (qt) (fun w' hw' => TxW.ofSt (xt := xt) hw' (by exact memA) (by (rw [newR_fst]; exact memA)) (fun h hm => (by first | exact .tail _ (.tail _ (.tail _ (.tail _ (.tail _ hm)))) | exact .tail _ (.tail _ (.tail _ (.tail _ (.tail _ (.tail _ hm))))) | exact .tail _ (.tail _ (.tail _ (.tail _ (.tail _ (.tail _ (.tail _ hm)))))))) (newR_ok ha.ok) (by (rw [List.length_map]; omega))) ⟨rfl, rfl⟩ (by decide +kernel)) ?_)
    | (show YG _ _ _ _ _ _ ⟨_, .call { callee := .value (.func 15), args := _, argTypes := _ }, _, _, _, _⟩ _; refine YG.mk (fun hb => by (try (have hc := And.left hb; have hb := And.right hb; rw [hc])); (try rw [hb]); exact y_callIn (qt) (fun w' hw' => TxW.ofSt (xt := xt) hw' (by exact memA) (by (rw [newR_fst]; exact memA)) (fun h hm => (by first | exact .tail _ (.tail _ (.tail _ (.tail _ (.tail _ hm)))) | exact .tail _ (.tail _ (.tail _ (.tail _ (.tail _ (.tail _ hm))))) | exact .tail _ (.tail _ (.tail _ (.tail _ (.tail _ (.tail _ (.tail _ hm)))))))) (newR_ok ha.ok) (by (rw [List.length_map]; omega))) ⟨rfl, rfl⟩ (by decide +kernel)) ?_)
    | (show YK _ _ _ _ _ _ _; first | refine YK.mk (y_callA (awake49_c) rfl) ?_ | refine YK.mk (y_callA (pixel0_c) ⟨rfl, rfl, rfl⟩) ?_ | refine YK.mk (y_callA (point0_c) ⟨rfl, rfl, rfl, rfl⟩) ?_ | refine YK.mk (y_callA (line0_c) ⟨rfl, rfl, rfl, rfl⟩) ?_ | refine YK.mk (y_callA (region0_c) ⟨rfl, rfl, rfl, rfl⟩) ?_ | refine YK.mk (y_callA (mark0_c) ⟨rfl, rfl, rfl, rfl⟩) ?_ | refine YK.mk (y_callA (text0_c) ⟨rfl, rfl⟩) ?_ | refine YK.mk (y_callA (scale0_c) ⟨rfl, rfl⟩) ?_ | refine YK.mk (y_callA (ql) ⟨rfl, rfl, rfl, rfl⟩) ?_ | refine YK.mk (y_callRA ((regE_c (b := b) (v := _) (l := [(⟨-1, 0, 0⟩ : Cel)]) (m := 35) (by omega) (by decide) (.inr (by decide)))) ⟨rfl, rfl, rfl, rfl⟩) ?_)
    | (show YK _ _ _ _ _ _ _; refine YK.ofV vAuto ?_)
    | (show VK _ _ _ _ _ _ _; refine VK.mk vAuto ?_)
    | (show RS _ _ _ _ _ _ _ _; first | (refine nxRS ?_) | (refine nxRS1 fun _ => ?_))
    | (show RM _ _ _ _ _ _ _ _ _ _; first | (refine nxRM ?_) | (refine nxRM1 fun _ => ?_))
    | (show YG _ _ _ _ _ _ _ _; refine YG.mk (fun hb => by (try (have hc := And.left hb; have hb := And.right hb; rw [hc])); (try rw [hb]); first | exact (y_callA (awake49_c) rfl) | exact (y_callA (pixel0_c) ⟨rfl, rfl, rfl⟩) | exact (y_callA (point0_c) ⟨rfl, rfl, rfl, rfl⟩) | exact (y_callA (line0_c) ⟨rfl, rfl, rfl, rfl⟩) | exact (y_callA (region0_c) ⟨rfl, rfl, rfl, rfl⟩) | exact (y_callA (mark0_c) ⟨rfl, rfl, rfl, rfl⟩) | exact (y_callA (text0_c) ⟨rfl, rfl⟩) | exact (y_callA (scale0_c) ⟨rfl, rfl⟩) | exact (y_callA (ql) ⟨rfl, rfl, rfl, rfl⟩) | exact (y_callRA ((regE_c (b := b) (v := _) (l := [(⟨-1, 0, 0⟩ : Cel)]) (m := 35) (by omega) (by decide) (.inr (by decide)))) ⟨rfl, rfl, rfl, rfl⟩) | exact V.y vAuto) ?_)
    | (show VG _ _ _ _ _ _ _ _; refine VG.mk (fun hb => by (try (have hc := And.left hb; have hb := And.right hb; rw [hc])); (try rw [hb]); exact vAuto) ?_)
    | (refine nxVS ?_)
    | (refine nxGS ?_)
    | (refine nxX ?_)
    | (refine G.condN rfl (fun hc => ?_) (fun hc => ?_) <;> (try first | exact False.elim hc | (exfalso; omega))))
  all_goals first | (exfalso; omega) | exact X.ret (vs := [_]) rfl ⟨rfl, rfl⟩ rfl (fun w hw => ⟨ret_bool (by rw [hn2]; simp), hw.ext⟩) | trace_state
theorem none_law {la lo u wd m : Int} (hm : 0 ≤ m ∧ m ≤ 255) : ContIn Tryz.prog LaidM 6 [ptV la lo, .int .i64 u, .int .i64 wd, .int .u8 m] (.bool true) := by
  by_cases he : newE la lo u wd = 0
  · unfold newE at he
    split at he
    · rename_i hb
      split at he
      · rename_i hg
        simp only [Bool.and_eq_true, decide_eq_true_eq] at hb
        obtain ⟨wn, rfl⟩ := Int.eq_ofNat_of_zero_le (show 0 ≤ wd by omega)
        by_cases hb0 : 33 ≤ m ∧ m ≤ 126
        · exact nn_ok hb.1.1 (by omega) (by omega) (by omega) (by omega) hb0
        · exact (nn_bad hb.1.1 (by omega) (by omega) (by omega) (by omega) hm hb0).in_
      · exact absurd he (by decide)
    · exact absurd he (by decide)
  · refine (nn_ref rfl ?_).in_
    unfold newE at he ⊢
    split
    · split
      · rename_i h1 h2
        rw [if_pos h1, if_pos h2] at he
        exact absurd rfl he
      · exact .inr rfl
    · exact .inl rfl
end Go.Proofs.YthilhhegchmjeaaGreatDoor
