/- Joined texts: One, Nil, Non, LawRe, LawRe2. -/
import Derived.Test.YthilhhegchmjeaaGreatDoorWp
import Derived.Test.YthilhhegchmjeaaGreatDoorWq
import Derived.Test.YthilhhegchmjeaaGreatDoorWk
/- One pixel marked on a new sheet, and its text's rows. -/
set_option linter.unusedVariables false
set_option maxHeartbeats 8000000
namespace Go.Proofs.YthilhhegchmjeaaGreatDoor
open Go.RowKit
theorem tx_sel {m la lo u : Int} {wd b : Nat} {z : Sl} {rs : List Sl} {xt : Nat → List Value} {sel : Nat → Nat → Bool} {cs : Int} (hm : 11 ≤ m ∧ m ≤ 255) (hw : 11 ≤ wd ∧ wd ≤ 121) (hz : NewP wd (b, z, rs, xt)) : ContIn Tryz.prog (TxW b la lo u cs z (pR sel m rs.length 0 (newR wd rs)) wd) 15 [ptS b] (strV (lnsS ((pixL sel m wd (2 * ((wd - 1) / 4) + 1)).map toB))) := by
  have hl : rs.length = 2 * ((wd - 1) / 4) + 1 := hz.len
  have hs := pR_new sel m wd rs
  have q := text_c (b := b) (la := la) (lo := lo) (u := u) (cs := cs) (z := z) (rs := pR sel m rs.length 0 (newR wd rs)) (wd := wd) (fun r hr => by
    have hm' : r.2 ∈ pixL sel m wd rs.length := by rw [← hs]; exact List.mem_map.2 ⟨r, hr, rfl⟩
    exact pixL_mem hm' hm) (by rw [pR_len, List.length_map]; omega) (by omega)
  rw [hs] at q
  rw [← hl]
  exact q
theorem pix_rowsM {m : Int} {sel : Nat → Nat → Bool} {wd h : Nat} (hm : 11 ≤ m ∧ m ≤ 255) : ∀ s ∈ (pixL sel m wd h).map toB, s.length = wd ∧ (10 : UInt8) ∉ s := fun s hs => by
  obtain ⟨l, hl, rfl⟩ := List.mem_map.1 hs
  obtain ⟨h1, h2⟩ := pixL_mem hl hm
  refine ⟨by simp [toB, h1], fun hm => ?_⟩
  obtain ⟨i, hi⟩ := List.getElem?_of_mem hm
  have := toB_get h2 hi
  have := h2 _ (List.mem_of_getElem? this)
  simp at this
theorem rw_sel {m : Int} {sel : Nat → Nat → Bool} {wd : Nat} (hm : 11 ≤ m ∧ m ≤ 255) (hw : 11 ≤ wd ∧ wd ≤ 121) : ContXI Tryz.prog LaidM 14 [strV (lnsS ((pixL sel m wd (2 * ((wd - 1) / 4) + 1)).map toB)), .int .i64 (wd : Int)] (fun _ : Sl => True) (fun z => .tuple [z.v, .bool true].toArray) (fun z => [Hl.nw z.v cS 1 ((pixL sel m wd (2 * ((wd - 1) / 4) + 1)).map toB)]) :=
  rows_c (by omega) (pix_rowsM hm) (by simp [pixL])
/-- A mark on a new sheet: one pixel. -/
theorem mark_new {la lo u pla plo m : Int} {wd b i j : Nat} {z : Sl} {rs : List Sl} {xt : Nat → List Value} (hp : pointB la lo = true) (hla : -4800000 ≤ la ∧ la ≤ 4800000) (hu : 2 ≤ u ∧ u ≤ 100000) (hw : 11 ≤ wd ∧ wd ≤ 121) (hz : NewP wd (b, z, rs, xt)) (hm : 33 ≤ m ∧ m ≤ 126) (hq : pointB pla plo = true) (hx : pixI wd rs.length la lo u (TT.cosE la la).1 pla plo = ((i : Int), (j : Int), 0)) (hi : i < wd) (hj : j < rs.length) :
    ContL Tryz.prog (fun _ => True) (shB b la lo u (TT.cosE la la).1 z.v :: rwS z rs :: rowsH xt (newR wd rs)) 13 [ptS b, ptV pla plo, .int .u8 m] (fun _ : Unit => True) (fun _ => .int .i64 0) (fun _ => shB b la lo u (TT.cosE la la).1 z.v :: rwS z rs :: rowsH xt (pR (sel1 i j) m rs.length 0 (newR wd rs))) := by
  have hok := shok_new hp hla hu hw hz.len hz.ok
  have hrs : rs = rs.take j ++ rs[j] :: rs.drop (j + 1) := by rw [List.getElem_cons_drop, List.take_append_drop]
  have hA : (rs.take j).length = j := by rw [List.length_take]; omega
  simp only [pointB, Bool.and_eq_true, decide_eq_true_eq] at hq
  have q := mark_ok (b := b) (z := z) (xt := xt) (rs := newR wd rs) (A := newR wd (rs.take j)) (B := newR wd (rs.drop (j + 1))) (r := (rs[j], List.replicate wd 46)) (pla := pla) (plo := plo) (m := m) (i := i) (j := j) (by rw [newR_fst]; exact hok) hm (by omega) (by omega) (by rw [newR_fst]; exact hx)
    (by
      have := congrArg (newR wd) hrs
      rw [this]
      simp only [newR, List.map_append, List.map_cons]) (by rw [List.length_map]; exact hA) hi List.length_replicate (hz.ok _ (List.getElem_mem hj))
  rw [newR_fst, pR_one hrs hA] at q
  exact q
end Go.Proofs.YthilhhegchmjeaaGreatDoor
/- A sheet that is none: every method answers. -/
set_option linter.unusedVariables false
set_option maxHeartbeats 8000000
namespace Go.Proofs.YthilhhegchmjeaaGreatDoor
open Go.RowKit
theorem pixel0_c {pla plo : Int} : Cont Tryz.prog 9 [.pointer none, ptV pla plo] (.tuple [.int .i64 0, .int .i64 0, .int .i64 1].toArray) := fun w => by
  have q0 := vpoint_c pla plo
  refine enter0 Tryz.func9 rfl rfl rfl ?_
  repeat' (first
    | (refine nxN ?_)
    | (show YK _ _ _ _ _ ⟨_, .binOp .eql _ _ (.const (.pointer none)) _, _, _, _, _⟩ _; refine YK.ofV (y_eqNil0 rfl rfl sh_ptr) ?_)
    | (show YK _ _ _ _ _ _ _; first | refine YK.mk (y_callA (q0) ⟨rfl, rfl⟩) ?_)
    | (show YK _ _ _ _ _ _ _; refine YK.ofV vAuto ?_)
    | (show VK _ _ _ _ _ _ _; refine VK.mk vAuto ?_)
    | (show RS _ _ _ _ _ _ _ _; first | (refine nxRS ?_) | (refine nxRS1 fun _ => ?_))
    | (show RM _ _ _ _ _ _ _ _ _ _; first | (refine nxRM ?_) | (refine nxRM1 fun _ => ?_))
    | (show YG _ _ _ _ _ _ _ _; refine YG.mk (fun hb => by (try (have hc := And.left hb; have hb := And.right hb; rw [hc])); (try rw [hb]); first | exact (y_callA (q0) ⟨rfl, rfl⟩) | exact V.y vAuto) ?_)
    | (show VG _ _ _ _ _ _ _ _; refine VG.mk (fun hb => by (try (have hc := And.left hb; have hb := And.right hb; rw [hc])); (try rw [hb]); exact vAuto) ?_)
    | (refine G.mixedA 4 [.go 0, .go 1, .go 2, .go 3, .go 4, .go 5, .go 6, .go 7, .go 8, .go 11, .go 12, .go 13, .go 14, .go 16, .go 17, .go 18, .go 19, .go 20, .go 22, .go 23, .go 24, .go 25, .go 26, .go 27, .go 9, .go 10, .go 15, .go 21, .go 28, .go 29, .go 30] ?_)
    | (refine G.mixedA 5 [.go 0, .go 1, .go 2, .go 3, .go 4, .go 5, .go 6, .go 7, .go 8, .go 9, .go 10, .go 11, .go 12, .go 13, .go 14, .go 15, .go 16, .go 17, .go 18, .go 19, .go 20, .go 21] ?_)
    | (refine nxX ?_)
    | (refine G.condN rfl (fun hc => ?_) (fun hc => ?_) <;> (try first | exact False.elim hc | (exfalso; omega))))
  exact X.ret (vs := [_, _, _]) rfl ⟨rfl, rfl, rfl, rfl⟩ rfl (fun w hw => ⟨rfl, hw.ext⟩)
theorem point0_c {i j : Int} : Cont Tryz.prog 10 [.pointer none, .int .i64 i, .int .i64 j] (.tuple [ptV 0 0, .int .i64 1].toArray) := fun w => by
  refine enter0 Tryz.func10 rfl rfl rfl ?_
  repeat' (first
    | (refine nxN ?_)
    | (show YK _ _ _ _ _ ⟨_, .binOp .eql _ _ (.const (.pointer none)) _, _, _, _, _⟩ _; refine YK.ofV (y_eqNil0 rfl rfl sh_ptr) ?_)
    | (refine nxV ?_)
    | (show RS _ _ _ _ _ _ _ _; first | (refine nxRS ?_) | (refine nxRS1 fun _ => ?_))
    | (show RM _ _ _ _ _ _ _ _ _ _; first | (refine nxRM ?_) | (refine nxRM1 fun _ => ?_))
    | (refine nxG ?_)
    | (refine G.mixedA 6 [.go 0, .go 1, .go 2, .go 3, .go 4, .go 5, .go 6, .go 7, .go 8, .go 9, .go 10, .go 11, .go 12, .go 13, .go 14, .go 15, .go 16, .go 17, .pend 22, .go 18, .go 19, .go 20, .go 21, .done, .go 23] ?_)
    | (refine nxX ?_)
    | (refine G.condN rfl (fun hc => ?_) (fun hc => ?_) <;> (try first | exact False.elim hc | (exfalso; omega))))
  all_goals first | exact X.ret (vs := [_, _]) rfl ⟨⟨_, _, _, _, rfl, (by exact memA), (by (repeat (first | exact .nil | apply LenIs.cons))), by decide +kernel, rfl⟩, rfl, rfl⟩ rfl (fun w hw => ⟨rfl, hw.ext⟩) | exact X.ret (vs := [_, _]) rfl ⟨rfl, rfl, rfl⟩ rfl (fun w hw => ⟨rfl, hw.ext⟩)
theorem line0_c {pla plo zl zh il ih m : Int} : Cont Tryz.prog 26 [.pointer none, lineV pla plo zl zh il ih, .int .u8 m] (.int .i64 1) := fun w => by
  have q1 := marks0_c (m := m)
  refine enter0 Tryz.func26 rfl rfl rfl ?_
  repeat' (first
    | (refine nxN ?_)
    | (show YK _ _ _ _ _ _ _; first | refine YK.mk (y_callA (q1) ⟨rfl, rfl, rfl⟩) ?_)
    | (show YK _ _ _ _ _ _ _; refine YK.ofV vAuto ?_)
    | (show VK _ _ _ _ _ _ _; refine VK.mk vAuto ?_)
    | (show RS _ _ _ _ _ _ _ _; first | (refine nxRS ?_) | (refine nxRS1 fun _ => ?_))
    | (show RM _ _ _ _ _ _ _ _ _ _; first | (refine nxRM ?_) | (refine nxRM1 fun _ => ?_))
    | (show YG _ _ _ _ _ _ _ _; refine YG.mk (fun hb => by (try (have hc := And.left hb; have hb := And.right hb; rw [hc])); (try rw [hb]); first | exact (y_callA (q1) ⟨rfl, rfl, rfl⟩) | exact V.y vAuto) ?_)
    | (show VG _ _ _ _ _ _ _ _; refine VG.mk (fun hb => by (try (have hc := And.left hb; have hb := And.right hb; rw [hc])); (try rw [hb]); exact vAuto) ?_)
    | (refine G.mixedA 3 [.go 0, .go 1, .go 2, .go 3, .go 4, .go 5, .go 6, .go 7] ?_)
    | (refine G.mixedA 12 [.go 0, .go 1, .go 3, .go 4, .pend 6, .pend 7, .go 2, .go 5, .done, .done, .go 8, .go 9] ?_)
    | (refine nxX ?_)
    | (refine G.condN rfl (fun hc => ?_) (fun hc => ?_) <;> (try first | exact False.elim hc | (exfalso; omega))))
  exact X.ret (vs := [_]) rfl ⟨rfl, rfl⟩ rfl (fun w hw => ⟨rfl, hw.ext⟩)
theorem region0_c {v : Value} {m : Int} : Cont Tryz.prog 24 [.pointer none, v, .int .u8 m] (.int .i64 1) := fun w => by
  have q1 := marks0_c (m := m)
  refine enter0 Tryz.func24 rfl rfl rfl ?_
  repeat' (first
    | (refine nxN ?_)
    | (show YK _ _ _ _ _ _ _; first | refine YK.mk (y_callA (q1) ⟨rfl, rfl, rfl⟩) ?_)
    | (show YK _ _ _ _ _ _ _; refine YK.ofV vAuto ?_)
    | (show VK _ _ _ _ _ _ _; refine VK.mk vAuto ?_)
    | (show RS _ _ _ _ _ _ _ _; first | (refine nxRS ?_) | (refine nxRS1 fun _ => ?_))
    | (show RM _ _ _ _ _ _ _ _ _ _; first | (refine nxRM ?_) | (refine nxRM1 fun _ => ?_))
    | (show YG _ _ _ _ _ _ _ _; refine YG.mk (fun hb => by (try (have hc := And.left hb; have hb := And.right hb; rw [hc])); (try rw [hb]); first | exact (y_callA (q1) ⟨rfl, rfl, rfl⟩) | exact V.y vAuto) ?_)
    | (show VG _ _ _ _ _ _ _ _; refine VG.mk (fun hb => by (try (have hc := And.left hb; have hb := And.right hb; rw [hc])); (try rw [hb]); exact vAuto) ?_)
    | (refine nxX ?_)
    | (refine G.condN rfl (fun hc => ?_) (fun hc => ?_) <;> (try first | exact False.elim hc | (exfalso; omega))))
  exact X.ret (vs := [_]) rfl ⟨rfl, rfl⟩ rfl (fun w hw => ⟨rfl, hw.ext⟩)
theorem mark0_c {pla plo m : Int} : Cont Tryz.prog 13 [.pointer none, ptV pla plo, .int .u8 m] (.int .i64 1) := fun w => by
  have q1 := marks0_c (m := m)
  refine enter0 Tryz.func13 rfl rfl rfl ?_
  repeat' (first
    | (refine nxN ?_)
    | (show YK _ _ _ _ _ _ _; first | refine YK.mk (y_callA (q1) ⟨rfl, rfl, rfl⟩) ?_)
    | (show YK _ _ _ _ _ _ _; refine YK.ofV vAuto ?_)
    | (show VK _ _ _ _ _ _ _; refine VK.mk vAuto ?_)
    | (show RS _ _ _ _ _ _ _ _; first | (refine nxRS ?_) | (refine nxRS1 fun _ => ?_))
    | (show RM _ _ _ _ _ _ _ _ _ _; first | (refine nxRM ?_) | (refine nxRM1 fun _ => ?_))
    | (show YG _ _ _ _ _ _ _ _; refine YG.mk (fun hb => by (try (have hc := And.left hb; have hb := And.right hb; rw [hc])); (try rw [hb]); first | exact (y_callA (q1) ⟨rfl, rfl, rfl⟩) | exact V.y vAuto) ?_)
    | (show VG _ _ _ _ _ _ _ _; refine VG.mk (fun hb => by (try (have hc := And.left hb; have hb := And.right hb; rw [hc])); (try rw [hb]); exact vAuto) ?_)
    | (refine nxX ?_)
    | (refine G.condN rfl (fun hc => ?_) (fun hc => ?_) <;> (try first | exact False.elim hc | (exfalso; omega))))
  exact X.ret (vs := [_]) rfl ⟨rfl, rfl⟩ rfl (fun w hw => ⟨rfl, hw.ext⟩)
theorem text0_c : Cont Tryz.prog 15 [.pointer none] (strV []) := fun w => by
  refine enter0 Tryz.func15 rfl rfl rfl ?_
  repeat' (first
    | (show YK _ _ _ _ _ ⟨_, .call { callee := .builtin .len, args := _, argTypes := #[9] }, _, _, _, _⟩ _; refine YK.ofV (y_lenS (by rfl) StrTy.is) ?_)
    | (show VK _ _ _ _ _ ⟨_, .call { callee := .builtin .len, args := _, argTypes := #[9] }, _, _, _, _⟩ _; refine VK.mk (y_lenS (by rfl) StrTy.is) ?_)
    | (show YG _ _ _ _ _ _ ⟨_, .call { callee := .builtin .len, args := _, argTypes := #[9] }, _, _, _, _⟩ _; refine YG.mk (fun hb => by (try (have hc := And.left hb; have hb := And.right hb; rw [hc])); (try rw [hb]); exact V.y (y_lenS (by rfl) StrTy.is)) ?_)
    | (show VG _ _ _ _ _ _ ⟨_, .call { callee := .builtin .len, args := _, argTypes := #[9] }, _, _, _, _⟩ _; refine VG.mk (fun hb => by (try (have hc := And.left hb; have hb := And.right hb; rw [hc])); (try rw [hb]); exact y_lenS (by rfl) StrTy.is) ?_)
    | (refine nxN ?_)
    | (show YK _ _ _ _ _ ⟨_, .binOp .eql _ _ (.const (.pointer none)) _, _, _, _, _⟩ _; refine YK.ofV (y_eqNil0 rfl rfl sh_ptr) ?_)
    | (refine nxV ?_)
    | (show RS _ _ _ _ _ _ _ _; first | (refine nxRS ?_) | (refine nxRS1 fun _ => ?_))
    | (show RM _ _ _ _ _ _ _ _ _ _; first | (refine nxRM ?_) | (refine nxRM1 fun _ => ?_))
    | (refine nxG ?_)
    | (refine nxVS ?_)
    | (refine nxGS ?_)
    | (refine nxX ?_)
    | (refine G.condN rfl (fun hc => ?_) (fun hc => ?_) <;> (try first | exact False.elim hc | (exfalso; omega))))
  exact X.ret (vs := [_]) rfl ⟨rfl, rfl⟩ rfl (fun w hw => ⟨rfl, hw.ext⟩)
theorem scale0_c : Cont Tryz.prog 20 [.pointer none] (.slice none 0 0) := fun w => by
  refine enter0 Tryz.func20 rfl rfl rfl ?_
  repeat' (first
    | (refine nxN ?_)
    | (show YK _ _ _ _ _ ⟨_, .binOp .eql _ _ (.const (.pointer none)) _, _, _, _, _⟩ _; refine YK.ofV (y_eqNil0 rfl rfl sh_ptr) ?_)
    | (refine nxV ?_)
    | (show RS _ _ _ _ _ _ _ _; first | (refine nxRS ?_) | (refine nxRS1 fun _ => ?_))
    | (show RM _ _ _ _ _ _ _ _ _ _; first | (refine nxRM ?_) | (refine nxRM1 fun _ => ?_))
    | (refine nxG ?_)
    | (refine G.mixedA 7 [.go 0, .go 1, .go 2, .go 3, .go 4, .go 5, .go 6, .go 7, .go 8, .go 11, .go 9, .go 10] ?_)
    | (refine nxX ?_)
    | (refine G.condN rfl (fun hc => ?_) (fun hc => ?_) <;> (try first | exact False.elim hc | (exfalso; omega))))
  exact X.ret (vs := [_]) rfl ⟨rfl, rfl⟩ rfl (fun w hw => ⟨rfl, hw.ext⟩)
end Go.Proofs.YthilhhegchmjeaaGreatDoor
/- What is refused changes nothing: contracts that turn no heaplet. -/
set_option linter.unusedVariables false
set_option maxHeartbeats 8000000
namespace Go.Proofs.YthilhhegchmjeaaGreatDoor
open Go.RowKit
section
variable {b : Nat} {la lo u cs : Int} {z : Sl} {rows : List Sl} {wd : Nat}
theorem markA_c {pla plo m : Int} (hm : 0 ≤ m ∧ m ≤ 255) (hv : (decide (33 ≤ m) && decide (m ≤ 126)) = false) : Cont Tryz.prog 13 [ptS b, ptV pla plo, .int .u8 m] (.int .i64 1) := fun w => by
  have q1 := marks_c (b := b) (m := m) hm
  rw [hv] at q1
  refine enter0 Tryz.func13 rfl rfl rfl ?_
  repeat' (first
    | (refine nxN ?_)
    | (show YK _ _ _ _ _ _ _; first | refine YK.mk (y_callA (q1) ⟨rfl, rfl, rfl⟩) ?_)
    | (show YK _ _ _ _ _ _ _; refine YK.ofV vAuto ?_)
    | (show VK _ _ _ _ _ _ _; refine VK.mk vAuto ?_)
    | (show RS _ _ _ _ _ _ _ _; first | (refine nxRS ?_) | (refine nxRS1 fun _ => ?_))
    | (show RM _ _ _ _ _ _ _ _ _ _; first | (refine nxRM ?_) | (refine nxRM1 fun _ => ?_))
    | (show YG _ _ _ _ _ _ _ _; refine YG.mk (fun hb => by (try (have hc := And.left hb; have hb := And.right hb; rw [hc])); (try rw [hb]); first | exact (y_callA (q1) ⟨rfl, rfl, rfl⟩) | exact V.y vAuto) ?_)
    | (show VG _ _ _ _ _ _ _ _; refine VG.mk (fun hb => by (try (have hc := And.left hb; have hb := And.right hb; rw [hc])); (try rw [hb]); exact vAuto) ?_)
    | (refine nxX ?_)
    | (refine G.condN rfl (fun hc => ?_) (fun hc => ?_) <;> (try first | exact False.elim hc | (exfalso; omega))))
  exact X.ret (vs := [_]) rfl ⟨rfl, rfl⟩ rfl (fun w hw => ⟨rfl, hw.ext⟩)
theorem markE_c (ok : ShOk la lo u cs rows wd) {pla plo m i j e : Int} (hm : 33 ≤ m ∧ m ≤ 126) (h1 : -9223372036854775808 ≤ pla ∧ pla ≤ 9223372036854775807) (h2 : -9223372036854775808 ≤ plo ∧ plo ≤ 9223372036854775807) (hp : pixI wd rows.length la lo u cs pla plo = (i, j, e)) (he : e ≠ 0) :
    ContIn Tryz.prog (ShR b la lo u cs z rows wd) 13 [ptS b, ptV pla plo, .int .u8 m] (.int .i64 e) := fun w hs => by
  have q1 := marks_c (b := b) (m := m) (by omega)
  rw [show (decide (33 ≤ m) && decide (m ≤ 126)) = true by simp [hm]] at q1
  have q2 := pixel_c (b := b) (z := z) ok h1 h2
  rw [hp] at q2
  dsimp only at q2
  refine enter0 Tryz.func13 rfl rfl rfl ?_
  repeat' (first
    | (refine nxN ?_)
    | (show YK _ _ _ _ _ ⟨_, .call { callee := .value (.func 9), args := _, argTypes := _ }, _, _, _, _⟩ _; refine YK.mk (y_callIn (q2) (fun w' hw' => hs.keep hw'.ext) ⟨rfl, rfl, rfl⟩ (by decide +kernel)) ?_)
    | (show YG _ _ _ _ _ _ ⟨_, .call { callee := .value (.func 9), args := _, argTypes := _ }, _, _, _, _⟩ _; refine YG.mk (fun hb => by (try (have hc := And.left hb; have hb := And.right hb; rw [hc])); (try rw [hb]); exact y_callIn (q2) (fun w' hw' => hs.keep hw'.ext) ⟨rfl, rfl, rfl⟩ (by decide +kernel)) ?_)
    | (show YK _ _ _ _ _ ⟨_, .load 23 _, _, _, _, _⟩ _; refine YK.ofV (y_loadPart (k := 2) (by rfl) (by exact memA) (by decide +kernel) (by rfl)) ?_)
    | (show YK _ _ _ _ _ _ _; first | refine YK.mk (y_callA (q1) ⟨rfl, rfl, rfl⟩) ?_)
    | (show YK _ _ _ _ _ _ _; refine YK.ofV vAuto ?_)
    | (show VK _ _ _ _ _ _ _; refine VK.mk vAuto ?_)
    | (show RS _ _ _ _ _ _ _ _; first | (refine nxRS ?_) | (refine nxRS1 fun _ => ?_))
    | (show RM _ _ _ _ _ _ _ _ _ _; first | (refine nxRM ?_) | (refine nxRM1 fun _ => ?_))
    | (show YG _ _ _ _ _ _ _ _; refine YG.mk (fun hb => by (try (have hc := And.left hb; have hb := And.right hb; rw [hc])); (try rw [hb]); first | exact (y_callA (q1) ⟨rfl, rfl, rfl⟩) | exact V.y vAuto) ?_)
    | (show VG _ _ _ _ _ _ _ _; refine VG.mk (fun hb => by (try (have hc := And.left hb; have hb := And.right hb; rw [hc])); (try rw [hb]); exact vAuto) ?_)
    | (refine nxX ?_)
    | (refine G.condN rfl (fun hc => ?_) (fun hc => ?_) <;> (try first | exact False.elim hc | (exfalso; omega))))
  exact X.ret (vs := [_]) rfl ⟨rfl, rfl⟩ rfl (fun w hw => ⟨rfl, hw.ext⟩)
theorem lineE_c {pla plo zl zh il ih m : Int} (hm : 33 ≤ m ∧ m ≤ 126) (hv : lvalB pla plo zl zh il ih = false) : Cont Tryz.prog 26 [ptS b, lineV pla plo zl zh il ih, .int .u8 m] (.int .i64 1) := fun w => by
  have q1 := marks_c (b := b) (m := m) (by omega)
  have q2 := lval_c (la := pla) (lo := plo) (zl := zl) (zh := zh) (il := il) (ih := ih)
  rw [show (decide (33 ≤ m) && decide (m ≤ 126)) = true by simp [hm]] at q1
  rw [hv] at q2
  clear hv
  refine enter0 Tryz.func26 rfl rfl rfl ?_
  repeat' (first
    | (refine nxN ?_)
    | (show YK _ _ _ _ _ _ _; first | refine YK.mk (y_callA (q1) ⟨rfl, rfl, rfl⟩) ?_ | refine YK.mk (y_callA (q2) ⟨rfl, rfl⟩) ?_)
    | (show YK _ _ _ _ _ _ _; refine YK.ofV vAuto ?_)
    | (show VK _ _ _ _ _ _ _; refine VK.mk vAuto ?_)
    | (show RS _ _ _ _ _ _ _ _; first | (refine nxRS ?_) | (refine nxRS1 fun _ => ?_))
    | (show RM _ _ _ _ _ _ _ _ _ _; first | (refine nxRM ?_) | (refine nxRM1 fun _ => ?_))
    | (show YG _ _ _ _ _ _ _ _; refine YG.mk (fun hb => by (try (have hc := And.left hb; have hb := And.right hb; rw [hc])); (try rw [hb]); first | exact (y_callA (q1) ⟨rfl, rfl, rfl⟩) | exact (y_callA (q2) ⟨rfl, rfl⟩) | exact V.y vAuto) ?_)
    | (show VG _ _ _ _ _ _ _ _; refine VG.mk (fun hb => by (try (have hc := And.left hb; have hb := And.right hb; rw [hc])); (try rw [hb]); exact vAuto) ?_)
    | (refine G.mixedA 3 [.go 0, .go 1, .go 2, .go 3, .go 4, .go 5, .go 6, .go 7] ?_)
    | (refine G.mixedA 12 [.go 0, .go 1, .go 3, .go 4, .pend 6, .pend 7, .go 2, .go 5, .done, .done, .go 8, .go 9] ?_)
    | (refine nxX ?_)
    | (refine G.condN rfl (fun hc => ?_) (fun hc => ?_) <;> (try first | exact False.elim hc | (exfalso; omega))))
  exact X.ret (vs := [_]) rfl ⟨rfl, rfl⟩ rfl (fun w hw => ⟨rfl, hw.ext⟩)
theorem regE_c {v : Sl} {l : List Cel} {m : Int} (hm : 33 ≤ m ∧ m ≤ 126) (hl : l.length ≤ 1000000) (h : 4000 < l.length ∨ l.all ckB = false) : ContR Tryz.prog [Hl.rd v.v cK 3 l] 24 [ptS b, v.v, .int .u8 m] (.int .i64 1) := fun w hw0 => by
  have q1 := marks_c (b := b) (m := m) (by omega)
  rw [show (decide (33 ≤ m) && decide (m ≤ 126)) = true by simp [hm]] at q1
  have q2 := vreg_bad v.v l hl h
  refine enter Tryz.func24 rfl rfl rfl hw0 ?_
  repeat' (first
    | (refine nxN ?_)
    | (show YK _ _ _ _ _ _ _; first | refine YK.mk (y_callA (q1) ⟨rfl, rfl, rfl⟩) ?_ | refine YK.mk (y_callRA (q2) ⟨rfl, rfl⟩) ?_)
    | (show YK _ _ _ _ _ _ _; refine YK.ofV vAuto ?_)
    | (show VK _ _ _ _ _ _ _; refine VK.mk vAuto ?_)
    | (show RS _ _ _ _ _ _ _ _; first | (refine nxRS ?_) | (refine nxRS1 fun _ => ?_))
    | (show RM _ _ _ _ _ _ _ _ _ _; first | (refine nxRM ?_) | (refine nxRM1 fun _ => ?_))
    | (show YG _ _ _ _ _ _ _ _; refine YG.mk (fun hb => by (try (have hc := And.left hb; have hb := And.right hb; rw [hc])); (try rw [hb]); first | exact (y_callA (q1) ⟨rfl, rfl, rfl⟩) | exact (y_callRA (q2) ⟨rfl, rfl⟩) | exact V.y vAuto) ?_)
    | (show VG _ _ _ _ _ _ _ _; refine VG.mk (fun hb => by (try (have hc := And.left hb; have hb := And.right hb; rw [hc])); (try rw [hb]); exact vAuto) ?_)
    | (refine nxX ?_)
    | (refine G.condN rfl (fun hc => ?_) (fun hc => ?_) <;> (try first | exact False.elim hc | (exfalso; omega))))
  exact X.ret (vs := [_]) rfl ⟨rfl, rfl⟩ rfl (fun w hw => ⟨rfl, hw.ext⟩)
end
section
variable {P : Program} {ops : Array Oper} {Q : Exit → Act → World → Prop} {n : Nat} {L : FL} {w0 : World} {H : List Hl} {dd : Tmp} {ty : TypeId} {pos : String} {af : Array Edge} {t e : TypeId} {bytes : Nat} {x : Operand} {a : Cel} {rest : List Oper} {j gg : Nat} {want bb : Bool}
theorem x_lit1K (hx : evO L x = some (kV a)) [ht : RowTy P t e 3 bytes] (hd : Nat.blt dd n = true) {gd : Option (Nat × Bool)} : EX P n L w0 H ⟨some dd, .buildSlice t 1 #[(0, x)], ty, pos, af, gd⟩ (fun _ : Sl => True) (fun v' => (dd, v'.v) :: L) (fun v' => Hl.rw v'.v e cK 3 [a] :: H) :=
  x_litS (parts := [(0, x)]) (vs := [kV a]) (cs := cK a) (f := cK) (l := [a]) ⟨hx, rfl⟩ rfl rfl rfl rfl (fun zs hz => by
    match zs, hz with
    | [_, _, _], _ => rfl) rfl rfl rfl (rowTy_B ht.is) hd
/-- A slice of one cell, under a guard that is known. -/
theorem RS.lit1KT (h : ∀ v' : Sl, RS P ops Q n ((dd, v'.v) :: L) w0 (Hl.rw v'.v e cK 3 [a] :: H) rest) (hx : evO L x = some (kV a)) [ht : RowTy P t e 3 bytes] (hj : (ops[j]?).bind (·.dst) = some gg) (hl : lk L gg = some (.bool bb)) (hb : bb = want) (hd : Nat.blt dd n = true := by rfl) :
    RS P ops Q n L w0 H (⟨some dd, .buildSlice t 1 #[(0, x)], ty, pos, af, some (j, want)⟩ :: rest) := RS.actXT hj hl hb (x_lit1K hx hd) fun v' _ => h v'
end
theorem built_zl : Tryz.prog.built 64 [] = some [.int .i64 0, .int .i64 0, .int .i64 0, .int .i64 0, .int .i64 0, .int .i64 0].toArray := by kernel_rfl
theorem built_nl (la lo : Int) : Tryz.prog.built 64 [(0, .agg [.int .i64 la, .int .i64 lo].toArray), (1, .agg [.int .i64 (-1), .int .i64 0].toArray)] = some [.int .i64 la, .int .i64 lo, .int .i64 (-1), .int .i64 0, .int .i64 0, .int .i64 0].toArray := by kernel_rfl
theorem lval_neg {la lo : Int} : lvalB la lo (-1) 0 0 0 = false := by simp [lvalB]
theorem perm_y2 {a b x1 x2 : Hl} {A : List Hl} : (a :: b :: (A ++ [x1, x2])).Perm (x1 :: x2 :: a :: b :: A) := by
  classical
  refine List.perm_iff_count.2 fun c => ?_
  simp only [List.count_cons, List.count_append, List.count_nil]
  omega
theorem perm_y4 {a b x0 x1 x2 x3 : Hl} {A : List Hl} : (x0 :: x1 :: x2 :: x3 :: a :: b :: A).Perm ((a :: b :: A) ++ [x0, x1, x2, x3]) := by
  classical
  refine List.perm_iff_count.2 fun c => ?_
  simp only [List.count_cons, List.count_append, List.count_nil]
  omega
/-- A new sheet's text. -/
theorem tx_new {la lo u cs : Int} {wd b : Nat} {z : Sl} {rs : List Sl} {xt : Nat → List Value} (hw : 11 ≤ wd ∧ wd ≤ 121) (hz : NewP wd (b, z, rs, xt)) : ContIn Tryz.prog (TxW b la lo u cs z (newR wd rs) wd) 15 [ptS b] (strV (txtS (List.replicate (2 * ((wd - 1) / 4) + 1) (List.replicate wd 46)))) := by
  have hl : rs.length = 2 * ((wd - 1) / 4) + 1 := hz.len
  have e : (newR wd rs).map Prod.snd = List.replicate (2 * ((wd - 1) / 4) + 1) (List.replicate wd 46) := by
    rw [← hl]
    unfold newR
    rw [List.map_map]
    exact List.map_const' ..
  have q := text_c (b := b) (la := la) (lo := lo) (u := u) (cs := cs) (z := z) (rs := newR wd rs) (wd := wd) (fun r hr => by
    obtain ⟨s, _, rfl⟩ := List.mem_map.1 hr
    refine ⟨List.length_replicate, fun n hn => ?_⟩
    obtain rfl := List.eq_of_mem_replicate hn
    omega) (by rw [List.length_map]; omega) (by omega)
  rw [e] at q
  exact q
end Go.Proofs.YthilhhegchmjeaaGreatDoor
/- PlotRegions: the walk of the law. -/
set_option linter.unusedVariables false
set_option maxHeartbeats 8000000
namespace Go.Proofs.YthilhhegchmjeaaGreatDoor
open Go.RowKit
/-- A pixel of a drawing on a new sheet. -/
theorem px_at {sel : Nat → Nat → Bool} {m : Int} {wd h i j : Nat} (hi : i < wd) (hj : j < h) : nth (nth ((pixL sel m wd h).map toB) (j : Int)) (i : Int) = if sel i j then UInt8.ofNat m.toNat else 46 := by
  have e1 : nth ((pixL sel m wd h).map toB) (j : Int) = toB (pK (fun i => sel i j) m wd (List.replicate wd 46)) := by
    unfold nth pixL
    rw [Int.toNat_natCast, List.getD_eq_getElem?_getD, List.getElem?_map, List.getElem?_map, List.getElem?_range hj]; rfl
  rw [e1]
  unfold nth toB
  rw [Int.toNat_natCast, List.getD_eq_getElem?_getD, List.getElem?_map, pK_get (by rw [List.length_replicate]; exact hi), decide_eq_true hi, Bool.true_and]
  cases sel i j with
  | true => rfl
  | false =>
    rw [List.getD_eq_getElem?_getD, List.getElem?_replicate, if_pos hi]; rfl
theorem rg_no {la lo u wd : Int} {v : Value} {l : List Cel} (hno : 31 < wd ∧ wd ≤ 121 ∨ 60 < l.length) (hl : l.length ≤ 9223372036854775807) : ContR Tryz.prog [Hl.rd v cK 3 l] 5 [ptV la lo, .int .i64 u, .int .i64 wd, v] (.bool true) := fun w hw0 => by
  refine enter Tryz.func5 rfl rfl rfl hw0 ?_
  repeat' (first
    | (refine nxN ?_)
    | (show YG _ _ _ _ _ _ ⟨some 36, _, _, _, _, _⟩ _; refine YG.mk (v := .bool true) (fun hb => by exfalso; simp at hb; omega) ?_)
    | (show YK _ _ _ _ _ _ _; first | refine YK.mk (y_callA (awake49_c) rfl) ?_)
    | (show YK _ _ _ _ _ _ _; refine YK.ofV vAuto ?_)
    | (show VK _ _ _ _ _ _ _; refine VK.mk vAuto ?_)
    | (show RS _ _ _ _ _ _ _ _; first | (refine nxRS ?_) | (refine nxRS1 fun _ => ?_))
    | (show RM _ _ _ _ _ _ _ _ _ _; first | (refine nxRM ?_) | (refine nxRM1 fun _ => ?_))
    | (show YG _ _ _ _ _ _ _ _; refine YG.mk (fun hb => by (try (have hc := And.left hb; have hb := And.right hb; rw [hc])); (try rw [hb]); first | exact (y_callA (awake49_c) rfl) | exact V.y vAuto) ?_)
    | (show VG _ _ _ _ _ _ _ _; refine VG.mk (fun hb => by (try (have hc := And.left hb; have hb := And.right hb; rw [hc])); (try rw [hb]); exact vAuto) ?_)
    | (refine nxX ?_)
    | (refine G.condN rfl (fun hc => ?_) (fun hc => ?_) <;> (try first | exact False.elim hc | (exfalso; omega))))
  all_goals first | (exfalso; omega) | exact X.ret (vs := [_]) rfl ⟨rfl, rfl⟩ rfl (fun w hw => ⟨rfl, hw.ext⟩) | trace_state
theorem rg_inv {la lo u wd : Int} {v : Value} {l : List Cel} (hno : ¬ (31 < wd ∧ wd ≤ 121)) (hl : l.length ≤ 60) (q : ContR Tryz.prog [Hl.rd v cK 3 l] 23 [v] (.bool false)) : ContR Tryz.prog [Hl.rd v cK 3 l] 5 [ptV la lo, .int .i64 u, .int .i64 wd, v] (.bool true) := fun w hw0 => by
  refine enter Tryz.func5 rfl rfl rfl hw0 ?_
  repeat' (first
    | (refine nxN ?_)
    | (show YK _ _ _ _ _ _ _; first | refine YK.mk (y_callA (awake49_c) rfl) ?_ | refine YK.mk (y_callRA (q) ⟨rfl, rfl⟩) ?_)
    | (show YK _ _ _ _ _ _ _; refine YK.ofV vAuto ?_)
    | (show VK _ _ _ _ _ _ _; refine VK.mk vAuto ?_)
    | (show RS _ _ _ _ _ _ _ _; first | (refine nxRS ?_) | (refine nxRS1 fun _ => ?_))
    | (show RM _ _ _ _ _ _ _ _ _ _; first | (refine nxRM ?_) | (refine nxRM1 fun _ => ?_))
    | (show YG _ _ _ _ _ _ _ _; refine YG.mk (fun hb => by (try (have hc := And.left hb; have hb := And.right hb; rw [hc])); (try rw [hb]); first | exact (y_callA (awake49_c) rfl) | exact (y_callRA (q) ⟨rfl, rfl⟩) | exact V.y vAuto) ?_)
    | (show VG _ _ _ _ _ _ _ _; refine VG.mk (fun hb => by (try (have hc := And.left hb; have hb := And.right hb; rw [hc])); (try rw [hb]); exact vAuto) ?_)
    | (refine nxX ?_)
    | (refine G.condN rfl (fun hc => ?_) (fun hc => ?_) <;> (try first | exact False.elim hc | (exfalso; omega))))
  all_goals first | (exfalso; omega) | (exfalso; simp at hc; omega) | exact X.ret (vs := [_]) rfl ⟨rfl, rfl⟩ rfl (fun w hw => ⟨rfl, hw.ext⟩) | trace_state
theorem rg_ref {la lo u wd e : Int} {v : Value} {l : List RR.CellT} (hno : ¬ (31 < wd ∧ wd ≤ 121)) (hl : l.length ≤ 60) (q : ContR Tryz.prog [Hl.rd v cT 3 l] 23 [v] (.bool true)) (he : newE la lo u wd = e) (h0 : e = 1 ∨ e = 2) : ContR Tryz.prog [Hl.rd v cT 3 l] 5 [ptV la lo, .int .i64 u, .int .i64 wd, v] (.bool true) := fun w hw0 => by
  have q1 := made_no he h0
  refine enter Tryz.func5 rfl rfl rfl hw0 ?_
  repeat' (first
    | (refine nxN ?_)
    | (show YK _ _ _ _ _ ⟨some 51, _, _, _, _, _⟩ _; refine YK.ofV (y_eqNil0 rfl rfl sh_ptr) ?_)
    | (show YG _ _ _ _ _ _ ⟨some 51, _, _, _, _, _⟩ _; refine YG.mk (fun hb => (y_eqNil0 rfl rfl sh_ptr).y) ?_)
    | (show VG _ _ _ _ _ _ ⟨some 51, _, _, _, _, _⟩ _; refine VG.mk (fun hb => y_eqNil0 rfl rfl sh_ptr) ?_)
    | (show YK _ _ _ _ _ _ _; first | refine YK.mk (y_callA (awake49_c) rfl) ?_ | refine YK.mk (y_callRA (q) ⟨rfl, rfl⟩) ?_ | refine YK.mk (y_callA (q1) ⟨rfl, rfl, rfl, rfl⟩) ?_)
    | (show YK _ _ _ _ _ _ _; refine YK.ofV vAuto ?_)
    | (show VK _ _ _ _ _ _ _; refine VK.mk vAuto ?_)
    | (show RS _ _ _ _ _ _ _ _; first | (refine nxRS ?_) | (refine nxRS1 fun _ => ?_))
    | (show RM _ _ _ _ _ _ _ _ _ _; first | (refine nxRM ?_) | (refine nxRM1 fun _ => ?_))
    | (show YG _ _ _ _ _ _ _ _; refine YG.mk (fun hb => by (try (have hc := And.left hb; have hb := And.right hb; rw [hc])); (try rw [hb]); first | exact (y_callA (awake49_c) rfl) | exact (y_callRA (q) ⟨rfl, rfl⟩) | exact (y_callA (q1) ⟨rfl, rfl, rfl, rfl⟩) | exact V.y vAuto) ?_)
    | (show VG _ _ _ _ _ _ _ _; refine VG.mk (fun hb => by (try (have hc := And.left hb; have hb := And.right hb; rw [hc])); (try rw [hb]); exact vAuto) ?_)
    | (refine nxX ?_)
    | (refine G.condN rfl (fun hc => ?_) (fun hc => ?_) <;> (try first | exact False.elim hc | (exfalso; omega))))
  all_goals first | (exfalso; omega) | (exfalso; simp at hc; omega) | exact X.ret (vs := [_]) rfl ⟨rfl, rfl⟩ rfl (fun w hw => ⟨rfl, hw.ext⟩) | trace_state
end Go.Proofs.YthilhhegchmjeaaGreatDoor
/- PlotRegions: a region drawn on a new sheet is seen where it is. -/
set_option linter.unusedVariables false
set_option maxHeartbeats 8000000
namespace Go.Proofs.YthilhhegchmjeaaGreatDoor
open Go.RowKit
theorem perm_z3 {a b x0 x1 x2 : Hl} {A : List Hl} : (x0 :: x1 :: x2 :: a :: b :: A).Perm ((a :: b :: A) ++ [x0, x1, x2]) := by
  classical
  refine List.perm_iff_count.2 fun c => ?_
  simp only [List.count_cons, List.count_append, List.count_nil]
  omega
theorem rg_ok {la lo u : Int} {wd : Nat} {v : Sl} {l : List RR.CellT} (hl : l.length ≤ 60) (q : ContR Tryz.prog [Hl.rd v.v cT 3 l] 23 [v.v] (.bool true)) (okl : ∀ x ∈ l, RR.okC x) (hv : RR.IdxOk l)
    (hp : pointB la lo = true) (hla : -4800000 ≤ la ∧ la ≤ 4800000) (hu : 2 ≤ u ∧ u ≤ 100000) (hw : 11 ≤ wd ∧ wd ≤ 31) (ho : wd % 2 = 1) (w : World) (hI : LaidM w) (hw0 : ∀ h ∈ [Hl.rd v.v cT 3 l], Hl.holds w.heap.size w h ∧ h.excl = false) : Calls Tryz.prog 5 [ptV la lo, .int .i64 u, .int .i64 (wd : Int), v.v].toArray w (fun e w' => e = .returned (.bool true) ∧ Below w.heap.size w w') := by
  have qm := made_ok hp hla hu (by omega) ho
  have hC : RgR v.v l w := (hw0 _ (.head _)).1.1
  refine enter Tryz.func5 rfl rfl rfl hw0 ?_
  repeat' (first
    | (refine nxN ?_)
    | (show RS _ _ _ _ _ _ _ (⟨some 43, _, _, _, _, _⟩ :: _); refine RS.callL qm trivial ?_ ⟨rfl, rfl, rfl, rfl⟩; rintro ⟨⟨b, z, rs, xt⟩, y0⟩ ha; dsimp only [List.cons_append, List.nil_append]; refine RS.permH ?_ perm_y2; have hlen := ha.len; dsimp only at hlen; have hok := shok_new hp hla hu (by omega) ha.len ha.ok; have qr := region_ok (xt := xt) (b := b) (z := z) (m := 43) (v := v) (rs := newR wd rs) (by (rw [newR_fst]; exact hok)) (newR_ok ha.ok) (by omega) okl hv (by omega); rw [newR_fst, show (newR wd rs).length = rs.length from List.length_map _] at qr)
    | (show YK _ _ _ _ _ ⟨some 51, _, _, _, _, _⟩ _; refine YK.ofV (y_eqNil1 rfl rfl sh_ptr) ?_)
    | (show YG _ _ _ _ _ _ ⟨some 51, _, _, _, _, _⟩ _; refine YG.mk (fun hb => (y_eqNil1 rfl rfl sh_ptr).y) ?_)
    | (show VG _ _ _ _ _ _ ⟨some 51, _, _, _, _, _⟩ _; refine VG.mk (fun hb => y_eqNil1 rfl rfl sh_ptr) ?_)
    | (show RS _ _ _ _ _ _ _ (⟨some 56, _, _, _, _, _⟩ :: _); refine RS.callPm qr hC perm_z3 ?_ ⟨rfl, rfl, rfl, rfl⟩; rintro ⟨⟩ -; refine RS.permH ?_ perm_z3.symm)
    | (show YK _ _ _ _ _ ⟨some 59, .call { callee := .value (.func 15), args := _, argTypes := _ }, _, _, _, _⟩ _; refine YK.mk (y_callIn (tx_sel (m := 43) (by omega) (by omega) ha) (fun w' hw' => TxW.ofSt (xt := xt) hw' (by exact memA) (by (rw [pR_fst, newR_fst]; exact memA)) (fun h hm => .tail _ (.tail _ (.tail _ (.tail _ (.tail _ hm))))) (pR_ok (newR_ok ha.ok)) (by (rw [pR_len, List.length_map]; omega))) ⟨rfl, rfl⟩ (by decide +kernel)) ?_)
    | (show YG _ _ _ _ _ _ ⟨some 59, .call { callee := .value (.func 15), args := _, argTypes := _ }, _, _, _, _⟩ _; refine YG.mk (fun hb => by (try (have hc := And.left hb; have hb := And.right hb; rw [hc])); (try rw [hb]); exact y_callIn (tx_sel (m := 43) (by omega) (by omega) ha) (fun w' hw' => TxW.ofSt (xt := xt) hw' (by exact memA) (by (rw [pR_fst, newR_fst]; exact memA)) (fun h hm => .tail _ (.tail _ (.tail _ (.tail _ (.tail _ hm))))) (pR_ok (newR_ok ha.ok)) (by (rw [pR_len, List.length_map]; omega))) ⟨rfl, rfl⟩ (by decide +kernel)) ?_)
    | (show RS _ _ _ _ _ _ _ (⟨some 61, _, _, _, _, _⟩ :: _); refine RS.callI (rw_sel (m := 43) (by omega) (by omega)) ⟨rfl, rfl, rfl⟩ (fun w' hw' => hI.keep hw'.ext) ?_; rintro z2 -; dsimp only [List.cons_append, List.nil_append])
    | (show YK _ _ _ _ _ _ _; first | refine YK.mk (y_callA (awake49_c) rfl) ?_ | refine YK.mk (y_callRA (q) ⟨rfl, rfl⟩) ?_)
    | (show YK _ _ _ _ _ _ _; refine YK.ofV vAuto ?_)
    | (show VK _ _ _ _ _ _ _; refine VK.mk vAuto ?_)
    | (show RS _ _ _ _ _ _ _ _; first | (refine nxRS ?_) | (refine nxRS1 fun _ => ?_))
    | (show RM _ _ _ _ _ _ _ _ _ _; first | (refine nxRM ?_) | (refine nxRM1 fun _ => ?_))
    | (show YG _ _ _ _ _ _ _ _; refine YG.mk (fun hb => by (try (have hc := And.left hb; have hb := And.right hb; rw [hc])); (try rw [hb]); first | exact (y_callA (awake49_c) rfl) | exact (y_callRA (q) ⟨rfl, rfl⟩) | exact V.y vAuto) ?_)
    | (show VG _ _ _ _ _ _ _ _; refine VG.mk (fun hb => by (try (have hc := And.left hb; have hb := And.right hb; rw [hc])); (try rw [hb]); exact vAuto) ?_)
    | (refine nxX ?_)
    | (refine G.condN rfl (fun hc => ?_) (fun hc => ?_) <;> (try first | exact False.elim hc | (exfalso; omega))))
  all_goals first | (exfalso; omega) | (exfalso; simp at hc; done) | skip
  have hLl : ((pixL (regSel wd rs.length la lo u (TT.cosE la la).1 l) 43 wd (2 * ((wd - 1) / 4) + 1)).map toB).length = 2 * ((wd - 1) / 4) + 1 := by simp [pixL]
  have hpx := fun (i j : Nat) (hi : i < wd) (hj : j < 2 * ((wd - 1) / 4) + 1) => px_at (sel := regSel wd rs.length la lo u (TT.cosE la la).1 l) (m := 43) (wd := wd) (h := 2 * ((wd - 1) / 4) + 1) hi hj
  have hrow : ∀ j : Nat, j < 2 * ((wd - 1) / 4) + 1 → (nth ((pixL (regSel wd rs.length la lo u (TT.cosE la la).1 l) 43 wd (2 * ((wd - 1) / 4) + 1)).map toB) (j : Int)).length = wd := fun j hj => by
    refine (pix_rowsM (m := 43) (sel := regSel wd rs.length la lo u (TT.cosE la la).1 l) (wd := wd) (h := 2 * ((wd - 1) / 4) + 1) (by omega) _ ?_).1
    rw [nth_mem (by rw [hLl]; exact hj)]
    exact List.getElem_mem _
  generalize (pixL (regSel wd rs.length la lo u (TT.cosE la la).1 l) 43 wd (2 * ((wd - 1) / 4) + 1)).map toB = LL at *
  refine G.loop (ι := Nat) (fun j => [(2, .int .i64 (wd : Int)), (3, v.v), (9, ptS b), (13, z2.v), (71, .int .i64 (LL.length : Int)), (72, .int .i64 (j : Int))]) (fun _ => [Hl.nw z2.v cS 1 LL, Hl.rd v.v cT 3 l, shB b la lo u (TT.cosE la la).1 z.v, rwS z rs]) (fun j => j ≤ LL.length) (fun j => LL.length - j) 0 (Nat.zero_le _) ⟨rfl, rfl, rfl, rfl, rfl, rfl, trivial⟩ (fun w' h => h.sub (by repeat (first | exact List.nil_sublist _ | exact List.Sublist.refl _ | apply List.Sublist.cons_cons | apply List.Sublist.cons))) ?_
  rintro j mx g1 hmx
  (try dsimp only at g1 hmx ⊢)
  rcases Nat.lt_or_ge j LL.length with hj | hj
  · have hrj := hrow j (by omega)
    repeat' (first
    | (refine nxN ?_)
    | (refine nxV ?_)
    | (show RS _ _ _ _ _ _ _ _; first | (refine nxRS ?_) | (refine nxRS1 fun _ => ?_))
    | (show RM _ _ _ _ _ _ _ _ _ _; first | (refine nxRM ?_) | (refine nxRM1 fun _ => ?_))
    | (refine nxG ?_)
    | (refine nxX ?_)
    | (refine G.condN rfl (fun hc => ?_) (fun hc => ?_) <;> (try first | exact False.elim hc | (exfalso; omega))))
    refine G.loop (ι := Nat) (fun i => [(2, .int .i64 (wd : Int)), (3, v.v), (9, ptS b), (13, z2.v), (15, .int .i64 (j : Int)), (71, .int .i64 (LL.length : Int)), (72, .int .i64 (j : Int)), (75, .int .i64 (wd : Int)), (76, .int .i64 (i : Int))]) (fun _ => [Hl.nw z2.v cS 1 LL, Hl.rd v.v cT 3 l, shB b la lo u (TT.cosE la la).1 z.v, rwS z rs]) (fun i => i ≤ wd) (fun i => wd - i) 0 (Nat.zero_le _) ⟨rfl, rfl, rfl, rfl, rfl, rfl, rfl, rfl, rfl, trivial⟩ (by exact fun w h => h.sub (by repeat (first | exact List.Sublist.refl _ | apply List.Sublist.cons_cons | apply List.Sublist.cons))) ?_
    rintro i mx2 k1 hmx2
    (try dsimp only at k1 hmx2 ⊢)
    rcases Nat.lt_or_ge i wd with hi | hi
    · have hat := hpx i j hi (by omega)
      have q2 := point_c (b := b) (z := z) hok (i := (i : Int)) (j := (j : Int)) (by omega) (by omega)
      by_cases he : (pntI wd rs.length la lo u (TT.cosE la la).1 i j).2.2 = 0
      · have hq := pnt_ok he
        have hcon := ccon_c v.v l okl hv (by omega) hq
        unfold regSel at hat
        rw [decide_eq_true he, Bool.true_and] at hat
        rw [he] at q2
        generalize (pntI wd rs.length la lo u (TT.cosE la la).1 i j).1 = x at *
        generalize (pntI wd rs.length la lo u (TT.cosE la la).1 i j).2.1 = y at *
        generalize conB l x y = cb at *
        have hdec : decide (((nth (nth LL (j : Int)) (i : Int)).toNat : Int) = 43) = cb := by
          rw [hat]; cases cb <;> rfl
        repeat' (first
    | (show YK _ _ _ _ _ ⟨_, .call { callee := .builtin .len, args := _, argTypes := #[9] }, _, _, _, _⟩ _; refine YK.ofV (y_lenS (by rfl) StrTy.is) ?_)
    | (show VK _ _ _ _ _ ⟨_, .call { callee := .builtin .len, args := _, argTypes := #[9] }, _, _, _, _⟩ _; refine VK.mk (y_lenS (by rfl) StrTy.is) ?_)
    | (show YG _ _ _ _ _ _ ⟨_, .call { callee := .builtin .len, args := _, argTypes := #[9] }, _, _, _, _⟩ _; refine YG.mk (fun hb => by (try (have hc := And.left hb; have hb := And.right hb; rw [hc])); (try rw [hb]); exact V.y (y_lenS (by rfl) StrTy.is)) ?_)
    | (show VG _ _ _ _ _ _ ⟨_, .call { callee := .builtin .len, args := _, argTypes := #[9] }, _, _, _, _⟩ _; refine VG.mk (fun hb => by (try (have hc := And.left hb; have hb := And.right hb; rw [hc])); (try rw [hb]); exact y_lenS (by rfl) StrTy.is) ?_)
    | (refine nxN ?_)
    | (show YK _ _ _ _ _ ⟨some 83, .call { callee := .value (.func 10), args := _, argTypes := _ }, _, _, _, _⟩ _; refine YK.mk (y_callIn (q2) (fun w' hw' => ShR.ofSt hw' (by exact memA) (by exact memA)) ⟨rfl, rfl, rfl, rfl⟩ (by decide +kernel)) ?_)
    | (show YG _ _ _ _ _ _ ⟨some 83, .call { callee := .value (.func 10), args := _, argTypes := _ }, _, _, _, _⟩ _; refine YG.mk (fun hb => by (try (have hc := And.left hb; have hb := And.right hb; rw [hc])); (try rw [hb]); exact y_callIn (q2) (fun w' hw' => ShR.ofSt hw' (by exact memA) (by exact memA)) ⟨rfl, rfl, rfl, rfl⟩ (by decide +kernel)) ?_)
    | (show YK _ _ _ _ _ _ _; first | refine YK.mk (y_callRA (hcon) ⟨rfl, rfl, rfl⟩) ?_)
    | (show YK _ _ _ _ _ _ _; refine YK.ofV vAuto ?_)
    | (show VK _ _ _ _ _ _ _; refine VK.mk vAuto ?_)
    | (show RS _ _ _ _ _ _ _ _; first | (refine nxRS ?_) | (refine nxRS1 fun _ => ?_))
    | (show RM _ _ _ _ _ _ _ _ _ _; first | (refine nxRM ?_) | (refine nxRM1 fun _ => ?_))
    | (show YG _ _ _ _ _ _ _ _; refine YG.mk (fun hb => by (try (have hc := And.left hb; have hb := And.right hb; rw [hc])); (try rw [hb]); first | exact (y_callRA (hcon) ⟨rfl, rfl, rfl⟩) | exact V.y vAuto) ?_)
    | (show VG _ _ _ _ _ _ _ _; refine VG.mk (fun hb => by (try (have hc := And.left hb; have hb := And.right hb; rw [hc])); (try rw [hb]); exact vAuto) ?_)
    | (refine nxVS ?_)
    | (refine nxGS ?_)
    | (refine nxX ?_)
    | (refine G.condN rfl (fun hc => ?_) (fun hc => ?_) <;> (try first | exact False.elim hc | (exfalso; omega))))
        · exfalso
          rw [hdec] at hc
          simp at hc
        · exact X.again (i + 1) (by omega) (by omega) ⟨rfl, rfl, rfl, rfl, rfl, rfl, rfl, rfl, rfl, trivial⟩ (by exact fun w h => h.sub (by repeat (first | exact List.Sublist.refl _ | apply List.Sublist.cons_cons | apply List.Sublist.cons)))
      · have he25 : (pntI wd rs.length la lo u (TT.cosE la la).1 i j).2.2 = 25 := by
          have hh : hasI wd rs.length (i : Int) (j : Int) = true := by
            simp only [hasI, Bool.and_eq_true, decide_eq_true_eq]; omega
          unfold pntI at he ⊢
          rw [if_pos hh] at he ⊢
          split at he
          · exact absurd rfl he
          · rename_i h2
            rw [if_neg h2]
        unfold regSel at hat
        rw [decide_eq_false he, Bool.false_and] at hat
        rw [he25] at q2
        generalize (pntI wd rs.length la lo u (TT.cosE la la).1 i j).1 = x at *
        generalize (pntI wd rs.length la lo u (TT.cosE la la).1 i j).2.1 = y at *
        repeat' (first
    | (show YK _ _ _ _ _ ⟨_, .call { callee := .builtin .len, args := _, argTypes := #[9] }, _, _, _, _⟩ _; refine YK.ofV (y_lenS (by rfl) StrTy.is) ?_)
    | (show VK _ _ _ _ _ ⟨_, .call { callee := .builtin .len, args := _, argTypes := #[9] }, _, _, _, _⟩ _; refine VK.mk (y_lenS (by rfl) StrTy.is) ?_)
    | (show YG _ _ _ _ _ _ ⟨_, .call { callee := .builtin .len, args := _, argTypes := #[9] }, _, _, _, _⟩ _; refine YG.mk (fun hb => by (try (have hc := And.left hb; have hb := And.right hb; rw [hc])); (try rw [hb]); exact V.y (y_lenS (by rfl) StrTy.is)) ?_)
    | (show VG _ _ _ _ _ _ ⟨_, .call { callee := .builtin .len, args := _, argTypes := #[9] }, _, _, _, _⟩ _; refine VG.mk (fun hb => by (try (have hc := And.left hb; have hb := And.right hb; rw [hc])); (try rw [hb]); exact y_lenS (by rfl) StrTy.is) ?_)
    | (refine nxN ?_)
    | (show YK _ _ _ _ _ ⟨some 83, .call { callee := .value (.func 10), args := _, argTypes := _ }, _, _, _, _⟩ _; refine YK.mk (y_callIn (q2) (fun w' hw' => ShR.ofSt hw' (by exact memA) (by exact memA)) ⟨rfl, rfl, rfl, rfl⟩ (by decide +kernel)) ?_)
    | (show YG _ _ _ _ _ _ ⟨some 83, .call { callee := .value (.func 10), args := _, argTypes := _ }, _, _, _, _⟩ _; refine YG.mk (fun hb => by (try (have hc := And.left hb; have hb := And.right hb; rw [hc])); (try rw [hb]); exact y_callIn (q2) (fun w' hw' => ShR.ofSt hw' (by exact memA) (by exact memA)) ⟨rfl, rfl, rfl, rfl⟩ (by decide +kernel)) ?_)
    | (refine nxV ?_)
    | (show RS _ _ _ _ _ _ _ _; first | (refine nxRS ?_) | (refine nxRS1 fun _ => ?_))
    | (show RM _ _ _ _ _ _ _ _ _ _; first | (refine nxRM ?_) | (refine nxRM1 fun _ => ?_))
    | (refine nxG ?_)
    | (refine nxVS ?_)
    | (refine nxGS ?_)
    | (refine nxX ?_)
    | (refine G.condN rfl (fun hc => ?_) (fun hc => ?_) <;> (try first | exact False.elim hc | (exfalso; omega))))
        · exact absurd (by rw [hat]; rfl) hc
        · exact X.again (i + 1) (by omega) (by omega) ⟨rfl, rfl, rfl, rfl, rfl, rfl, rfl, rfl, rfl, trivial⟩ (by exact fun w h => h.sub (by repeat (first | exact List.Sublist.refl _ | apply List.Sublist.cons_cons | apply List.Sublist.cons)))
    · repeat' (first
    | (refine nxN ?_)
    | (refine nxV ?_)
    | (show RS _ _ _ _ _ _ _ _; first | (refine nxRS ?_) | (refine nxRS1 fun _ => ?_))
    | (show RM _ _ _ _ _ _ _ _ _ _; first | (refine nxRM ?_) | (refine nxRM1 fun _ => ?_))
    | (refine nxG ?_)
    | (refine nxX ?_)
    | (refine G.condN rfl (fun hc => ?_) (fun hc => ?_) <;> (try first | exact False.elim hc | (exfalso; omega))))
      all_goals first | (exfalso; omega) | exact X.again (j + 1) (by omega) (by omega) ⟨rfl, rfl, rfl, rfl, rfl, rfl, trivial⟩ (by exact fun w h => h.sub (by repeat (first | exact List.Sublist.refl _ | apply List.Sublist.cons_cons | apply List.Sublist.cons)))
  · repeat' (first
    | (refine nxN ?_)
    | (refine nxV ?_)
    | (show RS _ _ _ _ _ _ _ _; first | (refine nxRS ?_) | (refine nxRS1 fun _ => ?_))
    | (show RM _ _ _ _ _ _ _ _ _ _; first | (refine nxRM ?_) | (refine nxRM1 fun _ => ?_))
    | (refine nxG ?_)
    | (refine nxX ?_)
    | (refine G.condN rfl (fun hc => ?_) (fun hc => ?_) <;> (try first | exact False.elim hc | (exfalso; omega))))
    all_goals first | (exfalso; omega) | exact X.ret (vs := [_]) rfl ⟨rfl, rfl⟩ rfl (fun w hw => ⟨rfl, hw.ext⟩)
/-- PlotRegions answers true. -/
theorem regions_law {la lo u wd : Int} (v : Sl) (l : List Cel) (lm : l.length ≤ 9223372036854775807) (W : World) (hI : LaidM W) (ro : RO W v.v 3 l.length (l.flatMap cK)) : Calls Tryz.prog 5 [ptV la lo, .int .i64 u, .int .i64 wd, v.v].toArray W (fun e w' => e = .returned (.bool true) ∧ Below W.heap.size W w') := by
  have hw0 : ∀ h ∈ [Hl.rd v.v cK 3 l], Hl.holds W.heap.size W h ∧ h.excl = false := fun h hm => by
    rcases List.mem_singleton.1 hm with rfl
    exact ⟨⟨ro, fun g => by cases g⟩, rfl⟩
  by_cases hno : 31 < wd ∧ wd ≤ 121 ∨ 60 < l.length
  · exact rg_no hno lm W hw0
  · have hl : l.length ≤ 60 := by omega
    have hwd : ¬ (31 < wd ∧ wd ≤ 121) := by omega
    clear hno
    cases ha : l.all ckB with
    | false => exact rg_inv hwd hl (rvreg_bad v.v l (by omega) ha) W hw0
    | true =>
      obtain ⟨L, rfl, ok⟩ := ofT_all ha
      rw [List.length_map] at hl
      by_cases hv : RR.IdxOk L
      · have q := rvreg_c v.v L ok (by omega) (bb := true) ⟨fun _ => hv, fun _ => rfl⟩
        rw [rdT_K] at hw0
        by_cases he : newE la lo u wd = 0
        · unfold newE at he
          split at he
          · rename_i hb
            split at he
            · rename_i hg
              simp only [Bool.and_eq_true, decide_eq_true_eq] at hb
              obtain ⟨wn, rfl⟩ := Int.eq_ofNat_of_zero_le (show 0 ≤ wd by omega)
              exact rg_ok hl q ok hv hb.1.1 (by omega) (by omega) (by omega) (by omega) W hI hw0
            · exact absurd he (by decide)
          · exact absurd he (by decide)
        · refine rg_ref hwd hl q rfl ?_ W hw0
          unfold newE at he ⊢
          split
          · split
            · rename_i h1 h2
              rw [if_pos h1, if_pos h2] at he
              exact absurd rfl he
            · exact .inr rfl
          · exact .inl rfl
      · have q := rvreg_c v.v L ok (by omega) (bb := false) ⟨fun h => (by cases h), fun h => absurd h hv⟩
        rw [← rdT_K] at q
        exact rg_inv hwd (by rw [List.length_map]; exact hl) q W hw0
def mkCel (c : Int × Int × Int) : Cel := ⟨c.1, c.2.1, c.2.2⟩
theorem ro_cel {w : World} {v : Value} {b : List (Int × Int × Int)} (h : RO w v 3 b.length (b.flatMap fun c => [.int .i64 c.1, .int .i64 c.2.1, .int .i64 c.2.2])) : RO w v 3 (b.map mkCel).length ((b.map mkCel).flatMap cK) := by
  rw [List.length_map, List.flatMap_map]; exact h
end Go.Proofs.YthilhhegchmjeaaGreatDoor
