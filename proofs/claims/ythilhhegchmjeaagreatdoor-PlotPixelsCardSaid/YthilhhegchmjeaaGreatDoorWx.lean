/- Joined texts: One, Wrp, LawPx, LawPx2, LawPx3, LawPx4, LawPx5. -/
import Derived.Test.YthilhhegchmjeaaGreatDoorWp
import Derived.Test.YthilhhegchmjeaaGreatDoorWq
import Derived.Test.YthilhhegchmjeaaGreatDoorWr
/- One pixel marked on a new sheet, and its text's rows. -/
set_option linter.unusedVariables false
set_option maxHeartbeats 8000000
namespace Go.Proofs.YthilhhegchmjeaaGreatDoor
open Go.RowKit
theorem tx_sel {m la lo u : Int} {wd b : Nat} {z : Sl} {rs : List Sl} {xt : Nat → List Value} {sel : Nat → Nat → Bool} {cs : Int} (hm : 11 ≤ m ∧ m ≤ 255) (hw : 11 ≤ wd ∧ wd ≤ 121) (hz : NewP wd (b, z, rs, xt)) : ContIn Tryz.prog (TxW b la lo u cs z (pR sel m rs.length 0 (newR wd rs)) wd) 15 [ptS b] (strV (lnsS ((pixL sel m wd (2 * ((wd - 1) / 4) + 1)).map toB))) := by
  have hl : rs.length = 2 * ((wd - 1) / 4) + 1 := hz.len
  have hs := pR_new sel m wd rs
  have q := text_c (b := b) (la := la) (lo := lo) (u := u) (cs := cs) (z := z) (rs := pR sel m rs.length 0 (newR wd rs)) (wd := wd) (fun r hr => by
    have hm' : r.2 ∈ pixL sel m wd rs.length := by rw [← hs]; exact List.mem_map.2 ⟨r, hr, rfl⟩
    exact pixL_mem hm' hm) (by rw [pR_len, List.length_map]; omega) (by omega)
  rw [hs] at q
  rw [← hl]
  exact q
theorem pix_rowsM {m : Int} {sel : Nat → Nat → Bool} {wd h : Nat} (hm : 11 ≤ m ∧ m ≤ 255) : ∀ s ∈ (pixL sel m wd h).map toB, s.length = wd ∧ (10 : UInt8) ∉ s := fun s hs => by
  obtain ⟨l, hl, rfl⟩ := List.mem_map.1 hs
  obtain ⟨h1, h2⟩ := pixL_mem hl hm
  refine ⟨by simp [toB, h1], fun hm => ?_⟩
  obtain ⟨i, hi⟩ := List.getElem?_of_mem hm
  have := toB_get h2 hi
  have := h2 _ (List.mem_of_getElem? this)
  simp at this
theorem rw_sel {m : Int} {sel : Nat → Nat → Bool} {wd : Nat} (hm : 11 ≤ m ∧ m ≤ 255) (hw : 11 ≤ wd ∧ wd ≤ 121) : ContXI Tryz.prog LaidM 14 [strV (lnsS ((pixL sel m wd (2 * ((wd - 1) / 4) + 1)).map toB)), .int .i64 (wd : Int)] (fun _ : Sl => True) (fun z => .tuple [z.v, .bool true].toArray) (fun z => [Hl.nw z.v cS 1 ((pixL sel m wd (2 * ((wd - 1) / 4) + 1)).map toB)]) :=
  rows_c (by omega) (pix_rowsM hm) (by simp [pixL])
/-- A mark on a new sheet: one pixel. -/
theorem mark_new {la lo u pla plo m : Int} {wd b i j : Nat} {z : Sl} {rs : List Sl} {xt : Nat → List Value} (hp : pointB la lo = true) (hla : -4800000 ≤ la ∧ la ≤ 4800000) (hu : 2 ≤ u ∧ u ≤ 100000) (hw : 11 ≤ wd ∧ wd ≤ 121) (hz : NewP wd (b, z, rs, xt)) (hm : 33 ≤ m ∧ m ≤ 126) (hq : pointB pla plo = true) (hx : pixI wd rs.length la lo u (TT.cosE la la).1 pla plo = ((i : Int), (j : Int), 0)) (hi : i < wd) (hj : j < rs.length) :
    ContL Tryz.prog (fun _ => True) (shB b la lo u (TT.cosE la la).1 z.v :: rwS z rs :: rowsH xt (newR wd rs)) 13 [ptS b, ptV pla plo, .int .u8 m] (fun _ : Unit => True) (fun _ => .int .i64 0) (fun _ => shB b la lo u (TT.cosE la la).1 z.v :: rwS z rs :: rowsH xt (pR (sel1 i j) m rs.length 0 (newR wd rs))) := by
  have hok := shok_new hp hla hu hw hz.len hz.ok
  have hrs : rs = rs.take j ++ rs[j] :: rs.drop (j + 1) := by rw [List.getElem_cons_drop, List.take_append_drop]
  have hA : (rs.take j).length = j := by rw [List.length_take]; omega
  simp only [pointB, Bool.and_eq_true, decide_eq_true_eq] at hq
  have q := mark_ok (b := b) (z := z) (xt := xt) (rs := newR wd rs) (A := newR wd (rs.take j)) (B := newR wd (rs.drop (j + 1))) (r := (rs[j], List.replicate wd 46)) (pla := pla) (plo := plo) (m := m) (i := i) (j := j) (by rw [newR_fst]; exact hok) hm (by omega) (by omega) (by rw [newR_fst]; exact hx)
    (by
      have := congrArg (newR wd) hrs
      rw [this]
      simp only [newR, List.map_append, List.map_cons]) (by rw [List.length_map]; exact hA) hi List.length_replicate (hz.ok _ (List.getElem_mem hj))
  rw [newR_fst, pR_one hrs hA] at q
  exact q
end Go.Proofs.YthilhhegchmjeaaGreatDoor
/- PlotPixels: what the reference calls wrapped. -/
set_option linter.unusedVariables false
set_option maxHeartbeats 8000000
namespace Go.Proofs.YthilhhegchmjeaaGreatDoor
open Go.RowKit
section
variable {P : Program} {n : Nat} {L : FL} {w0 : World} {H : List Hl} {d : Option Nat} {ty : TypeId} {pos : String} {af : Array Edge} {g : Option (Nat × Bool)} {x : Operand} {v : Value} {t : TypeId}
/-- Where a field lies that is one cell. -/
def fieldSc (P : Program) (t : TypeId) (f : Nat) : Option Nat :=
  match P.underlying t with
  | some (.struct fs) => match fs[f]? with
    | some fd => if scalarB P fd.type = true then some fd.offset else none
    | none => none
  | _ => none
/-- A field of a struct that lies in a slot: one cell. -/
theorem y_fieldS {vs : Array Value} {fl k : Nat} (hx : evO L x = some (.agg vs)) (hf : fieldSc P t fl = some k) (hv : vs[k]? = some v) : V P n L w0 H ⟨d, .field t x fl, ty, pos, af, g⟩ v := by
  unfold V
  intro a w ha _
  unfold fieldSc at hf
  split at hf
  · rename_i fs hu
    split at hf
    · rename_i fd hfd
      split at hf
      · rename_i hA
        simp only [Option.some.injEq] at hf
        subst hf
        simp [execOp, ha.eval hx, Instr.field, run_underlying hu, hfd, asAgg, part, run_isAgg_false hA, hv]
      · cases hf
    · cases hf
  · cases hf
end
theorem rfloor5_c {n d : Int} (h : (-4611686018427387904 ≤ n ∧ n ≤ 4611686018427387904) ∧ 0 < d) : Cont Tryz.prog 36 [.int .i64 n, .int .i64 d] (.int .i64 (n / d)) := fun w => by
  have e5 := ediv_in (k := 4611686018427387904) h.2 h.1.1 h.1.2
  refine enter0 Tryz.func36 rfl rfl rfl ?_
  repeat' (first
    | (refine nxV ?_)
    | (show RS _ _ _ _ _ _ _ _; first | (refine nxRS ?_) | (refine nxRS1 fun _ => ?_))
    | (show RM _ _ _ _ _ _ _ _ _ _; first | (refine nxRM ?_) | (refine nxRM1 fun _ => ?_))
    | (refine nxG ?_)
    | (refine nxX ?_)
    | (refine G.condN rfl (fun hc => ?_) (fun hc => ?_) <;> (try first | exact False.elim hc | (exfalso; omega))))
  · obtain ⟨g1, g2, g3⟩ := (floor_eq h.2).1 hc
    have g4 := Int.ediv_neg_of_neg_of_pos g3 h.2
    exact X.ret (vs := [_]) rfl ⟨rfl, rfl⟩ rfl (fun w hw => ⟨by rw [IntWalk.i64_in (n.tdiv d) (by omega), IntWalk.i64_in (n.tdiv d - 1) (by omega), g1], hw.ext⟩)
  · obtain ⟨g1, g2⟩ := (floor_eq h.2).2 hc
    exact X.ret (vs := [_]) rfl ⟨rfl, rfl⟩ rfl (fun w hw => ⟨by rw [IntWalk.i64_in (n.tdiv d) (by omega), g1], hw.ext⟩)
theorem east_c {la lo u wd i : Int} {v : Value} (hi : -1000 ≤ i ∧ i ≤ 1000) (hu : 2 ≤ u ∧ u ≤ 100000) (hw : 1 ≤ wd ∧ wd ≤ 1000) : Cont Tryz.prog 37 [rshV la lo u wd v, .int .i64 i] (.int .i64 ((i - (wd - 1) / 2) * u)) := fun w => by
  have hq : (wd - 1).tdiv 2 = (wd - 1) / 2 := Int.tdiv_eq_ediv_of_nonneg (by omega)
  have b1 := TT.abs_mul_le (A := 2000) (u := 100000) (a := i - (wd - 1) / 2) (t := u) (by omega) (by omega)
  refine enter0 Tryz.func37 rfl rfl rfl ?_
  repeat' (first
    | (refine nxN ?_)
    | (refine nxV ?_)
    | (show RS _ _ _ _ _ _ _ _; first | (refine nxRS ?_) | (refine nxRS1 fun _ => ?_))
    | (show RM _ _ _ _ _ _ _ _ _ _; first | (refine nxRM ?_) | (refine nxRM1 fun _ => ?_))
    | (refine nxG ?_)
    | (refine nxX ?_)
    | (refine G.condN rfl (fun hc => ?_) (fun hc => ?_) <;> (try first | exact False.elim hc | (exfalso; omega))))
  exact X.ret (vs := [_]) rfl ⟨rfl, rfl⟩ rfl (fun w hw => ⟨rfl, hw.ext⟩)
/-- The offset of a column, in the circle's units. -/
def offI (wd : Nat) (la u i : Int) : Int := (i - ((wd : Int) - 1) / 2) * u * 1073741824 / (TT.cosE la la).1
theorem wrapped_c {la lo u i : Int} {wd : Nat} (hp : pointB la lo = true) (hla : -4800000 ≤ la ∧ la ≤ 4800000) (hu : 2 ≤ u ∧ u ≤ 100000) (hw : 11 ≤ wd ∧ wd ≤ 121) (ho : wd % 2 = 1) (hi : 0 ≤ i ∧ i < wd) (hc : 1 ≤ (TT.cosE la la).1) :
    Cont Tryz.prog 12 [ptV la lo, .int .i64 u, .int .i64 (wd : Int), .int .i64 i] (.bool (decide (offI wd la u i < -10800000) || decide (offI wd la u i ≥ 10800000))) := fun w => by
  have q1 := rnew_ok hp hla hu hw ho
  have b1 := TT.abs_mul_le (A := 2000) (u := 100000) (a := i - ((wd : Int) - 1) / 2) (t := u) (by omega) (by omega)
  have q2 := fun v => east_c (la := la) (lo := lo) (u := u) (wd := (wd : Int)) (i := i) (v := v) (by omega) hu (by omega)
  have q3 := Cos6_c (lo := la) (hi := la) (by omega) (by omega)
  have q4 := rfloor5_c (n := (i - ((wd : Int) - 1) / 2) * u * 1073741824) (d := (TT.cosE la la).1) (by omega)
  have e4 := ediv_in (a := (i - ((wd : Int) - 1) / 2) * u * 1073741824) (b := (TT.cosE la la).1) (k := 4611686018427387904) (by omega) (by omega) (by omega)
  unfold offI
  generalize (i - ((wd : Int) - 1) / 2) * u = ea at *
  generalize TT.cosE la la = cc at *
  obtain ⟨c1, c2⟩ := cc
  dsimp only at q3 q4 e4 hc ⊢
  refine enter0 Tryz.func12 rfl rfl rfl ?_
  repeat' (first
    | (refine nxN ?_)
    | (show RS _ _ _ _ _ _ _ (⟨some 16, _, _, _, _, _⟩ :: _); refine RS.callX q1 ⟨rfl, rfl, rfl, rfl⟩ ?_; rintro y -; dsimp only [List.nil_append])
    | (show VK _ _ _ _ _ ⟨some 29, _, _, _, _, _⟩ _; refine VK.mk (y_fieldS (k := 0) (by rfl) (by kernel_rfl) (by rfl)) ?_)
    | (show YK _ _ _ _ _ _ _; first | refine YK.mk (y_callA ((q2 _)) ⟨rfl, rfl, rfl⟩) ?_ | refine YK.mk (y_callA (q3) ⟨rfl, rfl⟩) ?_ | refine YK.mk (y_callA (q4) ⟨rfl, rfl, rfl⟩) ?_)
    | (show YK _ _ _ _ _ _ _; refine YK.ofV vAuto ?_)
    | (show VK _ _ _ _ _ _ _; refine VK.mk vAuto ?_)
    | (show RS _ _ _ _ _ _ _ _; first | (refine nxRS ?_) | (refine nxRS1 fun _ => ?_))
    | (show RM _ _ _ _ _ _ _ _ _ _; first | (refine nxRM ?_) | (refine nxRM1 fun _ => ?_))
    | (show YG _ _ _ _ _ _ _ _; refine YG.mk (fun hb => by (try (have hc := And.left hb; have hb := And.right hb; rw [hc])); (try rw [hb]); first | exact (y_callA ((q2 _)) ⟨rfl, rfl, rfl⟩) | exact (y_callA (q3) ⟨rfl, rfl⟩) | exact (y_callA (q4) ⟨rfl, rfl, rfl⟩) | exact V.y vAuto) ?_)
    | (show VG _ _ _ _ _ _ _ _; refine VG.mk (fun hb => by (try (have hc := And.left hb; have hb := And.right hb; rw [hc])); (try rw [hb]); exact vAuto) ?_)
    | (refine G.mixedA 2 [.go 0, .go 1, .go 4, .go 5, .go 6, .go 7, .go 8, .go 2, .go 3, .go 9, .go 10, .go 11, .go 12] ?_)
    | (refine nxX ?_)
    | (refine G.condN rfl (fun hc => ?_) (fun hc => ?_) <;> (try first | exact False.elim hc | (exfalso; omega))))
  exact X.ret (vs := [_]) rfl ⟨rfl, rfl⟩ rfl (fun w hw => ⟨rfl, hw.ext⟩)
end Go.Proofs.YthilhhegchmjeaaGreatDoor
/- PlotPixels: the walk of the law (DRAFT, not built). -/
set_option linter.unusedVariables false
set_option maxHeartbeats 8000000
namespace Go.Proofs.YthilhhegchmjeaaGreatDoor
open Go.RowKit
theorem count1_c (l : List UInt8) (c : UInt8) : Cont Tryz.prog 16 [strV l, strV [c]] (.int .i64 (Lib.countByte l c)) := fun w =>
  (Tryz.strings_Count_one ⟨l.toArray⟩ c w).mono fun e w' ⟨he, hw⟩ => by
    subst hw
    exact ⟨he, Below.refl _ _⟩
theorem px_ref {la lo u wd i j e : Int} (he : newE la lo u wd = e) (h0 : e = 1 ∨ e = 2) : Cont Tryz.prog 3 [ptV la lo, .int .i64 u, .int .i64 wd, .int .i64 i, .int .i64 j] (.bool true) := fun w => by
  have q1 := made_no he h0
  refine enter0 Tryz.func3 rfl rfl rfl ?_
  repeat' (first
    | (show YK _ _ _ _ _ ⟨some 35, _, _, _, _, _⟩ _; refine YK.ofV (y_eqNil0 rfl rfl sh_ptr) ?_)
    | (show YG _ _ _ _ _ _ ⟨some 35, _, _, _, _, _⟩ _; refine YG.mk (fun hb => (y_eqNil0 rfl rfl sh_ptr).y) ?_)
    | (show VG _ _ _ _ _ _ ⟨some 35, _, _, _, _, _⟩ _; refine VG.mk (fun hb => y_eqNil0 rfl rfl sh_ptr) ?_)
    | (show YK _ _ _ _ _ _ _; first | refine YK.mk (y_callA (awake49_c) rfl) ?_ | refine YK.mk (y_callA (q1) ⟨rfl, rfl, rfl, rfl⟩) ?_)
    | (show YK _ _ _ _ _ _ _; refine YK.ofV vAuto ?_)
    | (show VK _ _ _ _ _ _ _; refine VK.mk vAuto ?_)
    | (show RS _ _ _ _ _ _ _ _; first | (refine nxRS ?_) | (refine nxRS1 fun _ => ?_))
    | (show RM _ _ _ _ _ _ _ _ _ _; first | (refine nxRM ?_) | (refine nxRM1 fun _ => ?_))
    | (show YG _ _ _ _ _ _ _ _; refine YG.mk (fun hb => by (try (have hc := And.left hb; have hb := And.right hb; rw [hc])); (try rw [hb]); first | exact (y_callA (awake49_c) rfl) | exact (y_callA (q1) ⟨rfl, rfl, rfl, rfl⟩) | exact V.y vAuto) ?_)
    | (show VG _ _ _ _ _ _ _ _; refine VG.mk (fun hb => by (try (have hc := And.left hb; have hb := And.right hb; rw [hc])); (try rw [hb]); exact vAuto) ?_)
    | (refine nxX ?_)
    | (refine G.condN rfl (fun hc => ?_) (fun hc => ?_) <;> (try first | exact False.elim hc | (exfalso; omega))))
  all_goals first | (exfalso; omega) | exact X.ret (vs := [_]) rfl ⟨rfl, rfl⟩ rfl (fun w hw => ⟨rfl, hw.ext⟩)
theorem perm_x1 {a b x : Hl} {A : List Hl} : (a :: b :: (A ++ [x])).Perm (x :: a :: b :: A) := by
  classical
  refine List.perm_iff_count.2 fun c => ?_
  simp only [List.count_cons, List.count_append, List.count_nil]
  omega
theorem perm_x3 {a b x0 x1 x2 : Hl} {A : List Hl} : (x0 :: x1 :: x2 :: a :: b :: A).Perm ((a :: b :: A) ++ [x0, x1, x2]) := by
  classical
  refine List.perm_iff_count.2 fun c => ?_
  simp only [List.count_cons, List.count_append, List.count_nil]
  omega
/-- NEXT: px_main: after made (RS.callL at slot 27, permH perm_x1): Pixel of the centre (N: 41, pixel_c with pix_mid), Point (N: 65, point_c; the three cases of pntI), rvpoint_c, wrapped_c, Mark (slot 86: RS.callPm mark_new perm_x3), Pixel again (N: 91, pix_pnt), Text (N: 97, tx_sel), rows (slot 99: RS.callI rw_sel), the last region: STR, row_one, N: 128 (Text under a guard), count1_c with cnt_one. -/
theorem px_next : True := trivial
end Go.Proofs.YthilhhegchmjeaaGreatDoor
/- PlotPixels: the walk of the law, a pixel outside. -/
set_option linter.unusedVariables false
set_option maxHeartbeats 8000000
namespace Go.Proofs.YthilhhegchmjeaaGreatDoor
open Go.RowKit
/-- A pixel that is not there, or whose point is not: the law's answer is the error. -/
theorem px_out {la lo u i j x y e : Int} {wd : Nat} (hp : pointB la lo = true) (hla : -4800000 ≤ la ∧ la ≤ 4800000) (hu : 2 ≤ u ∧ u ≤ 100000) (hw : 11 ≤ wd ∧ wd ≤ 121) (ho : wd % 2 = 1) (hi : -9223372036854775808 ≤ i ∧ i ≤ 9223372036854775807) (hj : -9223372036854775808 ≤ j ∧ j ≤ 9223372036854775807)
    (hx : pntI wd (2 * ((wd - 1) / 4) + 1) la lo u (TT.cosE la la).1 i j = (x, y, e)) (he : e = 2 ∨ e = 25) : Cont Tryz.prog 3 [ptV la lo, .int .i64 u, .int .i64 (wd : Int), .int .i64 i, .int .i64 j] (.bool true) := fun w => by
  have qm := made_ok hp hla hu hw ho
  have hpp := hp
  simp only [pointB, Bool.and_eq_true, decide_eq_true_eq] at hpp
  have hm1 : ((wd : Int) - 1).tdiv 2 = ((wd : Int) - 1) / 2 := Int.tdiv_eq_ediv_of_nonneg (by omega)
  have hm2 : ((wd : Int) - 1).tdiv 4 = ((wd : Int) - 1) / 4 := Int.tdiv_eq_ediv_of_nonneg (by omega)
  have q1 := fun (b : Nat) (z : Sl) (rs : List Sl) (xt : Nat → List Value) (hz : NewP wd (b, z, rs, xt)) => pixel_c (b := b) (z := z) (shok_new hp hla hu hw hz.len hz.ok) (pla := la) (plo := lo) (by omega) (by omega)
  have q2 := fun (b : Nat) (z : Sl) (rs : List Sl) (xt : Nat → List Value) (hz : NewP wd (b, z, rs, xt)) => point_c (b := b) (z := z) (shok_new hp hla hu hw hz.len hz.ok) (i := i) (j := j) hi hj
  refine enter0 Tryz.func3 rfl rfl rfl ?_
  repeat' (first
    | (refine nxN ?_)
    | (show RS _ _ _ _ _ _ _ (⟨some 27, _, _, _, _, _⟩ :: _); refine RS.callL qm trivial ?_ ⟨rfl, rfl, rfl, rfl⟩; rintro ⟨⟨b, z, rs, xt⟩, y0⟩ ha; dsimp only [List.cons_append, List.nil_append]; refine RS.permH ?_ perm_x1; have q1' := q1 b z rs xt ha; have q2' := q2 b z rs xt ha; have hl := ha.len; dsimp only at hl; rw [hl, hx] at q2'; rw [hl, pix_mid hu.1 hp (by omega) (by omega)] at q1')
    | (show YK _ _ _ _ _ ⟨some 41, .call { callee := .value (.func 9), args := _, argTypes := _ }, _, _, _, _⟩ _; refine YK.mk (y_callIn (q1') (fun w' hw' => ShR.ofSt hw' (by exact memA) (by exact memA)) ⟨rfl, rfl, rfl⟩ (by decide +kernel)) ?_)
    | (show YG _ _ _ _ _ _ ⟨some 41, .call { callee := .value (.func 9), args := _, argTypes := _ }, _, _, _, _⟩ _; refine YG.mk (fun hb => by (try (have hc := And.left hb; have hb := And.right hb; rw [hc])); (try rw [hb]); exact y_callIn (q1') (fun w' hw' => ShR.ofSt hw' (by exact memA) (by exact memA)) ⟨rfl, rfl, rfl⟩ (by decide +kernel)) ?_)
    | (show YK _ _ _ _ _ ⟨some 65, .call { callee := .value (.func 10), args := _, argTypes := _ }, _, _, _, _⟩ _; refine YK.mk (y_callIn (q2') (fun w' hw' => ShR.ofSt hw' (by exact memA) (by exact memA)) ⟨rfl, rfl, rfl, rfl⟩ (by decide +kernel)) ?_)
    | (show YG _ _ _ _ _ _ ⟨some 65, .call { callee := .value (.func 10), args := _, argTypes := _ }, _, _, _, _⟩ _; refine YG.mk (fun hb => by (try (have hc := And.left hb; have hb := And.right hb; rw [hc])); (try rw [hb]); exact y_callIn (q2') (fun w' hw' => ShR.ofSt hw' (by exact memA) (by exact memA)) ⟨rfl, rfl, rfl, rfl⟩ (by decide +kernel)) ?_)
    | (show YK _ _ _ _ _ ⟨some 35, _, _, _, _, _⟩ _; refine YK.ofV (y_eqNil1 rfl rfl sh_ptr) ?_)
    | (show YG _ _ _ _ _ _ ⟨some 35, _, _, _, _, _⟩ _; refine YG.mk (fun hb => (y_eqNil1 rfl rfl sh_ptr).y) ?_)
    | (show VG _ _ _ _ _ _ ⟨some 35, _, _, _, _, _⟩ _; refine VG.mk (fun hb => y_eqNil1 rfl rfl sh_ptr) ?_)
    | (show YK _ _ _ _ _ _ _; first | refine YK.mk (y_callA (awake49_c) rfl) ?_)
    | (show YK _ _ _ _ _ _ _; refine YK.ofV vAuto ?_)
    | (show VK _ _ _ _ _ _ _; refine VK.mk vAuto ?_)
    | (show RS _ _ _ _ _ _ _ _; first | (refine nxRS ?_) | (refine nxRS1 fun _ => ?_))
    | (show RM _ _ _ _ _ _ _ _ _ _; first | (refine nxRM ?_) | (refine nxRM1 fun _ => ?_))
    | (show YG _ _ _ _ _ _ _ _; refine YG.mk (fun hb => by (try (have hc := And.left hb; have hb := And.right hb; rw [hc])); (try rw [hb]); first | exact (y_callA (awake49_c) rfl) | exact V.y vAuto) ?_)
    | (show VG _ _ _ _ _ _ _ _; refine VG.mk (fun hb => by (try (have hc := And.left hb; have hb := And.right hb; rw [hc])); (try rw [hb]); exact vAuto) ?_)
    | (refine nxX ?_)
    | (refine G.condN rfl (fun hc => ?_) (fun hc => ?_) <;> (try first | exact False.elim hc | (exfalso; omega))))
  all_goals first | (exfalso; omega) | exact X.ret (vs := [_]) rfl ⟨rfl, rfl⟩ rfl (fun w hw => ⟨ret_bool (by simp; omega), hw.ext⟩)
end Go.Proofs.YthilhhegchmjeaaGreatDoor
/- PlotPixels: the walk of the law, a column more than half a turn away. -/
set_option linter.unusedVariables false
set_option maxHeartbeats 8000000
namespace Go.Proofs.YthilhhegchmjeaaGreatDoor
open Go.RowKit
/-- A column more than half a turn away. -/
theorem px_wrap {la lo u i j x y : Int} {wd : Nat} (hp : pointB la lo = true) (hla : -4800000 ≤ la ∧ la ≤ 4800000) (hu : 2 ≤ u ∧ u ≤ 100000) (hw : 11 ≤ wd ∧ wd ≤ 121) (ho : wd % 2 = 1) (hi : -9223372036854775808 ≤ i ∧ i ≤ 9223372036854775807) (hj : -9223372036854775808 ≤ j ∧ j ≤ 9223372036854775807)
    (hx : pntI wd (2 * ((wd - 1) / 4) + 1) la lo u (TT.cosE la la).1 i j = (x, y, 0)) (hq : pointB x y = true) (hir : 0 ≤ i ∧ i < wd) (hwr : (decide (offI wd la u i < -10800000) || decide (offI wd la u i ≥ 10800000)) = true) : Cont Tryz.prog 3 [ptV la lo, .int .i64 u, .int .i64 (wd : Int), .int .i64 i, .int .i64 j] (.bool true) := fun w => by
  have qm := made_ok hp hla hu hw ho
  have hpp := hp
  simp only [pointB, Bool.and_eq_true, decide_eq_true_eq] at hpp
  have hm1 : ((wd : Int) - 1).tdiv 2 = ((wd : Int) - 1) / 2 := Int.tdiv_eq_ediv_of_nonneg (by omega)
  have hm2 : ((wd : Int) - 1).tdiv 4 = ((wd : Int) - 1) / 4 := Int.tdiv_eq_ediv_of_nonneg (by omega)
  have q1 := fun (b : Nat) (z : Sl) (rs : List Sl) (xt : Nat → List Value) (hz : NewP wd (b, z, rs, xt)) => pixel_c (b := b) (z := z) (shok_new hp hla hu hw hz.len hz.ok) (pla := la) (plo := lo) (by omega) (by omega)
  have q2 := fun (b : Nat) (z : Sl) (rs : List Sl) (xt : Nat → List Value) (hz : NewP wd (b, z, rs, xt)) => point_c (b := b) (z := z) (shok_new hp hla hu hw hz.len hz.ok) (i := i) (j := j) hi hj
  have hc := cos_lo hla
  have q3 := rvpoint_c x y
  have q4 := wrapped_c hp hla hu hw ho hir (by omega)
  rw [hq] at q3
  rw [hwr] at q4
  refine enter0 Tryz.func3 rfl rfl rfl ?_
  repeat' (first
    | (refine nxN ?_)
    | (show RS _ _ _ _ _ _ _ (⟨some 27, _, _, _, _, _⟩ :: _); refine RS.callL qm trivial ?_ ⟨rfl, rfl, rfl, rfl⟩; rintro ⟨⟨b, z, rs, xt⟩, y0⟩ ha; dsimp only [List.cons_append, List.nil_append]; refine RS.permH ?_ perm_x1; have q1' := q1 b z rs xt ha; have q2' := q2 b z rs xt ha; have hl := ha.len; dsimp only at hl; rw [hl, hx] at q2'; rw [hl, pix_mid hu.1 hp (by omega) (by omega)] at q1')
    | (show YK _ _ _ _ _ ⟨some 41, .call { callee := .value (.func 9), args := _, argTypes := _ }, _, _, _, _⟩ _; refine YK.mk (y_callIn (q1') (fun w' hw' => ShR.ofSt hw' (by exact memA) (by exact memA)) ⟨rfl, rfl, rfl⟩ (by decide +kernel)) ?_)
    | (show YG _ _ _ _ _ _ ⟨some 41, .call { callee := .value (.func 9), args := _, argTypes := _ }, _, _, _, _⟩ _; refine YG.mk (fun hb => by (try (have hc := And.left hb; have hb := And.right hb; rw [hc])); (try rw [hb]); exact y_callIn (q1') (fun w' hw' => ShR.ofSt hw' (by exact memA) (by exact memA)) ⟨rfl, rfl, rfl⟩ (by decide +kernel)) ?_)
    | (show YK _ _ _ _ _ ⟨some 65, .call { callee := .value (.func 10), args := _, argTypes := _ }, _, _, _, _⟩ _; refine YK.mk (y_callIn (q2') (fun w' hw' => ShR.ofSt hw' (by exact memA) (by exact memA)) ⟨rfl, rfl, rfl, rfl⟩ (by decide +kernel)) ?_)
    | (show YG _ _ _ _ _ _ ⟨some 65, .call { callee := .value (.func 10), args := _, argTypes := _ }, _, _, _, _⟩ _; refine YG.mk (fun hb => by (try (have hc := And.left hb; have hb := And.right hb; rw [hc])); (try rw [hb]); exact y_callIn (q2') (fun w' hw' => ShR.ofSt hw' (by exact memA) (by exact memA)) ⟨rfl, rfl, rfl, rfl⟩ (by decide +kernel)) ?_)
    | (show YK _ _ _ _ _ ⟨some 35, _, _, _, _, _⟩ _; refine YK.ofV (y_eqNil1 rfl rfl sh_ptr) ?_)
    | (show YG _ _ _ _ _ _ ⟨some 35, _, _, _, _, _⟩ _; refine YG.mk (fun hb => (y_eqNil1 rfl rfl sh_ptr).y) ?_)
    | (show VG _ _ _ _ _ _ ⟨some 35, _, _, _, _, _⟩ _; refine VG.mk (fun hb => y_eqNil1 rfl rfl sh_ptr) ?_)
    | (show YK _ _ _ _ _ _ _; first | refine YK.mk (y_callA (awake49_c) rfl) ?_ | refine YK.mk (y_callA (q3) ⟨rfl, rfl⟩) ?_ | refine YK.mk (y_callA (q4) ⟨rfl, rfl, rfl, rfl, rfl⟩) ?_)
    | (show YK _ _ _ _ _ _ _; refine YK.ofV vAuto ?_)
    | (show VK _ _ _ _ _ _ _; refine VK.mk vAuto ?_)
    | (show RS _ _ _ _ _ _ _ _; first | (refine nxRS ?_) | (refine nxRS1 fun _ => ?_))
    | (show RM _ _ _ _ _ _ _ _ _ _; first | (refine nxRM ?_) | (refine nxRM1 fun _ => ?_))
    | (show YG _ _ _ _ _ _ _ _; refine YG.mk (fun hb => by (try (have hc := And.left hb; have hb := And.right hb; rw [hc])); (try rw [hb]); first | exact (y_callA (awake49_c) rfl) | exact (y_callA (q3) ⟨rfl, rfl⟩) | exact (y_callA (q4) ⟨rfl, rfl, rfl, rfl, rfl⟩) | exact V.y vAuto) ?_)
    | (show VG _ _ _ _ _ _ _ _; refine VG.mk (fun hb => by (try (have hc := And.left hb; have hb := And.right hb; rw [hc])); (try rw [hb]); exact vAuto) ?_)
    | (refine nxX ?_)
    | (refine G.condN rfl (fun hc => ?_) (fun hc => ?_) <;> (try first | exact False.elim hc | (exfalso; omega))))
  all_goals first | (exfalso; omega) | exact X.ret (vs := [_]) rfl ⟨rfl, rfl⟩ rfl (fun w hw => ⟨rfl, hw.ext⟩)
end Go.Proofs.YthilhhegchmjeaaGreatDoor
/- PlotPixels: the walk of the law, a pixel marked. -/
set_option linter.unusedVariables false
set_option maxHeartbeats 8000000
namespace Go.Proofs.YthilhhegchmjeaaGreatDoor
open Go.RowKit
/-- A pixel that is seen where it is marked. -/
theorem px_in {la lo u x y : Int} {wd i j : Nat} (hp : pointB la lo = true) (hla : -4800000 ≤ la ∧ la ≤ 4800000) (hu : 2 ≤ u ∧ u ≤ 100000) (hw : 11 ≤ wd ∧ wd ≤ 121) (ho : wd % 2 = 1) (hi : i < wd) (hj : j < 2 * ((wd - 1) / 4) + 1)
    (hx : pntI wd (2 * ((wd - 1) / 4) + 1) la lo u (TT.cosE la la).1 i j = (x, y, 0)) (hq : pointB x y = true) (hpx : pixI wd (2 * ((wd - 1) / 4) + 1) la lo u (TT.cosE la la).1 x y = ((i : Int), (j : Int), 0)) (hwr : (decide (offI wd la u i < -10800000) || decide (offI wd la u i ≥ 10800000)) = false) : ContIn Tryz.prog LaidM 3 [ptV la lo, .int .i64 u, .int .i64 (wd : Int), .int .i64 (i : Int), .int .i64 (j : Int)] (.bool true) := fun w hI => by
  have qm := made_ok hp hla hu hw ho
  have hpp := hp
  simp only [pointB, Bool.and_eq_true, decide_eq_true_eq] at hpp
  have hm1 : ((wd : Int) - 1).tdiv 2 = ((wd : Int) - 1) / 2 := Int.tdiv_eq_ediv_of_nonneg (by omega)
  have hm2 : ((wd : Int) - 1).tdiv 4 = ((wd : Int) - 1) / 4 := Int.tdiv_eq_ediv_of_nonneg (by omega)
  have q1 := fun (b : Nat) (z : Sl) (rs : List Sl) (xt : Nat → List Value) (hz : NewP wd (b, z, rs, xt)) => pixel_c (b := b) (z := z) (shok_new hp hla hu hw hz.len hz.ok) (pla := la) (plo := lo) (by omega) (by omega)
  have q2 := fun (b : Nat) (z : Sl) (rs : List Sl) (xt : Nat → List Value) (hz : NewP wd (b, z, rs, xt)) => point_c (b := b) (z := z) (shok_new hp hla hu hw hz.len hz.ok) (i := (i : Int)) (j := (j : Int)) (by omega) (by omega)
  have hc := cos_lo hla
  have q3 := rvpoint_c x y
  have q4 := wrapped_c hp hla hu hw ho (i := (i : Int)) (by omega) (by omega)
  rw [hq] at q3
  rw [hwr] at q4
  have hqq := hq
  simp only [pointB, Bool.and_eq_true, decide_eq_true_eq] at hqq
  obtain ⟨rw1, hr1, hr2⟩ := row_one (m := 42) hi hj
  have hcn := cnt_one hi hj
  have hLl : ((pixL (sel1 i j) 42 wd (2 * ((wd - 1) / 4) + 1)).map toB).length = 2 * ((wd - 1) / 4) + 1 := by simp [pixL]
  have hn1 : nth ((pixL (sel1 i j) 42 wd (2 * ((wd - 1) / 4) + 1)).map toB) (j : Int) = rw1 := by
    unfold nth
    rw [Int.toNat_natCast, List.getD_eq_getElem?_getD, hr1]; rfl
  have hlen : (nth ((pixL (sel1 i j) 42 wd (2 * ((wd - 1) / 4) + 1)).map toB) (j : Int)).length = wd := by
    rw [hn1]
    exact (pix_rowsM (by omega) _ (List.mem_of_getElem? hr1)).1
  have hn2 : nth (nth ((pixL (sel1 i j) 42 wd (2 * ((wd - 1) / 4) + 1)).map toB) (j : Int)) (i : Int) = 42 := by
    rw [hn1]
    unfold nth
    rw [Int.toNat_natCast, List.getD_eq_getElem?_getD, hr2]; rfl
  clear hn1 hr1 hr2
  have q6 := fun (b : Nat) (z : Sl) (rs : List Sl) (xt : Nat → List Value) (hz : NewP wd (b, z, rs, xt)) => pixel_c (b := b) (z := z) (shok_new hp hla hu hw hz.len hz.ok) (pla := x) (plo := y) (by omega) (by omega)
  refine enter0 Tryz.func3 rfl rfl rfl ?_
  repeat' (first
    | (show YK _ _ _ _ _ ⟨_, .call { callee := .builtin .len, args := _, argTypes := #[9] }, _, _, _, _⟩ _; refine YK.ofV (y_lenS (by rfl) StrTy.is) ?_)
    | (show VK _ _ _ _ _ ⟨_, .call { callee := .builtin .len, args := _, argTypes := #[9] }, _, _, _, _⟩ _; refine VK.mk (y_lenS (by rfl) StrTy.is) ?_)
    | (show YG _ _ _ _ _ _ ⟨_, .call { callee := .builtin .len, args := _, argTypes := #[9] }, _, _, _, _⟩ _; refine YG.mk (fun hb => by (try (have hc := And.left hb; have hb := And.right hb; rw [hc])); (try rw [hb]); exact V.y (y_lenS (by rfl) StrTy.is)) ?_)
    | (show VG _ _ _ _ _ _ ⟨_, .call { callee := .builtin .len, args := _, argTypes := #[9] }, _, _, _, _⟩ _; refine VG.mk (fun hb => by (try (have hc := And.left hb; have hb := And.right hb; rw [hc])); (try rw [hb]); exact y_lenS (by rfl) StrTy.is) ?_)
    | (refine nxN ?_)
    | (show RS _ _ _ _ _ _ _ (⟨some 27, _, _, _, _, _⟩ :: _); refine RS.callL qm trivial ?_ ⟨rfl, rfl, rfl, rfl⟩; rintro ⟨⟨b, z, rs, xt⟩, y0⟩ ha; dsimp only [List.cons_append, List.nil_append]; refine RS.permH ?_ perm_x1; have q1' := q1 b z rs xt ha; have q2' := q2 b z rs xt ha; have hl := ha.len; dsimp only at hl; rw [hl, hx] at q2'; have q6' := q6 b z rs xt ha; rw [hl, hpx] at q6'; rw [hl, pix_mid hu.1 hp (by omega) (by omega)] at q1')
    | (show YK _ _ _ _ _ ⟨some 41, .call { callee := .value (.func 9), args := _, argTypes := _ }, _, _, _, _⟩ _; refine YK.mk (y_callIn (q1') (fun w' hw' => ShR.ofSt hw' (by exact memA) (by exact memA)) ⟨rfl, rfl, rfl⟩ (by decide +kernel)) ?_)
    | (show YG _ _ _ _ _ _ ⟨some 41, .call { callee := .value (.func 9), args := _, argTypes := _ }, _, _, _, _⟩ _; refine YG.mk (fun hb => by (try (have hc := And.left hb; have hb := And.right hb; rw [hc])); (try rw [hb]); exact y_callIn (q1') (fun w' hw' => ShR.ofSt hw' (by exact memA) (by exact memA)) ⟨rfl, rfl, rfl⟩ (by decide +kernel)) ?_)
    | (show RS _ _ _ _ _ _ _ (⟨some 86, _, _, _, _, _⟩ :: _); refine RS.callPm (mark_new (b := b) (z := z) (rs := rs) (xt := xt) (m := 42) hp hla hu hw ha (by omega) hq (by (rw [hl]; exact hpx)) hi (by (rw [hl]; exact hj))) trivial perm_x3 ?_ ⟨rfl, rfl, rfl, rfl⟩; rintro ⟨⟩ -; refine RS.permH ?_ perm_x3.symm)
    | (show YK _ _ _ _ _ ⟨some 91, .call { callee := .value (.func 9), args := _, argTypes := _ }, _, _, _, _⟩ _; refine YK.mk (y_callIn (q6') (fun w' hw' => ShR.ofSt hw' (by exact memA) (by exact memA)) ⟨rfl, rfl, rfl⟩ (by decide +kernel)) ?_)
    | (show YG _ _ _ _ _ _ ⟨some 91, .call { callee := .value (.func 9), args := _, argTypes := _ }, _, _, _, _⟩ _; refine YG.mk (fun hb => by (try (have hc := And.left hb; have hb := And.right hb; rw [hc])); (try rw [hb]); exact y_callIn (q6') (fun w' hw' => ShR.ofSt hw' (by exact memA) (by exact memA)) ⟨rfl, rfl, rfl⟩ (by decide +kernel)) ?_)
    | (show YK _ _ _ _ _ ⟨some 97, .call { callee := .value (.func 15), args := _, argTypes := _ }, _, _, _, _⟩ _; refine YK.mk (y_callIn (tx_sel (m := 42) (by omega) hw ha) (fun w' hw' => TxW.ofSt (xt := xt) hw' (by exact memA) (by (rw [pR_fst, newR_fst]; exact memA)) (fun h hm => .tail _ (.tail _ (.tail _ (.tail _ (.tail _ hm))))) (pR_ok (newR_ok ha.ok)) (by (rw [pR_len, List.length_map]; omega))) ⟨rfl, rfl⟩ (by decide +kernel)) ?_)
    | (show YG _ _ _ _ _ _ ⟨some 97, .call { callee := .value (.func 15), args := _, argTypes := _ }, _, _, _, _⟩ _; refine YG.mk (fun hb => by (try (have hc := And.left hb; have hb := And.right hb; rw [hc])); (try rw [hb]); exact y_callIn (tx_sel (m := 42) (by omega) hw ha) (fun w' hw' => TxW.ofSt (xt := xt) hw' (by exact memA) (by (rw [pR_fst, newR_fst]; exact memA)) (fun h hm => .tail _ (.tail _ (.tail _ (.tail _ (.tail _ hm))))) (pR_ok (newR_ok ha.ok)) (by (rw [pR_len, List.length_map]; omega))) ⟨rfl, rfl⟩ (by decide +kernel)) ?_)
    | (show RS _ _ _ _ _ _ _ (⟨some 99, _, _, _, _, _⟩ :: _); refine RS.callI (rw_sel (m := 42) (by omega) hw) ⟨rfl, rfl, rfl⟩ (fun w' hw' => hI.keep hw'.ext) ?_; rintro z2 -; dsimp only [List.cons_append, List.nil_append])
    | (show YK _ _ _ _ _ ⟨some 128, .call { callee := .value (.func 15), args := _, argTypes := _ }, _, _, _, _⟩ _; refine YK.mk (y_callIn (tx_sel (m := 42) (by omega) hw ha) (fun w' hw' => TxW.ofSt (xt := xt) hw' (by exact memA) (by (rw [pR_fst, newR_fst]; exact memA)) (fun h hm => .tail _ (.tail _ (.tail _ (.tail _ (.tail _ (.tail _ hm)))))) (pR_ok (newR_ok ha.ok)) (by (rw [pR_len, List.length_map]; omega))) ⟨rfl, rfl⟩ (by decide +kernel)) ?_)
    | (show YG _ _ _ _ _ _ ⟨some 128, .call { callee := .value (.func 15), args := _, argTypes := _ }, _, _, _, _⟩ _; refine YG.mk (fun hb => by (try (have hc := And.left hb; have hb := And.right hb; rw [hc])); (try rw [hb]); exact y_callIn (tx_sel (m := 42) (by omega) hw ha) (fun w' hw' => TxW.ofSt (xt := xt) hw' (by exact memA) (by (rw [pR_fst, newR_fst]; exact memA)) (fun h hm => .tail _ (.tail _ (.tail _ (.tail _ (.tail _ (.tail _ hm)))))) (pR_ok (newR_ok ha.ok)) (by (rw [pR_len, List.length_map]; omega))) ⟨rfl, rfl⟩ (by decide +kernel)) ?_)
    | (show YK _ _ _ _ _ ⟨some 65, .call { callee := .value (.func 10), args := _, argTypes := _ }, _, _, _, _⟩ _; refine YK.mk (y_callIn (q2') (fun w' hw' => ShR.ofSt hw' (by exact memA) (by exact memA)) ⟨rfl, rfl, rfl, rfl⟩ (by decide +kernel)) ?_)
    | (show YG _ _ _ _ _ _ ⟨some 65, .call { callee := .value (.func 10), args := _, argTypes := _ }, _, _, _, _⟩ _; refine YG.mk (fun hb => by (try (have hc := And.left hb; have hb := And.right hb; rw [hc])); (try rw [hb]); exact y_callIn (q2') (fun w' hw' => ShR.ofSt hw' (by exact memA) (by exact memA)) ⟨rfl, rfl, rfl, rfl⟩ (by decide +kernel)) ?_)
    | (show YK _ _ _ _ _ ⟨some 35, _, _, _, _, _⟩ _; refine YK.ofV (y_eqNil1 rfl rfl sh_ptr) ?_)
    | (show YG _ _ _ _ _ _ ⟨some 35, _, _, _, _, _⟩ _; refine YG.mk (fun hb => (y_eqNil1 rfl rfl sh_ptr).y) ?_)
    | (show VG _ _ _ _ _ _ ⟨some 35, _, _, _, _, _⟩ _; refine VG.mk (fun hb => y_eqNil1 rfl rfl sh_ptr) ?_)
    | (show YK _ _ _ _ _ _ _; first | refine YK.mk (y_callA (awake49_c) rfl) ?_ | refine YK.mk (y_callA (q3) ⟨rfl, rfl⟩) ?_ | refine YK.mk (y_callA (q4) ⟨rfl, rfl, rfl, rfl, rfl⟩) ?_ | refine YK.mk (y_callA ((count1_c _ _)) ⟨rfl, rfl, rfl⟩) ?_)
    | (show YK _ _ _ _ _ _ _; refine YK.ofV vAuto ?_)
    | (show VK _ _ _ _ _ _ _; refine VK.mk vAuto ?_)
    | (show RS _ _ _ _ _ _ _ _; first | (refine nxRS ?_) | (refine nxRS1 fun _ => ?_))
    | (show RM _ _ _ _ _ _ _ _ _ _; first | (refine nxRM ?_) | (refine nxRM1 fun _ => ?_))
    | (show YG _ _ _ _ _ _ _ _; refine YG.mk (fun hb => by (try (have hc := And.left hb; have hb := And.right hb; rw [hc])); (try rw [hb]); first | exact (y_callA (awake49_c) rfl) | exact (y_callA (q3) ⟨rfl, rfl⟩) | exact (y_callA (q4) ⟨rfl, rfl, rfl, rfl, rfl⟩) | exact (y_callA ((count1_c _ _)) ⟨rfl, rfl, rfl⟩) | exact V.y vAuto) ?_)
    | (show VG _ _ _ _ _ _ _ _; refine VG.mk (fun hb => by (try (have hc := And.left hb; have hb := And.right hb; rw [hc])); (try rw [hb]); exact vAuto) ?_)
    | (refine nxVS ?_)
    | (refine nxGS ?_)
    | (refine nxX ?_)
    | (refine G.condN rfl (fun hc => ?_) (fun hc => ?_) <;> (try first | exact False.elim hc | (exfalso; omega))))
  all_goals first | (exfalso; omega) | exact X.ret (vs := [_]) rfl ⟨rfl, rfl⟩ rfl (fun w hw => ⟨ret_bool (by rw [hn2, hcn]; simp), hw.ext⟩)
end Go.Proofs.YthilhhegchmjeaaGreatDoor
/- PlotPixels: the law. -/
set_option linter.unusedVariables false
namespace Go.Proofs.YthilhhegchmjeaaGreatDoor
open Go.RowKit
/-- PlotPixels answers true. -/
theorem pixels_law {la lo u wd i j : Int} (hi : -9223372036854775808 ≤ i ∧ i ≤ 9223372036854775807) (hj : -9223372036854775808 ≤ j ∧ j ≤ 9223372036854775807) : ContIn Tryz.prog LaidM 3 [ptV la lo, .int .i64 u, .int .i64 wd, .int .i64 i, .int .i64 j] (.bool true) := by
  by_cases he : newE la lo u wd = 0
  · unfold newE at he
    split at he
    · rename_i hb
      split at he
      · rename_i hg
        simp only [Bool.and_eq_true, decide_eq_true_eq] at hb
        obtain ⟨wn, rfl⟩ := Int.eq_ofNat_of_zero_le (show 0 ≤ wd by omega)
        have hc := cos_lo (la := la) (by omega)
        cases hh : hasI (wn : Int) ((2 * ((wn - 1) / 4) + 1 : Nat) : Int) i j with
        | false =>
          exact (px_out (x := 0) (y := 0) (e := 2) hb.1.1 (by omega) (by omega) (by omega) (by omega) hi hj (by unfold pntI; rw [hh, if_neg (by decide)]) (.inl rfl)).in_
        | true =>
          have hh2 := hh
          simp only [hasI, Bool.and_eq_true, decide_eq_true_eq] at hh2
          obtain ⟨a, rfl⟩ := Int.eq_ofNat_of_zero_le (show 0 ≤ i by omega)
          obtain ⟨c, rfl⟩ := Int.eq_ofNat_of_zero_le (show 0 ≤ j by omega)
          cases hq : pointB (latI (2 * ((wn - 1) / 4) + 1) la u c) (lonI wn lo u (TT.cosE la la).1 a) with
          | false =>
            exact (px_out (x := 0) (y := 0) (e := 25) hb.1.1 (by omega) (by omega) (by omega) (by omega) hi hj (by unfold pntI; rw [hh, if_pos rfl, hq, if_neg (by decide)]) (.inr rfl)).in_
          | true =>
            have hx : pntI wn (2 * ((wn - 1) / 4) + 1) la lo u (TT.cosE la la).1 a c = (latI (2 * ((wn - 1) / 4) + 1) la u c, lonI wn lo u (TT.cosE la la).1 a, 0) := by
              unfold pntI
              rw [hh, if_pos rfl, hq, if_pos rfl]
            cases hwr : (decide (offI wn la u a < -10800000) || decide (offI wn la u a ≥ 10800000)) with
            | true => exact (px_wrap hb.1.1 (by omega) (by omega) (by omega) (by omega) hi hj hx hq (by omega) hwr).in_
            | false =>
              have hw2 := hwr
              rw [Bool.or_eq_false_iff, decide_eq_false_iff_not, decide_eq_false_iff_not] at hw2
              exact px_in hb.1.1 (by omega) (by omega) (by omega) (by omega) (by omega) (by omega) hx hq (pix_pnt (by omega) hc hh hq (by unfold offI at hw2; omega)) hwr
      · exact absurd he (by decide)
    · exact absurd he (by decide)
  · refine (px_ref rfl ?_).in_
    unfold newE at he ⊢
    split
    · split
      · rename_i h1 h2
        rw [if_pos h1, if_pos h2] at he
        exact absurd rfl he
      · exact .inr rfl
    · exact .inl rfl
end Go.Proofs.YthilhhegchmjeaaGreatDoor
