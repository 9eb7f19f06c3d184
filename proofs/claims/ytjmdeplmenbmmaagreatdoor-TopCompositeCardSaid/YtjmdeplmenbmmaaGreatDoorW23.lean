/- Joined texts: Cos, Srt, Lib, Lib2, Aro, Fxa. -/
import Derived.Test.YtjmdeplmenbmmaaGreatDoorW22
import Derived.Test.YtjmdeplmenbmmaaGreatDoorW02
import Derived.Test.YtjmdeplmenbmmaaGreatDoorW06
import Derived.Lib.AtoiErrMem
import Derived.Stop.IfaceNil
import Derived.Lib.Split
import Derived.Lib.SplitLaws
import Derived.Lib.CountLaws
import Derived.Test.YtjmdeplmenbmmaaGreatDoorW17
set_option linter.unusedVariables false
set_option maxHeartbeats 8000000
namespace Go.Proofs.YtjmdeplmenbmmaaGreatDoor
open Go.RowKit
structure CosW (b : Nat) (w : World) : Prop where
  blk : w.heap[b]? = some (.cells #[.int .i64 0] 283 (0, 0))
theorem CosW.keep {b : Nat} {w w' : World} (h : CosW b w) (hw : Below w.heap.size w w') : CosW b w' :=
  ⟨(hw.block b (Array.getElem?_eq_some_iff.1 h.blk).1).trans h.blk⟩
theorem CosW.cell {b : Nat} {w : World} (h : CosW b w) : ∀ k v, [Value.int .i64 0][k]? = some v → w.cell? ⟨b, k, none⟩ = some v := fun k v hk => by
  have := cell_of_row w b k #[.int .i64 0] _ (0, 0) h.blk
  rw [this]
  simpa using hk
theorem CosW.ofSt {w0 w : World} {H : List Hl} {b : Nat} (hw : St w0 H w) (hm : Hl.blk b 283 [.int .i64 0] ∈ H) : CosW b w := ⟨hw.blk hm⟩
theorem okeep_c {b : Nat} {lo hi : Int} : ContIn Tryz.prog (CosW b) 300 [ptK b, arcV lo hi, .int .i64 0] (arcV lo hi) := fun w hs => by
  have hcl := hs.cell
  refine enter0 Tryz.func300 rfl rfl rfl ?_
  repeat' (first
    | (refine nxN ?_)
    | (show VK _ _ _ _ _ ⟨_, .load 27 _, _, _, _, _⟩ _; refine VK.mk (y_loadX (by rfl) (hcl _ _ (by rfl)) (by decide +kernel)) ?_)
    | (show YK _ _ _ _ _ ⟨_, .load 27 _, _, _, _, _⟩ _; refine YK.ofV (y_loadX (by rfl) (hcl _ _ (by rfl)) (by decide +kernel)) ?_)
    | (show VG _ _ _ _ _ _ ⟨_, .load 27 _, _, _, _, _⟩ _; refine VG.mk (fun hb => by (try (have hc := And.left hb; have hb := And.right hb; rw [hc])); (try rw [hb]); exact y_loadX (by rfl) (hcl _ _ (by rfl)) (by decide +kernel)) ?_)
    | (show YG _ _ _ _ _ _ ⟨_, .load 27 _, _, _, _, _⟩ _; refine YG.mk (fun hb => by (try (have hc := And.left hb; have hb := And.right hb; rw [hc])); (try rw [hb]); exact V.y (y_loadX (by rfl) (hcl _ _ (by rfl)) (by decide +kernel))) ?_)
    | (show RS _ _ _ _ _ _ _ (⟨none, .store 27 _ _, _, _, _, _⟩ :: _); refine RS.storeSame (b := b) ?_ (by rfl) (by rfl) (fun w' hw' => (hs.keep hw'.ext).blk) (by rfl) (by decide +kernel))
    | (refine nxV ?_)
    | (refine nxRS ?_) | (refine nxRS1 fun _ => ?_)
    | (refine nxRM ?_) | (refine nxRM1 fun _ => ?_)
    | (refine nxG ?_)
    | (refine nxX ?_)
    | (refine G.condN rfl (fun hc => ?_) (fun hc => ?_) <;> (try first | exact False.elim hc | (exfalso; omega))))
  all_goals exact X.ret (vs := [_]) rfl ⟨⟨_, _, _, _, rfl, (by exact memA), (by (repeat (first | exact .nil | apply LenIs.cons))), by decide +kernel, rfl⟩, rfl⟩ rfl (fun w hw => ⟨rfl, hw.ext⟩)
theorem osin_c {b : Nat} {lo hi : Int} (h : validI lo hi = true) : ContIn Tryz.prog (CosW b) 298 [ptK b, arcV lo hi] (arcV (TT.encl lo hi).1 (TT.encl lo hi).2) := fun w hs => by
  have q1 := Sin_c h
  generalize TT.encl lo hi = r at *
  refine enter0 Tryz.func298 rfl rfl rfl ?_
  repeat' (first
    | (refine nxN ?_)
    | (show YK _ _ _ _ _ ⟨_, .call { callee := .value (.func 300), args := _, argTypes := _ }, _, _, _, _⟩ _; refine YK.mk (y_callIn (okeep_c) (fun w' hw' => hs.keep hw'.ext) ⟨rfl, rfl, rfl, rfl⟩ (by decide +kernel)) ?_)
    | (show YG _ _ _ _ _ _ ⟨_, .call { callee := .value (.func 300), args := _, argTypes := _ }, _, _, _, _⟩ _; refine YG.mk (fun hb => by (try (have hc := And.left hb; have hb := And.right hb; rw [hc])); (try rw [hb]); exact y_callIn (okeep_c) (fun w' hw' => hs.keep hw'.ext) ⟨rfl, rfl, rfl, rfl⟩ (by decide +kernel)) ?_)
    | (show YK _ _ _ _ _ _ _; first | refine YK.mk (y_callA (q1) ⟨rfl, rfl⟩) ?_)
    | (refine nxV ?_)
    | (refine nxRS ?_) | (refine nxRS1 fun _ => ?_)
    | (refine nxRM ?_) | (refine nxRM1 fun _ => ?_)
    | (show YG _ _ _ _ _ _ _ _; refine YG.mk (fun hb => by (try (have hc := And.left hb; have hb := And.right hb; rw [hc])); (try rw [hb]); first | exact (y_callA (q1) ⟨rfl, rfl⟩) | exact V.y vAuto) ?_)
    | (refine nxG ?_)
    | (refine nxX ?_)
    | (refine G.condN rfl (fun hc => ?_) (fun hc => ?_) <;> (try first | exact False.elim hc | (exfalso; omega))))
  all_goals exact X.ret (vs := [_]) rfl ⟨⟨_, _, _, _, rfl, (by exact memA), (by (repeat (first | exact .nil | apply LenIs.cons))), by decide +kernel, rfl⟩, rfl⟩ rfl (fun w hw => ⟨rfl, hw.ext⟩)
theorem ocos_c {b : Nat} {lo hi : Int} (h : validI lo hi = true) : ContIn Tryz.prog (CosW b) 299 [ptK b, arcV lo hi] (arcV (TT.cosE lo hi).1 (TT.cosE lo hi).2) := fun w hs => by
  have q1 := Cos_c h
  generalize TT.cosE lo hi = r at *
  refine enter0 Tryz.func299 rfl rfl rfl ?_
  repeat' (first
    | (refine nxN ?_)
    | (show YK _ _ _ _ _ ⟨_, .call { callee := .value (.func 300), args := _, argTypes := _ }, _, _, _, _⟩ _; refine YK.mk (y_callIn (okeep_c) (fun w' hw' => hs.keep hw'.ext) ⟨rfl, rfl, rfl, rfl⟩ (by decide +kernel)) ?_)
    | (show YG _ _ _ _ _ _ ⟨_, .call { callee := .value (.func 300), args := _, argTypes := _ }, _, _, _, _⟩ _; refine YG.mk (fun hb => by (try (have hc := And.left hb; have hb := And.right hb; rw [hc])); (try rw [hb]); exact y_callIn (okeep_c) (fun w' hw' => hs.keep hw'.ext) ⟨rfl, rfl, rfl, rfl⟩ (by decide +kernel)) ?_)
    | (show YK _ _ _ _ _ _ _; first | refine YK.mk (y_callA (q1) ⟨rfl, rfl⟩) ?_)
    | (refine nxV ?_)
    | (refine nxRS ?_) | (refine nxRS1 fun _ => ?_)
    | (refine nxRM ?_) | (refine nxRM1 fun _ => ?_)
    | (show YG _ _ _ _ _ _ _ _; refine YG.mk (fun hb => by (try (have hc := And.left hb; have hb := And.right hb; rw [hc])); (try rw [hb]); first | exact (y_callA (q1) ⟨rfl, rfl⟩) | exact V.y vAuto) ?_)
    | (refine nxG ?_)
    | (refine nxX ?_)
    | (refine G.condN rfl (fun hc => ?_) (fun hc => ?_) <;> (try first | exact False.elim hc | (exfalso; omega))))
  all_goals exact X.ret (vs := [_]) rfl ⟨⟨_, _, _, _, rfl, (by exact memA), (by (repeat (first | exact .nil | apply LenIs.cons))), by decide +kernel, rfl⟩, rfl⟩ rfl (fun w hw => ⟨rfl, hw.ext⟩)
theorem omul_c {b : Nat} {p q : Int × Int} (hp : one31 p) (hq : one31 q) : ContIn Tryz.prog (CosW b) 257 [ptK b, arcV p.1 p.2, arcV q.1 q.2] (arcV (TT.mulE p q).1 (TT.mulE p q).2) := fun w hs => by
  have q1 := fmul_c (p := p) (q := q) hp hq
  generalize TT.mulE p q = r at *
  refine enter0 Tryz.func257 rfl rfl rfl ?_
  repeat' (first
    | (refine nxN ?_)
    | (show YK _ _ _ _ _ ⟨_, .call { callee := .value (.func 300), args := _, argTypes := _ }, _, _, _, _⟩ _; refine YK.mk (y_callIn (okeep_c) (fun w' hw' => hs.keep hw'.ext) ⟨rfl, rfl, rfl, rfl⟩ (by decide +kernel)) ?_)
    | (show YG _ _ _ _ _ _ ⟨_, .call { callee := .value (.func 300), args := _, argTypes := _ }, _, _, _, _⟩ _; refine YG.mk (fun hb => by (try (have hc := And.left hb; have hb := And.right hb; rw [hc])); (try rw [hb]); exact y_callIn (okeep_c) (fun w' hw' => hs.keep hw'.ext) ⟨rfl, rfl, rfl, rfl⟩ (by decide +kernel)) ?_)
    | (show YK _ _ _ _ _ _ _; first | refine YK.mk (y_callA (q1) ⟨rfl, rfl, rfl⟩) ?_)
    | (refine nxV ?_)
    | (refine nxRS ?_) | (refine nxRS1 fun _ => ?_)
    | (refine nxRM ?_) | (refine nxRM1 fun _ => ?_)
    | (show YG _ _ _ _ _ _ _ _; refine YG.mk (fun hb => by (try (have hc := And.left hb; have hb := And.right hb; rw [hc])); (try rw [hb]); first | exact (y_callA (q1) ⟨rfl, rfl, rfl⟩) | exact V.y vAuto) ?_)
    | (refine nxG ?_)
    | (refine nxX ?_)
    | (refine G.condN rfl (fun hc => ?_) (fun hc => ?_) <;> (try first | exact False.elim hc | (exfalso; omega))))
  all_goals exact X.ret (vs := [_]) rfl ⟨⟨_, _, _, _, rfl, (by exact memA), (by (repeat (first | exact .nil | apply LenIs.cons))), by decide +kernel, rfl⟩, rfl⟩ rfl (fun w hw => ⟨rfl, hw.ext⟩)
theorem oadd_c {b : Nat} {p q : Int × Int} (hp : two31 p) (hq : two31 q) (h : -2147483648 ≤ (TT.addE p q).1 ∧ (TT.addE p q).2 ≤ 2147483648) : ContIn Tryz.prog (CosW b) 256 [ptK b, arcV p.1 p.2, arcV q.1 q.2] (arcV (TT.addE p q).1 (TT.addE p q).2) := fun w hs => by
  have q1 := fadd_c (a := p.1) (b := p.2) (c := q.1) (d := q.2) hp hq h
  change Cont _ _ _ (.tuple [arcV (TT.addE p q).1 (TT.addE p q).2, .int .i64 0].toArray) at q1
  generalize TT.addE p q = r at *
  refine enter0 Tryz.func256 rfl rfl rfl ?_
  repeat' (first
    | (refine nxN ?_)
    | (show YK _ _ _ _ _ ⟨_, .call { callee := .value (.func 300), args := _, argTypes := _ }, _, _, _, _⟩ _; refine YK.mk (y_callIn (okeep_c) (fun w' hw' => hs.keep hw'.ext) ⟨rfl, rfl, rfl, rfl⟩ (by decide +kernel)) ?_)
    | (show YG _ _ _ _ _ _ ⟨_, .call { callee := .value (.func 300), args := _, argTypes := _ }, _, _, _, _⟩ _; refine YG.mk (fun hb => by (try (have hc := And.left hb; have hb := And.right hb; rw [hc])); (try rw [hb]); exact y_callIn (okeep_c) (fun w' hw' => hs.keep hw'.ext) ⟨rfl, rfl, rfl, rfl⟩ (by decide +kernel)) ?_)
    | (show YK _ _ _ _ _ _ _; first | refine YK.mk (y_callA (q1) ⟨rfl, rfl, rfl⟩) ?_)
    | (refine nxV ?_)
    | (refine nxRS ?_) | (refine nxRS1 fun _ => ?_)
    | (refine nxRM ?_) | (refine nxRM1 fun _ => ?_)
    | (show YG _ _ _ _ _ _ _ _; refine YG.mk (fun hb => by (try (have hc := And.left hb; have hb := And.right hb; rw [hc])); (try rw [hb]); first | exact (y_callA (q1) ⟨rfl, rfl, rfl⟩) | exact V.y vAuto) ?_)
    | (refine nxG ?_)
    | (refine nxX ?_)
    | (refine G.condN rfl (fun hc => ?_) (fun hc => ?_) <;> (try first | exact False.elim hc | (exfalso; omega))))
  all_goals exact X.ret (vs := [_]) rfl ⟨⟨_, _, _, _, rfl, (by exact memA), (by (repeat (first | exact .nil | apply LenIs.cons))), by decide +kernel, rfl⟩, rfl⟩ rfl (fun w hw => ⟨rfl, hw.ext⟩)
theorem par_built (s1 s2 c1 c2 t1 t2 d1 d2 k1 k2 e1 e2 : Int) : Tryz.prog.built 285 [(0, .agg [.int .i64 s1, .int .i64 s2].toArray), (1, .agg [.int .i64 c1, .int .i64 c2].toArray), (2, .agg [.int .i64 t1, .int .i64 t2].toArray), (3, .agg [.int .i64 d1, .int .i64 d2].toArray), (4, .agg [.int .i64 k1, .int .i64 k2].toArray), (5, .agg [.int .i64 e1, .int .i64 e2].toArray)] = some [.int .i64 s1, .int .i64 s2, .int .i64 c1, .int .i64 c2, .int .i64 t1, .int .i64 t2, .int .i64 d1, .int .i64 d2, .int .i64 k1, .int .i64 k2, .int .i64 e1, .int .i64 e2].toArray := by kernel_rfl
abbrev v12 (s1 s2 c1 c2 t1 t2 d1 d2 k1 k2 e1 e2 : Int) : Value := .agg [.int .i64 s1, .int .i64 s2, .int .i64 c1, .int .i64 c2, .int .i64 t1, .int .i64 t2, .int .i64 d1, .int .i64 d2, .int .i64 k1, .int .i64 k2, .int .i64 e1, .int .i64 e2].toArray
theorem oof_c {b : Nat} {l1 l2 t1 t2 k1 k2 : Int} (v1 : validI l1 l2 = true) (v2 : validI t1 t2 = true) (v3 : validI k1 k2 = true) : ContIn Tryz.prog (CosW b) 255 [ptK b, v6 l1 l2 t1 t2 k1 k2]
    (v12 (TT.encl l1 l2).1 (TT.encl l1 l2).2 (TT.cosE l1 l2).1 (TT.cosE l1 l2).2 (TT.encl t1 t2).1 (TT.encl t1 t2).2 (TT.cosE t1 t2).1 (TT.cosE t1 t2).2 (TT.encl k1 k2).1 (TT.encl k1 k2).2 (TT.cosE k1 k2).1 (TT.cosE k1 k2).2) := fun w hs => by
  refine enter0 Tryz.func255 rfl rfl rfl ?_
  repeat' (first
    | (refine nxN ?_)
    | (show YK _ _ _ _ _ ⟨_, .call { callee := .value (.func 298), args := _, argTypes := _ }, _, _, _, _⟩ _; refine YK.mk (y_callIn (osin_c (by assumption)) (fun w' hw' => hs.keep hw'.ext) ⟨rfl, rfl, rfl⟩ (by decide +kernel)) ?_)
    | (show YG _ _ _ _ _ _ ⟨_, .call { callee := .value (.func 298), args := _, argTypes := _ }, _, _, _, _⟩ _; refine YG.mk (fun hb => by (try (have hc := And.left hb; have hb := And.right hb; rw [hc])); (try rw [hb]); exact y_callIn (osin_c (by assumption)) (fun w' hw' => hs.keep hw'.ext) ⟨rfl, rfl, rfl⟩ (by decide +kernel)) ?_)
    | (show YK _ _ _ _ _ ⟨_, .call { callee := .value (.func 299), args := _, argTypes := _ }, _, _, _, _⟩ _; refine YK.mk (y_callIn (ocos_c (by assumption)) (fun w' hw' => hs.keep hw'.ext) ⟨rfl, rfl, rfl⟩ (by decide +kernel)) ?_)
    | (show YG _ _ _ _ _ _ ⟨_, .call { callee := .value (.func 299), args := _, argTypes := _ }, _, _, _, _⟩ _; refine YG.mk (fun hb => by (try (have hc := And.left hb; have hb := And.right hb; rw [hc])); (try rw [hb]); exact y_callIn (ocos_c (by assumption)) (fun w' hw' => hs.keep hw'.ext) ⟨rfl, rfl, rfl⟩ (by decide +kernel)) ?_)
    | (show VK _ _ _ _ _ ⟨_, .load 34 _, _, _, _, _⟩ _; refine VK.mk (y_loadPart (k := 2) (by rfl) (by exact memA) (by decide +kernel) (by rfl)) ?_)
    | (show YK _ _ _ _ _ ⟨_, .load 34 _, _, _, _, _⟩ _; refine YK.ofV (y_loadPart (k := 2) (by rfl) (by exact memA) (by decide +kernel) (by rfl)) ?_)
    | (show VG _ _ _ _ _ _ ⟨_, .load 34 _, _, _, _, _⟩ _; refine VG.mk (fun hb => by (try rw [hb]); exact y_loadPart (k := 2) (by rfl) (by exact memA) (by decide +kernel) (by rfl)) ?_)
    | (show YG _ _ _ _ _ _ ⟨_, .load 34 _, _, _, _, _⟩ _; refine YG.mk (fun hb => by (try rw [hb]); exact V.y (y_loadPart (k := 2) (by rfl) (by exact memA) (by decide +kernel) (by rfl))) ?_)
    | (show VK _ _ _ _ _ ⟨_, .build 285 _, _, _, _, _⟩ _; refine VK.mk (y_build (parts := [(0, _), (1, _), (2, _), (3, _), (4, _), (5, _)]) (vs := [_, _, _, _, _, _]) ⟨rfl, rfl, rfl, rfl, rfl, rfl, rfl⟩ (par_built _ _ _ _ _ _ _ _ _ _ _ _)) ?_)
    | (show YK _ _ _ _ _ ⟨_, .build 285 _, _, _, _, _⟩ _; refine YK.ofV (y_build (parts := [(0, _), (1, _), (2, _), (3, _), (4, _), (5, _)]) (vs := [_, _, _, _, _, _]) ⟨rfl, rfl, rfl, rfl, rfl, rfl, rfl⟩ (par_built _ _ _ _ _ _ _ _ _ _ _ _)) ?_)
    | (refine nxV ?_)
    | (refine nxRS ?_) | (refine nxRS1 fun _ => ?_)
    | (refine nxRM ?_) | (refine nxRM1 fun _ => ?_)
    | (refine nxG ?_)
    | (refine G.mixedA 1 [.go 0, .go 1, .go 2, .go 4, .go 5, .go 6, .go 8, .go 9, .go 10, .go 12, .go 13, .go 14, .go 16, .go 17, .go 18, .go 20, .go 21, .go 22, .go 3, .go 7, .go 11, .go 15, .go 19, .go 23, .go 24, .go 25] ?_)
    | (refine nxX ?_)
    | (refine G.condN rfl (fun hc => ?_) (fun hc => ?_) <;> (try first | exact False.elim hc | (exfalso; omega))))
  all_goals exact X.ret (vs := [_]) rfl ⟨⟨_, _, _, _, rfl, (by exact memA), (by (repeat (first | exact .nil | apply LenIs.cons))), by decide +kernel, rfl⟩, rfl⟩ rfl (fun w hw => ⟨rfl, hw.ext⟩)
theorem Asin2_c {a b n m : Int} (h : two31 (a, b)) (hm0 : (TT.meetO (a, b)).1 ≤ (TT.meetO (a, b)).2) (h1 : TT.IsAsin (TT.meetO (a, b)).1 n) (h2 : TT.IsAsin (-(TT.meetO (a, b)).2) m) : Cont Tryz.prog 109 [arcV a b] (.tuple [arcV n (-m), .int .i64 0].toArray) := fun w => by
  unfold TT.meetO at *
  dsimp only at *
  have q1 := fvalid_t (lo := a) (hi := b) (by omega)
  have q2 := part_c (a := a) (b := b) (lo := -1073741824) (hi := 1073741824)
  rw [decide_eq_true hm0] at q2
  have q3 := asin_c h1
  have q4 := asin_c h2
  have hm := h2.1
  have hm2 := h2.2.1
  refine enter0 Tryz.func109 rfl rfl rfl ?_
  repeat' (first
    | (refine G.mixedM 6 [.go 0, .go 1, .go 3, .go 4, .go 5, .go 2, .go 6, .go 7, .go 8, .go 9, .go 10] [false, true] ?_; dsimp only [maskH])
    | (show YK _ _ _ _ _ _ _; first | refine YK.mk (y_callA (q1) ⟨rfl, rfl⟩) ?_ | refine YK.mk (y_callA (q2) ⟨rfl, rfl, rfl, rfl⟩) ?_ | refine YK.mk (y_callA (q3) ⟨rfl, rfl⟩) ?_ | refine YK.mk (y_callA (q4) ⟨rfl, rfl⟩) ?_)
    | (refine nxV ?_)
    | (refine nxRS ?_) | (refine nxRS1 fun _ => ?_)
    | (refine nxRM ?_) | (refine nxRM1 fun _ => ?_)
    | (show YG _ _ _ _ _ _ _ _; refine YG.mk (fun hb => by (try (have hc := And.left hb; have hb := And.right hb; rw [hc])); (try rw [hb]); first | exact (y_callA (q1) ⟨rfl, rfl⟩) | exact (y_callA (q2) ⟨rfl, rfl, rfl, rfl⟩) | exact (y_callA (q3) ⟨rfl, rfl⟩) | exact (y_callA (q4) ⟨rfl, rfl⟩) | exact V.y vAuto) ?_)
    | (refine nxG ?_)
    | (refine nxX ?_)
    | (refine G.condN rfl (fun hc => ?_) (fun hc => ?_) <;> (try first | exact False.elim hc | (exfalso; omega))))
  exact X.ret (vs := [_, _]) rfl ⟨⟨_, _, _, _, rfl, (by exact memA), (by (repeat (first | exact .nil | apply LenIs.cons))), by decide +kernel, rfl⟩, rfl, rfl⟩ rfl (fun w hw => ⟨rfl, hw.ext⟩)
theorem oalt_c {l1 l2 t1 t2 k1 k2 n m : Int} (hl : -5400000 ≤ l1 ∧ l1 ≤ l2 ∧ l2 ≤ 5400000) (ht : -5400000 ≤ t1 ∧ t1 ≤ t2 ∧ t2 ≤ 5400000) (hk : -100000000 ≤ k1 ∧ k1 ≤ k2 ∧ k2 ≤ 100000000)
    (hm0 : (TT.meetO (sideS (l1, l2) (t1, t2) (k1, k2))).1 ≤ (TT.meetO (sideS (l1, l2) (t1, t2) (k1, k2))).2) (i1 : TT.IsAsin (TT.meetO (sideS (l1, l2) (t1, t2) (k1, k2))).1 n) (i2 : TT.IsAsin (-(TT.meetO (sideS (l1, l2) (t1, t2) (k1, k2))).2) m) :
    Cont Tryz.prog 211 [v6 l1 l2 t1 t2 k1 k2] (.tuple [arcV n (-m), .int .i64 0].toArray) := fun w => by
  have o1 := TT.encl_ord hl.2.1
  have o2 := TT.encl_ord ht.2.1
  have o3 := TT.cosE_ord hl.2.1
  have o4 := TT.cosE_ord ht.2.1
  have o5 := TT.cosE_ord hk.2.1
  have o6 := TT.mulE_bd o1 o2
  have o7 := TT.mulE_bd o3 o4
  have o8 := TT.mulE_bd o7 o5
  have q1 := fun b => oof_c (b := b) (valI (lo := l1) (hi := l2) (by omega)) (valI (lo := t1) (hi := t2) (by omega)) (valI (lo := k1) (hi := k2) (by omega))
  have w1 := two_of o6
  have w2 := two_of o8
  have w3 : -2147483648 ≤ (TT.addE (TT.mulE (TT.encl l1 l2) (TT.encl t1 t2)) (TT.mulE (TT.mulE (TT.cosE l1 l2) (TT.cosE t1 t2)) (TT.cosE k1 k2))).1 ∧ (TT.addE (TT.mulE (TT.encl l1 l2) (TT.encl t1 t2)) (TT.mulE (TT.mulE (TT.cosE l1 l2) (TT.cosE t1 t2)) (TT.cosE k1 k2))).2 ≤ 2147483648 := by
    unfold TT.addE; dsimp only; omega
  have w4 : two31 (sideS (l1, l2) (t1, t2) (k1, k2)) := by unfold sideS TT.addE; dsimp only; omega
  have q2 := Asin2_c (a := (sideS (l1, l2) (t1, t2) (k1, k2)).1) (b := (sideS (l1, l2) (t1, t2) (k1, k2)).2) w4 hm0 i1 i2
  clear i1 i2 hm0 w4
  unfold sideS at *
  dsimp only at q2
  refine enter0 Tryz.func211 rfl rfl rfl ?_
  repeat' (first
    | (refine nxN ?_)
    | (show YK _ _ _ _ _ ⟨_, .call { callee := .value (.func 255), args := _, argTypes := _ }, _, _, _, _⟩ _; refine YK.mk (y_callIn (q1 _) (fun w' hw' => CosW.ofSt hw' (by exact memA)) ⟨rfl, rfl, rfl⟩ (by decide +kernel)) ?_)
    | (show YG _ _ _ _ _ _ ⟨_, .call { callee := .value (.func 255), args := _, argTypes := _ }, _, _, _, _⟩ _; refine YG.mk (fun hb => by (try (have hc := And.left hb; have hb := And.right hb; rw [hc])); (try rw [hb]); exact y_callIn (q1 _) (fun w' hw' => CosW.ofSt hw' (by exact memA)) ⟨rfl, rfl, rfl⟩ (by decide +kernel)) ?_)
    | (show YK _ _ _ _ _ ⟨_, .call { callee := .value (.func 257), args := _, argTypes := _ }, _, _, _, _⟩ _; refine YK.mk (y_callIn (omul_c (by assumption) (by assumption)) (fun w' hw' => CosW.ofSt hw' (by exact memA)) ⟨rfl, rfl, rfl, rfl⟩ (by decide +kernel)) ?_)
    | (show YG _ _ _ _ _ _ ⟨_, .call { callee := .value (.func 257), args := _, argTypes := _ }, _, _, _, _⟩ _; refine YG.mk (fun hb => by (try (have hc := And.left hb; have hb := And.right hb; rw [hc])); (try rw [hb]); exact y_callIn (omul_c (by assumption) (by assumption)) (fun w' hw' => CosW.ofSt hw' (by exact memA)) ⟨rfl, rfl, rfl, rfl⟩ (by decide +kernel)) ?_)
    | (show YK _ _ _ _ _ ⟨_, .call { callee := .value (.func 256), args := _, argTypes := _ }, _, _, _, _⟩ _; refine YK.mk (y_callIn (oadd_c (by assumption) (by assumption) (by assumption)) (fun w' hw' => CosW.ofSt hw' (by exact memA)) ⟨rfl, rfl, rfl, rfl⟩ (by decide +kernel)) ?_)
    | (show YG _ _ _ _ _ _ ⟨_, .call { callee := .value (.func 256), args := _, argTypes := _ }, _, _, _, _⟩ _; refine YG.mk (fun hb => by (try (have hc := And.left hb; have hb := And.right hb; rw [hc])); (try rw [hb]); exact y_callIn (oadd_c (by assumption) (by assumption) (by assumption)) (fun w' hw' => CosW.ofSt hw' (by exact memA)) ⟨rfl, rfl, rfl, rfl⟩ (by decide +kernel)) ?_)
    | (show VK _ _ _ _ _ ⟨_, .load 92 _, _, _, _, _⟩ _; refine VK.mk (y_loadPart (k := 2) (by rfl) (by exact memA) (by decide +kernel) (by rfl)) ?_)
    | (show YK _ _ _ _ _ ⟨_, .load 92 _, _, _, _, _⟩ _; refine YK.ofV (y_loadPart (k := 2) (by rfl) (by exact memA) (by decide +kernel) (by rfl)) ?_)
    | (show VG _ _ _ _ _ _ ⟨_, .load 92 _, _, _, _, _⟩ _; refine VG.mk (fun hb => by (try rw [hb]); exact y_loadPart (k := 2) (by rfl) (by exact memA) (by decide +kernel) (by rfl)) ?_)
    | (show YG _ _ _ _ _ _ ⟨_, .load 92 _, _, _, _, _⟩ _; refine YG.mk (fun hb => by (try rw [hb]); exact V.y (y_loadPart (k := 2) (by rfl) (by exact memA) (by decide +kernel) (by rfl))) ?_)
    | (show YK _ _ _ _ _ _ _; first | refine YK.mk (y_callA (q2) ⟨rfl, rfl⟩) ?_)
    | (refine nxV ?_)
    | (refine nxRS ?_) | (refine nxRS1 fun _ => ?_)
    | (refine nxRM ?_) | (refine nxRM1 fun _ => ?_)
    | (show YG _ _ _ _ _ _ _ _; refine YG.mk (fun hb => by (try (have hc := And.left hb; have hb := And.right hb; rw [hc])); (try rw [hb]); first | exact (y_callA (q2) ⟨rfl, rfl⟩) | exact V.y vAuto) ?_)
    | (refine nxG ?_)
    | (refine G.mixedA 3 [.go 0, .go 1, .go 2, .go 3, .go 4, .go 5, .go 7, .go 8, .go 9, .go 10, .go 11, .go 12, .go 14, .go 15, .pend 18, .go 6, .go 13, .go 16, .go 17, .done, .go 19] ?_)
    | (refine G.mixedA 5 [.go 0, .go 1, .go 2, .go 3, .go 4, .go 5, .go 6] ?_)
    | (refine nxX ?_)
    | (refine G.condN rfl (fun hc => ?_) (fun hc => ?_) <;> (try first | exact False.elim hc | (exfalso; omega))))
  all_goals first
    | (exfalso; simp at hc; omega)
    | exact X.ret (vs := [_, _]) rfl ⟨⟨_, _, _, _, rfl, (by exact memA), (by (repeat (first | exact .nil | apply LenIs.cons))), by decide +kernel, rfl⟩, rfl, rfl⟩ rfl (fun w hw => ⟨rfl, hw.ext⟩)
theorem olat_c {a b : Int} (h : -5400000 ≤ a ∧ a ≤ b ∧ b ≤ 5400000) : Cont Tryz.prog 254 [arcV a b] (.bool true) := fun w => by
  have q1 := gval_c (a := a) (b := b) (by omega)
  refine enter0 Tryz.func254 rfl rfl rfl ?_
  repeat' (first
    | (refine nxN ?_)
    | (show YK _ _ _ _ _ _ _; first | refine YK.mk (y_callA (q1) ⟨rfl, rfl⟩) ?_)
    | (refine nxV ?_)
    | (refine nxRS ?_) | (refine nxRS1 fun _ => ?_)
    | (refine nxRM ?_) | (refine nxRM1 fun _ => ?_)
    | (show YG _ _ _ _ _ _ _ _; refine YG.mk (fun hb => by (try (have hc := And.left hb; have hb := And.right hb; rw [hc])); (try rw [hb]); first | exact (y_callA (q1) ⟨rfl, rfl⟩) | exact V.y vAuto) ?_)
    | (refine nxG ?_)
    | (refine nxX ?_)
    | (refine G.condN rfl (fun hc => ?_) (fun hc => ?_) <;> (try first | exact False.elim hc | (exfalso; omega))))
  all_goals exact X.ret (vs := [_]) rfl ⟨rfl, rfl⟩ rfl (fun w hw => ⟨ret_bool (by simp; omega), hw.ext⟩)
theorem ovalid_c {l1 l2 t1 t2 k1 k2 : Int} (hl : -5400000 ≤ l1 ∧ l1 ≤ l2 ∧ l2 ≤ 5400000) (ht : -5400000 ≤ t1 ∧ t1 ≤ t2 ∧ t2 ≤ 5400000) (hk : -100000000 ≤ k1 ∧ k1 ≤ k2 ∧ k2 ≤ 100000000) : Cont Tryz.prog 210 [v6 l1 l2 t1 t2 k1 k2] (.bool true) := fun w => by
  have q1 := olat_c hl
  have q2 := olat_c ht
  have q3 := gval_c (a := k1) (b := k2) (by omega)
  refine enter0 Tryz.func210 rfl rfl rfl ?_
  repeat' (first
    | (refine nxN ?_)
    | (show VK _ _ _ _ _ ⟨_, .load 34 _, _, _, _, _⟩ _; refine VK.mk (y_loadPart (k := 2) (by rfl) (by exact memA) (by decide +kernel) (by rfl)) ?_)
    | (show YK _ _ _ _ _ ⟨_, .load 34 _, _, _, _, _⟩ _; refine YK.ofV (y_loadPart (k := 2) (by rfl) (by exact memA) (by decide +kernel) (by rfl)) ?_)
    | (show VG _ _ _ _ _ _ ⟨_, .load 34 _, _, _, _, _⟩ _; refine VG.mk (fun hb => by (try rw [hb]); exact y_loadPart (k := 2) (by rfl) (by exact memA) (by decide +kernel) (by rfl)) ?_)
    | (show YG _ _ _ _ _ _ ⟨_, .load 34 _, _, _, _, _⟩ _; refine YG.mk (fun hb => by (try rw [hb]); exact V.y (y_loadPart (k := 2) (by rfl) (by exact memA) (by decide +kernel) (by rfl))) ?_)
    | (show YK _ _ _ _ _ _ _; first | refine YK.mk (y_callA (q1) ⟨rfl, rfl⟩) ?_ | refine YK.mk (y_callA (q2) ⟨rfl, rfl⟩) ?_ | refine YK.mk (y_callA (q3) ⟨rfl, rfl⟩) ?_)
    | (refine nxV ?_)
    | (refine nxRS ?_) | (refine nxRS1 fun _ => ?_)
    | (refine nxRM ?_) | (refine nxRM1 fun _ => ?_)
    | (show YG _ _ _ _ _ _ _ _; refine YG.mk (fun hb => by (try (have hc := And.left hb; have hb := And.right hb; rw [hc])); (try rw [hb]); first | exact (y_callA (q1) ⟨rfl, rfl⟩) | exact (y_callA (q2) ⟨rfl, rfl⟩) | exact (y_callA (q3) ⟨rfl, rfl⟩) | exact V.y vAuto) ?_)
    | (refine nxG ?_)
    | (refine nxX ?_)
    | (refine G.condN rfl (fun hc => ?_) (fun hc => ?_) <;> (try first | exact False.elim hc | (exfalso; omega))))
  all_goals exact X.ret (vs := [_]) rfl ⟨rfl, rfl⟩ rfl (fun w hw => ⟨ret_bool (by simp), hw.ext⟩)
theorem oAlt_c {l1 l2 t1 t2 k1 k2 n m : Int} (hl : -5400000 ≤ l1 ∧ l1 ≤ l2 ∧ l2 ≤ 5400000) (ht : -5400000 ≤ t1 ∧ t1 ≤ t2 ∧ t2 ≤ 5400000) (hk : -100000000 ≤ k1 ∧ k1 ≤ k2 ∧ k2 ≤ 100000000)
    (hm0 : (TT.meetO (sideS (l1, l2) (t1, t2) (k1, k2))).1 ≤ (TT.meetO (sideS (l1, l2) (t1, t2) (k1, k2))).2) (i1 : TT.IsAsin (TT.meetO (sideS (l1, l2) (t1, t2) (k1, k2))).1 n) (i2 : TT.IsAsin (-(TT.meetO (sideS (l1, l2) (t1, t2) (k1, k2))).2) m) :
    Cont Tryz.prog 154 [v6 l1 l2 t1 t2 k1 k2] (.tuple [arcV n (-m), .int .i64 0].toArray) := fun w => by
  have q1 := ovalid_c hl ht hk
  have q2 := oalt_c hl ht hk hm0 i1 i2
  clear i1 i2 hm0
  refine enter0 Tryz.func154 rfl rfl rfl ?_
  repeat' (first
    | (refine nxN ?_)
    | (show YK _ _ _ _ _ _ _; first | refine YK.mk (y_callA (q1) ⟨rfl, rfl⟩) ?_ | refine YK.mk (y_callA (q2) ⟨rfl, rfl⟩) ?_)
    | (refine nxV ?_)
    | (refine nxRS ?_) | (refine nxRS1 fun _ => ?_)
    | (refine nxRM ?_) | (refine nxRM1 fun _ => ?_)
    | (show YG _ _ _ _ _ _ _ _; refine YG.mk (fun hb => by (try (have hc := And.left hb; have hb := And.right hb; rw [hc])); (try rw [hb]); first | exact (y_callA (q1) ⟨rfl, rfl⟩) | exact (y_callA (q2) ⟨rfl, rfl⟩) | exact V.y vAuto) ?_)
    | (refine nxG ?_)
    | (refine nxX ?_)
    | (refine G.condN rfl (fun hc => ?_) (fun hc => ?_) <;> (try first | exact False.elim hc | (exfalso; omega))))
  all_goals exact X.ret (vs := [_, _]) rfl ⟨⟨_, _, _, _, rfl, (by exact memA), (by (repeat (first | exact .nil | apply LenIs.cons))), by decide +kernel, rfl⟩, rfl, rfl⟩ rfl (fun w hw => ⟨rfl, hw.ext⟩)
end Go.Proofs.YtjmdeplmenbmmaaGreatDoor
set_option maxHeartbeats 4000000
namespace Go.Proofs.YtjmdeplmenbmmaaGreatDoor
open Go.RowKit Go.Shelf
theorem append_calls (Bs b off cap : Nat) (zs : List FrQ) (hreach : zs.length ≤ 1000000) (w : World) (hBn : Bs < w.heap.size)
    (hc : w.cell? ⟨Bs, 0, none⟩ = some (.slice (some ⟨b, off, none⟩) zs.length cap)) (hI : FracsAt w.heap.size w b off zs) :
    Calls Tryz.prog 328 #[.slice none 0 0, .func (.func 297) #[] #[.pointer (some ⟨Bs, 0, none⟩)]] w fun e W' =>
      (∃ v, e = .returned v ∧ W'.ownsRow w.heap.size 34 2 v zs.length (zs.flatMap cQ)) ∧ Below w.heap.size w W' :=
  callsIn_wide.1 (append_in Fence.wide 3 trivial trivial rfl (by decide) Bs b off cap zs hreach w hBn hc hI)
set_option maxHeartbeats 1000000 in
theorem collect_calls (Bs b off cap : Nat) (zs : List FrQ) (hreach : zs.length ≤ 1000000) (w : World) (hBn : Bs < w.heap.size)
    (hc : w.cell? ⟨Bs, 0, none⟩ = some (.slice (some ⟨b, off, none⟩) zs.length cap)) (hI : FracsAt w.heap.size w b off zs) :
    Calls Tryz.prog 295 #[.func (.func 297) #[] #[.pointer (some ⟨Bs, 0, none⟩)]] w fun e W' =>
      (∃ v, e = .returned v ∧ W'.ownsRow w.heap.size 34 2 v zs.length (zs.flatMap cQ)) ∧ Below w.heap.size w W' := by
  have hcon := append_calls Bs b off cap zs hreach w hBn hc hI
  clear hc hI
  go_enter Tryz.func295, Tryz.ntmps295
  go_wp2_with (go_at_call 328; refine hcon.mono ?_; rintro e w' ⟨⟨v, rfl, hr⟩, hb⟩)
  go_ret
  exact ⟨⟨v, rfl, hr⟩, hb⟩
set_option maxHeartbeats 1000000 in
theorem sorted1_calls (Bs b off cap : Nat) (x : FrQ) (fv : Value) (w : World) (hBn : Bs < w.heap.size)
    (hc : w.cell? ⟨Bs, 0, none⟩ = some (.slice (some ⟨b, off, none⟩) 1 cap)) (hI : FracsAt w.heap.size w b off [x]) :
    Calls Tryz.prog 251 #[.func (.func 297) #[] #[.pointer (some ⟨Bs, 0, none⟩)], fv] w fun e W' =>
      (∃ v, e = .returned v ∧ W'.ownsRow w.heap.size 34 2 v 1 ([x].flatMap cQ)) ∧ Below w.heap.size w W' := by
  have hcon := collect_calls Bs b off cap [x] (by simp) w hBn hc hI
  clear hc hI
  go_enter Tryz.func251, Tryz.ntmps251
  go_wp2_with (first | (go_at_call 295; refine hcon.mono ?_; rintro e w' ⟨⟨v, rfl, hr⟩, hb⟩; obtain ⟨g, cap', rfl⟩ := ownsRow_succ hr) | (go_at_call 296; refine (sort1_world _ _ _ _).mono ?_; rintro e w'' ⟨rfl, rfl⟩))
  go_ret
  exact ⟨⟨_, rfl, hr⟩, hb⟩
end Go.Proofs.YtjmdeplmenbmmaaGreatDoor
set_option maxHeartbeats 4000000
namespace Go.Proofs.YtjmdeplmenbmmaaGreatDoor
open Go.RowKit
theorem below_grown (w : World) (k : Nat) (os : Array Obj) : Below w.heap.size w (Go.Sort.grow (w.drewN k) os) :=
  ⟨rfl, rfl, rfl, by simp [Go.Sort.grow, World.drewN], fun j hj => by simp [Go.Sort.grow, World.drewN, Array.getElem?_append, hj]⟩
theorem dec_len : ∀ (k u : Nat), u < 10 ^ (k + 1) → (Lib.decDigits u).length ≤ k + 1
  | 0, u, h => by
    rw [Lib.decDigits, dif_pos (by simpa using h)]; simp
  | k + 1, u, h => by
    rw [Lib.decDigits]
    split
    · simp
    · have := dec_len k (u / 10) (by rw [Nat.pow_succ] at h; omega)
      simp; omega
theorem itoa_len {n : Int} (h : -9223372036854775808 ≤ n ∧ n ≤ 9223372036854775807) : (Lib.itoa n).length ≤ 20 := by
  unfold Lib.itoa
  split
  · have := dec_len 18 n.natAbs (by omega)
    simp; omega
  · have := dec_len 18 n.toNat (by omega)
    omega
theorem repeat_c (l : List UInt8) {m : Int} (h : 0 ≤ m ∧ m ≤ 1000000) (hl : l.length ≤ 1000000) : Cont Tryz.prog 307 [strV l, .int .i64 m] (strV (Lib.repeatL l m.toNat)) := fun w => by
  obtain ⟨c, rfl⟩ := Int.eq_ofNat_of_zero_le h.1
  have hc : c ≤ 1000000 := by omega
  refine (Tryz.strings_Repeat ⟨l.toArray⟩ c w (by omega) (by rw [size_str]; exact Nat.le_trans (Nat.mul_le_mul hl hc) (by decide))).mono fun e w' ⟨he, hb⟩ => ⟨?_, hb⟩
  rw [he]
  simp
end Go.Proofs.YtjmdeplmenbmmaaGreatDoor
set_option maxHeartbeats 4000000
namespace Go.Proofs.YtjmdeplmenbmmaaGreatDoor
open Go.RowKit
def ContXI (P : Program) (C : World → Prop) (f : FuncId) (args : List Value) {ι : Type} (post : ι → Prop) (v : ι → Value) (Hn : ι → List Hl) : Prop :=
  ∀ w, C w → Calls P f args.toArray w (RetX post v Hn w)
section
variable {P : Program} {C : World → Prop} {n : Nat} {L : FL} {w0 : World} {H : List Hl} {Q : Exit → Act → World → Prop} {ops : Array Oper} {rest : List Oper} {d : Option Tmp} {dd : Nat} {ty : TypeId} {pos : String} {af : Array Edge} {gd g : Option (Nat × Bool)} {x : Operand} {t t' : TypeId} {ι : Type} {te : TypeId} {p : Value}
theorem x_callI {f : FuncId} {xs : List Operand} {vs : List Value} {tys : Array TypeId} {post : ι → Prop} {v : ι → Value} {Hn : ι → List Hl} (hc : ContXI P C f vs post v Hn) (ha : AE L xs vs) (hC : ∀ w, St w0 H w → C w) (hg : isGo P f = true) (hd : Nat.blt dd n = true) :
    EX P n L w0 H ⟨some dd, .call { callee := .value (.func f), args := xs.toArray, argTypes := tys }, ty, pos, af, gd⟩ post (fun z => (dd, v z) :: L) (fun z => Hn z ++ H) := fun a w hfr hw K Q hK => by
  unfold Oper.wp
  rw [run_call hfr ha hg]
  refine (hc w (hC w hw)).mono ?_
  rintro e w' ⟨z, hz, rfl, hb, hn⟩
  exact hK _ _ ⟨z, hz, hfr.put (by simpa [Nat.blt_eq] using hd), hw.news hb hn⟩
theorem RS.callI {f : FuncId} {xs : List Operand} {vs : List Value} {tys : Array TypeId} {post : ι → Prop} {v : ι → Value} {Hn : ι → List Hl} (hc : ContXI P C f vs post v Hn) (ha : AE L xs vs) (hC : ∀ w, St w0 H w → C w) (h : ∀ z, post z → RS P ops Q n ((dd, v z) :: L) w0 (Hn z ++ H) rest) (hg : isGo P f = true := by decide +kernel) (hd : Nat.blt dd n = true := by rfl) :
    RS P ops Q n L w0 H (⟨some dd, .call { callee := .value (.func f), args := xs.toArray, argTypes := tys }, ty, pos, af, none⟩ :: rest) := RS.actX rfl (x_callI hc ha hC hg hd) h
end
abbrev cS (l : List UInt8) : List Value := [strV l]
end Go.Proofs.YtjmdeplmenbmmaaGreatDoor
set_option maxHeartbeats 8000000
namespace Go.Proofs.YtjmdeplmenbmmaaGreatDoor
open Go.RowKit
abbrev boxV (B : Nat) : Value := .slice (some ⟨B, 0, none⟩) 1 1
abbrev c1V (v : Value) : List Value := [v]
abbrev sl1 (b cap : Nat) : Value := .slice (some ⟨b, 0, none⟩) 1 cap
theorem box_of {w0 w : World} {H : List Hl} {b : Nat} {t : TypeId} {v : Value} (hw : St w0 H w) (hm : Hl.blk b t [v] ∈ H) : RO w (boxV b) 1 1 [v] := by
  refine ⟨rfl, some ⟨b, 0, none⟩, 1, rfl, Nat.le_refl _, fun _ => ⟨_, rfl, fun j u hu => ?_⟩, fun g => by cases g⟩
  match j, hu with
  | 0, hu => exact (hw.cell hm 0).trans hu
theorem NewIn.blk {H Hn : List Hl} {b : Nat} {t : TypeId} {v : Value} (h : Hl.blk b t [v] ∈ H) (hr : NewIn H Hn) : NewIn H (Hl.nw (boxV b) c1V 1 [v] :: Hn) := ⟨fun _ _ hw => ⟨⟨box_of hw h, fun _ _ b' hb => by
  have h1 := (hw.all _ h).1
  have : b' = b := by
    have h2 : some b = some b' := hb
    exact (Option.some.inj h2).symm
  rw [this]; exact h1⟩, rfl⟩, hr⟩
theorem values_c (b cap : Nat) : ContX Tryz.prog [] 252 [sl1 b cap] (fun _ : Nat => True) (fun z => .func (.func 297) #[] #[bxP z]) (fun z => [Hl.nw (boxV z) c1V 1 [sl1 b cap]]) := fun w hw0 => by
  refine enter Tryz.func252 rfl rfl rfl hw0 ?_
  repeat' (first
    | (refine nxN ?_)
    | (refine nxV ?_)
    | (refine nxRS ?_) | (refine nxRS1 fun _ => ?_)
    | (refine nxRM ?_) | (refine nxRM1 fun _ => ?_)
    | (refine nxG ?_)
    | (refine nxX ?_)
    | (refine G.condN rfl (fun hc => ?_) (fun hc => ?_) <;> (try first | exact False.elim hc | (exfalso; omega))))
  rename_i B
  exact X.retN (vs := [_]) B rfl ⟨rfl, rfl⟩ rfl trivial rfl (NewIn.blk (b := B) (v := sl1 b cap) (t := 241) (by exact memA) NewIn.nil)
structure SqW (Bs b cap : Nat) (x : PtT) (w : World) : Prop where
  bx : RO w (boxV Bs) 1 1 [sl1 b cap]
  ro : RO w (sl1 b cap) 2 1 (cPt x)
theorem sorted1_x {Bs b cap : Nat} {x : PtT} {fv : Value} : ContXI Tryz.prog (SqW Bs b cap x) 251 [.func (.func 297) #[] #[bxP Bs], fv] (fun _ : Value => True) (fun z => z) (fun z => [Hl.nw z cPt 2 [x]]) := fun w hs => by
  obtain ⟨_, A, c, e, _, hc, _⟩ := hs.bx
  cases e
  obtain ⟨ad, e1, hcell⟩ := hc (by simp)
  cases e1
  have c0 : w.cell? ⟨Bs, 0, none⟩ = some (sl1 b cap) := hcell 0 _ rfl
  obtain ⟨_, A2, c2, e2, _, hc2, _⟩ := hs.ro
  cases e2
  obtain ⟨ad2, e3, hcell2⟩ := hc2 (by simp [cPt])
  cases e3
  have d0 : w.cell? ⟨b, 0, none⟩ = some (.int .i64 x.1) := hcell2 0 _ rfl
  have d1 : w.cell? ⟨b, 1, none⟩ = some (.int .i64 x.2) := hcell2 1 _ rfl
  refine (sorted1_calls Bs b 0 cap x fv w (World.block_lt_of_cell? w _ c0) c0 ⟨World.block_lt_of_cell? w _ d0, fun j hj => ?_⟩).mono ?_
  · have : j = 0 := by simp at hj; omega
    subst this
    exact ⟨d0, d1⟩
  · rintro e w' ⟨⟨v, rfl, hr⟩, hb⟩
    refine ⟨v, trivial, rfl, hb, fun h hm => ?_⟩
    rw [List.mem_singleton.1 hm]
    exact ⟨⟨RO.of_row hr, fun _ _ b hb2 => (hr.lt b hb2).1⟩, rfl⟩
theorem arcV_eq {a b c d : Int} (h : a = c) (h2 : b = d) : arcV a b = arcV c d := by rw [h, h2]
theorem around_c {b cap : Nat} {x : PtT} (hx : -10800000 ≤ x.1 ∧ x.1 < 10800000 ∧ x.1 ≤ x.2 ∧ x.2 - x.1 < 21600000) : ContR Tryz.prog [Hl.rd (sl1 b cap) cPt 2 [x]] 209 [sl1 b cap] (arcV x.1 x.2) := fun w hw0 => by
  have hSq : ∀ (w0 : World) (H : List Hl) (B : Nat) w', St w0 H w' → RdT H (boxV B) c1V 1 [sl1 b cap] → RdT H (sl1 b cap) cPt 2 [x] → SqW B b cap x w' := fun w0 H B w' hw' h1 h2 => ⟨h1 _ _ hw', h2 _ _ hw'⟩
  have l1 : (([x].length : Nat) : Int) = 1 := rfl
  have n1 : (nth [x] 0).1 = x.1 := rfl
  have n2 : (nth [x] 0).2 = x.2 := rfl
  refine enter Tryz.func209 rfl rfl rfl hw0 ?_
  repeat' (first
    | (refine nxN ?_)
    | (show G _ _ _ _ _ _ (.loop _); refine G.loopN 2 (GR.step ?_))
    | (show X (Exit.then (Code.rounds _ _ _ _) _) _ _ _ _ .normal; refine X.round (GR.step ?_))
    | (show RS _ _ _ _ _ _ _ (⟨some 12, _, _, _, _, _⟩ :: _); refine RS.callX (values_c _ _) ⟨rfl, rfl⟩ ?_; rintro B -; dsimp only [List.cons_append, List.nil_append])
    | (show RS _ _ _ _ _ _ _ (⟨some 13, _, _, _, _, _⟩ :: _); refine RS.callI (sorted1_x (b := b) (cap := cap) (x := x)) ⟨rfl, rfl, rfl⟩ (fun w' hw' => hSq _ _ _ _ hw' (by exact rdA) (by exact rdA)) ?_; rintro z -; dsimp only [List.cons_append, List.nil_append])
    | (refine nxV ?_)
    | (refine nxRS ?_) | (refine nxRS1 fun _ => ?_)
    | (refine nxRM ?_) | (refine nxRM1 fun _ => ?_)
    | (refine nxG ?_)
    | (refine nxX ?_)
    | (refine G.condN rfl (fun hc => ?_) (fun hc => ?_) <;> (try first | exact False.elim hc | (exfalso; omega))))
  all_goals first
    | (exfalso; omega)
    | (refine X.ret (vs := [_]) rfl ⟨⟨_, _, _, _, rfl, (by exact memA), (by (repeat (first | exact .nil | apply LenIs.cons))), by decide +kernel, rfl⟩, rfl⟩ rfl (fun w hw => ⟨?_, hw.ext⟩); exact congrArg Ending.returned (arcV_eq (by omega) (by omega)))
end Go.Proofs.YtjmdeplmenbmmaaGreatDoor
set_option maxHeartbeats 8000000
namespace Go.Proofs.YtjmdeplmenbmmaaGreatDoor
open Go.RowKit
def bxL (x : RR.CellT) : LegT := ((bxA x, bxB x), (bxC x, bxD x))
theorem cv_ok {x : RR.CellT} (ok : RR.okC x) : cvB x.lv x.r x.c = true := by
  obtain ⟨h1, h2, h3⟩ := ok
  unfold cvB
  rw [Int.toNat_natCast]
  have e : (2 : Int) ^ x.lv = ((2 ^ x.lv : Nat) : Int) := by simp
  rw [e]
  simp only [Bool.and_eq_true, decide_eq_true_eq]
  omega
theorem cBox_c {x : RR.CellT} (ok : RR.okC x) : Cont Tryz.prog 192 [celV x.lv x.r x.c] (.tuple [plV (bxA x) (bxB x) (bxC x) (bxD x), .int .i64 0].toArray) := fun w => by
  have q1 := cval_c x.lv x.r x.c
  rw [cv_ok ok] at q1
  have q2 := box_c ok
  generalize bxA x = a at *
  generalize bxB x = b at *
  generalize bxC x = c at *
  generalize bxD x = d at *
  refine enter0 Tryz.func192 rfl rfl rfl ?_
  repeat' (first
    | (refine nxN ?_)
    | (show YK _ _ _ _ _ _ _; first | refine YK.mk (y_callA (q1) ⟨rfl, rfl⟩) ?_ | refine YK.mk (y_callA (q2) ⟨rfl, rfl⟩) ?_)
    | (refine nxV ?_)
    | (refine nxRS ?_) | (refine nxRS1 fun _ => ?_)
    | (refine nxRM ?_) | (refine nxRM1 fun _ => ?_)
    | (show YG _ _ _ _ _ _ _ _; refine YG.mk (fun hb => by (try (have hc := And.left hb; have hb := And.right hb; rw [hc])); (try rw [hb]); first | exact (y_callA (q1) ⟨rfl, rfl⟩) | exact (y_callA (q2) ⟨rfl, rfl⟩) | exact V.y vAuto) ?_)
    | (refine nxG ?_)
    | (refine nxX ?_)
    | (refine G.condN rfl (fun hc => ?_) (fun hc => ?_) <;> (try first | exact False.elim hc | (exfalso; omega))))
  all_goals exact X.ret (vs := [_, _]) rfl ⟨⟨_, _, _, _, rfl, (by exact memA), (by (repeat (first | exact .nil | apply LenIs.cons))), by decide +kernel, rfl⟩, rfl, rfl⟩ rfl (fun w hw => ⟨rfl, hw.ext⟩)
theorem idx1 (x : RR.CellT) : RR.IdxOk [x] := ⟨fun i a b _ h => by simp at h, fun i a b c d _ h => by simp at h⟩
theorem boxes1_c {v : Value} {x : RR.CellT} (ok : RR.okC x) : ContX Tryz.prog [Hl.rd v cT 3 [x]] 150 [v] (fun _ : Sl => True) (fun z => .tuple [z.v, .int .i64 0].toArray) (fun z => [Hl.nw z.v cLg 4 [bxL x]]) := fun w hw0 => by
  have q1 := vreg_c v [x] (fun y hy => by rw [List.mem_singleton.1 hy]; exact ok) (idx1 x) (by simp)
  have q2 := cBox_c ok
  have l1 : (([x].length : Nat) : Int) = 1 := rfl
  refine enter Tryz.func150 rfl rfl rfl hw0 ?_
  repeat' (first
    | (refine nxN ?_)
    | (show G _ _ _ _ _ _ (.loop _); refine G.loopN 2 (GR.step ?_))
    | (show X (Exit.then (Code.rounds _ _ _ _) _) _ _ _ _ .normal; refine X.round (GR.step ?_))
    | (show RS _ _ _ _ _ _ _ (⟨some _, .buildSlice 192 1 _, _, _, _, _⟩ :: _); refine RS.lit1L (a := bxL x) (fun v' => ?_) rfl)
    | (show YK _ _ _ _ _ _ _; first | refine YK.mk (y_callRA (q1) ⟨rfl, rfl⟩) ?_ | refine YK.mk (y_callA (q2) ⟨rfl, rfl⟩) ?_)
    | (refine nxV ?_)
    | (refine nxRS ?_) | (refine nxRS1 fun _ => ?_)
    | (refine nxRM ?_) | (refine nxRM1 fun _ => ?_)
    | (show YG _ _ _ _ _ _ _ _; refine YG.mk (fun hb => by (try (have hc := And.left hb; have hb := And.right hb; rw [hc])); (try rw [hb]); first | exact (y_callRA (q1) ⟨rfl, rfl⟩) | exact (y_callA (q2) ⟨rfl, rfl⟩) | exact V.y vAuto) ?_)
    | (refine nxG ?_)
    | (refine nxX ?_)
    | (refine G.condN rfl (fun hc => ?_) (fun hc => ?_) <;> (try first | exact False.elim hc | (exfalso; omega))))
  all_goals first
    | (exfalso; omega)
    | skip
  rename_i z
  exact X.retN (vs := [_, _]) z rfl ⟨rfl, rfl, rfl⟩ rfl trivial rfl (NewIn.rw (by exact memA) NewIn.nil)
end Go.Proofs.YtjmdeplmenbmmaaGreatDoor
