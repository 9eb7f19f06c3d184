/- Joined texts: Cis, Ci2. -/
import Derived.Test.YtjmdeplmenbmmaaGreatDoorW21
set_option linter.unusedVariables false
set_option maxHeartbeats 8000000
namespace Go.Proofs.YtjmdeplmenbmmaaGreatDoor
open Go.RowKit
structure ChnW (b : Nat) (w : World) : Prop where
  blk : w.heap[b]? = some (.cells #[.int .i64 0] 128 (0, 0))
theorem ChnW.keep {b : Nat} {w w' : World} (h : ChnW b w) (hw : Below w.heap.size w w') : ChnW b w' :=
  ⟨(hw.block b (Array.getElem?_eq_some_iff.1 h.blk).1).trans h.blk⟩
theorem ChnW.cell {b : Nat} {w : World} (h : ChnW b w) : ∀ k v, [Value.int .i64 0][k]? = some v → w.cell? ⟨b, k, none⟩ = some v := fun k v hk => by
  have := cell_of_row w b k #[.int .i64 0] _ (0, 0) h.blk
  rw [this]
  simpa using hk
theorem ChnW.ofSt {w0 w : World} {H : List Hl} {b : Nat} (hw : St w0 H w) (hm : Hl.blk b 128 [.int .i64 0] ∈ H) : ChnW b w := ⟨hw.blk hm⟩
theorem ckept_c {b : Nat} {lo hi : Int} : ContIn Tryz.prog (ChnW b) 147 [ptK b, arcV lo hi, .int .i64 0] (arcV lo hi) := fun w hs => by
  have hcl := hs.cell
  refine enter0 Tryz.func147 rfl rfl rfl ?_
  repeat' (first
    | (refine nxN ?_)
    | (show VK _ _ _ _ _ ⟨_, .load 27 _, _, _, _, _⟩ _; refine VK.mk (y_loadX (by rfl) (hcl _ _ (by rfl)) (by decide +kernel)) ?_)
    | (show YK _ _ _ _ _ ⟨_, .load 27 _, _, _, _, _⟩ _; refine YK.ofV (y_loadX (by rfl) (hcl _ _ (by rfl)) (by decide +kernel)) ?_)
    | (show VG _ _ _ _ _ _ ⟨_, .load 27 _, _, _, _, _⟩ _; refine VG.mk (fun hb => by (try (have hc := And.left hb; have hb := And.right hb; rw [hc])); (try rw [hb]); exact y_loadX (by rfl) (hcl _ _ (by rfl)) (by decide +kernel)) ?_)
    | (show YG _ _ _ _ _ _ ⟨_, .load 27 _, _, _, _, _⟩ _; refine YG.mk (fun hb => by (try (have hc := And.left hb; have hb := And.right hb; rw [hc])); (try rw [hb]); exact V.y (y_loadX (by rfl) (hcl _ _ (by rfl)) (by decide +kernel))) ?_)
    | (show RS _ _ _ _ _ _ _ (⟨none, .store 27 _ _, _, _, _, _⟩ :: _); refine RS.storeSame (b := b) ?_ (by rfl) (by rfl) (fun w' hw' => (hs.keep hw'.ext).blk) (by rfl) (by decide +kernel))
    | (refine nxV ?_)
    | (refine nxRS ?_) | (refine nxRS1 fun _ => ?_)
    | (refine nxRM ?_) | (refine nxRM1 fun _ => ?_)
    | (refine nxG ?_)
    | (refine nxX ?_)
    | (refine G.condN rfl (fun hc => ?_) (fun hc => ?_) <;> (try first | exact False.elim hc | (exfalso; omega))))
  all_goals exact X.ret (vs := [_]) rfl ⟨⟨_, _, _, _, rfl, (by exact memA), (by (repeat (first | exact .nil | apply LenIs.cons))), by decide +kernel, rfl⟩, rfl⟩ rfl (fun w hw => ⟨rfl, hw.ext⟩)
theorem csin_c {b : Nat} {lo hi : Int} (h : validI lo hi = true) : ContIn Tryz.prog (ChnW b) 69 [ptK b, arcV lo hi] (arcV (TT.encl lo hi).1 (TT.encl lo hi).2) := fun w hs => by
  have q1 := Sin_c h
  generalize TT.encl lo hi = r at *
  refine enter0 Tryz.func69 rfl rfl rfl ?_
  repeat' (first
    | (refine nxN ?_)
    | (show YK _ _ _ _ _ ⟨_, .call { callee := .value (.func 147), args := _, argTypes := _ }, _, _, _, _⟩ _; refine YK.mk (y_callIn (ckept_c) (fun w' hw' => hs.keep hw'.ext) ⟨rfl, rfl, rfl, rfl⟩ (by decide +kernel)) ?_)
    | (show YG _ _ _ _ _ _ ⟨_, .call { callee := .value (.func 147), args := _, argTypes := _ }, _, _, _, _⟩ _; refine YG.mk (fun hb => by (try (have hc := And.left hb; have hb := And.right hb; rw [hc])); (try rw [hb]); exact y_callIn (ckept_c) (fun w' hw' => hs.keep hw'.ext) ⟨rfl, rfl, rfl, rfl⟩ (by decide +kernel)) ?_)
    | (show YK _ _ _ _ _ _ _; first | refine YK.mk (y_callA (q1) ⟨rfl, rfl⟩) ?_)
    | (refine nxV ?_)
    | (refine nxRS ?_) | (refine nxRS1 fun _ => ?_)
    | (refine nxRM ?_) | (refine nxRM1 fun _ => ?_)
    | (show YG _ _ _ _ _ _ _ _; refine YG.mk (fun hb => by (try (have hc := And.left hb; have hb := And.right hb; rw [hc])); (try rw [hb]); first | exact (y_callA (q1) ⟨rfl, rfl⟩) | exact V.y vAuto) ?_)
    | (refine nxG ?_)
    | (refine nxX ?_)
    | (refine G.condN rfl (fun hc => ?_) (fun hc => ?_) <;> (try first | exact False.elim hc | (exfalso; omega))))
  all_goals exact X.ret (vs := [_]) rfl ⟨⟨_, _, _, _, rfl, (by exact memA), (by (repeat (first | exact .nil | apply LenIs.cons))), by decide +kernel, rfl⟩, rfl⟩ rfl (fun w hw => ⟨rfl, hw.ext⟩)
theorem ccos_c {b : Nat} {lo hi : Int} (h : validI lo hi = true) : ContIn Tryz.prog (ChnW b) 70 [ptK b, arcV lo hi] (arcV (TT.cosE lo hi).1 (TT.cosE lo hi).2) := fun w hs => by
  have q1 := Cos_c h
  generalize TT.cosE lo hi = r at *
  refine enter0 Tryz.func70 rfl rfl rfl ?_
  repeat' (first
    | (refine nxN ?_)
    | (show YK _ _ _ _ _ ⟨_, .call { callee := .value (.func 147), args := _, argTypes := _ }, _, _, _, _⟩ _; refine YK.mk (y_callIn (ckept_c) (fun w' hw' => hs.keep hw'.ext) ⟨rfl, rfl, rfl, rfl⟩ (by decide +kernel)) ?_)
    | (show YG _ _ _ _ _ _ ⟨_, .call { callee := .value (.func 147), args := _, argTypes := _ }, _, _, _, _⟩ _; refine YG.mk (fun hb => by (try (have hc := And.left hb; have hb := And.right hb; rw [hc])); (try rw [hb]); exact y_callIn (ckept_c) (fun w' hw' => hs.keep hw'.ext) ⟨rfl, rfl, rfl, rfl⟩ (by decide +kernel)) ?_)
    | (show YK _ _ _ _ _ _ _; first | refine YK.mk (y_callA (q1) ⟨rfl, rfl⟩) ?_)
    | (refine nxV ?_)
    | (refine nxRS ?_) | (refine nxRS1 fun _ => ?_)
    | (refine nxRM ?_) | (refine nxRM1 fun _ => ?_)
    | (show YG _ _ _ _ _ _ _ _; refine YG.mk (fun hb => by (try (have hc := And.left hb; have hb := And.right hb; rw [hc])); (try rw [hb]); first | exact (y_callA (q1) ⟨rfl, rfl⟩) | exact V.y vAuto) ?_)
    | (refine nxG ?_)
    | (refine nxX ?_)
    | (refine G.condN rfl (fun hc => ?_) (fun hc => ?_) <;> (try first | exact False.elim hc | (exfalso; omega))))
  all_goals exact X.ret (vs := [_]) rfl ⟨⟨_, _, _, _, rfl, (by exact memA), (by (repeat (first | exact .nil | apply LenIs.cons))), by decide +kernel, rfl⟩, rfl⟩ rfl (fun w hw => ⟨rfl, hw.ext⟩)
theorem cmul_c {b : Nat} {p q : Int × Int} (hp : one31 p) (hq : one31 q) : ContIn Tryz.prog (ChnW b) 68 [ptK b, arcV p.1 p.2, arcV q.1 q.2] (arcV (TT.mulE p q).1 (TT.mulE p q).2) := fun w hs => by
  have q1 := fmul_c (p := p) (q := q) hp hq
  generalize TT.mulE p q = r at *
  refine enter0 Tryz.func68 rfl rfl rfl ?_
  repeat' (first
    | (refine nxN ?_)
    | (show YK _ _ _ _ _ ⟨_, .call { callee := .value (.func 147), args := _, argTypes := _ }, _, _, _, _⟩ _; refine YK.mk (y_callIn (ckept_c) (fun w' hw' => hs.keep hw'.ext) ⟨rfl, rfl, rfl, rfl⟩ (by decide +kernel)) ?_)
    | (show YG _ _ _ _ _ _ ⟨_, .call { callee := .value (.func 147), args := _, argTypes := _ }, _, _, _, _⟩ _; refine YG.mk (fun hb => by (try (have hc := And.left hb; have hb := And.right hb; rw [hc])); (try rw [hb]); exact y_callIn (ckept_c) (fun w' hw' => hs.keep hw'.ext) ⟨rfl, rfl, rfl, rfl⟩ (by decide +kernel)) ?_)
    | (show YK _ _ _ _ _ _ _; first | refine YK.mk (y_callA (q1) ⟨rfl, rfl, rfl⟩) ?_)
    | (refine nxV ?_)
    | (refine nxRS ?_) | (refine nxRS1 fun _ => ?_)
    | (refine nxRM ?_) | (refine nxRM1 fun _ => ?_)
    | (show YG _ _ _ _ _ _ _ _; refine YG.mk (fun hb => by (try (have hc := And.left hb; have hb := And.right hb; rw [hc])); (try rw [hb]); first | exact (y_callA (q1) ⟨rfl, rfl, rfl⟩) | exact V.y vAuto) ?_)
    | (refine nxG ?_)
    | (refine nxX ?_)
    | (refine G.condN rfl (fun hc => ?_) (fun hc => ?_) <;> (try first | exact False.elim hc | (exfalso; omega))))
  all_goals exact X.ret (vs := [_]) rfl ⟨⟨_, _, _, _, rfl, (by exact memA), (by (repeat (first | exact .nil | apply LenIs.cons))), by decide +kernel, rfl⟩, rfl⟩ rfl (fun w hw => ⟨rfl, hw.ext⟩)
theorem cplus_c {b : Nat} {p q : Int × Int} (hp : two31 p) (hq : two31 q) (h : -2147483648 ≤ (TT.addE p q).1 ∧ (TT.addE p q).2 ≤ 2147483648) : ContIn Tryz.prog (ChnW b) 67 [ptK b, arcV p.1 p.2, arcV q.1 q.2] (arcV (TT.addE p q).1 (TT.addE p q).2) := fun w hs => by
  have q1 := fadd_c (a := p.1) (b := p.2) (c := q.1) (d := q.2) hp hq h
  change Cont _ _ _ (.tuple [arcV (TT.addE p q).1 (TT.addE p q).2, .int .i64 0].toArray) at q1
  generalize TT.addE p q = r at *
  refine enter0 Tryz.func67 rfl rfl rfl ?_
  repeat' (first
    | (refine nxN ?_)
    | (show YK _ _ _ _ _ ⟨_, .call { callee := .value (.func 147), args := _, argTypes := _ }, _, _, _, _⟩ _; refine YK.mk (y_callIn (ckept_c) (fun w' hw' => hs.keep hw'.ext) ⟨rfl, rfl, rfl, rfl⟩ (by decide +kernel)) ?_)
    | (show YG _ _ _ _ _ _ ⟨_, .call { callee := .value (.func 147), args := _, argTypes := _ }, _, _, _, _⟩ _; refine YG.mk (fun hb => by (try (have hc := And.left hb; have hb := And.right hb; rw [hc])); (try rw [hb]); exact y_callIn (ckept_c) (fun w' hw' => hs.keep hw'.ext) ⟨rfl, rfl, rfl, rfl⟩ (by decide +kernel)) ?_)
    | (show YK _ _ _ _ _ _ _; first | refine YK.mk (y_callA (q1) ⟨rfl, rfl, rfl⟩) ?_)
    | (refine nxV ?_)
    | (refine nxRS ?_) | (refine nxRS1 fun _ => ?_)
    | (refine nxRM ?_) | (refine nxRM1 fun _ => ?_)
    | (show YG _ _ _ _ _ _ _ _; refine YG.mk (fun hb => by (try (have hc := And.left hb; have hb := And.right hb; rw [hc])); (try rw [hb]); first | exact (y_callA (q1) ⟨rfl, rfl, rfl⟩) | exact V.y vAuto) ?_)
    | (refine nxG ?_)
    | (refine nxX ?_)
    | (refine G.condN rfl (fun hc => ?_) (fun hc => ?_) <;> (try first | exact False.elim hc | (exfalso; omega))))
  all_goals exact X.ret (vs := [_]) rfl ⟨⟨_, _, _, _, rfl, (by exact memA), (by (repeat (first | exact .nil | apply LenIs.cons))), by decide +kernel, rfl⟩, rfl⟩ rfl (fun w hw => ⟨rfl, hw.ext⟩)
theorem clat_built (a b : Int) : Tryz.prog.built 36 [(0, .agg [.int .i64 a, .int .i64 b].toArray)] = some [.int .i64 a, .int .i64 b, .int .i64 0, .int .i64 0].toArray := by kernel_rfl
theorem clat_c {a b : Int} (h : -5400000 ≤ a ∧ a ≤ b ∧ b ≤ 5400000) : Cont Tryz.prog 63 [arcV a b] (.bool true) := fun w => by
  have q1 := pval2_c h (c := 0) (d := 0) (Or.inr (by omega))
  refine enter0 Tryz.func63 rfl rfl rfl ?_
  repeat' (first
    | (refine nxN ?_)
    | (show VK _ _ _ _ _ ⟨_, .build 36 #[(0, _)], _, _, _, _⟩ _; refine VK.mk (y_build (parts := [(0, _)]) (vs := [_]) ⟨rfl, rfl⟩ (clat_built _ _)) ?_)
    | (show YK _ _ _ _ _ ⟨_, .build 36 #[(0, _)], _, _, _, _⟩ _; refine YK.ofV (y_build (parts := [(0, _)]) (vs := [_]) ⟨rfl, rfl⟩ (clat_built _ _)) ?_)
    | (show YK _ _ _ _ _ _ _; first | refine YK.mk (y_callA (q1) ⟨rfl, rfl⟩) ?_)
    | (refine nxV ?_)
    | (refine nxRS ?_) | (refine nxRS1 fun _ => ?_)
    | (refine nxRM ?_) | (refine nxRM1 fun _ => ?_)
    | (show YG _ _ _ _ _ _ _ _; refine YG.mk (fun hb => by (try (have hc := And.left hb; have hb := And.right hb; rw [hc])); (try rw [hb]); first | exact (y_callA (q1) ⟨rfl, rfl⟩) | exact V.y vAuto) ?_)
    | (refine nxG ?_)
    | (refine nxX ?_)
    | (refine G.condN rfl (fun hc => ?_) (fun hc => ?_) <;> (try first | exact False.elim hc | (exfalso; omega))))
  exact X.ret (vs := [_]) rfl ⟨rfl, rfl⟩ rfl (fun w hw => ⟨rfl, hw.ext⟩)
theorem clons_c {k : Int × Int} (h : -100000000 ≤ k.1 ∧ k.1 ≤ k.2 ∧ k.2 ≤ 100000000) : Cont Tryz.prog 64 [arcV k.1 k.2] (arcV (lonsI k).1 (lonsI k).2) := fun w => by
  obtain ⟨k1, k2⟩ := k
  unfold lonsI
  dsimp only at *
  have q1 := signed_c (n := k1) (by omega)
  have hs := signI_bd k1
  generalize signI k1 = s at *
  refine enter0 Tryz.func64 rfl rfl rfl ?_
  repeat' (first
    | (refine nxN ?_)
    | (show YK _ _ _ _ _ _ _; first | refine YK.mk (y_callA (q1) ⟨rfl, rfl⟩) ?_)
    | (refine nxV ?_)
    | (refine nxRS ?_) | (refine nxRS1 fun _ => ?_)
    | (refine nxRM ?_) | (refine nxRM1 fun _ => ?_)
    | (show YG _ _ _ _ _ _ _ _; refine YG.mk (fun hb => by (try (have hc := And.left hb; have hb := And.right hb; rw [hc])); (try rw [hb]); first | exact (y_callA (q1) ⟨rfl, rfl⟩) | exact V.y vAuto) ?_)
    | (refine nxG ?_)
    | (refine nxX ?_)
    | (refine G.condN rfl (fun hc => ?_) (fun hc => ?_) <;> (try first | exact False.elim hc | (exfalso; omega))))
  all_goals first
    | (rw [if_pos (by omega)]; exact X.ret (vs := [_]) rfl ⟨⟨_, _, _, _, rfl, (by exact memA), (by (repeat (first | exact .nil | apply LenIs.cons))), by decide +kernel, rfl⟩, rfl⟩ rfl (fun w hw => ⟨rfl, hw.ext⟩))
    | (rw [if_neg (by omega)]; exact X.ret (vs := [_]) rfl ⟨⟨_, _, _, _, rfl, (by exact memA), (by (repeat (first | exact .nil | apply LenIs.cons))), by decide +kernel, rfl⟩, rfl⟩ rfl (fun w hw => ⟨rfl, hw.ext⟩))
abbrev v6 (a b c d e f : Int) : Value := .agg [.int .i64 a, .int .i64 b, .int .i64 c, .int .i64 d, .int .i64 e, .int .i64 f].toArray
theorem cir_built (a b c d e f : Int) : Tryz.prog.built 58 [(0, .agg [.int .i64 a, .int .i64 b].toArray), (1, .agg [.int .i64 c, .int .i64 d].toArray), (2, .agg [.int .i64 e, .int .i64 f].toArray)] = some [.int .i64 a, .int .i64 b, .int .i64 c, .int .i64 d, .int .i64 e, .int .i64 f].toArray := by kernel_rfl
theorem tri_built (a b c d e f : Int) : Tryz.prog.built 124 [(0, .agg [.int .i64 a, .int .i64 b].toArray), (1, .agg [.int .i64 c, .int .i64 d].toArray), (2, .agg [.int .i64 e, .int .i64 f].toArray)] = some [.int .i64 a, .int .i64 b, .int .i64 c, .int .i64 d, .int .i64 e, .int .i64 f].toArray := by kernel_rfl
theorem ctri_c {a b c d e f x y : Int} (h1 : -100000000 ≤ c ∧ c ≤ 100000000 ∧ -100000000 ≤ d ∧ d ≤ 100000000) (h2 : -100000000 ≤ e ∧ e ≤ 100000000 ∧ -100000000 ≤ f ∧ f ≤ 100000000) {r1 r2 : Int} : Cont Tryz.prog 66 [v6 a b c d r1 r2, v4 x y e f] (v6 x y a b (e - d) (f - c)) := fun w => by
  refine enter0 Tryz.func66 rfl rfl rfl ?_
  repeat' (first
    | (refine nxN ?_)
    | (show VK _ _ _ _ _ ⟨_, .load 34 _, _, _, _, _⟩ _; refine VK.mk (y_loadPart (k := 2) (by rfl) (by exact memA) (by decide +kernel) (by rfl)) ?_)
    | (show YK _ _ _ _ _ ⟨_, .load 34 _, _, _, _, _⟩ _; refine YK.ofV (y_loadPart (k := 2) (by rfl) (by exact memA) (by decide +kernel) (by rfl)) ?_)
    | (show VG _ _ _ _ _ _ ⟨_, .load 34 _, _, _, _, _⟩ _; refine VG.mk (fun hb => by (try rw [hb]); exact y_loadPart (k := 2) (by rfl) (by exact memA) (by decide +kernel) (by rfl)) ?_)
    | (show YG _ _ _ _ _ _ ⟨_, .load 34 _, _, _, _, _⟩ _; refine YG.mk (fun hb => by (try rw [hb]); exact V.y (y_loadPart (k := 2) (by rfl) (by exact memA) (by decide +kernel) (by rfl))) ?_)
    | (show VK _ _ _ _ _ ⟨_, .build 124 #[(0, _), (1, _), (2, _)], _, _, _, _⟩ _; refine VK.mk (y_build (parts := [(0, _), (1, _), (2, _)]) (vs := [_, _, _]) ⟨rfl, rfl, rfl, rfl⟩ (tri_built _ _ _ _ _ _)) ?_)
    | (show YK _ _ _ _ _ ⟨_, .build 124 #[(0, _), (1, _), (2, _)], _, _, _, _⟩ _; refine YK.ofV (y_build (parts := [(0, _), (1, _), (2, _)]) (vs := [_, _, _]) ⟨rfl, rfl, rfl, rfl⟩ (tri_built _ _ _ _ _ _)) ?_)
    | (refine nxV ?_)
    | (refine nxRS ?_) | (refine nxRS1 fun _ => ?_)
    | (refine nxRM ?_) | (refine nxRM1 fun _ => ?_)
    | (refine nxG ?_)
    | (refine nxX ?_)
    | (refine G.condN rfl (fun hc => ?_) (fun hc => ?_) <;> (try first | exact False.elim hc | (exfalso; omega))))
  all_goals exact X.ret (vs := [_]) rfl ⟨⟨_, _, _, _, rfl, (by exact memA), (by (repeat (first | exact .nil | apply LenIs.cons))), by decide +kernel, rfl⟩, rfl⟩ rfl (fun w hw => ⟨rfl, hw.ext⟩)
theorem cirval_c {a b c d r1 r2 : Int} (h1 : -5400000 ≤ a ∧ a ≤ b ∧ b ≤ 5400000) (h2 : lonOk c d) (h3 : 0 ≤ r1 ∧ r1 ≤ r2 ∧ r2 ≤ 10800000) : Cont Tryz.prog 65 [v6 a b c d r1 r2] (.bool true) := fun w => by
  have q1 := pval2_c h1 h2
  have q2 := gval_c (a := r1) (b := r2) (by omega)
  refine enter0 Tryz.func65 rfl rfl rfl ?_
  repeat' (first
    | (refine nxN ?_)
    | (show VK _ _ _ _ _ ⟨_, .load 34 _, _, _, _, _⟩ _; refine VK.mk (y_loadPart (k := 2) (by rfl) (by exact memA) (by decide +kernel) (by rfl)) ?_)
    | (show YK _ _ _ _ _ ⟨_, .load 34 _, _, _, _, _⟩ _; refine YK.ofV (y_loadPart (k := 2) (by rfl) (by exact memA) (by decide +kernel) (by rfl)) ?_)
    | (show VG _ _ _ _ _ _ ⟨_, .load 34 _, _, _, _, _⟩ _; refine VG.mk (fun hb => by (try rw [hb]); exact y_loadPart (k := 2) (by rfl) (by exact memA) (by decide +kernel) (by rfl)) ?_)
    | (show YG _ _ _ _ _ _ ⟨_, .load 34 _, _, _, _, _⟩ _; refine YG.mk (fun hb => by (try rw [hb]); exact V.y (y_loadPart (k := 2) (by rfl) (by exact memA) (by decide +kernel) (by rfl))) ?_)
    | (show VK _ _ _ _ _ ⟨_, .build 36 #[(0, _), (1, _)], _, _, _, _⟩ _; refine VK.mk (y_build (parts := [(0, _), (1, _)]) (vs := [_, _]) ⟨rfl, rfl, rfl⟩ (place_built _ _ _ _)) ?_)
    | (show YK _ _ _ _ _ ⟨_, .build 36 #[(0, _), (1, _)], _, _, _, _⟩ _; refine YK.ofV (y_build (parts := [(0, _), (1, _)]) (vs := [_, _]) ⟨rfl, rfl, rfl⟩ (place_built _ _ _ _)) ?_)
    | (show YK _ _ _ _ _ _ _; first | refine YK.mk (y_callA (q1) ⟨rfl, rfl⟩) ?_ | refine YK.mk (y_callA (q2) ⟨rfl, rfl⟩) ?_)
    | (refine nxV ?_)
    | (refine nxRS ?_) | (refine nxRS1 fun _ => ?_)
    | (refine nxRM ?_) | (refine nxRM1 fun _ => ?_)
    | (show YG _ _ _ _ _ _ _ _; refine YG.mk (fun hb => by (try (have hc := And.left hb; have hb := And.right hb; rw [hc])); (try rw [hb]); first | exact (y_callA (q1) ⟨rfl, rfl⟩) | exact (y_callA (q2) ⟨rfl, rfl⟩) | exact V.y vAuto) ?_)
    | (refine nxG ?_)
    | (refine nxX ?_)
    | (refine G.condN rfl (fun hc => ?_) (fun hc => ?_) <;> (try first | exact False.elim hc | (exfalso; omega))))
  all_goals exact X.ret (vs := [_]) rfl ⟨rfl, rfl⟩ rfl (fun w hw => ⟨ret_bool (by simp; omega), hw.ext⟩)
end Go.Proofs.YtjmdeplmenbmmaaGreatDoor
set_option maxHeartbeats 8000000
namespace Go.Proofs.YtjmdeplmenbmmaaGreatDoor
open Go.RowKit
abbrev v8 (a b c d e f g h : Int) : Value := .agg [.int .i64 a, .int .i64 b, .int .i64 c, .int .i64 d, .int .i64 e, .int .i64 f, .int .i64 g, .int .i64 h].toArray
theorem circOf_c {h1 h2 g1 g2 d1 d2 s1 s2 p1 p2 : Int} (hh : -5400000 ≤ h1 ∧ h1 ≤ h2 ∧ h2 ≤ 5400000) (hg : -10800000 ≤ g1 ∧ g1 ≤ g2 ∧ g2 ≤ 10800000) (hd : -5400000 ≤ d1 ∧ d1 ≤ d2 ∧ d2 ≤ 5400000) : Cont Tryz.prog 26 [arcV h1 h2, v8 g1 g2 d1 d2 s1 s2 p1 p2] (.tuple [v6 d1 d2 (lonsI (-g2, -g1)).1 (lonsI (-g2, -g1)).2 (5400000 - h2) (5400000 - h1), .int .i64 0].toArray) := fun w => by
  have q1 := gval_c (a := h1) (b := h2) (by omega)
  have q2 := gval_c (a := g1) (b := g2) (by omega)
  have q3 := clat_c hd
  have q4 := clons_c (k := (-g2, -g1)) (by dsimp only; omega)
  generalize lonsI (-g2, -g1) = lg at *
  refine enter0 Tryz.func26 rfl rfl rfl ?_
  repeat' (first
    | (refine nxN ?_)
    | (show VK _ _ _ _ _ ⟨_, .load 34 _, _, _, _, _⟩ _; refine VK.mk (y_loadPart (k := 2) (by rfl) (by exact memA) (by decide +kernel) (by rfl)) ?_)
    | (show YK _ _ _ _ _ ⟨_, .load 34 _, _, _, _, _⟩ _; refine YK.ofV (y_loadPart (k := 2) (by rfl) (by exact memA) (by decide +kernel) (by rfl)) ?_)
    | (show VG _ _ _ _ _ _ ⟨_, .load 34 _, _, _, _, _⟩ _; refine VG.mk (fun hb => by (try rw [hb]); exact y_loadPart (k := 2) (by rfl) (by exact memA) (by decide +kernel) (by rfl)) ?_)
    | (show YG _ _ _ _ _ _ ⟨_, .load 34 _, _, _, _, _⟩ _; refine YG.mk (fun hb => by (try rw [hb]); exact V.y (y_loadPart (k := 2) (by rfl) (by exact memA) (by decide +kernel) (by rfl))) ?_)
    | (show VK _ _ _ _ _ ⟨_, .build 58 #[(0, _), (1, _), (2, _)], _, _, _, _⟩ _; refine VK.mk (y_build (parts := [(0, _), (1, _), (2, _)]) (vs := [_, _, _]) ⟨rfl, rfl, rfl, rfl⟩ (cir_built _ _ _ _ _ _)) ?_)
    | (show YK _ _ _ _ _ ⟨_, .build 58 #[(0, _), (1, _), (2, _)], _, _, _, _⟩ _; refine YK.ofV (y_build (parts := [(0, _), (1, _), (2, _)]) (vs := [_, _, _]) ⟨rfl, rfl, rfl, rfl⟩ (cir_built _ _ _ _ _ _)) ?_)
    | (refine G.mixedM 5 [.go 0, .go 1, .go 2, .go 3, .go 4, .go 5, .go 6, .go 7, .go 8, .go 9, .go 10, .go 12, .go 13, .go 14, .go 15, .go 16, .go 17, .go 18, .go 11, .go 19, .go 20, .go 21] [false, true, true] ?_; dsimp only [maskH])
    | (show YK _ _ _ _ _ _ _; first | refine YK.mk (y_callA (q1) ⟨rfl, rfl⟩) ?_ | refine YK.mk (y_callA (q2) ⟨rfl, rfl⟩) ?_ | refine YK.mk (y_callA (q3) ⟨rfl, rfl⟩) ?_ | refine YK.mk (y_callA (q4) ⟨rfl, rfl⟩) ?_)
    | (refine nxV ?_)
    | (refine nxRS ?_) | (refine nxRS1 fun _ => ?_)
    | (refine nxRM ?_) | (refine nxRM1 fun _ => ?_)
    | (show YG _ _ _ _ _ _ _ _; refine YG.mk (fun hb => by (try (have hc := And.left hb; have hb := And.right hb; rw [hc])); (try rw [hb]); first | exact (y_callA (q1) ⟨rfl, rfl⟩) | exact (y_callA (q2) ⟨rfl, rfl⟩) | exact (y_callA (q3) ⟨rfl, rfl⟩) | exact (y_callA (q4) ⟨rfl, rfl⟩) | exact V.y vAuto) ?_)
    | (refine nxG ?_)
    | (refine nxX ?_)
    | (refine G.condN rfl (fun hc => ?_) (fun hc => ?_) <;> (try first | exact False.elim hc | (exfalso; omega))))
  all_goals first
    | (exfalso; simp at hc; omega)
    | exact X.ret (vs := [_, _]) rfl ⟨⟨_, _, _, _, rfl, (by exact memA), (by (repeat (first | exact .nil | apply LenIs.cons))), by decide +kernel, rfl⟩, rfl, rfl⟩ rfl (fun w hw => ⟨rfl, hw.ext⟩)
def sideS (l t k : Int × Int) : Int × Int := TT.addE (TT.mulE (TT.encl l.1 l.2) (TT.encl t.1 t.2)) (TT.mulE (TT.mulE (TT.cosE l.1 l.2) (TT.cosE t.1 t.2)) (TT.cosE k.1 k.2))
theorem side_c {a b c d r1 r2 x y e f : Int} (h1 : -5400000 ≤ a ∧ a ≤ b ∧ b ≤ 5400000) (h2 : lonOk c d) (h3 : 0 ≤ r1 ∧ r1 ≤ r2 ∧ r2 ≤ 10800000) (h4 : -5400000 ≤ x ∧ x ≤ y ∧ y ≤ 5400000) (h5 : lonOk e f)
    (hin : (TT.cosE r1 r2).2 < (sideS (x, y) (a, b) (e - d, f - c)).1) : Cont Tryz.prog 27 [v6 a b c d r1 r2, v4 x y e f] (.tuple [.int .i64 1, .int .i64 0].toArray) := fun w => by
  have hl : c ≤ d ∧ e ≤ f ∧ -10800000 ≤ c ∧ d ≤ 32400000 ∧ -10800000 ≤ e ∧ f ≤ 32400000 := by
    unfold lonOk at h2 h5
    omega
  have q1 := cirval_c h1 h2 h3
  have q2 := pval2_c h4 h5
  have q3 := ctri_c (a := a) (b := b) (c := c) (d := d) (e := e) (f := f) (x := x) (y := y) (r1 := r1) (r2 := r2) (by omega) (by omega)
  have o1 := TT.encl_ord h4.2.1
  have o2 := TT.encl_ord h1.2.1
  have o3 := TT.cosE_ord h4.2.1
  have o4 := TT.cosE_ord h1.2.1
  have hk : e - d ≤ f - c := by omega
  have o5 := TT.cosE_ord hk
  have o6 := TT.mulE_bd o1 o2
  have o7 := TT.mulE_bd o3 o4
  have o8 := TT.mulE_bd o7 o5
  have t1 := two_of o6
  have t2 := two_of o8
  have t3 : -2147483648 ≤ (TT.addE (TT.mulE (TT.encl x y) (TT.encl a b)) (TT.mulE (TT.mulE (TT.cosE x y) (TT.cosE a b)) (TT.cosE (e - d) (f - c)))).1 ∧ (TT.addE (TT.mulE (TT.encl x y) (TT.encl a b)) (TT.mulE (TT.mulE (TT.cosE x y) (TT.cosE a b)) (TT.cosE (e - d) (f - c)))).2 ≤ 2147483648 := by
    unfold TT.addE; dsimp only; omega
  have v1 := valI (lo := x) (hi := y) (by omega)
  have v2 := valI (lo := a) (hi := b) (by omega)
  have v3 := valI (lo := e - d) (hi := f - c) (by omega)
  have v5 := valI (lo := r1) (hi := r2) (by omega)
  have hin2 : (TT.cosE r1 r2).2 < (TT.addE (TT.mulE (TT.encl x y) (TT.encl a b)) (TT.mulE (TT.mulE (TT.cosE x y) (TT.cosE a b)) (TT.cosE (e - d) (f - c)))).1 := hin
  clear hin
  refine enter0 Tryz.func27 rfl rfl rfl ?_
  repeat' (first
    | (refine nxN ?_)
    | (show YK _ _ _ _ _ ⟨_, .call { callee := .value (.func 69), args := _, argTypes := _ }, _, _, _, _⟩ _; refine YK.mk (y_callIn (csin_c (by assumption)) (fun w' hw' => ChnW.ofSt hw' (by exact memA)) ⟨rfl, rfl, rfl⟩ (by decide +kernel)) ?_)
    | (show YG _ _ _ _ _ _ ⟨_, .call { callee := .value (.func 69), args := _, argTypes := _ }, _, _, _, _⟩ _; refine YG.mk (fun hb => by (try (have hc := And.left hb; have hb := And.right hb; rw [hc])); (try rw [hb]); exact y_callIn (csin_c (by assumption)) (fun w' hw' => ChnW.ofSt hw' (by exact memA)) ⟨rfl, rfl, rfl⟩ (by decide +kernel)) ?_)
    | (show YK _ _ _ _ _ ⟨_, .call { callee := .value (.func 70), args := _, argTypes := _ }, _, _, _, _⟩ _; refine YK.mk (y_callIn (ccos_c (by assumption)) (fun w' hw' => ChnW.ofSt hw' (by exact memA)) ⟨rfl, rfl, rfl⟩ (by decide +kernel)) ?_)
    | (show YG _ _ _ _ _ _ ⟨_, .call { callee := .value (.func 70), args := _, argTypes := _ }, _, _, _, _⟩ _; refine YG.mk (fun hb => by (try (have hc := And.left hb; have hb := And.right hb; rw [hc])); (try rw [hb]); exact y_callIn (ccos_c (by assumption)) (fun w' hw' => ChnW.ofSt hw' (by exact memA)) ⟨rfl, rfl, rfl⟩ (by decide +kernel)) ?_)
    | (show YK _ _ _ _ _ ⟨_, .call { callee := .value (.func 68), args := _, argTypes := _ }, _, _, _, _⟩ _; refine YK.mk (y_callIn (cmul_c (by assumption) (by assumption)) (fun w' hw' => ChnW.ofSt hw' (by exact memA)) ⟨rfl, rfl, rfl, rfl⟩ (by decide +kernel)) ?_)
    | (show YG _ _ _ _ _ _ ⟨_, .call { callee := .value (.func 68), args := _, argTypes := _ }, _, _, _, _⟩ _; refine YG.mk (fun hb => by (try (have hc := And.left hb; have hb := And.right hb; rw [hc])); (try rw [hb]); exact y_callIn (cmul_c (by assumption) (by assumption)) (fun w' hw' => ChnW.ofSt hw' (by exact memA)) ⟨rfl, rfl, rfl, rfl⟩ (by decide +kernel)) ?_)
    | (show YK _ _ _ _ _ ⟨_, .call { callee := .value (.func 67), args := _, argTypes := _ }, _, _, _, _⟩ _; refine YK.mk (y_callIn (cplus_c (by assumption) (by assumption) (by assumption)) (fun w' hw' => ChnW.ofSt hw' (by exact memA)) ⟨rfl, rfl, rfl, rfl⟩ (by decide +kernel)) ?_)
    | (show YG _ _ _ _ _ _ ⟨_, .call { callee := .value (.func 67), args := _, argTypes := _ }, _, _, _, _⟩ _; refine YG.mk (fun hb => by (try (have hc := And.left hb; have hb := And.right hb; rw [hc])); (try rw [hb]); exact y_callIn (cplus_c (by assumption) (by assumption) (by assumption)) (fun w' hw' => ChnW.ofSt hw' (by exact memA)) ⟨rfl, rfl, rfl, rfl⟩ (by decide +kernel)) ?_)
    | (show VK _ _ _ _ _ ⟨_, .load 34 _, _, _, _, _⟩ _; refine VK.mk (y_loadPart (k := 2) (by rfl) (by exact memA) (by decide +kernel) (by rfl)) ?_)
    | (show YK _ _ _ _ _ ⟨_, .load 34 _, _, _, _, _⟩ _; refine YK.ofV (y_loadPart (k := 2) (by rfl) (by exact memA) (by decide +kernel) (by rfl)) ?_)
    | (show VG _ _ _ _ _ _ ⟨_, .load 34 _, _, _, _, _⟩ _; refine VG.mk (fun hb => by (try rw [hb]); exact y_loadPart (k := 2) (by rfl) (by exact memA) (by decide +kernel) (by rfl)) ?_)
    | (show YG _ _ _ _ _ _ ⟨_, .load 34 _, _, _, _, _⟩ _; refine YG.mk (fun hb => by (try rw [hb]); exact V.y (y_loadPart (k := 2) (by rfl) (by exact memA) (by decide +kernel) (by rfl))) ?_)
    | (show YK _ _ _ _ _ _ _; first | refine YK.mk (y_callA (q1) ⟨rfl, rfl⟩) ?_ | refine YK.mk (y_callA (q2) ⟨rfl, rfl⟩) ?_ | refine YK.mk (y_callA (q3) ⟨rfl, rfl, rfl⟩) ?_)
    | (refine nxV ?_)
    | (refine nxRS ?_) | (refine nxRS1 fun _ => ?_)
    | (refine nxRM ?_) | (refine nxRM1 fun _ => ?_)
    | (show YG _ _ _ _ _ _ _ _; refine YG.mk (fun hb => by (try (have hc := And.left hb; have hb := And.right hb; rw [hc])); (try rw [hb]); first | exact (y_callA (q1) ⟨rfl, rfl⟩) | exact (y_callA (q2) ⟨rfl, rfl⟩) | exact (y_callA (q3) ⟨rfl, rfl, rfl⟩) | exact V.y vAuto) ?_)
    | (refine nxG ?_)
    | (refine G.mixedA 5 [.go 0, .go 1, .go 2, .go 3, .go 4, .go 6, .go 7, .go 8, .go 11, .go 12, .go 13, .go 14, .go 15, .go 17, .go 18, .go 19, .go 22, .go 23, .go 24, .pend 28, .go 5, .go 9, .go 10, .go 16, .go 20, .go 21, .go 25, .go 26, .go 27, .done, .go 29] ?_)
    | (refine G.mixedA 8 [.go 0, .go 1, .go 2, .go 3, .go 4, .go 5] ?_)
    | (refine nxX ?_)
    | (refine G.condN rfl (fun hc => ?_) (fun hc => ?_) <;> (try first | exact False.elim hc | (exfalso; omega))))
  all_goals first
    | (exfalso; simp at hc; omega)
    | exact X.ret (vs := [_, _]) rfl ⟨rfl, rfl, rfl⟩ rfl (fun w hw => ⟨rfl, hw.ext⟩)
theorem side_in : (TT.cosE 1800000 1800000).2 < (sideS (0, 0) (0, 0) (0 - 0, 0 - 0)).1 := by decide +kernel
end Go.Proofs.YtjmdeplmenbmmaaGreatDoor
