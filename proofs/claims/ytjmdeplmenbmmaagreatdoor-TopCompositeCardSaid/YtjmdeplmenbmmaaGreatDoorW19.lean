/- Joined texts: Pck, Prw, Pln. -/
import Derived.Test.YtjmdeplmenbmmaaGreatDoorW12
import Derived.Test.YtjmdeplmenbmmaaGreatDoorW18
import Derived.Test.YtjmdeplmenbmmaaGreatDoorW09
import Derived.Test.YtjmdeplmenbmmaaGreatDoorV08
import Derived.Test.YtjmdeplmenbmmaaGreatDoorW03
set_option linter.unusedVariables false
set_option maxHeartbeats 8000000
namespace Go.Proofs.YtjmdeplmenbmmaaGreatDoor
open Go.RowKit
theorem csize_c {n : Int} (h : -4611686018427387904 ≤ n ∧ n ≤ 4611686018427387904) : Cont Tryz.prog 32 [.int .i64 n] (.int .i64 (max n (-n))) := fun w => by
  refine enter0 Tryz.func32 rfl rfl rfl ?_
  repeat' (first
    | (refine nxV ?_)
    | (refine nxRS ?_) | (refine nxRS1 fun _ => ?_)
    | (refine nxRM ?_) | (refine nxRM1 fun _ => ?_)
    | (refine nxG ?_)
    | (refine nxX ?_)
    | (refine G.condN rfl (fun hc => ?_) (fun hc => ?_) <;> (try first | exact False.elim hc | (exfalso; omega))))
  exact X.ret (vs := [_]) rfl ⟨rfl, rfl⟩ rfl (fun w hw => ⟨rfl, hw.ext⟩)
theorem cone_c {n : Int} : Cont Tryz.prog 89 [.int .i64 n] (arcV n n) := fun w => by
  refine enter0 Tryz.func89 rfl rfl rfl ?_
  repeat' (first
    | (refine nxV ?_)
    | (refine nxRS ?_) | (refine nxRS1 fun _ => ?_)
    | (refine nxRM ?_) | (refine nxRM1 fun _ => ?_)
    | (refine nxG ?_)
    | (refine nxX ?_)
    | (refine G.condN rfl (fun hc => ?_) (fun hc => ?_) <;> (try first | exact False.elim hc | (exfalso; omega))))
  all_goals exact X.ret (vs := [_]) rfl ⟨⟨_, _, _, _, rfl, (by exact memA), (by (repeat (first | exact .nil | apply LenIs.cons))), by decide +kernel, rfl⟩, rfl⟩ rfl (fun w hw => ⟨rfl, hw.ext⟩)
theorem cturn_c {a b : Int} (h : -100000000 ≤ a ∧ a ≤ 100000000 ∧ -100000000 ≤ b ∧ b ≤ 100000000) : Cont Tryz.prog 34 [arcV a b] (arcV (10800000 - b) (10800000 - a)) := fun w => by
  refine enter0 Tryz.func34 rfl rfl rfl ?_
  repeat' (first
    | (refine nxV ?_)
    | (refine nxRS ?_) | (refine nxRS1 fun _ => ?_)
    | (refine nxRM ?_) | (refine nxRM1 fun _ => ?_)
    | (refine nxG ?_)
    | (refine nxX ?_)
    | (refine G.condN rfl (fun hc => ?_) (fun hc => ?_) <;> (try first | exact False.elim hc | (exfalso; omega))))
  all_goals exact X.ret (vs := [_]) rfl ⟨⟨_, _, _, _, rfl, (by exact memA), (by (repeat (first | exact .nil | apply LenIs.cons))), by decide +kernel, rfl⟩, rfl⟩ rfl (fun w hw => ⟨rfl, hw.ext⟩)
theorem cmid_c {a b : Int} (h : -100000000 ≤ a ∧ a ≤ 100000000 ∧ -100000000 ≤ b ∧ b ≤ 100000000) : Cont Tryz.prog 33 [arcV a b] (.int .i64 ((a + b) / 2)) := fun w => by
  refine enter0 Tryz.func33 rfl rfl rfl ?_
  repeat' (first
    | (show VK _ _ _ _ _ ⟨_, .binOp .shr _ _ _ _, _, _, _, _⟩ _; refine VK.mk (y_shrQ (q := 2) (m := a + b) (by rfl) (by rfl) (by omega) (by rfl) (by rfl)) ?_)
    | (show YK _ _ _ _ _ ⟨_, .binOp .shr _ _ _ _, _, _, _, _⟩ _; refine YK.ofV (y_shrQ (q := 2) (m := a + b) (by rfl) (by rfl) (by omega) (by rfl) (by rfl)) ?_)
    | (show VG _ _ _ _ _ _ ⟨_, .binOp .shr _ _ _ _, _, _, _, _⟩ _; refine VG.mk (fun hb => by (try (have hc := And.left hb; have hb := And.right hb; rw [hc])); (try rw [hb]); exact y_shrQ (q := 2) (m := a + b) (by rfl) (by rfl) (by omega) (by rfl) (by rfl)) ?_)
    | (show YG _ _ _ _ _ _ ⟨_, .binOp .shr _ _ _ _, _, _, _, _⟩ _; refine YG.mk (fun hb => by (try (have hc := And.left hb; have hb := And.right hb; rw [hc])); (try rw [hb]); exact V.y (y_shrQ (q := 2) (m := a + b) (by rfl) (by rfl) (by omega) (by rfl) (by rfl))) ?_)
    | (refine nxV ?_)
    | (refine nxRS ?_) | (refine nxRS1 fun _ => ?_)
    | (refine nxRM ?_) | (refine nxRM1 fun _ => ?_)
    | (refine nxG ?_)
    | (refine nxX ?_)
    | (refine G.condN rfl (fun hc => ?_) (fun hc => ?_) <;> (try first | exact False.elim hc | (exfalso; omega))))
  all_goals exact X.ret (vs := [_]) rfl ⟨rfl, rfl⟩ rfl (fun w hw => ⟨rfl, hw.ext⟩)
theorem RO.stay {w w' : World} {v : Value} {s n : Nat} {xs : List Value} (h : RO w v s n xs) (hb : Below w.heap.size w w') : RO w' v s n xs :=
  (Hl.keep (h := .ro false v s n xs) (base := 0) ⟨h, fun g => by cases g⟩ fun b ho => hb.block b (Hl.lt (h := .ro false v s n xs) (base := 0) ⟨h, fun g => by cases g⟩ ho)).1
structure PkW (v : Value) (l : List PtT) (b : Nat) (lim : Int) (w : World) : Prop where
  ro : RO w v 2 l.length (l.flatMap cPt)
  bx : ∀ k u, [Value.int .i64 lim][k]? = some u → w.cell? ⟨b, k, none⟩ = some u
theorem PkW.keep {v : Value} {l : List PtT} {b : Nat} {lim : Int} {w w' : World} (h : PkW v l b lim w) (hw : Below w.heap.size w w') : PkW v l b lim w' :=
  ⟨h.ro.stay hw, fun k u hk => (World.cell?_of_block (w := w) (hw.block b (World.block_lt_of_cell? w _ (h.bx k u hk)))).trans (h.bx k u hk)⟩
abbrev bxP (b : Nat) : Value := .pointer (some ⟨b, 0, none⟩)
def okPt (lim : Int) (p : PtT) : Prop := (lat8I p.1 ∧ lon8I p.2) ∧ -lim ≤ p.1 ∧ p.1 ≤ lim
theorem pk1_c {p : PtT} {C : World → Prop} (h : lat8I p.1 ∧ lon8I p.2) : ContIn Tryz.prog C 82 ([ptV p.1 p.2] ++ (#[] : Array Value).toList) (.bool false) := fun w hs => by
  have q1 := pointT h
  refine enter0 Tryz.func82 rfl rfl rfl ?_
  repeat' (first
    | (show YK _ _ _ _ _ _ _; first | refine YK.mk (y_callA (q1) ⟨rfl, rfl⟩) ?_)
    | (refine nxV ?_)
    | (refine nxRS ?_) | (refine nxRS1 fun _ => ?_)
    | (refine nxRM ?_) | (refine nxRM1 fun _ => ?_)
    | (show YG _ _ _ _ _ _ _ _; refine YG.mk (fun hb => by (try (have hc := And.left hb; have hb := And.right hb; rw [hc])); (try rw [hb]); first | exact (y_callA (q1) ⟨rfl, rfl⟩) | exact V.y vAuto) ?_)
    | (refine nxG ?_)
    | (refine nxX ?_)
    | (refine G.condN rfl (fun hc => ?_) (fun hc => ?_) <;> (try first | exact False.elim hc | (exfalso; omega))))
  exact X.ret (vs := [_]) rfl ⟨rfl, rfl⟩ rfl (fun w hw => ⟨ret_bool (by simp), hw.ext⟩)
theorem pk2_c {p : PtT} {v : Value} {l : List PtT} {b : Nat} {lim : Int} (h : okPt lim p) : ContIn Tryz.prog (PkW v l b lim) 83 ([ptV p.1 p.2] ++ (#[bxP b] : Array Value).toList) (.bool false) := fun w hs => by
  have hb := hs.bx
  obtain ⟨h1, h2⟩ := h
  have q1 := csize_c (n := p.1) (by omega)
  refine enter0 Tryz.func83 rfl rfl rfl ?_
  repeat' (first
    | (show VK _ _ _ _ _ ⟨_, .load 3 _, _, _, _, _⟩ _; refine VK.mk (y_loadX (by rfl) (hb _ _ (by rfl)) (by decide +kernel)) ?_)
    | (show YK _ _ _ _ _ ⟨_, .load 3 _, _, _, _, _⟩ _; refine YK.ofV (y_loadX (by rfl) (hb _ _ (by rfl)) (by decide +kernel)) ?_)
    | (show VG _ _ _ _ _ _ ⟨_, .load 3 _, _, _, _, _⟩ _; refine VG.mk (fun hb => by (try (have hc := And.left hb; have hb := And.right hb; rw [hc])); (try rw [hb]); exact y_loadX (by rfl) (hb _ _ (by rfl)) (by decide +kernel)) ?_)
    | (show YG _ _ _ _ _ _ ⟨_, .load 3 _, _, _, _, _⟩ _; refine YG.mk (fun hb => by (try (have hc := And.left hb; have hb := And.right hb; rw [hc])); (try rw [hb]); exact V.y (y_loadX (by rfl) (hb _ _ (by rfl)) (by decide +kernel))) ?_)
    | (show YK _ _ _ _ _ _ _; first | refine YK.mk (y_callA (q1) ⟨rfl, rfl⟩) ?_)
    | (refine nxV ?_)
    | (refine nxRS ?_) | (refine nxRS1 fun _ => ?_)
    | (refine nxRM ?_) | (refine nxRM1 fun _ => ?_)
    | (show YG _ _ _ _ _ _ _ _; refine YG.mk (fun hb => by (try (have hc := And.left hb; have hb := And.right hb; rw [hc])); (try rw [hb]); first | exact (y_callA (q1) ⟨rfl, rfl⟩) | exact V.y vAuto) ?_)
    | (refine nxG ?_)
    | (refine G.mixedA 1 [.go 0, .go 1, .go 3, .go 2, .go 4, .go 5] ?_)
    | (refine nxX ?_)
    | (refine G.condN rfl (fun hc => ?_) (fun hc => ?_) <;> (try first | exact False.elim hc | (exfalso; omega))))
  exact X.ret (vs := [_]) rfl ⟨rfl, rfl⟩ rfl (fun w hw => ⟨ret_bool (by simp; omega), hw.ext⟩)
theorem pix_c {fid : Nat} {cap : Array Value} {v : Value} {l : List PtT} {b : Nat} {lim : Int} (hq : ∀ p ∈ l, ContIn Tryz.prog (PkW v l b lim) fid ([ptV p.1 p.2] ++ cap.toList) (.bool false)) (hgo : isGo Tryz.prog fid = true) (hl : l.length ≤ 1000) :
    ContIn Tryz.prog (PkW v l b lim) 159 [v, .func (.func fid) #[] cap] (.int .i64 (-1)) := fun w hs => by
  refine enter Tryz.func159 rfl rfl rfl (Hp := [Hl.rd v cPt 2 l]) (fun h hm => by
    rcases List.mem_singleton.1 hm with rfl
    exact ⟨⟨hs.ro, fun h => by cases h⟩, rfl⟩) ?_
  repeat' (first
    | (refine nxV ?_)
    | (refine nxRS ?_) | (refine nxRS1 fun _ => ?_)
    | (refine nxRM ?_) | (refine nxRM1 fun _ => ?_)
    | (refine nxG ?_)
    | (refine nxX ?_)
    | (refine G.condN rfl (fun hc => ?_) (fun hc => ?_) <;> (try first | exact False.elim hc | (exfalso; omega))))
  refine G.loop (ι := Nat) (fun i => [(0, v), (1, .func (.func fid) #[] cap), (7, .int .i64 l.length), (8, .int .i64 (i : Int))]) (fun _ => [Hl.rd v cPt 2 l]) (fun i => i ≤ l.length) (fun i => l.length - i) 0 (Nat.zero_le _) ⟨rfl, rfl, rfl, rfl, trivial⟩ (by exact fun w h => h.sub (by repeat (first | exact List.Sublist.refl _ | apply List.Sublist.cons_cons | apply List.Sublist.cons))) ?_
  rintro i mx g1 hmx
  (try dsimp only at g1 hmx ⊢)
  rcases Nat.lt_or_ge i l.length with hi | hi
  · have hm : nth l (i : Int) ∈ l := by
      unfold nth
      rw [Int.toNat_natCast, List.getD_eq_getElem?_getD, List.getElem?_eq_getElem hi]
      exact List.getElem_mem hi
    have q1 := hq _ hm
    repeat' (first
    | (show YK _ _ _ _ _ ⟨_, .call { callee := .value _, args := _, argTypes := _ }, _, _, _, _⟩ _; refine YK.mk (y_callV (f := fid) (by rfl) q1 (fun w' hw' => hs.keep hw'.ext) ⟨rfl, rfl⟩ hgo) ?_)
    | (refine nxV ?_)
    | (refine nxRS ?_) | (refine nxRS1 fun _ => ?_)
    | (refine nxRM ?_) | (refine nxRM1 fun _ => ?_)
    | (refine nxG ?_)
    | (refine nxX ?_)
    | (refine G.condN rfl (fun hc => ?_) (fun hc => ?_) <;> (try first | exact False.elim hc | (exfalso; omega))))
    exact X.again (i + 1) (by omega) (by omega) ⟨rfl, rfl, rfl, rfl, trivial⟩ (by exact fun w h => h.sub (by repeat (first | exact List.Sublist.refl _ | apply List.Sublist.cons_cons | apply List.Sublist.cons)))
  · repeat' (first
    | (refine nxV ?_)
    | (refine nxRS ?_) | (refine nxRS1 fun _ => ?_)
    | (refine nxRM ?_) | (refine nxRM1 fun _ => ?_)
    | (refine nxG ?_)
    | (refine nxX ?_)
    | (refine G.condN rfl (fun hc => ?_) (fun hc => ?_) <;> (try first | exact False.elim hc | (exfalso; omega))))
    exact X.ret (vs := [_]) rfl ⟨rfl, rfl⟩ rfl (fun w hw => ⟨rfl, hw.ext⟩)
theorem pco_c {fid : Nat} {cap : Array Value} {v : Value} {l : List PtT} {b : Nat} {lim : Int} (hq : ∀ p ∈ l, ContIn Tryz.prog (PkW v l b lim) fid ([ptV p.1 p.2] ++ cap.toList) (.bool false)) (hgo : isGo Tryz.prog fid = true) (hl : l.length ≤ 1000) :
    ContIn Tryz.prog (PkW v l b lim) 81 [v, .func (.func fid) #[] cap] (.bool false) := fun w hs => by
  have q1 := pix_c hq hgo hl
  refine enter0 Tryz.func81 rfl rfl rfl ?_
  repeat' (first
    | (show YK _ _ _ _ _ ⟨_, .call { callee := .value (.func 159), args := _, argTypes := _ }, _, _, _, _⟩ _; refine YK.mk (y_callIn (q1) (fun w' hw' => hs.keep hw'.ext) ⟨rfl, rfl, rfl⟩ (by decide +kernel)) ?_)
    | (show YG _ _ _ _ _ _ ⟨_, .call { callee := .value (.func 159), args := _, argTypes := _ }, _, _, _, _⟩ _; refine YG.mk (fun hb => by (try (have hc := And.left hb; have hb := And.right hb; rw [hc])); (try rw [hb]); exact y_callIn (q1) (fun w' hw' => hs.keep hw'.ext) ⟨rfl, rfl, rfl⟩ (by decide +kernel)) ?_)
    | (refine nxV ?_)
    | (refine nxRS ?_) | (refine nxRS1 fun _ => ?_)
    | (refine nxRM ?_) | (refine nxRM1 fun _ => ?_)
    | (refine nxG ?_)
    | (refine nxX ?_)
    | (refine G.condN rfl (fun hc => ?_) (fun hc => ?_) <;> (try first | exact False.elim hc | (exfalso; omega))))
  exact X.ret (vs := [_]) rfl ⟨rfl, rfl⟩ rfl (fun w hw => ⟨rfl, hw.ext⟩)
theorem check_c {v : Value} {l : List PtT} {lim : Int} (h : ∀ p ∈ l, okPt lim p) (hlim : 1 ≤ lim ∧ lim < 5400000) (hl : l.length ≤ 1000) : ContR Tryz.prog [Hl.rd v cPt 2 l] 29 [.int .i64 lim, v] (.int .i64 0) := fun w hw0 => by
  have q1 := fun b => pco_c (v := v) (b := b) (lim := lim) (fid := 82) (cap := #[]) (fun p hp => pk1_c (h p hp).1) (by decide +kernel) hl
  have q2 := fun b => pco_c (v := v) (b := b) (lim := lim) (fid := 83) (cap := #[bxP b]) (fun p hp => pk2_c (h p hp)) (by decide +kernel) hl
  have hC : ∀ (w0 : World) (H : List Hl) (b : Nat) w', St w0 H w' → RdT H v cPt 2 l → Hl.blk b 3 [.int .i64 lim] ∈ H → PkW v l b lim w' := fun w0 H b w' hw' hr hm => ⟨hr _ _ hw', fun k u hk => (hw'.cell hm k).trans hk⟩
  refine enter Tryz.func29 rfl rfl rfl hw0 ?_
  repeat' (first
    | (show YK _ _ _ _ _ ⟨_, .call { callee := .value (.func 81), args := _, argTypes := _ }, _, _, _, _⟩ _; refine YK.mk (y_callIn (q1 _) (fun w' hw' => hC _ _ _ _ hw' (by exact rdA) (by exact memA)) ⟨rfl, rfl, rfl⟩ (by decide +kernel)) ?_)
    | (show YG _ _ _ _ _ _ ⟨_, .call { callee := .value (.func 81), args := _, argTypes := _ }, _, _, _, _⟩ _; refine YG.mk (fun hb => by (try (have hc := And.left hb; have hb := And.right hb; rw [hc])); (try rw [hb]); exact y_callIn (q1 _) (fun w' hw' => hC _ _ _ _ hw' (by exact rdA) (by exact memA)) ⟨rfl, rfl, rfl⟩ (by decide +kernel)) ?_)
    | (show YK _ _ _ _ _ ⟨_, .call { callee := .value (.func 81), args := _, argTypes := _ }, _, _, _, _⟩ _; refine YK.mk (y_callIn (q2 _) (fun w' hw' => hC _ _ _ _ hw' (by exact rdA) (by exact memA)) ⟨rfl, rfl, rfl⟩ (by decide +kernel)) ?_)
    | (show YG _ _ _ _ _ _ ⟨_, .call { callee := .value (.func 81), args := _, argTypes := _ }, _, _, _, _⟩ _; refine YG.mk (fun hb => by (try (have hc := And.left hb; have hb := And.right hb; rw [hc])); (try rw [hb]); exact y_callIn (q2 _) (fun w' hw' => hC _ _ _ _ hw' (by exact rdA) (by exact memA)) ⟨rfl, rfl, rfl⟩ (by decide +kernel)) ?_)
    | (refine nxV ?_)
    | (refine nxRS ?_) | (refine nxRS1 fun _ => ?_)
    | (refine nxRM ?_) | (refine nxRM1 fun _ => ?_)
    | (refine nxG ?_)
    | (refine nxX ?_)
    | (refine G.condN rfl (fun hc => ?_) (fun hc => ?_) <;> (try first | exact False.elim hc | (exfalso; omega))))
  all_goals first
    | (exfalso; simp at hc; omega)
    | (exfalso; omega)
    | exact X.ret (vs := [_]) rfl ⟨rfl, rfl⟩ rfl (fun w hw => ⟨rfl, hw.ext⟩)
end Go.Proofs.YtjmdeplmenbmmaaGreatDoor
set_option maxHeartbeats 8000000
namespace Go.Proofs.YtjmdeplmenbmmaaGreatDoor
open Go.RowKit
theorem prod_c {a b : Int} (ha : lat8I a) (hb : lat8I b) : Cont Tryz.prog 84 [.int .i64 a, .int .i64 b] (.tuple [arcV (TT.mulE (TT.encl a a) (TT.cosE b b)).1 (TT.mulE (TT.encl a a) (TT.cosE b b)).2, .int .i64 0].toArray) := fun w => by
  have q1 := Sin_c (lo := a) (hi := a) (valI (by omega))
  have q2 := Cos_c (lo := b) (hi := b) (valI (by omega))
  have q3 := fmul_c (TT.encl_ord (Int.le_refl a)) (TT.cosE_ord (Int.le_refl b))
  generalize TT.mulE (TT.encl a a) (TT.cosE b b) = m at *
  generalize TT.encl a a = s at *
  generalize TT.cosE b b = c at *
  have q4 := cone_c (n := a)
  have q5 := cone_c (n := b)
  refine enter0 Tryz.func84 rfl rfl rfl ?_
  repeat' (first
    | (refine nxN ?_)
    | (show YK _ _ _ _ _ _ _; first | refine YK.mk (y_callA (q4) ⟨rfl, rfl⟩) ?_ | refine YK.mk (y_callA (q5) ⟨rfl, rfl⟩) ?_ | refine YK.mk (y_callA (q1) ⟨rfl, rfl⟩) ?_ | refine YK.mk (y_callA (q2) ⟨rfl, rfl⟩) ?_ | refine YK.mk (y_callA (q3) ⟨rfl, rfl, rfl⟩) ?_)
    | (refine nxV ?_)
    | (refine nxRS ?_) | (refine nxRS1 fun _ => ?_)
    | (refine nxRM ?_) | (refine nxRM1 fun _ => ?_)
    | (show YG _ _ _ _ _ _ _ _; refine YG.mk (fun hb => by (try (have hc := And.left hb; have hb := And.right hb; rw [hc])); (try rw [hb]); first | exact (y_callA (q4) ⟨rfl, rfl⟩) | exact (y_callA (q5) ⟨rfl, rfl⟩) | exact (y_callA (q1) ⟨rfl, rfl⟩) | exact (y_callA (q2) ⟨rfl, rfl⟩) | exact (y_callA (q3) ⟨rfl, rfl, rfl⟩) | exact V.y vAuto) ?_)
    | (refine nxG ?_)
    | (refine nxX ?_)
    | (refine G.condN rfl (fun hc => ?_) (fun hc => ?_) <;> (try first | exact False.elim hc | (exfalso; omega))))
  all_goals exact X.ret (vs := [_, _]) rfl ⟨⟨_, _, _, _, rfl, (by exact memA), (by (repeat (first | exact .nil | apply LenIs.cons))), by decide +kernel, rfl⟩, rfl, rfl⟩ rfl (fun w hw => ⟨rfl, hw.ext⟩)
theorem div_le {x y : Int} (hy : 0 < y) (h : x ≤ y) : -(-(x * 1073741824) / y) ≤ 1073741824 := by
  have : -1073741824 ≤ -(x * 1073741824) / y := (Int.le_ediv_iff_mul_le hy).2 (by omega)
  omega
theorem div_ge {x y : Int} (hy : 0 < y) (h : -y ≤ x) : -1073741824 ≤ x * 1073741824 / y := (Int.le_ediv_iff_mul_le hy).2 (by omega)
theorem div_cl (n : Int) {y : Int} (hy : 0 < y) : n / y ≤ -(-n / y) := by rw [rnd_up hy]; split <;> omega
theorem divE_in {A B : Int × Int} (hA : A.1 ≤ A.2) (hB : B.1 ≤ B.2) (h0 : 1 ≤ B.1) (h1 : A.2 ≤ B.1) (h2 : -A.1 ≤ B.1) : -1073741824 ≤ (divE A B).1 ∧ (divE A B).1 ≤ (divE A B).2 ∧ (divE A B).2 ≤ 1073741824 := by
  have g1 := div_ge (x := A.1) (y := B.1) (by omega) (by omega)
  have g2 := div_ge (x := A.1) (y := B.2) (by omega) (by omega)
  have g3 := div_ge (x := A.2) (y := B.1) (by omega) (by omega)
  have g4 := div_ge (x := A.2) (y := B.2) (by omega) (by omega)
  have l1 := div_le (x := A.1) (y := B.1) (by omega) (by omega)
  have l2 := div_le (x := A.1) (y := B.2) (by omega) (by omega)
  have l3 := div_le (x := A.2) (y := B.1) (by omega) (by omega)
  have l4 := div_le (x := A.2) (y := B.2) (by omega) (by omega)
  have c := div_cl (A.1 * 1073741824) (y := B.1) (by omega)
  unfold divE divQ divC
  dsimp only
  omega
theorem creach_c {lat lim : Int} (hl : 1 ≤ lim ∧ lim < 5400000) (h : -lim ≤ lat ∧ lat ≤ lim) : ∃ r : Int × Int, (0 ≤ r.1 ∧ r.1 ≤ r.2 ∧ r.2 ≤ 10800000) ∧ Cont Tryz.prog 30 [.int .i64 lat, .int .i64 lim] (.tuple [arcV r.1 r.2, .int .i64 0].toArray) := by
  by_cases h1 : lat = lim
  · refine ⟨(0, 0), by omega, fun w => ?_⟩
    refine enter0 Tryz.func30 rfl rfl rfl ?_
    repeat' (first
    | (refine nxN ?_)
    | (refine nxV ?_)
    | (refine nxRS ?_) | (refine nxRS1 fun _ => ?_)
    | (refine nxRM ?_) | (refine nxRM1 fun _ => ?_)
    | (refine nxG ?_)
    | (refine nxX ?_)
    | (refine G.condN rfl (fun hc => ?_) (fun hc => ?_) <;> (try first | exact False.elim hc | (exfalso; omega))))
    all_goals exact X.ret (vs := [_, _]) rfl ⟨⟨_, _, _, _, rfl, (by exact memA), (by (repeat (first | exact .nil | apply LenIs.cons))), by decide +kernel, rfl⟩, rfl, rfl⟩ rfl (fun w hw => ⟨rfl, hw.ext⟩)
  by_cases h2 : lat = -lim
  · refine ⟨(10800000, 10800000), by omega, fun w => ?_⟩
    refine enter0 Tryz.func30 rfl rfl rfl ?_
    repeat' (first
    | (refine nxN ?_)
    | (refine nxV ?_)
    | (refine nxRS ?_) | (refine nxRS1 fun _ => ?_)
    | (refine nxRM ?_) | (refine nxRM1 fun _ => ?_)
    | (refine nxG ?_)
    | (refine nxX ?_)
    | (refine G.condN rfl (fun hc => ?_) (fun hc => ?_) <;> (try first | exact False.elim hc | (exfalso; omega))))
    all_goals exact X.ret (vs := [_, _]) rfl ⟨⟨_, _, _, _, rfl, (by exact memA), (by (repeat (first | exact .nil | apply LenIs.cons))), by decide +kernel, rfl⟩, rfl, rfl⟩ rfl (fun w hw => ⟨rfl, hw.ext⟩)
  obtain ⟨c1, c2, c3⟩ := TT.quot_in (lat := lat) (lim := lim) hl (by omega)
  have q1 := prod_c (a := lat) (b := lim) (by omega) (by omega)
  have q2 := prod_c (a := lim) (b := lat) (by omega) (by omega)
  have mA := TT.mulE_bd (TT.encl_ord (Int.le_refl lat)) (TT.cosE_ord (Int.le_refl lim))
  have mB := TT.mulE_bd (TT.encl_ord (Int.le_refl lim)) (TT.cosE_ord (Int.le_refl lat))
  generalize TT.mulE (TT.encl lat lat) (TT.cosE lim lim) = A at *
  generalize TT.mulE (TT.encl lim lim) (TT.cosE lat lat) = B at *
  have hd := divE_in mA.2.1 mB.2.1 c3 c1 c2
  have q3 := fdiv_c (A := A) (B := B) (by omega) (by omega) (by omega) (by omega)
  generalize divE A B = D at *
  obtain ⟨n, hn⟩ := TT.asin_ex (v := D.1) hd.1
  obtain ⟨m, hm⟩ := TT.asin_ex (v := -D.2) (by omega)
  have q4 := Acos_c (a := D.1) (b := D.2) hd hn hm
  have hnm : n ≤ -m := TT.asin_ord hn hm hd.2.1
  have b1 := hn.1
  have b2 := hn.2.1
  have b3 := hm.1
  have b4 := hm.2.1
  clear hn hm
  refine ⟨(5400000 + m, 5400000 - n), by dsimp only; omega, fun w => ?_⟩
  dsimp only
  generalize 5400000 + m = r1 at *
  generalize 5400000 - n = r2 at *
  obtain ⟨A1, A2⟩ := A
  obtain ⟨B1, B2⟩ := B
  obtain ⟨D1, D2⟩ := D
  dsimp only at *
  refine enter0 Tryz.func30 rfl rfl rfl ?_
  repeat' (first
    | (refine nxN ?_)
    | (show YK _ _ _ _ _ _ _; first | refine YK.mk (y_callA (q1) ⟨rfl, rfl, rfl⟩) ?_ | refine YK.mk (y_callA (q2) ⟨rfl, rfl, rfl⟩) ?_ | refine YK.mk (y_callA (q3) ⟨rfl, rfl, rfl⟩) ?_ | refine YK.mk (y_callA (q4) ⟨rfl, rfl⟩) ?_)
    | (refine nxV ?_)
    | (refine nxRS ?_) | (refine nxRS1 fun _ => ?_)
    | (refine nxRM ?_) | (refine nxRM1 fun _ => ?_)
    | (show YG _ _ _ _ _ _ _ _; refine YG.mk (fun hb => by (try (have hc := And.left hb; have hb := And.right hb; rw [hc])); (try rw [hb]); first | exact (y_callA (q1) ⟨rfl, rfl, rfl⟩) | exact (y_callA (q2) ⟨rfl, rfl, rfl⟩) | exact (y_callA (q3) ⟨rfl, rfl, rfl⟩) | exact (y_callA (q4) ⟨rfl, rfl⟩) | exact V.y vAuto) ?_)
    | (refine nxG ?_)
    | (refine nxX ?_)
    | (refine G.condN rfl (fun hc => ?_) (fun hc => ?_) <;> (try first | exact False.elim hc | (exfalso; omega))))
  all_goals exact X.ret (vs := [_, _]) rfl ⟨⟨_, _, _, _, rfl, (by exact memA), (by (repeat (first | exact .nil | apply LenIs.cons))), by decide +kernel, rfl⟩, rfl, rfl⟩ rfl (fun w hw => ⟨rfl, hw.ext⟩)
end Go.Proofs.YtjmdeplmenbmmaaGreatDoor
set_option maxHeartbeats 8000000
namespace Go.Proofs.YtjmdeplmenbmmaaGreatDoor
open Go.RowKit
theorem RM.lit2Pt {P : Program} {ops : Array Oper} {Q : Exit → Act → World → Prop} {n i : Nat} {L : FL} {w0 : World} {H HS : List Hl} {ord : List Mv} {dd : Tmp} {ty : TypeId} {pos : String} {af : Array Edge} {t e : TypeId} {bytes : Nat} {x0 x1 : Operand} {a b : PtT} (h : ∀ v' : Sl, RM P ops Q HS n [] ((dd, v'.v) :: L) w0 (Hl.rw v'.v e cPt 2 [a, b] :: H) ord) (ho : ops[i]? = some ⟨some dd, .buildSlice t 2 #[(0, x0), (1, x1)], ty, pos, af, none⟩) (hx0 : evO L x0 = some (ptV a.1 a.2)) (hx1 : evO L x1 = some (ptV b.1 b.2)) [ht : RowTy P t e 2 bytes] (hd : Nat.blt dd n = true)
    (hs : ∀ (v' : Sl) w, St w0 (Hl.rw v'.v e cPt 2 [a, b] :: H) w → St w0 HS w) : RM P ops Q HS n [] L w0 H (.go i :: ord) :=
  RM.actX ho rfl rfl (x_litS (parts := [(0, x0), (1, x1)]) (vs := [ptV a.1 a.2, ptV b.1 b.2]) (cs := cPt a ++ cPt b) (f := cPt) (l := [a, b]) ⟨hx0, hx1, rfl⟩ rfl rfl rfl rfl (fun zs hz => by
      match zs, hz with
      | [_, _, _, _], _ => rfl) rfl rfl rfl (rowTy_B ht.is) hd) (.inl hs) fun v' _ => h v'
structure PlanOk (lim : Int) (a b : PtT) (l : List PtT) : Prop where
  hd : l.head? = some a
  lst : l.getLast? = some b
  adj : ∀ (i : Nat) p q, l[i]? = some p → l[i + 1]? = some q → p ≠ q
  ok : ∀ p ∈ l, okPt lim p
  len : l.length ≤ 6
theorem plan_of {a b : PtT} {lim : Int} {L zl : List PtT} (hc : Cmp zl (L ++ [b])) (hn : zl.length ≤ (L ++ [b]).length) (hL : L.head? = some a) (ok : ∀ p ∈ L, okPt lim p) (hb : okPt lim b) (hl : L.length ≤ 5) : PlanOk lim a b zl := by
  refine ⟨?_, ?_, hc.adj, fun p hp => ?_, by simp only [List.length_append, List.length_cons, List.length_nil] at hn; omega⟩
  · rw [hc.hd]
    cases L with
    | nil => cases hL
    | cons _ _ => exact hL
  · rw [hc.lst]; simp
  · rcases List.mem_append.1 (hc.mem p hp) with h | h
    · exact ok p h
    · rw [List.mem_singleton.1 h]; exact hb
theorem plan_c {a b : PtT} {lim : Int} (hl : 1 ≤ lim ∧ lim < 5400000) (ha : okPt lim a) (hb : okPt lim b) : ContX Tryz.prog [] 7 [ptV a.1 a.2, ptV b.1 b.2, .int .i64 lim] (fun z : Value × List PtT => PlanOk lim a b z.2) (fun z => .tuple [z.1, .int .i64 0].toArray) (fun z => [Hl.nw z.1 cPt 2 z.2]) := fun w hw0 => by
  have q1 := fun v => check_c (v := v) (l := [a, b]) (lim := lim) (fun p hp => by
    rcases List.mem_cons.1 hp with rfl | hp
    · exact ha
    · rw [List.mem_singleton.1 hp]; exact hb) hl (by simp)
  obtain ⟨r, hr, q2⟩ := creach_c hl ha.2
  obtain ⟨s, hs, q3⟩ := creach_c hl hb.2
  have h1 := ha.1
  have h2 := hb.1
  have q4 := signed_c (n := b.2 - a.2) (by omega)
  have ho := signI_bd (b.2 - a.2)
  generalize signI (b.2 - a.2) = om at *
  refine enter Tryz.func7 rfl rfl rfl hw0 ?_
  repeat' (first
    | (refine nxN ?_)
    | (show RS _ _ _ _ _ _ _ (⟨some _, .buildSlice 26 2 _, _, _, _, _⟩ :: _); refine RS.lit2Pt (a := a) (b := b) (fun v' => ?_) rfl rfl)
    | (show RS _ _ _ _ _ _ _ (⟨some _, .buildSlice 26 1 _, _, _, _, _⟩ :: _); refine RS.lit1Pt (a := a) (fun v' => ?_) rfl)
    | (show RS _ _ _ _ _ _ _ (⟨some _, .buildSlice 65 2 _, _, _, _, _⟩ :: _); refine RS.lit2I (fun v' => ?_) rfl rfl)
    | (show YK _ _ _ _ _ _ _; first | refine YK.mk (y_callRA (q1 _) ⟨rfl, rfl, rfl⟩) ?_ | refine YK.mk (y_callA (q2) ⟨rfl, rfl, rfl⟩) ?_ | refine YK.mk (y_callA (q3) ⟨rfl, rfl, rfl⟩) ?_ | refine YK.mk (y_callA (q4) ⟨rfl, rfl⟩) ?_)
    | (refine nxV ?_)
    | (refine nxRS ?_) | (refine nxRS1 fun _ => ?_)
    | (refine nxRM ?_) | (refine nxRM1 fun _ => ?_)
    | (show YG _ _ _ _ _ _ _ _; refine YG.mk (fun hb => by (try (have hc := And.left hb; have hb := And.right hb; rw [hc])); (try rw [hb]); first | exact (y_callRA (q1 _) ⟨rfl, rfl, rfl⟩) | exact (y_callA (q2) ⟨rfl, rfl, rfl⟩) | exact (y_callA (q3) ⟨rfl, rfl, rfl⟩) | exact (y_callA (q4) ⟨rfl, rfl⟩) | exact V.y vAuto) ?_)
    | (refine nxG ?_)
    | (refine G.mixedA 15 [.go 0, .go 1, .go 2, .go 3, .go 4, .go 5, .go 6, .go 7] ?_)
    | (refine G.mixedA 16 [.go 0, .go 2, .go 1, .go 3, .go 4, .go 5] ?_)
    | (refine G.mixedA 19 [.go 0, .go 1, .go 2, .go 3, .go 4, .go 5, .go 8, .go 9, .go 10, .go 11, .go 12, .go 6, .go 7, .go 13, .go 14, .go 15, .go 16, .go 17] ?_)
    | (refine G.mixedA 20 [.go 0, .go 2, .go 1, .go 3, .go 4, .go 5] ?_)
    | (refine nxX ?_)
    | (refine G.condN rfl (fun hc => ?_) (fun hc => ?_) <;> (try first | exact False.elim hc | (exfalso; omega))))
  rename_i b3 b4 v0 hd1 b9 hd2 b11 v1
  refine G.loop (ι := (Nat × Sl) × List PtT × (Int × Int) × (Int × Int)) (fun y => [(2, .int .i64 lim), (3, bxP b3), (4, bxP b4), (9, bxP b9), (11, bxP b11), (12, .int .i64 om), (13, y.1.2.v), (57, v'.v), (58, .int .i64 ([lim, -lim].length : Nat)), (59, .int .i64 (y.1.1 : Int))])
    (fun y => [Hl.rw v'.v 3 cI 1 [lim, -lim], Hl.rw y.1.2.v 23 cPt 2 y.2.1, Hl.blk b11 34 [.int .i64 y.2.2.2.1, .int .i64 y.2.2.2.2], Hl.blk b9 34 [.int .i64 y.2.2.1.1, .int .i64 y.2.2.1.2], Hl.blk b4 23 [.int .i64 b.1, .int .i64 b.2], Hl.blk b3 23 [.int .i64 a.1, .int .i64 a.2]])
    (fun y => (y.1.1 ≤ 2 ∧ 1 ≤ y.2.1.length ∧ y.2.1.length ≤ 1 + 2 * y.1.1) ∧ (y.2.1.head? = some a ∧ ∀ p ∈ y.2.1, okPt lim p) ∧ (0 ≤ y.2.2.1.1 ∧ y.2.2.1.1 ≤ y.2.2.1.2 ∧ y.2.2.1.2 ≤ 10800000) ∧ 0 ≤ y.2.2.2.1 ∧ y.2.2.2.1 ≤ y.2.2.2.2 ∧ y.2.2.2.2 ≤ 10800000)
    (fun y => 2 - y.1.1) ((0, v1), [a], r, s) ⟨⟨by dsimp only; omega, by simp, by simp⟩, ⟨rfl, fun p hp => by rw [List.mem_singleton.1 hp]; exact ha⟩, hr, hs⟩ ⟨rfl, rfl, rfl, rfl, rfl, rfl, rfl, rfl, rfl, rfl, trivial⟩ (by exact fun w h => h.sub (by repeat (first | exact List.Sublist.refl _ | apply List.Sublist.cons_cons | apply List.Sublist.cons))) ?_
  clear hr hs q2 q3
  rintro ⟨⟨k, x⟩, l, ⟨r1, r2⟩, ⟨s1, s2⟩⟩ mx ⟨⟨i1, i2, i3⟩, ⟨i4, i5⟩, i6, i7⟩ hmx
  (try dsimp only at i1 i2 i3 i4 i5 i6 i7 hmx ⊢)
  rcases Nat.lt_or_ge k 2 with hk | hk
  · have hz : nth [lim, -lim] (k : Int) = lim ∨ nth [lim, -lim] (k : Int) = -lim := by
      rcases (show k = 0 ∨ k = 1 by omega) with rfl | rfl
      · exact Or.inl rfl
      · exact Or.inr rfl
    have q5 := csize_c (n := om) (by omega)
    have q6 := cmid_c (a := r1) (b := r2) (by omega)
    have q7 := cmid_c (a := s1) (b := s2) (by omega)
    have q8 := cturn_c (a := r1) (b := r2) (by omega)
    have q9 := cturn_c (a := s1) (b := s2) (by omega)
    have hm1 : 0 ≤ (r1 + r2) / 2 ∧ (r1 + r2) / 2 ≤ 10800000 := by omega
    have hm2 : 0 ≤ (s1 + s2) / 2 ∧ (s1 + s2) / 2 ≤ 10800000 := by omega
    generalize (r1 + r2) / 2 = m1' at *
    generalize (s1 + s2) / 2 = m2' at *
    have g1 := signed_c (n := a.2 + m1') (by omega)
    have g2 := signed_c (n := a.2 + -m1') (by omega)
    have g3 := signed_c (n := b.2 - m2') (by omega)
    have g4 := signed_c (n := b.2 - -m2') (by omega)
    have e1 := signI_bd (a.2 + m1')
    have e2 := signI_bd (a.2 + -m1')
    have e3 := signI_bd (b.2 - m2')
    have e4 := signI_bd (b.2 - -m2')
    generalize signI (a.2 + m1') = n1 at *
    generalize signI (a.2 + -m1') = n2 at *
    generalize signI (b.2 - m2') = n3 at *
    generalize signI (b.2 - -m2') = n4 at *
    by_cases hom : om < 0
    · repeat' (first
    | (refine nxN ?_)
    | (show RM _ _ _ _ _ _ _ _ _ (.go 15 :: _); refine RM.lit2Pt (a := (nth [lim, -lim] (k : Int), n2)) (b := (nth [lim, -lim] (k : Int), n4)) (fun v' => ?_) rfl (by rfl) (by rfl) (by rfl) (fun _ w hw => hw.sub (by repeat (first | exact List.Sublist.refl _ | apply List.Sublist.cons_cons | apply List.Sublist.cons))))
    | (show RM _ _ _ _ _ _ _ _ _ (.go 16 :: _); refine RM.appendA (f' := cPt) (l := l) (l' := [(nth [lim, -lim] (k : Int), n2), (nth [lim, -lim] (k : Int), n4)]) (fun v' => ?_) rfl (by rfl) (by rfl) (by intro v'; exact updA) (by exact rdA) (fun _ => rfl) (by simp only [List.length_cons, List.length_nil]; omega) (by rfl) (fun _ w hw => hw.sub (by repeat (first | exact List.Sublist.refl _ | apply List.Sublist.cons_cons | apply List.Sublist.cons))))
    | (show RS _ _ _ _ _ _ _ (⟨some _, .buildSlice 26 1 _, _, _, _, _⟩ :: _); refine RS.lit1Pt (a := b) (fun v' => ?_) rfl)
    | (show RS _ _ _ _ _ _ _ (⟨some 107, _, _, _, _, _⟩ :: _); refine RS.callU (compact_c _ ((l ++ [(nth [lim, -lim] (k : Int), n2), (nth [lim, -lim] (k : Int), n4)]) ++ [b]) (by simp only [List.length_append, List.length_cons, List.length_nil]; omega) (by simp only [List.length_append, List.length_cons, List.length_nil]; omega)) ⟨rfl, rfl⟩ ?_; rintro ⟨zv, zl⟩ ⟨hz1, hz2⟩; dsimp only [List.cons_append, List.nil_append])
    | (refine G.mixedM 19 [.go 0, .go 1, .go 2, .go 3, .go 4, .go 5, .go 8, .go 9, .go 10, .go 11, .go 12, .go 6, .go 7, .go 13, .go 14, .go 15, .go 16, .go 17] [true, false, true, true, true, true] ?_; dsimp only [maskH])
    | (show YK _ _ _ _ _ _ _; first | refine YK.mk (y_callA (q5) ⟨rfl, rfl⟩) ?_ | refine YK.mk (y_callA (q6) ⟨rfl, rfl⟩) ?_ | refine YK.mk (y_callA (q7) ⟨rfl, rfl⟩) ?_ | refine YK.mk (y_callA (q8) ⟨rfl, rfl⟩) ?_ | refine YK.mk (y_callA (q9) ⟨rfl, rfl⟩) ?_ | refine YK.mk (y_callA (g1) ⟨rfl, rfl⟩) ?_ | refine YK.mk (y_callA (g2) ⟨rfl, rfl⟩) ?_ | refine YK.mk (y_callA (g3) ⟨rfl, rfl⟩) ?_ | refine YK.mk (y_callA (g4) ⟨rfl, rfl⟩) ?_)
    | (refine nxV ?_)
    | (refine nxRS ?_) | (refine nxRS1 fun _ => ?_)
    | (refine nxRM ?_) | (refine nxRM1 fun _ => ?_)
    | (show YG _ _ _ _ _ _ _ _; refine YG.mk (fun hb => by (try (have hc := And.left hb; have hb := And.right hb; rw [hc])); (try rw [hb]); first | exact (y_callA (q5) ⟨rfl, rfl⟩) | exact (y_callA (q6) ⟨rfl, rfl⟩) | exact (y_callA (q7) ⟨rfl, rfl⟩) | exact (y_callA (q8) ⟨rfl, rfl⟩) | exact (y_callA (q9) ⟨rfl, rfl⟩) | exact (y_callA (g1) ⟨rfl, rfl⟩) | exact (y_callA (g2) ⟨rfl, rfl⟩) | exact (y_callA (g3) ⟨rfl, rfl⟩) | exact (y_callA (g4) ⟨rfl, rfl⟩) | exact V.y vAuto) ?_)
    | (refine nxG ?_)
    | (refine G.mixedA 15 [.go 0, .go 1, .go 2, .go 3, .go 4, .go 5, .go 6, .go 7] ?_)
    | (refine G.mixedA 16 [.go 0, .go 2, .go 1, .go 3, .go 4, .go 5] ?_)
    | (refine G.mixedA 20 [.go 0, .go 2, .go 1, .go 3, .go 4, .go 5] ?_)
    | (refine nxX ?_)
    | (refine G.condN rfl (fun hc => ?_) (fun hc => ?_) <;> (try first | exact False.elim hc | (exfalso; omega))))
      · refine X.retN (vs := [_, _]) (zv, zl) rfl ⟨rfl, rfl, rfl⟩ rfl (plan_of hz1 hz2 ?_ ?_ hb (by simp only [List.length_append, List.length_cons, List.length_nil]; omega)) rfl (NewIn.nw (by exact memA) NewIn.nil)
        · cases l with
          | nil => simp at i2
          | cons _ _ => exact i4
        · intro p hp
          rcases List.mem_append.1 hp with hp | hp
          · exact i5 p hp
          · rcases List.mem_cons.1 hp with rfl | hp
            · exact ⟨⟨by dsimp only; omega, by dsimp only; omega⟩, by dsimp only; omega⟩
            · rw [List.mem_singleton.1 hp]
              exact ⟨⟨by dsimp only; omega, by dsimp only; omega⟩, by dsimp only; omega⟩
      · exact X.again ((k + 1, x), l, (10800000 - r2, 10800000 - r1), (10800000 - s2, 10800000 - s1)) ⟨⟨by dsimp only; omega, by dsimp only; omega, by dsimp only; omega⟩, ⟨i4, i5⟩, by dsimp only; omega, by dsimp only; omega⟩ (by dsimp only; omega) ⟨rfl, rfl, rfl, rfl, rfl, rfl, rfl, rfl, rfl, rfl, trivial⟩ (by exact fun w h => h.sub (by repeat (first | exact List.Sublist.refl _ | apply List.Sublist.cons_cons | apply List.Sublist.cons)))
      · exfalso; simp at hc; omega
    · repeat' (first
    | (refine nxN ?_)
    | (show RM _ _ _ _ _ _ _ _ _ (.go 15 :: _); refine RM.lit2Pt (a := (nth [lim, -lim] (k : Int), n1)) (b := (nth [lim, -lim] (k : Int), n3)) (fun v' => ?_) rfl (by rfl) (by rfl) (by rfl) (fun _ w hw => hw.sub (by repeat (first | exact List.Sublist.refl _ | apply List.Sublist.cons_cons | apply List.Sublist.cons))))
    | (show RM _ _ _ _ _ _ _ _ _ (.go 16 :: _); refine RM.appendA (f' := cPt) (l := l) (l' := [(nth [lim, -lim] (k : Int), n1), (nth [lim, -lim] (k : Int), n3)]) (fun v' => ?_) rfl (by rfl) (by rfl) (by intro v'; exact updA) (by exact rdA) (fun _ => rfl) (by simp only [List.length_cons, List.length_nil]; omega) (by rfl) (fun _ w hw => hw.sub (by repeat (first | exact List.Sublist.refl _ | apply List.Sublist.cons_cons | apply List.Sublist.cons))))
    | (show RS _ _ _ _ _ _ _ (⟨some _, .buildSlice 26 1 _, _, _, _, _⟩ :: _); refine RS.lit1Pt (a := b) (fun v' => ?_) rfl)
    | (show RS _ _ _ _ _ _ _ (⟨some 107, _, _, _, _, _⟩ :: _); refine RS.callU (compact_c _ ((l ++ [(nth [lim, -lim] (k : Int), n1), (nth [lim, -lim] (k : Int), n3)]) ++ [b]) (by simp only [List.length_append, List.length_cons, List.length_nil]; omega) (by simp only [List.length_append, List.length_cons, List.length_nil]; omega)) ⟨rfl, rfl⟩ ?_; rintro ⟨zv, zl⟩ ⟨hz1, hz2⟩; dsimp only [List.cons_append, List.nil_append])
    | (refine G.mixedM 19 [.go 0, .go 1, .go 2, .go 3, .go 4, .go 5, .go 8, .go 9, .go 10, .go 11, .go 12, .go 6, .go 7, .go 13, .go 14, .go 15, .go 16, .go 17] [true, false, true, true, true, true] ?_; dsimp only [maskH])
    | (show YK _ _ _ _ _ _ _; first | refine YK.mk (y_callA (q5) ⟨rfl, rfl⟩) ?_ | refine YK.mk (y_callA (q6) ⟨rfl, rfl⟩) ?_ | refine YK.mk (y_callA (q7) ⟨rfl, rfl⟩) ?_ | refine YK.mk (y_callA (q8) ⟨rfl, rfl⟩) ?_ | refine YK.mk (y_callA (q9) ⟨rfl, rfl⟩) ?_ | refine YK.mk (y_callA (g1) ⟨rfl, rfl⟩) ?_ | refine YK.mk (y_callA (g2) ⟨rfl, rfl⟩) ?_ | refine YK.mk (y_callA (g3) ⟨rfl, rfl⟩) ?_ | refine YK.mk (y_callA (g4) ⟨rfl, rfl⟩) ?_)
    | (refine nxV ?_)
    | (refine nxRS ?_) | (refine nxRS1 fun _ => ?_)
    | (refine nxRM ?_) | (refine nxRM1 fun _ => ?_)
    | (show YG _ _ _ _ _ _ _ _; refine YG.mk (fun hb => by (try (have hc := And.left hb; have hb := And.right hb; rw [hc])); (try rw [hb]); first | exact (y_callA (q5) ⟨rfl, rfl⟩) | exact (y_callA (q6) ⟨rfl, rfl⟩) | exact (y_callA (q7) ⟨rfl, rfl⟩) | exact (y_callA (q8) ⟨rfl, rfl⟩) | exact (y_callA (q9) ⟨rfl, rfl⟩) | exact (y_callA (g1) ⟨rfl, rfl⟩) | exact (y_callA (g2) ⟨rfl, rfl⟩) | exact (y_callA (g3) ⟨rfl, rfl⟩) | exact (y_callA (g4) ⟨rfl, rfl⟩) | exact V.y vAuto) ?_)
    | (refine nxG ?_)
    | (refine G.mixedA 15 [.go 0, .go 1, .go 2, .go 3, .go 4, .go 5, .go 6, .go 7] ?_)
    | (refine G.mixedA 16 [.go 0, .go 2, .go 1, .go 3, .go 4, .go 5] ?_)
    | (refine G.mixedA 20 [.go 0, .go 2, .go 1, .go 3, .go 4, .go 5] ?_)
    | (refine nxX ?_)
    | (refine G.condN rfl (fun hc => ?_) (fun hc => ?_) <;> (try first | exact False.elim hc | (exfalso; omega))))
      · refine X.retN (vs := [_, _]) (zv, zl) rfl ⟨rfl, rfl, rfl⟩ rfl (plan_of hz1 hz2 ?_ ?_ hb (by simp only [List.length_append, List.length_cons, List.length_nil]; omega)) rfl (NewIn.nw (by exact memA) NewIn.nil)
        · cases l with
          | nil => simp at i2
          | cons _ _ => exact i4
        · intro p hp
          rcases List.mem_append.1 hp with hp | hp
          · exact i5 p hp
          · rcases List.mem_cons.1 hp with rfl | hp
            · exact ⟨⟨by dsimp only; omega, by dsimp only; omega⟩, by dsimp only; omega⟩
            · rw [List.mem_singleton.1 hp]
              exact ⟨⟨by dsimp only; omega, by dsimp only; omega⟩, by dsimp only; omega⟩
      · exact X.again ((k + 1, x), l, (10800000 - r2, 10800000 - r1), (10800000 - s2, 10800000 - s1)) ⟨⟨by dsimp only; omega, by dsimp only; omega, by dsimp only; omega⟩, ⟨i4, i5⟩, by dsimp only; omega, by dsimp only; omega⟩ (by dsimp only; omega) ⟨rfl, rfl, rfl, rfl, rfl, rfl, rfl, rfl, rfl, rfl, trivial⟩ (by exact fun w h => h.sub (by repeat (first | exact List.Sublist.refl _ | apply List.Sublist.cons_cons | apply List.Sublist.cons)))
      · exfalso; simp at hc; omega
  · have hll : (([lim, -lim].length : Nat) : Int) = 2 := rfl
    repeat' (first
    | (refine nxN ?_)
    | (show RS _ _ _ _ _ _ _ (⟨some _, .buildSlice 26 1 _, _, _, _, _⟩ :: _); refine RS.lit1Pt (a := b) (fun v' => ?_) rfl)
    | (show RS _ _ _ _ _ _ _ (⟨some 107, _, _, _, _, _⟩ :: _); refine RS.callU (compact_c _ (l ++ [b]) (by simp only [List.length_append, List.length_cons, List.length_nil]; omega) (by simp only [List.length_append, List.length_cons, List.length_nil]; omega)) ⟨rfl, rfl⟩ ?_; rintro ⟨zv, zl⟩ ⟨hz1, hz2⟩; dsimp only [List.cons_append, List.nil_append])
    | (refine nxV ?_)
    | (refine nxRS ?_) | (refine nxRS1 fun _ => ?_)
    | (refine nxRM ?_) | (refine nxRM1 fun _ => ?_)
    | (refine nxG ?_)
    | (refine G.mixedA 15 [.go 0, .go 1, .go 2, .go 3, .go 4, .go 5, .go 6, .go 7] ?_)
    | (refine G.mixedA 16 [.go 0, .go 2, .go 1, .go 3, .go 4, .go 5] ?_)
    | (refine G.mixedA 19 [.go 0, .go 1, .go 2, .go 3, .go 4, .go 5, .go 8, .go 9, .go 10, .go 11, .go 12, .go 6, .go 7, .go 13, .go 14, .go 15, .go 16, .go 17] ?_)
    | (refine G.mixedA 20 [.go 0, .go 2, .go 1, .go 3, .go 4, .go 5] ?_)
    | (refine nxX ?_)
    | (refine G.condN rfl (fun hc => ?_) (fun hc => ?_) <;> (try first | exact False.elim hc | (exfalso; omega))))
    all_goals first
      | (exfalso; simp at hc; omega)
      | exact X.retN (vs := [_, _]) (zv, zl) rfl ⟨rfl, rfl, rfl⟩ rfl (plan_of hz1 hz2 i4 i5 hb (by omega)) rfl (NewIn.nw (by exact memA) NewIn.nil)
end Go.Proofs.YtjmdeplmenbmmaaGreatDoor
