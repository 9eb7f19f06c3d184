/- catalogue.Brightest. -/
import Derived.Test.YtaglecidaedjfaaDoorCat
import Derived.Test.YtaglecidaedjfaaDoorStab4
set_option linter.unusedVariables false
set_option maxHeartbeats 4000000
namespace Go.Proofs.YtaglecidaedjfaaDoor
open Go.RowKit

theorem isNaN_c (a : Int) : Cont Tryd.prog 67 [.int .i64 a] (.bool false) := fun w => by
  refine enter0 Tryd.func67 rfl rfl rfl ?_
  repeat' (first
    | (refine nxV ?_)
    | (show RS _ _ _ _ _ _ _ _; first | (refine nxRS ?_) | (refine nxRS1 fun _ => ?_))
    | (show RM _ _ _ _ _ _ _ _ _ _; first | (refine nxRM ?_) | (refine nxRM1 fun _ => ?_))
    | (refine nxG ?_)
    | (refine nxX ?_)
    | (refine G.condN rfl (fun hc => ?_) (fun hc => ?_) <;> (try first | exact False.elim hc | (exfalso; omega))))
  exact X.ret (vs := [_]) rfl ⟨rfl, rfl⟩ rfl (fun w hw => ⟨ret_bool (by simp), hw.ext⟩)
theorem compare_c (a b : Int) : Cont Tryd.prog 37 [.int .i64 a, .int .i64 b] (.int .i64 (cmpI a b)) := fun w => by
  refine enter0 Tryd.func37 rfl rfl rfl ?_
  repeat' (first
    | (show YK _ _ _ _ _ _ _; first | refine YK.mk (y_callA (isNaN_c _) ⟨rfl, rfl⟩) ?_)
    | (show YK _ _ _ _ _ _ _; refine YK.ofV vAuto ?_)
    | (show VK _ _ _ _ _ _ _; refine VK.mk vAuto ?_)
    | (show RS _ _ _ _ _ _ _ _; first | (refine nxRS ?_) | (refine nxRS1 fun _ => ?_))
    | (show RM _ _ _ _ _ _ _ _ _ _; first | (refine nxRM ?_) | (refine nxRM1 fun _ => ?_))
    | (show YG _ _ _ _ _ _ _ _; refine YG.mk (fun hb => by (try (have hc := And.left hb; have hb := And.right hb; rw [hc])); (try rw [hb]); first | exact (y_callA (isNaN_c _) ⟨rfl, rfl⟩) | exact V.y vAuto) ?_)
    | (show VG _ _ _ _ _ _ _ _; refine VG.mk (fun hb => by (try (have hc := And.left hb; have hb := And.right hb; rw [hc])); (try rw [hb]); exact vAuto) ?_)
    | (refine nxX ?_)
    | (refine G.condN rfl (fun hc => ?_) (fun hc => ?_) <;> (try first | exact False.elim hc | (exfalso; omega))))
  all_goals refine X.ret (vs := [_]) rfl ⟨rfl, rfl⟩ rfl (fun w hw => ⟨ret_int ?_, hw.ext⟩)
  all_goals (unfold cmpI; (repeat' split) <;> first | rfl | omega)
def magS (l : List StarT) (i : Int) : Int := (nth l i).2.2.2
abbrev briC (B : Nat) (v : Value) (l : List StarT) (w : World) : Prop := RO w (boxS B) 1 1 [v] ∧ RO w v 4 l.length (l.flatMap cSt)
theorem bri1_c (B : Nat) (v : Value) (l : List StarT) {x y : Int} (hx : 0 ≤ x ∧ x < l.length) (hy : 0 ≤ y ∧ y < l.length) : ContIn Tryd.prog (briC B v l) 36 ([.int .i64 x, .int .i64 y] ++ ([.pointer (some ⟨B, 0, none⟩)] : List Value).toArray.toList) (.int .i64 (cmpI (magS l x) (magS l y))) := fun w hw0 => by
  have q1 := compare_c (magS l x) (magS l y)
  unfold magS at q1 ⊢
  refine enter Tryd.func36 rfl rfl rfl (Hp := [Hl.rd (boxS B) c1S 1 [v], Hl.rd v cSt 4 l]) (fun h hm => by
    rcases List.mem_cons.1 hm with rfl | hm
    · exact ⟨⟨hw0.1, fun h => by cases h⟩, rfl⟩
    rcases List.mem_singleton.1 hm with rfl
    exact ⟨⟨hw0.2, fun h => by cases h⟩, rfl⟩) ?_
  repeat' (first
    | (show VK _ _ _ _ _ ⟨_, .load 22 _, _, _, _, _⟩ _; refine VK.mk (y_loadEl (inst := ⟨v⟩) (u := v) (v := boxS B) (s := 1) (m := 0) (i := 0) (f := c1S) (l := [v]) (by rfl) (by exact rdA) (fun _ => rfl) (boxS_m v) (by rfl) (by rfl) (by decide +kernel)) ?_)
    | (show YK _ _ _ _ _ _ _; first | refine YK.mk (y_callA (q1) ⟨rfl, rfl, rfl⟩) ?_)
    | (show YK _ _ _ _ _ _ _; refine YK.ofV vAuto ?_)
    | (show VK _ _ _ _ _ _ _; refine VK.mk vAuto ?_)
    | (show RS _ _ _ _ _ _ _ _; first | (refine nxRS ?_) | (refine nxRS1 fun _ => ?_))
    | (show RM _ _ _ _ _ _ _ _ _ _; first | (refine nxRM ?_) | (refine nxRM1 fun _ => ?_))
    | (show YG _ _ _ _ _ _ _ _; refine YG.mk (fun hb => by (try (have hc := And.left hb; have hb := And.right hb; rw [hc])); (try rw [hb]); first | exact (y_callA (q1) ⟨rfl, rfl, rfl⟩) | exact V.y vAuto) ?_)
    | (show VG _ _ _ _ _ _ _ _; refine VG.mk (fun hb => by (try (have hc := And.left hb; have hb := And.right hb; rw [hc])); (try rw [hb]); exact vAuto) ?_)
    | (refine nxVS ?_)
    | (refine nxGS ?_)
    | (refine G.mixedA 1 [.go 0, .go 1, .go 2, .go 3, .go 4, .go 5, .go 6, .go 7, .go 8, .go 9, .go 10, .go 11] ?_)
    | (refine nxX ?_)
    | (refine G.condN rfl (fun hc => ?_) (fun hc => ?_) <;> (try first | exact False.elim hc | (exfalso; omega))))
  exact X.ret (vs := [_]) rfl ⟨rfl, rfl⟩ rfl (fun w hw => ⟨rfl, hw.ext⟩)
def seqL (k : Nat) : List Int := (List.range k).map fun i : Nat => (i : Int)
theorem seqL_succ (k : Nat) : seqL (k + 1) = seqL k ++ [(k : Int)] := by unfold seqL; rw [List.range_succ, List.map_append]; rfl
theorem seqL_len (k : Nat) : (seqL k).length = k := by unfold seqL; simp
theorem seqL_get {k i : Nat} (h : i < k) : gt0 (seqL k) i = i := by
  show (seqL k).getD i 0 = i
  unfold seqL
  rw [List.getD_eq_getElem?_getD, List.getElem?_map, List.getElem?_range h]; rfl
theorem seqL_asc (k : Nat) : ascL (seqL k) 0 k := fun p q h1 h2 h3 => by rw [seqL_get (by omega), seqL_get h3]; omega
theorem seqL_in (k : Nat) : inN (k : Int) (seqL k) := fun x hx => by
  unfold seqL at hx
  obtain ⟨i, hi, rfl⟩ := List.mem_map.1 hx
  have := List.mem_range.1 hi
  omega
theorem sliced0' (A : Option Addr) (h m s : Nat) : sliced A 0 h m s = .slice A h m := by
  have e : ∀ a : Addr, a.add 0 = a := fun a => by unfold Addr.add; split <;> simp_all
  cases A <;> simp [sliced, e]
theorem cut_v (x : Sl) (s k : Nat) : cutV x.v s 0 k = (Sl.mk x.a k x.c).v := sliced0' ..
theorem NewIn.rwCut {α : Type} {H Hn : List Hl} {x : Sl} {e : TypeId} {f : α → List Value} {s : Nat} {l : List α} {k : Nat} (h : Hl.rw x.v e f s l ∈ H) (hf : ∀ a, (f a).length = s) (hk : k ≤ l.length) (hr : NewIn H Hn) : NewIn H (Hl.nw (Sl.mk x.a k x.c).v f s (l.take k) :: Hn) := by
  refine ⟨fun w0 w hw => ⟨⟨?_, fun _ _ b hb => ?_⟩, rfl⟩, hr⟩
  · have := (RdT.rw h).cut (i := 0) (j := k) hf (Nat.zero_le _) hk w0 w hw
    rw [cut_v, List.drop_zero, Nat.sub_zero] at this
    exact this
  · have hb2 : x.v.ownBlock = some b := by
      rw [← hb]
      obtain ⟨a, n, c⟩ := x
      cases a <;> rfl
    exact ((hw.all _ h : World.ownsRow _ _ _ _ _ _ _).lt b hb2).1
theorem bright_no {A0 : Option Addr} {n0 c0 : Nat} {l : List StarT} {n e : Int} {b : Bool} (pv : ContR Tryd.prog [Hl.rd (.slice A0 n0 c0) cSt 4 l] 9 [.slice A0 n0 c0] (.bool b)) (hb : b = false ∧ e = 1 ∨ b = true ∧ e = 2 ∧ (n < 0 ∨ 100 < n)) :
    ContR Tryd.prog [Hl.rd (.slice A0 n0 c0) cSt 4 l] 10 [.slice A0 n0 c0, .int .i64 n] (.tuple [.slice none 0 0, .int .i64 e].toArray) := fun w hw0 => by
  rcases hb with ⟨rfl, rfl⟩ | ⟨rfl, rfl, hb⟩
  · refine enter Tryd.func10 rfl rfl rfl hw0 ?_
    repeat' (first
    | (show YK _ _ _ _ _ _ _; first | refine YK.mk (y_callRA (pv) ⟨rfl, rfl⟩) ?_)
    | (show YK _ _ _ _ _ _ _; refine YK.ofV vAuto ?_)
    | (show VK _ _ _ _ _ _ _; refine VK.mk vAuto ?_)
    | (show RS _ _ _ _ _ _ _ _; first | (refine nxRS ?_) | (refine nxRS1 fun _ => ?_))
    | (show RM _ _ _ _ _ _ _ _ _ _; first | (refine nxRM ?_) | (refine nxRM1 fun _ => ?_))
    | (show YG _ _ _ _ _ _ _ _; refine YG.mk (fun hb => by (try (have hc := And.left hb; have hb := And.right hb; rw [hc])); (try rw [hb]); first | exact (y_callRA (pv) ⟨rfl, rfl⟩) | exact V.y vAuto) ?_)
    | (show VG _ _ _ _ _ _ _ _; refine VG.mk (fun hb => by (try (have hc := And.left hb; have hb := And.right hb; rw [hc])); (try rw [hb]); exact vAuto) ?_)
    | (refine nxX ?_)
    | (refine G.condN rfl (fun hc => ?_) (fun hc => ?_) <;> (try first | exact False.elim hc | (exfalso; omega))))
    exact X.ret (vs := [_, _]) rfl ⟨rfl, rfl, rfl⟩ rfl (fun w hw => ⟨rfl, hw.ext⟩)
  · refine enter Tryd.func10 rfl rfl rfl hw0 ?_
    repeat' (first
    | (show YK _ _ _ _ _ _ _; first | refine YK.mk (y_callRA (pv) ⟨rfl, rfl⟩) ?_)
    | (show YK _ _ _ _ _ _ _; refine YK.ofV vAuto ?_)
    | (show VK _ _ _ _ _ _ _; refine VK.mk vAuto ?_)
    | (show RS _ _ _ _ _ _ _ _; first | (refine nxRS ?_) | (refine nxRS1 fun _ => ?_))
    | (show RM _ _ _ _ _ _ _ _ _ _; first | (refine nxRM ?_) | (refine nxRM1 fun _ => ?_))
    | (show YG _ _ _ _ _ _ _ _; refine YG.mk (fun hb => by (try (have hc := And.left hb; have hb := And.right hb; rw [hc])); (try rw [hb]); first | exact (y_callRA (pv) ⟨rfl, rfl⟩) | exact V.y vAuto) ?_)
    | (show VG _ _ _ _ _ _ _ _; refine VG.mk (fun hb => by (try (have hc := And.left hb; have hb := And.right hb; rw [hc])); (try rw [hb]); exact vAuto) ?_)
    | (refine nxX ?_)
    | (refine G.condN rfl (fun hc => ?_) (fun hc => ?_) <;> (try first | exact False.elim hc | (exfalso; omega))))
    exact X.ret (vs := [_, _]) rfl ⟨rfl, rfl, rfl⟩ rfl (fun w hw => ⟨rfl, hw.ext⟩)
theorem bright_c {A0 : Option Addr} {n0 c0 : Nat} {l : List StarT} {n : Int} (hv : validS l = true) (h40 : l.length < 40) (pv : ContR Tryd.prog [Hl.rd (.slice A0 n0 c0) cSt 4 l] 9 [.slice A0 n0 c0] (.bool true)) (h : 0 ≤ n ∧ n ≤ 100) :
    ContX Tryd.prog [Hl.rd (.slice A0 n0 c0) cSt 4 l] 10 [.slice A0 n0 c0, .int .i64 n] (fun z : Sl × List Int => DoneS (magS l) (seqL l.length) z.2 0 l.length) (fun z => lstV z.1 0) (fun z => [Hl.nw z.1.v cI 1 (z.2.take (min n l.length).toNat)]) := fun w hw0 => by
  refine enter Tryd.func10 rfl rfl rfl hw0 ?_
  repeat' (first
    | (show YK _ _ _ _ _ _ _; first | refine YK.mk (y_callRA (pv) ⟨rfl, rfl⟩) ?_)
    | (show YK _ _ _ _ _ _ _; refine YK.ofV vAuto ?_)
    | (show VK _ _ _ _ _ _ _; refine VK.mk vAuto ?_)
    | (show RS _ _ _ _ _ _ _ _; first | (refine nxRS ?_) | (refine nxRS1 fun _ => ?_))
    | (show RM _ _ _ _ _ _ _ _ _ _; first | (refine nxRM ?_) | (refine nxRM1 fun _ => ?_))
    | (show YG _ _ _ _ _ _ _ _; refine YG.mk (fun hb => by (try (have hc := And.left hb; have hb := And.right hb; rw [hc])); (try rw [hb]); first | exact (y_callRA (pv) ⟨rfl, rfl⟩) | exact V.y vAuto) ?_)
    | (show VG _ _ _ _ _ _ _ _; refine VG.mk (fun hb => by (try (have hc := And.left hb; have hb := And.right hb; rw [hc])); (try rw [hb]); exact vAuto) ?_)
    | (refine nxX ?_)
    | (refine G.condN rfl (fun hc => ?_) (fun hc => ?_) <;> (try first | exact False.elim hc | (exfalso; omega))))
  rename_i b2 _
  refine G.loop (ι := Nat × Sl) (fun x => [(1, .int .i64 n), (2, .pointer (some ⟨b2, 0, none⟩)), (6, x.2.v), (20, .int .i64 l.length), (21, .int .i64 (x.1 : Int))]) (fun x => [Hl.rw x.2.v 3 cI 1 (seqL x.1), Hl.blk b2 22 [.slice A0 n0 c0], Hl.rd (.slice A0 n0 c0) cSt 4 l]) (fun x => x.1 ≤ l.length) (fun x => l.length - x.1) (0, ⟨none, 0, 0⟩) (Nat.zero_le _) ⟨rfl, rfl, rfl, rfl, rfl, trivial⟩ (fun w h => by have h2 := St.nilRow 3 cI 1 h; exact h2) ?_
  rintro ⟨i, x⟩ mx g1 hmx
  dsimp only at g1 hmx ⊢
  have hsl := seqL_len i
  rcases Nat.lt_or_ge i l.length with hi | hi
  · have hs := seqL_succ i
    repeat' (first
    | (refine nxV ?_)
    | (show RS _ _ _ _ _ _ _ _; first | (refine nxRS ?_) | (refine nxRS1 fun _ => ?_))
    | (show RM _ _ _ _ _ _ _ _ _ _; first | (refine nxRM ?_) | (refine nxRM1 fun _ => ?_))
    | (refine nxG ?_)
    | (refine nxX ?_)
    | (refine G.condN rfl (fun hc => ?_) (fun hc => ?_) <;> (try first | exact False.elim hc | (exfalso; omega))))
    rename_i y z
    refine X.again (i + 1, z) (by dsimp only; omega) (by dsimp only; omega) ⟨rfl, rfl, rfl, rfl, rfl, trivial⟩ (fun w h => ?_)
    dsimp only
    rw [hs]
    exact h.sub (by repeat (first | exact List.Sublist.refl _ | apply List.Sublist.cons_cons | apply List.Sublist.cons))
  · obtain rfl : i = l.length := by omega
    have K : CmpOk (briC b2 (.slice A0 n0 c0) l) 36 [.pointer (some ⟨b2, 0, none⟩)] (magS l) (l.length : Int) := ⟨by decide +kernel, fun x y h1 h2 h3 h4 => bri1_c b2 (.slice A0 n0 c0) l ⟨h1, h2⟩ ⟨h3, h4⟩⟩
    have qs := sortStable_c K x (seqL l.length) (seqL_in _) (by omega) (by rw [hsl]; exact seqL_asc _)
    rw [hsl] at qs
    repeat' (first
    | (refine RS.callC qs ⟨rfl, rfl, rfl⟩ ?_ ?_; exact fun w hw => ⟨boxS_of hw (List.Mem.head _), (hw.all _ (List.Mem.tail _ (List.Mem.head _))).1⟩; rintro z hz; dsimp only [List.cons_append, List.nil_append]; have hzl := hz.len)
    | (refine nxV ?_)
    | (show RS _ _ _ _ _ _ _ _; first | (refine nxRS ?_) | (refine nxRS1 fun _ => ?_))
    | (show RM _ _ _ _ _ _ _ _ _ _; first | (refine nxRM ?_) | (refine nxRM1 fun _ => ?_))
    | (refine nxG ?_)
    | (refine nxX ?_)
    | (refine G.condN rfl (fun hc => ?_) (fun hc => ?_) <;> (try first | exact False.elim hc | (exfalso; omega))))
    rw [hsl] at hzl
    refine X.retN (vs := [(Sl.mk x.a (min n (l.length : Int)).toNat x.c).v, .int .i64 0]) (Sl.mk x.a (min n (l.length : Int)).toNat x.c, z) rfl ⟨?_, rfl, rfl⟩ rfl hz rfl (NewIn.rwCut (by exact memA) (fun _ => rfl) (by show (min n (l.length : Int)).toNat ≤ z.length; omega) NewIn.nil)
    show some (cutV x.v 1 0 (min n (z.length : Int)).toNat) = some _
    rw [hzl]
    exact congrArg some (cut_v x 1 _)
end Go.Proofs.YtaglecidaedjfaaDoor
