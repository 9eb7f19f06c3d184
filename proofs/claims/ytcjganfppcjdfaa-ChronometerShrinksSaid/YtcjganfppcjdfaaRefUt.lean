/- The reference's UT. -/
import Derived.Test.YtcjganfppcjdfaaRefCh
import Derived.Test.YtcjganfppcjdfaaUt
set_option linter.unusedVariables false
set_option maxHeartbeats 4000000
namespace Go.Proofs.Ytcjganfppcjdfaa
open Go.RowKit

theorem pair_all {R : Hl → Hl → Prop} (hs : ∀ a b, R a b → R b a) {y : Hl} (hy : R y y) : ∀ {H : List Hl}, H.Pairwise R → y ∈ H → ∀ z ∈ H, R y z
  | [], _, h, _, _ => by cases h
  | x :: r, hp, hm, z, hz => by
    rw [List.pairwise_cons] at hp
    rcases List.mem_cons.1 hm with e | hm2
    · subst e
      rcases List.mem_cons.1 hz with rfl | hz2
      · exact hy
      · exact hp.1 z hz2
    · rcases List.mem_cons.1 hz with e | hz2
      · subst e
        exact hs _ _ (hp.1 y hm2)
      · exact pair_all hs hy hp.2 hm2 z hz2
/-- What is only read may stand twice. -/
theorem St.dup {w0 w : World} {H : List Hl} {α : Type} {f : α → List Value} {s : Nat} {l : List α} {v : Value} (h : St w0 H w) (hm : Hl.nw v f s l ∈ H) : St w0 (Hl.nw v f s l :: H) w := by
  refine ⟨h.ext, fun x hx => ?_, fun z hz b hb hzb => ?_, h.apart⟩
  · rcases List.mem_cons.1 hx with rfl | hx
    · exact h.all _ hm
    · exact h.all x hx
  · exact pair_all (R := fun h h' => ∀ b, h.spot = some b → h'.spot = some b → h.excl = false ∧ h'.excl = false) (fun a b hab c h1 h2 => (hab c h2 h1).symm) (fun _ _ _ => ⟨rfl, rfl⟩) ((allApart_iff H).1 h.apart) hm z hz b hb hzb
theorem distC {face : Int} {c : Chk} (h : (-9223372036854775808 ≤ face - c.face ∧ face - c.face ≤ 9223372036854775807) ∧ -9223372036854775808 ≤ c.face - face ∧ c.face - face ≤ 9223372036854775807) : Cont Try.prog 55 [.int .i64 face, .int .i64 c.face] (.int .i64 (dC face c)) := distance_c h
/-- The least and the greatest error that a comparison allows, over the scale. -/
def aC (n d face : Int) (c : Chk) : Int := (c.face - c.ut - c.within) * (d * 86400000) + -(n * dC face c)
def bC (n d face : Int) (c : Chk) : Int := (c.face - c.ut + c.within) * (d * 86400000) + n * dC face c
def run1 (p : Int → Int → Int) (a : Nat → Int) : Nat → Int
  | 0 => 0
  | 1 => a 0
  | k + 2 => p (run1 p a (k + 1)) (a (k + 1))
def loR (l : List Chk) (n d face : Int) (k : Nat) : Int := run1 max (fun i => aC n d face (nth l i)) k
def hiR (l : List Chk) (n d face : Int) (k : Nat) : Int := run1 min (fun i => bC n d face (nth l i)) k
theorem prod_bd {x y X Y : Int} (h1 : -X ≤ x ∧ x ≤ X) (h2 : 0 ≤ y ∧ y ≤ Y) : -(X * Y) ≤ x * y ∧ x * y ≤ X * Y := by
  have hX : 0 ≤ X := by omega
  have e1 : x * y ≤ X * y := Int.mul_le_mul_of_nonneg_right h1.2 h2.1
  have e2 : -X * y ≤ x * y := Int.mul_le_mul_of_nonneg_right h1.1 h2.1
  have e3 : X * y ≤ X * Y := Int.mul_le_mul_of_nonneg_left h2.2 hX
  rw [Int.neg_mul] at e2
  omega
theorem sz0 : Sz 0 := Sz.small (by decide)
theorem run1_take {p : Int → Int → Int} {a : Nat → Int} {i : Nat} (h : i = 0 ∨ p (run1 p a i) (a i) = a i) : run1 p a (i + 1) = a i := by
  cases i with
  | zero => rfl
  | succ k => exact h.resolve_left (by omega)
theorem run1_keep {p : Int → Int → Int} {a : Nat → Int} {i : Nat} (h0 : i ≠ 0) (h : p (run1 p a i) (a i) = run1 p a i) : run1 p a (i + 1) = run1 p a i := by
  cases i with
  | zero => exact absurd rfl h0
  | succ k => exact h
theorem bounds_c (v : Value) (l : List Chk) {n d face : Int} (hv : validC l = true) (hnd : (0 ≤ n ∧ n ≤ 1073741824) ∧ 1 ≤ d ∧ d ≤ 1073741824) (hfb : -70368744177664 ≤ face ∧ face ≤ 70368744177664) : ContX Try.prog [Hl.rd v cC 3 l] 36 [v, .int .i64 face, fracV n d] (fun _ : Sl × Sl => Sz (loR l n d face l.length) ∧ Sz (hiR l n d face l.length))
    (fun x => .tuple [numV x.1 (nb (loR l n d face l.length)), numV x.2 (nb (hiR l n d face l.length))].toArray) (fun x => [Hl.nw x.1.v cI 1 (D (loR l n d face l.length).natAbs), Hl.nw x.2.v cI 1 (D (hiR l n d face l.length).natAbs)]) := fun w hw0 => by
  have hlen := (validC_iff.1 hv).1
  have s0 : Sz (d * 86400000) := Sz.small (by omega)
  refine enter Try.func36 rfl rfl rfl hw0 ?_
  repeat' (first
    | (refine nxV ?_)
    | (show RS _ _ _ _ _ _ _ _; first | (refine RS.callP scale_c ⟨rfl, rfl⟩ ?_; rintro sd _) | (refine RS.callXG scale_c ⟨rfl, rfl⟩ ?_; rintro sd _) | (refine nxRS ?_) | (refine nxRS1 fun _ => ?_))
    | (show RM _ _ _ _ _ _ _ _ _ _; first | (refine RM.callP scale_c ?_; rintro sd _) | (refine RM.callXG scale_c ?_; rintro sd _) | (refine nxRM ?_) | (refine nxRM1 fun _ => ?_))
    | (refine nxG ?_)
    | (refine G.mixedA 6 [.go 0, .go 1, .go 2, .go 3, .go 4, .go 5, .go 6, .go 7, .go 8, .go 9, .go 10, .go 11] ?_)
    | (refine G.mixedA 7 [.go 0, .go 1, .go 2, .go 3, .go 4, .go 5, .go 6, .pend 9, .go 7, .go 8, .done, .go 10] ?_)
    | (refine G.mixedA 8 [.go 0, .go 1, .go 2, .go 3, .go 4, .go 5, .go 6, .go 8, .go 10, .pend 13, .go 7, .go 9, .go 11, .go 12, .done, .go 14] ?_)
    | (refine G.mixedA 9 [.go 0, .go 1, .go 2, .go 3, .go 4, .go 5, .go 6, .go 8, .go 10, .pend 12, .go 7, .go 9, .go 11, .done, .go 13] ?_)
    | (refine G.mixedA 14 [.go 0, .go 1, .go 2, .go 3] ?_)
    | (refine nxX ?_)
    | (refine G.condN rfl (fun hc => ?_) (fun hc => ?_) <;> (try first | exact False.elim hc | (exfalso; omega))))
  rename_i b5 b6 b7 _ b8 b9 b10
  refine G.loop (ι := Nat × Sl × Sl) (fun x => [(0, v), (1, .int .i64 face), (5, .pointer (some ⟨b5, 0, none⟩)), (6, .pointer (some ⟨b6, 0, none⟩)), (7, .pointer (some ⟨b7, 0, none⟩)), (8, .pointer (some ⟨b8, 0, none⟩)), (9, .pointer (some ⟨b9, 0, none⟩)), (10, .pointer (some ⟨b10, 0, none⟩)), (11, .int .i64 (x.1 : Int))]) (fun x => [Hl.nw x.2.1.v cI 1 (D (loR l n d face x.1).natAbs), Hl.nw x.2.2.v cI 1 (D (hiR l n d face x.1).natAbs), Hl.blk b10 74 [x.2.2.v, .bool (nb (hiR l n d face x.1))], Hl.blk b9 74 [x.2.1.v, .bool (nb (loR l n d face x.1))], Hl.blk b8 74 [sd.v, .bool (nb (d * 86400000))], Hl.nw sd.v cI 1 (D (d * 86400000).natAbs), Hl.blk b7 74 [.slice none 0 0, .bool false], Hl.blk b6 74 [.slice none 0 0, .bool false], Hl.blk b5 26 [.int .i64 n, .int .i64 d], Hl.rd v cC 3 l])
    (fun x => x.1 ≤ l.length ∧ Sz (loR l n d face x.1) ∧ Sz (hiR l n d face x.1)) (fun x => l.length - x.1) (0, ⟨none, 0, 0⟩, ⟨none, 0, 0⟩) ⟨by simp, sz0, sz0⟩ ⟨rfl, rfl, rfl, rfl, rfl, rfl, rfl, rfl, rfl, trivial⟩ (fun w h => ((h.nilNew cI 1).nilNew cI 1).sub (by repeat (first | exact List.Sublist.refl _ | apply List.Sublist.cons_cons | apply List.Sublist.cons))) ?_
  rintro ⟨i, sl, sh⟩ mx ⟨g1, g2, g3⟩ hmx
  dsimp only at g1 g2 g3 hmx ⊢
  rcases Nat.lt_or_ge i l.length with hi | hi
  · have bi := valid_at hv (i := i) (by omega) (by omega)
    have di := dC_bd hfb bi.1
    have hnt := Int.mul_nonneg hnd.1.1 di.1
    have hnt2 := mul_le_big hnd.1.1 hnd.1.2 di.1 di.2
    have p1 := prod_bd (x := (nth l i).face - (nth l i).ut - (nth l i).within) (y := d * 86400000) (X := 1125899906842624) (Y := 92771293593600000) (by omega) (by omega)
    have p2 := prod_bd (x := (nth l i).face - (nth l i).ut + (nth l i).within) (y := d * 86400000) (X := 1125899906842624) (Y := 92771293593600000) (by omega) (by omega)
    have t1 : Sz ((nth l i).face - (nth l i).ut - (nth l i).within) := Sz.small (by omega)
    have t2 : Sz ((nth l i).face - (nth l i).ut + (nth l i).within) := Sz.small (by omega)
    have t3 : Sz (((nth l i).face - (nth l i).ut - (nth l i).within) * (d * 86400000)) := Sz.small (by omega)
    have t4 : Sz (((nth l i).face - (nth l i).ut + (nth l i).within) * (d * 86400000)) := Sz.small (by omega)
    have t5 : Sz (n * dC face (nth l i)) := Sz.small (by omega)
    have t6 : Sz (-(n * dC face (nth l i))) := t5.neg
    have t7 : Sz (((nth l i).face - (nth l i).ut - (nth l i).within) * (d * 86400000) + -(n * dC face (nth l i))) := Sz.small (by omega)
    have t8 : Sz (((nth l i).face - (nth l i).ut + (nth l i).within) * (d * 86400000) + n * dC face (nth l i)) := Sz.small (by omega)
    repeat' (first
    | (show YK _ _ _ _ _ _ _; first | refine YK.mk (y_callRA (minus_c) ⟨rfl, rfl⟩) ?_ | refine YK.mk (y_callP distC ⟨rfl, rfl, rfl⟩) ?_ | refine YK.mk (y_callRP compare_c ⟨rfl, rfl, rfl⟩) ?_)
    | (show YK _ _ _ _ _ _ _; refine YK.ofV vAuto ?_)
    | (show VK _ _ _ _ _ _ _; refine VK.mk vAuto ?_)
    | (show RS _ _ _ _ _ _ _ _; first | (refine RS.callP plus_c ⟨rfl, rfl, rfl⟩ ?_; rintro s _) | (refine RS.callXG plus_c ⟨rfl, rfl, rfl⟩ ?_; rintro s _) | (refine RS.callP mul_c ⟨rfl, rfl, rfl⟩ ?_; rintro s _) | (refine RS.callXG mul_c ⟨rfl, rfl, rfl⟩ ?_; rintro s _) | (refine RS.callP spread_c ⟨rfl, rfl, rfl⟩ ?_; rintro s _) | (refine RS.callXG spread_c ⟨rfl, rfl, rfl⟩ ?_; rintro s _) | (refine RS.callP num_c ⟨rfl, rfl⟩ ?_; rintro s _) | (refine RS.callXG num_c ⟨rfl, rfl⟩ ?_; rintro s _) | (refine nxRS ?_) | (refine nxRS1 fun _ => ?_))
    | (show RM _ _ _ _ _ _ _ _ _ _; first | (refine RM.callP plus_c ?_; rintro s _) | (refine RM.callXG plus_c ?_; rintro s _) | (refine RM.callP mul_c ?_; rintro s _) | (refine RM.callXG mul_c ?_; rintro s _) | (refine RM.callP spread_c ?_; rintro s _) | (refine RM.callXG spread_c ?_; rintro s _) | (refine RM.callP num_c ?_; rintro s _) | (refine RM.callXG num_c ?_; rintro s _) | (refine nxRM ?_) | (refine nxRM1 fun _ => ?_))
    | (show YG _ _ _ _ _ _ _ _; refine YG.mk (fun hb => by (try (have hc := And.left hb; have hb := And.right hb; rw [hc])); (try rw [hb]); first | exact (y_callRA (minus_c) ⟨rfl, rfl⟩) | exact (y_callP distC ⟨rfl, rfl, rfl⟩) | exact (y_callRP compare_c ⟨rfl, rfl, rfl⟩) | exact V.y vAuto) ?_)
    | (show VG _ _ _ _ _ _ _ _; refine VG.mk (fun hb => by (try (have hc := And.left hb; have hb := And.right hb; rw [hc])); (try rw [hb]); exact vAuto) ?_)
    | (refine G.mixedA 6 [.go 0, .go 1, .go 2, .go 3, .go 4, .go 5, .go 6, .go 7, .go 8, .go 9, .go 10, .go 11] ?_)
    | (refine G.mixedA 7 [.go 0, .go 1, .go 2, .go 3, .go 4, .go 5, .go 6, .pend 9, .go 7, .go 8, .done, .go 10] ?_)
    | (refine G.mixedA 8 [.go 0, .go 1, .go 2, .go 3, .go 4, .go 5, .go 6, .go 8, .go 10, .pend 13, .go 7, .go 9, .go 11, .go 12, .done, .go 14] ?_)
    | (refine G.mixedA 9 [.go 0, .go 1, .go 2, .go 3, .go 4, .go 5, .go 6, .go 8, .go 10, .pend 12, .go 7, .go 9, .go 11, .done, .go 13] ?_)
    | (refine G.mixedA 14 [.go 0, .go 1, .go 2, .go 3] ?_)
    | (refine nxX ?_)
    | (refine G.condN rfl (fun hc => ?_) (fun hc => ?_) <;> (try first | exact False.elim hc | (exfalso; omega))))
    · rename_i s4 _ _ _ _ _ _ _ _ hc1
      have e1 : loR l n d face (i + 1) = (((nth l i).face - (nth l i).ut - (nth l i).within) * (d * 86400000) + -(n * dC face (nth l i))) := run1_take (a := fun i => aC n d face (nth l i)) (hc1.imp (fun h => by omega) (fun h => by have h2 := cmpI_gt.1 h; show max (loR l n d face i) (((nth l i).face - (nth l i).ut - (nth l i).within) * (d * 86400000) + -(n * dC face (nth l i))) = (((nth l i).face - (nth l i).ut - (nth l i).within) * (d * 86400000) + -(n * dC face (nth l i))); omega))
      have e2 : hiR l n d face (i + 1) = (((nth l i).face - (nth l i).ut + (nth l i).within) * (d * 86400000) + n * dC face (nth l i)) := run1_take (a := fun i => bC n d face (nth l i)) (hc.imp (fun h => by omega) (fun h => by have h2 := cmpI_lt.1 h; show min (hiR l n d face i) (((nth l i).face - (nth l i).ut + (nth l i).within) * (d * 86400000) + n * dC face (nth l i)) = (((nth l i).face - (nth l i).ut + (nth l i).within) * (d * 86400000) + n * dC face (nth l i)); omega))
      refine X.again (i + 1, s4, s) ⟨by dsimp only; omega, by dsimp only; rw [e1]; exact t7, by dsimp only; rw [e2]; exact t8⟩ (by dsimp only; omega) ⟨rfl, rfl, rfl, rfl, rfl, rfl, rfl, rfl, rfl, trivial⟩ (fun w h => ?_)
      dsimp only
      rw [e1, e2]
      exact St.sub (St.dup (St.dup h (v := s.v) (f := cI) (s := 1) (l := D (((nth l i).face - (nth l i).ut + (nth l i).within) * (d * 86400000) + n * dC face (nth l i)).natAbs) (by exact memA)) (v := s4.v) (f := cI) (s := 1) (l := D (((nth l i).face - (nth l i).ut - (nth l i).within) * (d * 86400000) + -(n * dC face (nth l i))).natAbs) (by exact memA)) (by repeat (first | exact List.Sublist.refl _ | apply List.Sublist.cons_cons | apply List.Sublist.cons))
    · rename_i s4 _ _ _ _ _ _ _ _ hc1
      have e1 : loR l n d face (i + 1) = (((nth l i).face - (nth l i).ut - (nth l i).within) * (d * 86400000) + -(n * dC face (nth l i))) := run1_take (a := fun i => aC n d face (nth l i)) (hc1.imp (fun h => by omega) (fun h => by have h2 := cmpI_gt.1 h; show max (loR l n d face i) (((nth l i).face - (nth l i).ut - (nth l i).within) * (d * 86400000) + -(n * dC face (nth l i))) = (((nth l i).face - (nth l i).ut - (nth l i).within) * (d * 86400000) + -(n * dC face (nth l i))); omega))
      have e2 : hiR l n d face (i + 1) = hiR l n d face i := run1_keep (a := fun i => bC n d face (nth l i)) (by omega) (by have h2 := mt cmpI_lt.2 (Int.not_lt.2 hc.2); show min (hiR l n d face i) (((nth l i).face - (nth l i).ut + (nth l i).within) * (d * 86400000) + n * dC face (nth l i)) = hiR l n d face i; omega)
      refine X.again (i + 1, s4, sh) ⟨by dsimp only; omega, by dsimp only; rw [e1]; exact t7, by dsimp only; rw [e2]; exact g3⟩ (by dsimp only; omega) ⟨rfl, rfl, rfl, rfl, rfl, rfl, rfl, rfl, rfl, trivial⟩ (fun w h => ?_)
      dsimp only
      rw [e1, e2]
      exact St.sub (St.dup (St.dup h (v := sh.v) (f := cI) (s := 1) (l := D (hiR l n d face i).natAbs) (by exact memA)) (v := s4.v) (f := cI) (s := 1) (l := D (((nth l i).face - (nth l i).ut - (nth l i).within) * (d * 86400000) + -(n * dC face (nth l i))).natAbs) (by exact memA)) (by repeat (first | exact List.Sublist.refl _ | apply List.Sublist.cons_cons | apply List.Sublist.cons))
    · rename_i s4 _ _ _ _ _ _ _ _ hc1
      have e1 : loR l n d face (i + 1) = loR l n d face i := run1_keep (a := fun i => aC n d face (nth l i)) (by omega) (by have h2 := mt cmpI_gt.2 (Int.not_lt.2 hc1.2); show max (loR l n d face i) (((nth l i).face - (nth l i).ut - (nth l i).within) * (d * 86400000) + -(n * dC face (nth l i))) = loR l n d face i; omega)
      have e2 : hiR l n d face (i + 1) = (((nth l i).face - (nth l i).ut + (nth l i).within) * (d * 86400000) + n * dC face (nth l i)) := run1_take (a := fun i => bC n d face (nth l i)) (hc.imp (fun h => by omega) (fun h => by have h2 := cmpI_lt.1 h; show min (hiR l n d face i) (((nth l i).face - (nth l i).ut + (nth l i).within) * (d * 86400000) + n * dC face (nth l i)) = (((nth l i).face - (nth l i).ut + (nth l i).within) * (d * 86400000) + n * dC face (nth l i)); omega))
      refine X.again (i + 1, sl, s) ⟨by dsimp only; omega, by dsimp only; rw [e1]; exact g2, by dsimp only; rw [e2]; exact t8⟩ (by dsimp only; omega) ⟨rfl, rfl, rfl, rfl, rfl, rfl, rfl, rfl, rfl, trivial⟩ (fun w h => ?_)
      dsimp only
      rw [e1, e2]
      exact St.sub (St.dup (St.dup h (v := s.v) (f := cI) (s := 1) (l := D (((nth l i).face - (nth l i).ut + (nth l i).within) * (d * 86400000) + n * dC face (nth l i)).natAbs) (by exact memA)) (v := sl.v) (f := cI) (s := 1) (l := D (loR l n d face i).natAbs) (by exact memA)) (by repeat (first | exact List.Sublist.refl _ | apply List.Sublist.cons_cons | apply List.Sublist.cons))
    · rename_i s4 _ _ _ _ _ _ _ _ hc1
      have e1 : loR l n d face (i + 1) = loR l n d face i := run1_keep (a := fun i => aC n d face (nth l i)) (by omega) (by have h2 := mt cmpI_gt.2 (Int.not_lt.2 hc1.2); show max (loR l n d face i) (((nth l i).face - (nth l i).ut - (nth l i).within) * (d * 86400000) + -(n * dC face (nth l i))) = loR l n d face i; omega)
      have e2 : hiR l n d face (i + 1) = hiR l n d face i := run1_keep (a := fun i => bC n d face (nth l i)) (by omega) (by have h2 := mt cmpI_lt.2 (Int.not_lt.2 hc.2); show min (hiR l n d face i) (((nth l i).face - (nth l i).ut + (nth l i).within) * (d * 86400000) + n * dC face (nth l i)) = hiR l n d face i; omega)
      refine X.again (i + 1, sl, sh) ⟨by dsimp only; omega, by dsimp only; rw [e1]; exact g2, by dsimp only; rw [e2]; exact g3⟩ (by dsimp only; omega) ⟨rfl, rfl, rfl, rfl, rfl, rfl, rfl, rfl, rfl, trivial⟩ (fun w h => ?_)
      dsimp only
      rw [e1, e2]
      exact St.sub (St.dup (St.dup h (v := sh.v) (f := cI) (s := 1) (l := D (hiR l n d face i).natAbs) (by exact memA)) (v := sl.v) (f := cI) (s := 1) (l := D (loR l n d face i).natAbs) (by exact memA)) (by repeat (first | exact List.Sublist.refl _ | apply List.Sublist.cons_cons | apply List.Sublist.cons))
  · have ei : i = l.length := by omega
    subst ei
    repeat' (first
    | (refine G.mixedM 14 [.go 0, .go 1, .go 2, .go 3] [true, true, true, true, true, true, false, false, false, true] ?_; dsimp only [maskH])
    | (refine nxV ?_)
    | (show RS _ _ _ _ _ _ _ _; first | (refine nxRS ?_) | (refine nxRS1 fun _ => ?_))
    | (show RM _ _ _ _ _ _ _ _ _ _; first | (refine nxRM ?_) | (refine nxRM1 fun _ => ?_))
    | (refine nxG ?_)
    | (refine G.mixedA 6 [.go 0, .go 1, .go 2, .go 3, .go 4, .go 5, .go 6, .go 7, .go 8, .go 9, .go 10, .go 11] ?_)
    | (refine G.mixedA 7 [.go 0, .go 1, .go 2, .go 3, .go 4, .go 5, .go 6, .pend 9, .go 7, .go 8, .done, .go 10] ?_)
    | (refine G.mixedA 8 [.go 0, .go 1, .go 2, .go 3, .go 4, .go 5, .go 6, .go 8, .go 10, .pend 13, .go 7, .go 9, .go 11, .go 12, .done, .go 14] ?_)
    | (refine G.mixedA 9 [.go 0, .go 1, .go 2, .go 3, .go 4, .go 5, .go 6, .go 8, .go 10, .pend 12, .go 7, .go 9, .go 11, .done, .go 13] ?_)
    | (refine nxX ?_)
    | (refine G.condN rfl (fun hc => ?_) (fun hc => ?_) <;> (try first | exact False.elim hc | (exfalso; omega))))
    exact X.retN (vs := [_, _]) (sl, sh) rfl ⟨⟨_, _, _, _, rfl, (by exact memA), (by (repeat (first | exact .nil | apply LenIs.cons))), by decide +kernel, rfl⟩, ⟨_, _, _, _, rfl, (by exact memA), (by (repeat (first | exact .nil | apply LenIs.cons))), by decide +kernel, rfl⟩, rfl⟩ rfl ⟨g2, g3⟩ rfl (NewIn.nw (by exact memA) (NewIn.nw (by exact memA) NewIn.nil))
theorem run1_max {a : Nat → Int} : ∀ {k : Nat}, 0 < k → ∃ j, j < k ∧ run1 max a k = a j
  | 1, _ => ⟨0, by omega, rfl⟩
  | k + 2, _ => by
    obtain ⟨j, hj, he⟩ := run1_max (a := a) (k := k + 1) (by omega)
    rcases Int.le_total (run1 max a (k + 1)) (a (k + 1)) with h | h
    · exact ⟨k + 1, by omega, Int.max_eq_right h⟩
    · exact ⟨j, by omega, (Int.max_eq_left h).trans he⟩
theorem run1_min {a : Nat → Int} : ∀ {k : Nat}, 0 < k → ∃ j, j < k ∧ run1 min a k = a j
  | 1, _ => ⟨0, by omega, rfl⟩
  | k + 2, _ => by
    obtain ⟨j, hj, he⟩ := run1_min (a := a) (k := k + 1) (by omega)
    rcases Int.le_total (run1 min a (k + 1)) (a (k + 1)) with h | h
    · exact ⟨j, by omega, (Int.min_eq_left h).trans he⟩
    · exact ⟨k + 1, by omega, Int.min_eq_right h⟩
theorem aC_div {n d face : Int} {c : Chk} (hd : 1 ≤ d) : aC n d face c / (d * 86400000) = c.face - c.ut - c.within + -(n * dC face c) / (d * 86400000) := by
  unfold aC
  rw [Int.add_comm, Int.add_mul_ediv_right _ _ (by omega), Int.add_comm]
theorem bC_div {n d face : Int} {c : Chk} (hd : 1 ≤ d) : -(-bC n d face c / (d * 86400000)) = c.face - c.ut + c.within + -(-(n * dC face c) / (d * 86400000)) := by
  unfold bC
  rw [Int.neg_add, ← Int.neg_mul, Int.add_comm, Int.add_mul_ediv_right _ _ (by omega)]
  omega
theorem lo_bd {l : List Chk} {n d face : Int} (hv : validC l = true) (hnd : (0 ≤ n ∧ n ≤ 1073741824) ∧ 1 ≤ d ∧ d ≤ 1073741824) (hfb : -70368744177664 ≤ face ∧ face ≤ 70368744177664) : -288230376151711744 ≤ loR l n d face l.length / (d * 86400000) ∧ loR l n d face l.length / (d * 86400000) ≤ 288230376151711744 := by
  have hlen := (validC_iff.1 hv).1
  obtain ⟨j, hj, he⟩ := run1_max (a := fun i => aC n d face (nth l i)) (k := l.length) (by omega)
  have bj := valid_at hv (i := j) (by omega) (by omega)
  have dj := dC_bd hfb bj.1
  have xj := drift_bd hnd (t := dC face (nth l j)) (by omega)
  unfold loR
  rw [he, aC_div (by omega)]
  omega
theorem hi_bd {l : List Chk} {n d face : Int} (hv : validC l = true) (hnd : (0 ≤ n ∧ n ≤ 1073741824) ∧ 1 ≤ d ∧ d ≤ 1073741824) (hfb : -70368744177664 ≤ face ∧ face ≤ 70368744177664) : -288230376151711744 ≤ -(-hiR l n d face l.length / (d * 86400000)) ∧ -(-hiR l n d face l.length / (d * 86400000)) ≤ 288230376151711744 := by
  have hlen := (validC_iff.1 hv).1
  obtain ⟨j, hj, he⟩ := run1_min (a := fun i => bC n d face (nth l i)) (k := l.length) (by omega)
  have bj := valid_at hv (i := j) (by omega) (by omega)
  have dj := dC_bd hfb bj.1
  have xj := drift_bd hnd (t := dC face (nth l j)) (by omega)
  unfold hiR
  rw [he, bC_div (by omega)]
  omega
/-- What the reference's UT returns. -/
def utR (l : List Chk) (n d face : Int) : (Int × Int) × Int :=
  if validC l = false ∨ driftB n d = false then ((0, 0), 1) else
  if timeB face = false then ((0, 0), 2) else
  if hiR l n d face l.length < loR l n d face l.length then ((0, 0), 23) else
  if (in64 (loR l n d face l.length / (d * 86400000)) = true ∧ in64 (-(-hiR l n d face l.length / (d * 86400000))) = true) ∧ timeB (face - -(-hiR l n d face l.length / (d * 86400000))) = true ∧ timeB (face - loR l n d face l.length / (d * 86400000)) = true
  then ((face - -(-hiR l n d face l.length / (d * 86400000)), face - loR l n d face l.length / (d * 86400000)), 0) else ((0, 0), 20)
theorem Sz.div {a b : Int} (h : Sz a) (hb : 0 < b) : Sz (a / b) := by
  unfold Sz at *
  have := ediv_bd (k := (a.natAbs : Int)) hb (show -(a.natAbs : Int) ≤ a by omega) (by omega)
  omega
theorem rut_c (v : Value) (l : List Chk) (hl : l.length ≤ 1000000) {n d face : Int} (h : ((-9223372036854775808 ≤ n ∧ n ≤ 9223372036854775807) ∧ -9223372036854775808 ≤ d ∧ d ≤ 9223372036854775807)) : ContR Try.prog [Hl.rd v cC 3 l] 16 [v, .int .i64 face, fracV n d] (utV (utR l n d face)) := fun w hw0 => by
  have hcv := rvalidt_c v l hl
  have hdr := rdrift_c h
  have hrg := rtime_c face
  cases hv : validC l with
  | false =>
    have hr : utR l n d face = ((0, 0), 1) := by unfold utR; rw [if_pos (.inl hv)]
    rw [hv] at hcv
    refine enter Try.func16 rfl rfl rfl hw0 ?_
    repeat' (first
    | (show YK _ _ _ _ _ _ _; first | refine YK.mk (y_callRA (hcv) ⟨rfl, rfl⟩) ?_ | refine YK.mk (y_callA (hdr) ⟨rfl, rfl⟩) ?_)
    | (show YK _ _ _ _ _ _ _; refine YK.ofV vAuto ?_)
    | (show VK _ _ _ _ _ _ _; refine VK.mk vAuto ?_)
    | (show RS _ _ _ _ _ _ _ _; first | (refine nxRS ?_) | (refine nxRS1 fun _ => ?_))
    | (show RM _ _ _ _ _ _ _ _ _ _; first | (refine nxRM ?_) | (refine nxRM1 fun _ => ?_))
    | (show YG _ _ _ _ _ _ _ _; refine YG.mk (fun hb => by (try (have hc := And.left hb; have hb := And.right hb; rw [hc])); (try rw [hb]); first | exact (y_callRA (hcv) ⟨rfl, rfl⟩) | exact (y_callA (hdr) ⟨rfl, rfl⟩) | exact V.y vAuto) ?_)
    | (show VG _ _ _ _ _ _ _ _; refine VG.mk (fun hb => by (try (have hc := And.left hb; have hb := And.right hb; rw [hc])); (try rw [hb]); exact vAuto) ?_)
    | (refine nxX ?_)
    | (refine G.condN rfl (fun hc => ?_) (fun hc => ?_) <;> (try first | exact False.elim hc | (exfalso; omega))))
    exact X.ret (vs := [_, _]) rfl ⟨⟨_, _, _, _, rfl, (by exact memA), (by (repeat (first | exact .nil | apply LenIs.cons))), by decide +kernel, rfl⟩, rfl, rfl⟩ rfl (fun w hw => ⟨by rw [hr], hw.ext⟩)
  | true =>
  rw [hv] at hcv
  cases hd : driftB n d with
  | false =>
    have hr : utR l n d face = ((0, 0), 1) := by unfold utR; rw [if_pos (.inr hd)]
    rw [hd] at hdr
    refine enter Try.func16 rfl rfl rfl hw0 ?_
    repeat' (first
    | (show YK _ _ _ _ _ _ _; first | refine YK.mk (y_callRA (hcv) ⟨rfl, rfl⟩) ?_ | refine YK.mk (y_callA (hdr) ⟨rfl, rfl⟩) ?_)
    | (show YK _ _ _ _ _ _ _; refine YK.ofV vAuto ?_)
    | (show VK _ _ _ _ _ _ _; refine VK.mk vAuto ?_)
    | (show RS _ _ _ _ _ _ _ _; first | (refine nxRS ?_) | (refine nxRS1 fun _ => ?_))
    | (show RM _ _ _ _ _ _ _ _ _ _; first | (refine nxRM ?_) | (refine nxRM1 fun _ => ?_))
    | (show YG _ _ _ _ _ _ _ _; refine YG.mk (fun hb => by (try (have hc := And.left hb; have hb := And.right hb; rw [hc])); (try rw [hb]); first | exact (y_callRA (hcv) ⟨rfl, rfl⟩) | exact (y_callA (hdr) ⟨rfl, rfl⟩) | exact V.y vAuto) ?_)
    | (show VG _ _ _ _ _ _ _ _; refine VG.mk (fun hb => by (try (have hc := And.left hb; have hb := And.right hb; rw [hc])); (try rw [hb]); exact vAuto) ?_)
    | (refine nxX ?_)
    | (refine G.condN rfl (fun hc => ?_) (fun hc => ?_) <;> (try first | exact False.elim hc | (exfalso; omega))))
    exact X.ret (vs := [_, _]) rfl ⟨⟨_, _, _, _, rfl, (by exact memA), (by (repeat (first | exact .nil | apply LenIs.cons))), by decide +kernel, rfl⟩, rfl, rfl⟩ rfl (fun w hw => ⟨by rw [hr], hw.ext⟩)
  | true =>
  rw [hd] at hdr
  cases ht : timeB face with
  | false =>
    have hr : utR l n d face = ((0, 0), 2) := by unfold utR; rw [if_neg (by rw [hv, hd]; decide), if_pos ht]
    rw [ht] at hrg
    refine enter Try.func16 rfl rfl rfl hw0 ?_
    repeat' (first
    | (show YK _ _ _ _ _ _ _; first | refine YK.mk (y_callRA (hcv) ⟨rfl, rfl⟩) ?_ | refine YK.mk (y_callA (hdr) ⟨rfl, rfl⟩) ?_ | refine YK.mk (y_callA (hrg) ⟨rfl, rfl⟩) ?_)
    | (show YK _ _ _ _ _ _ _; refine YK.ofV vAuto ?_)
    | (show VK _ _ _ _ _ _ _; refine VK.mk vAuto ?_)
    | (show RS _ _ _ _ _ _ _ _; first | (refine nxRS ?_) | (refine nxRS1 fun _ => ?_))
    | (show RM _ _ _ _ _ _ _ _ _ _; first | (refine nxRM ?_) | (refine nxRM1 fun _ => ?_))
    | (show YG _ _ _ _ _ _ _ _; refine YG.mk (fun hb => by (try (have hc := And.left hb; have hb := And.right hb; rw [hc])); (try rw [hb]); first | exact (y_callRA (hcv) ⟨rfl, rfl⟩) | exact (y_callA (hdr) ⟨rfl, rfl⟩) | exact (y_callA (hrg) ⟨rfl, rfl⟩) | exact V.y vAuto) ?_)
    | (show VG _ _ _ _ _ _ _ _; refine VG.mk (fun hb => by (try (have hc := And.left hb; have hb := And.right hb; rw [hc])); (try rw [hb]); exact vAuto) ?_)
    | (refine nxX ?_)
    | (refine G.condN rfl (fun hc => ?_) (fun hc => ?_) <;> (try first | exact False.elim hc | (exfalso; omega))))
    exact X.ret (vs := [_, _]) rfl ⟨⟨_, _, _, _, rfl, (by exact memA), (by (repeat (first | exact .nil | apply LenIs.cons))), by decide +kernel, rfl⟩, rfl, rfl⟩ rfl (fun w hw => ⟨by rw [hr], hw.ext⟩)
  | true =>
  rw [ht] at hrg
  have hnd := drift_iff hd
  have hfb := timeB_iff.1 ht
  have hlen := (validC_iff.1 hv).1
  have hu : utR l n d face = if hiR l n d face l.length < loR l n d face l.length then ((0, 0), 23) else
      if (in64 (loR l n d face l.length / (d * 86400000)) = true ∧ in64 (-(-hiR l n d face l.length / (d * 86400000))) = true) ∧ timeB (face - -(-hiR l n d face l.length / (d * 86400000))) = true ∧ timeB (face - loR l n d face l.length / (d * 86400000)) = true
      then ((face - -(-hiR l n d face l.length / (d * 86400000)), face - loR l n d face l.length / (d * 86400000)), 0) else ((0, 0), 20) := by
    unfold utR; rw [if_neg (by rw [hv, hd]; decide), if_neg (by rw [ht]; decide)]
  have hb1 := lo_bd hv hnd hfb
  have hb2 := hi_bd hv hnd hfb
  have q1 := in64_iff.2 (show -9223372036854775808 ≤ loR l n d face l.length / (d * 86400000) ∧ loR l n d face l.length / (d * 86400000) ≤ 9223372036854775807 by omega)
  have q2 := in64_iff.2 (show -9223372036854775808 ≤ -(-hiR l n d face l.length / (d * 86400000)) ∧ -(-hiR l n d face l.length / (d * 86400000)) ≤ 9223372036854775807 by omega)
  have y1 : Sz (loR l n d face l.length / (d * 86400000)) := Sz.small (by omega)
  have y2 : Sz (-(-hiR l n d face l.length / (d * 86400000))) := Sz.small (by omega)
  have y3 : Sz (d * 86400000) := Sz.small (by omega)
  refine enter Try.func16 rfl rfl rfl hw0 ?_
  repeat' (first
    | (show YK _ _ _ _ _ _ _; first | refine YK.mk (y_callRA (hcv) ⟨rfl, rfl⟩) ?_ | refine YK.mk (y_callA (hdr) ⟨rfl, rfl⟩) ?_ | refine YK.mk (y_callA (hrg) ⟨rfl, rfl⟩) ?_ | refine YK.mk (y_callRP compare_c ⟨rfl, rfl, rfl⟩) ?_ | refine YK.mk (y_callRP isint_ok ⟨rfl, rfl⟩) ?_ | refine YK.mk (y_callA (rtime_c _) ⟨rfl, rfl⟩) ?_)
    | (show YK _ _ _ _ _ _ _; refine YK.ofV vAuto ?_)
    | (show VK _ _ _ _ _ _ _; refine VK.mk vAuto ?_)
    | (show RS _ _ _ _ _ _ _ _; first | (refine RS.callP up_c ⟨rfl, rfl, rfl⟩ ?_; rintro s _) | (refine RS.callXG up_c ⟨rfl, rfl, rfl⟩ ?_; rintro s _) | (refine RS.callP down_c ⟨rfl, rfl, rfl⟩ ?_; rintro s _) | (refine RS.callXG down_c ⟨rfl, rfl, rfl⟩ ?_; rintro s _) | (refine RS.callP scale_c ⟨rfl, rfl⟩ ?_; rintro sd _) | (refine RS.callXG scale_c ⟨rfl, rfl⟩ ?_; rintro sd _) | (refine RS.callX (bounds_c v l hv hnd hfb) ⟨rfl, rfl, rfl, rfl⟩ ?_; rintro ⟨sl, sh⟩ ⟨hz1, hz2⟩) | (refine RS.callXG (fun _ : True => bounds_c v l hv hnd hfb) ⟨rfl, rfl, rfl, rfl⟩ ?_; rintro ⟨sl, sh⟩ ⟨hz1, hz2⟩) | (refine nxRS ?_) | (refine nxRS1 fun _ => ?_))
    | (show RM _ _ _ _ _ _ _ _ _ _; first | (refine RM.callP up_c ?_; rintro s _) | (refine RM.callXG up_c ?_; rintro s _) | (refine RM.callP down_c ?_; rintro s _) | (refine RM.callXG down_c ?_; rintro s _) | (refine RM.callP scale_c ?_; rintro sd _) | (refine RM.callXG scale_c ?_; rintro sd _) | (refine RM.callX (bounds_c v l hv hnd hfb) ?_; rintro ⟨sl, sh⟩ ⟨hz1, hz2⟩) | (refine RM.callXG (fun _ : True => bounds_c v l hv hnd hfb) ?_; rintro ⟨sl, sh⟩ ⟨hz1, hz2⟩) | (refine nxRM ?_) | (refine nxRM1 fun _ => ?_))
    | (show YG _ _ _ _ _ _ _ _; refine YG.mk (fun hb => by (try (have hc := And.left hb; have hb := And.right hb; rw [hc])); (try rw [hb]); first | exact (y_callRA (hcv) ⟨rfl, rfl⟩) | exact (y_callA (hdr) ⟨rfl, rfl⟩) | exact (y_callA (hrg) ⟨rfl, rfl⟩) | exact (y_callRP compare_c ⟨rfl, rfl, rfl⟩) | exact (y_callRP isint_ok ⟨rfl, rfl⟩) | exact (y_callA (rtime_c _) ⟨rfl, rfl⟩) | exact V.y vAuto) ?_)
    | (show VG _ _ _ _ _ _ _ _; refine VG.mk (fun hb => by (try (have hc := And.left hb; have hb := And.right hb; rw [hc])); (try rw [hb]); exact vAuto) ?_)
    | (refine nxX ?_)
    | (refine G.condN rfl (fun hc => ?_) (fun hc => ?_) <;> (try first | exact False.elim hc | (exfalso; omega))))
  · rw [if_pos (cmpI_gt.1 hc)] at hu
    exact X.ret (vs := [_, _]) rfl ⟨⟨_, _, _, _, rfl, (by exact memA), (by (repeat (first | exact .nil | apply LenIs.cons))), by decide +kernel, rfl⟩, rfl, rfl⟩ rfl (fun w hw => ⟨by rw [hu], hw.ext⟩)
  · rename_i hc1 _ _ _ _ _
    have h1 := mt cmpI_gt.2 (Int.not_lt.2 hc1)
    rw [if_neg h1, if_neg (fun h2 => hc.elim (fun hc => by rw [h2.2.1] at hc; cases hc) (fun hc => by rw [h2.2.2] at hc; cases hc))] at hu
    exact X.ret (vs := [_, _]) rfl ⟨⟨_, _, _, _, rfl, (by exact memA), (by (repeat (first | exact .nil | apply LenIs.cons))), by decide +kernel, rfl⟩, rfl, rfl⟩ rfl (fun w hw => ⟨by rw [hu], hw.ext⟩)
  · rename_i hc1 _ _ _ _ _
    have h1 := mt cmpI_gt.2 (Int.not_lt.2 hc1)
    rw [if_neg h1, if_pos ⟨⟨q1, q2⟩, hc⟩] at hu
    exact X.ret (vs := [_, _]) rfl ⟨⟨_, _, _, _, rfl, (by exact memA), (by (repeat (first | exact .nil | apply LenIs.cons))), by decide +kernel, rfl⟩, rfl, rfl⟩ rfl (fun w hw => ⟨by rw [hu], hw.ext⟩)
end Go.Proofs.Ytcjganfppcjdfaa
