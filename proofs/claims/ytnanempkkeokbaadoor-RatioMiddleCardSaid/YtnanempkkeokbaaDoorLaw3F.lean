/- RatioMiddle gives true. -/
import Derived.Test.YtnanempkkeokbaaDoorMidP
import Derived.Test.YtnanempkkeokbaaDoorContU
import Derived.Test.YtnanempkkeokbaaDoorAwk3
set_option linter.unusedVariables false
set_option maxHeartbeats 4000000
namespace Go.Proofs.YtnanempkkeokbaaDoor
open Go.RowKit

abbrev RdG (v : Value) (l : List FrP) (w : World) : Prop := RO w v 2 l.length (l.flatMap cF)
abbrev cU (n : Int) : List Value := [.int .u8 n]
theorem clone3_u (A : Option Addr) (n c : Nat) (l : List FrP) (hl : 1 ≤ l.length ∧ l.length ≤ 1000000) : ContU Tryd.prog (Hl.rd (.slice A n c) cF 2 l) 36 [.slice A n c] (fun _ : Sl => True) (fun z => z.v) (fun z => [Hl.rw z.v 24 cF 2 l, Hl.rd (.slice A n c) cF 2 l]) := fun w0 HR w hw => by
  obtain ⟨h1, A', c', e, hnc, hcells, _⟩ := (hw.all _ List.mem_cons_self).1
  cases e
  obtain ⟨ad, rfl, _⟩ := hcells (fun hn => by rw [hn] at h1; simp at h1; omega)
  refine enterU Tryd.func36 rfl rfl rfl hw ?_
  repeat' (first
    | (refine nxV ?_)
    | (show RS _ _ _ _ _ _ _ _; first | (refine nxRS ?_) | (refine nxRS1 fun _ => ?_))
    | (show RM _ _ _ _ _ _ _ _ _ _; first | (refine nxRM ?_) | (refine nxRM1 fun _ => ?_))
    | (refine nxG ?_)
    | (refine nxX ?_)
    | (refine G.condN rfl (fun hc => ?_) (fun hc => ?_) <;> (try first | exact False.elim hc | (exfalso; omega))))
  · exact absurd hc (by simp [nilB])
  · rename_i v0 v'
    exact X.ret (vs := [_]) rfl ⟨rfl, rfl⟩ rfl (fun w hw => ⟨v', trivial, rfl, hw.sub (by repeat (first | exact List.Sublist.refl _ | apply List.Sublist.cons_cons | apply List.Sublist.cons))⟩)
abbrev wiP (B : Nat) (xv : Value) (s : List FrP) (w : World) : Prop := RO w (boxV B) 1 1 [xv] ∧ RO w xv 2 s.length (s.flatMap cF)
theorem box_of {w0 w : World} {H : List Hl} {b : Nat} {t : TypeId} {v : Value} (hw : St w0 H w) (hm : Hl.blk b t [v] ∈ H) : RO w (boxV b) 1 1 [v] := by
  refine ⟨rfl, some ⟨b, 0, none⟩, 1, rfl, Nat.le_refl _, fun _ => ⟨_, rfl, fun j u hu => ?_⟩, fun g => by cases g⟩
  match j, hu with
  | 0, hu => exact (hw.cell hm 0).trans hu
theorem ro_of {w0 w : World} {H : List Hl} {v : Value} {s : Nat} {α : Type} {f : α → List Value} {l : List α} (hw : St w0 H w) (hm : Hl.nw v f s l ∈ H) : RO w v s l.length (l.flatMap f) := (hw.all _ hm).1
theorem box_m (xv : Value) : (0 : Int) ≤ 0 ∧ (0 : Int) < ([xv].length : Nat) := ⟨by decide, by simp⟩
theorem within_c {B : Nat} {xv : Value} {s : List FrP} {a : FrP} (hn : 0 < s.length ∧ s.length ≤ 1000) (q1 : Cont Tryd.prog 16 [frV a] (.bool true)) (q2 : Cont Tryd.prog 30 [frV (nth s 0), frV a] (.int .i64 (cfr (nth s 0) a))) (q3 : Cont Tryd.prog 30 [frV a, frV (nth s ((s.length : Int) - 1))] (.int .i64 (cfr a (nth s ((s.length : Int) - 1))))) (h1 : cfr (nth s 0) a ≤ 0) (h2 : cfr a (nth s ((s.length : Int) - 1)) ≤ 0) :
    ContIn Tryd.prog (wiP B xv s) 35 ([frV a] ++ (#[.pointer (some ⟨B, 0, none⟩)] : Array Value).toList) (.bool true) := fun w hw0 => by
  refine enter Tryd.func35 rfl rfl rfl (Hp := [Hl.rd (boxV B) c1V 1 [xv], Hl.rd xv cF 2 s]) (fun h hm => by
    rcases List.mem_cons.1 hm with rfl | hm
    · exact ⟨⟨hw0.1, fun h => by cases h⟩, rfl⟩
    rcases List.mem_singleton.1 hm with rfl
    exact ⟨⟨hw0.2, fun h => by cases h⟩, rfl⟩) ?_
  repeat' (first
    | (show VK _ _ _ _ _ ⟨_, .load 42 _, _, _, _, _⟩ _; refine VK.mk (y_loadEl (inst := ⟨xv⟩) (u := xv) (v := boxV B) (s := 1) (m := 0) (i := 0) (f := c1V) (l := [xv]) (by rfl) (by exact rdA) (fun _ => rfl) (box_m xv) (by rfl) (by rfl) (by decide +kernel)) ?_)
    | (show VG _ _ _ _ _ _ ⟨_, .load 42 _, _, _, _, _⟩ _; refine VG.mk (fun hb => y_loadEl (inst := ⟨xv⟩) (u := xv) (v := boxV B) (s := 1) (m := 0) (i := 0) (f := c1V) (l := [xv]) (by rfl) (by exact rdA) (fun _ => rfl) (box_m xv) (by rfl) (by rfl) (by decide +kernel)) ?_)
    | (show YK _ _ _ _ _ _ _; first | refine YK.mk (y_callA (q1) ⟨rfl, rfl⟩) ?_ | refine YK.mk (y_callA (q2) ⟨rfl, rfl, rfl⟩) ?_ | refine YK.mk (y_callA (q3) ⟨rfl, rfl, rfl⟩) ?_)
    | (show YK _ _ _ _ _ _ _; refine YK.ofV vAuto ?_)
    | (show VK _ _ _ _ _ _ _; refine VK.mk vAuto ?_)
    | (show RS _ _ _ _ _ _ _ _; first | (refine nxRS ?_) | (refine nxRS1 fun _ => ?_))
    | (show RM _ _ _ _ _ _ _ _ _ _; first | (refine nxRM ?_) | (refine nxRM1 fun _ => ?_))
    | (show YG _ _ _ _ _ _ _ _; refine YG.mk (fun hb => by (try (have hc := And.left hb; have hb := And.right hb; rw [hc])); (try rw [hb]); first | exact (y_callA (q1) ⟨rfl, rfl⟩) | exact (y_callA (q2) ⟨rfl, rfl, rfl⟩) | exact (y_callA (q3) ⟨rfl, rfl, rfl⟩) | exact V.y vAuto) ?_)
    | (show VG _ _ _ _ _ _ _ _; refine VG.mk (fun hb => by (try (have hc := And.left hb; have hb := And.right hb; rw [hc])); (try rw [hb]); exact vAuto) ?_)
    | (refine G.mixedA 1 [.go 0, .go 1, .go 2, .go 3, .go 4, .go 5, .go 6, .go 7, .go 8, .go 9, .go 10, .go 11, .go 12, .go 13, .go 14, .go 15, .go 16, .go 17, .go 18, .go 19, .go 20, .go 21] ?_)
    | (refine nxX ?_)
    | (refine G.condN rfl (fun hc => ?_) (fun hc => ?_) <;> (try first | exact False.elim hc | (exfalso; omega))))
  refine X.ret (vs := [_]) rfl ⟨rfl, rfl⟩ rfl (fun w hw => ⟨ret_bool ?_, hw.ext⟩)
  simp [h1, h2]

def cntL (l : List FrP) (m : FrP) (i : Nat) : Nat := lessN (l.take i) m
def cntM (l : List FrP) (m : FrP) (i : Nat) : Nat := moreN (l.take i) m
theorem take_succF {l : List FrP} {i : Nat} (h : i < l.length) : l.take (i + 1) = l.take i ++ [nth l (i : Int)] := by
  have e := nth_some (l := l) (m := (i : Int)) (by omega) (by omega)
  rw [Int.toNat_natCast] at e
  rw [List.take_add_one, e]; rfl
theorem cntL_succ {l : List FrP} {m : FrP} {i : Nat} (h : i < l.length) : cntL l m (i + 1) = cntL l m i + if cfr (nth l (i : Int)) m < 0 then 1 else 0 := by
  unfold cntL lessN
  rw [take_succF h, List.countP_append, List.countP_singleton]
  simp
theorem cntM_succ {l : List FrP} {m : FrP} {i : Nat} (h : i < l.length) : cntM l m (i + 1) = cntM l m i + if 0 < cfr (nth l (i : Int)) m then 1 else 0 := by
  unfold cntM moreN
  rw [take_succF h, List.countP_append, List.countP_singleton]
  simp
theorem cnt_le (l : List FrP) (m : FrP) (i : Nat) : cntL l m i ≤ i ∧ cntM l m i ≤ i := by
  unfold cntL cntM lessN moreN
  have h1 := List.countP_le_length (p := fun x => decide (cfr x m < 0)) (l := l.take i)
  have h2 := List.countP_le_length (p := fun x => decide (0 < cfr x m)) (l := l.take i)
  rw [List.length_take] at h1 h2
  omega
theorem rm_no {v u : Value} {l : List FrP} {os : List Int} {b : Bool} (hm : l.length ≤ 9223372036854775807) (ho : os.length ≤ 9223372036854775807) (pv : 0 < l.length → l.length ≤ 40 → ContR Tryd.prog [Hl.rd v cF 2 l] 31 [v] (.bool b)) (hno : l.length = 0 ∨ 40 < l.length ∨ 60 < os.length ∨ b = false) : ContIn Tryd.prog (fun w => (RdG v l w ∧ RO w u 1 os.length (os.flatMap cU)) ∧ LaidT w) 9 [v, u] (.bool true) := fun w0 hw0 => by
  have hI := hw0.2
  refine enter Tryd.func9 rfl rfl rfl (Hp := [Hl.rd v cF 2 l, Hl.rd u cU 1 os]) (fun h hm => by
    rcases List.mem_cons.1 hm with rfl | hm
    · exact ⟨⟨hw0.1.1, fun h => by cases h⟩, rfl⟩
    rcases List.mem_singleton.1 hm with rfl
    exact ⟨⟨hw0.1.2, fun h => by cases h⟩, rfl⟩) ?_
  repeat' (first
    | (show YK _ _ _ _ _ _ _; first | refine YK.mk (y_callIn (awake3_c) (fun _ hw => hI.keep hw.ext) rfl (by decide +kernel)) ?_ | refine YK.mk (y_callRA (pv (by simp only [Bool.or_eq_false_iff, decide_eq_false_iff_not] at hb; omega) (by simp only [Bool.or_eq_false_iff, decide_eq_false_iff_not] at hb; omega)) ⟨rfl, rfl⟩) ?_)
    | (show YK _ _ _ _ _ _ _; refine YK.ofV vAuto ?_)
    | (show VK _ _ _ _ _ _ _; refine VK.mk vAuto ?_)
    | (show RS _ _ _ _ _ _ _ _; first | (refine nxRS ?_) | (refine nxRS1 fun _ => ?_))
    | (show RM _ _ _ _ _ _ _ _ _ _; first | (refine nxRM ?_) | (refine nxRM1 fun _ => ?_))
    | (show YG _ _ _ _ _ _ _ _; refine YG.mk (fun hb => by (try (have hc := And.left hb; have hb := And.right hb; rw [hc])); (try rw [hb]); first | exact (y_callIn (awake3_c) (fun _ hw => hI.keep hw.ext) rfl (by decide +kernel)) | exact (y_callRA (pv (by simp only [Bool.or_eq_false_iff, decide_eq_false_iff_not] at hb; omega) (by simp only [Bool.or_eq_false_iff, decide_eq_false_iff_not] at hb; omega)) ⟨rfl, rfl⟩) | exact V.y vAuto) ?_)
    | (show VG _ _ _ _ _ _ _ _; refine VG.mk (fun hb => by (try (have hc := And.left hb; have hb := And.right hb; rw [hc])); (try rw [hb]); exact vAuto) ?_)
    | (refine G.mixedA 15 [.go 0, .go 1, .go 2, .go 3, .go 4, .go 5, .go 6, .go 7, .go 8, .go 9, .go 10] ?_)
    | (refine G.mixedA 16 [.go 0, .go 1, .go 2, .go 3, .go 4, .go 5, .go 6, .go 7, .go 8, .go 9, .go 10, .go 11, .go 12, .go 13, .go 14, .go 15] ?_)
    | (refine nxX ?_)
    | (refine G.condN rfl (fun hc => ?_) (fun hc => ?_) <;> (try first | exact False.elim hc | (exfalso; omega))))
  · exact X.ret (vs := [_]) rfl ⟨rfl, rfl⟩ rfl (fun w hw => ⟨rfl, hw.ext⟩)
  · exfalso
    rcases hno with z | z | z | z
    · omega
    · omega
    · omega
    · rw [hc.2] at z; cases z
theorem rm_main {A : Option Addr} {n c : Nat} {u : Value} {l s : List FrP} {os : List Int} {m q : (Int × Int) × Int} (hn : 0 < l.length ∧ l.length ≤ 40) (hs : s.length = l.length) (ho : os.length ≤ 60) (hob : ∀ x ∈ os, 0 ≤ x ∧ x ≤ 255)
    (pv : ContR Tryd.prog [Hl.rd (.slice A n c) cF 2 l] 31 [.slice A n c] (.bool true)) (p1 : ContR Tryd.prog [Hl.rd (.slice A n c) cF 2 l] 32 [.slice A n c] (mkV m)) (p2 : ContR Tryd.prog [Hl.rd (.slice A n c) cF 2 l] 33 [.slice A n c] (mkV q)) (p3 : SortR (.slice A n c) l s)
    (pq : q.2 = 0 → ∀ B xv, ContIn Tryd.prog (wiP B xv s) 35 ([frV q.1] ++ (#[.pointer (some ⟨B, 0, none⟩)] : Array Value).toList) (.bool true)) (pm : m.2 = 0 → ∀ B xv, ContIn Tryd.prog (wiP B xv s) 35 ([frV m.1] ++ (#[.pointer (some ⟨B, 0, none⟩)] : Array Value).toList) (.bool true))
    (p4 : ∀ (A : Option Addr) (n c : Nat) (ds : List FrP), ds.Perm l → ContR Tryd.prog [Hl.rd (.slice A n c) cF 2 ds] 32 [.slice A n c] (mkV m))
    (p5 : m.2 = 0 → ∀ i : Nat, i < l.length → Cont Tryd.prog 30 [frV (nth l (i : Int)), frV m.1] (.int .i64 (cfr (nth l (i : Int)) m.1))) (k1 : m.2 = 0 → 2 * lessN l m.1 ≤ l.length ∧ 2 * moreN l m.1 ≤ l.length) :
    ContIn Tryd.prog (fun w => (RdG (.slice A n c) l w ∧ RO w u 1 os.length (os.flatMap cU)) ∧ LaidT w) 9 [.slice A n c, u] (.bool true) := fun w0 hw0 => by
  have hI := hw0.2
  have hcl := clone3_u A n c l (by omega)
  refine enter Tryd.func9 rfl rfl rfl (Hp := [Hl.rd (.slice A n c) cF 2 l, Hl.rd u cU 1 os]) (fun h hm => by
    rcases List.mem_cons.1 hm with rfl | hm
    · exact ⟨⟨hw0.1.1, fun h => by cases h⟩, rfl⟩
    rcases List.mem_singleton.1 hm with rfl
    exact ⟨⟨hw0.1.2, fun h => by cases h⟩, rfl⟩) ?_
  repeat' (first
    | (show YG _ _ _ _ _ _ ⟨_, .call _, _, _, _, _⟩ _; refine YG.mk (fun hb => by have hb2 := of_decide_eq_true hb; rw [hb]; exact y_callV (f := 35) (by rfl) (pq hb2 _ _) (fun w hw => ⟨box_of hw (by exact memA), ro_of hw (by exact memA)⟩) ⟨rfl, rfl⟩ (by decide +kernel)) ?_)
    | (refine RS.callU hcl ⟨rfl, rfl⟩ ?_; rintro z _; dsimp only [List.cons_append, List.nil_append])
    | (show YK _ _ _ _ _ _ _; first | refine YK.mk (y_callIn (awake3_c) (fun _ hw => hI.keep hw.ext) rfl (by decide +kernel)) ?_ | refine YK.mk (y_callRA (pv) ⟨rfl, rfl⟩) ?_ | refine YK.mk (y_callRA (p1) ⟨rfl, rfl⟩) ?_ | refine YK.mk (y_callRA (p2) ⟨rfl, rfl⟩) ?_)
    | (show YK _ _ _ _ _ _ _; refine YK.ofV vAuto ?_)
    | (show VK _ _ _ _ _ _ _; refine VK.mk vAuto ?_)
    | (show RS _ _ _ _ _ _ _ _; first | (refine RS.callX (p3) ⟨rfl, rfl⟩ ?_; rintro x _) | (refine RS.callXG (fun _ : True => p3) ⟨rfl, rfl⟩ ?_; rintro x _) | (refine nxRS ?_) | (refine nxRS1 fun _ => ?_))
    | (show RM _ _ _ _ _ _ _ _ _ _; first | (refine RM.callX (p3) ?_; rintro x _) | (refine RM.callXG (fun _ : True => p3) ?_; rintro x _) | (refine nxRM ?_) | (refine nxRM1 fun _ => ?_))
    | (show YG _ _ _ _ _ _ _ _; refine YG.mk (fun hb => by (try (have hc := And.left hb; have hb := And.right hb; rw [hc])); (try rw [hb]); first | exact (y_callIn (awake3_c) (fun _ hw => hI.keep hw.ext) rfl (by decide +kernel)) | exact (y_callRA (pv) ⟨rfl, rfl⟩) | exact (y_callRA (p1) ⟨rfl, rfl⟩) | exact (y_callRA (p2) ⟨rfl, rfl⟩) | exact V.y vAuto) ?_)
    | (show VG _ _ _ _ _ _ _ _; refine VG.mk (fun hb => by (try (have hc := And.left hb; have hb := And.right hb; rw [hc])); (try rw [hb]); exact vAuto) ?_)
    | (refine G.mixedA 15 [.go 0, .go 1, .go 2, .go 3, .go 4, .go 5, .go 6, .go 7, .go 8, .go 9, .go 10] ?_)
    | (refine G.mixedA 16 [.go 0, .go 1, .go 2, .go 3, .go 4, .go 5, .go 6, .go 7, .go 8, .go 9, .go 10, .go 11, .go 12, .go 13, .go 14, .go 15] ?_)
    | (refine nxX ?_)
    | (refine G.condN rfl (fun hc => ?_) (fun hc => ?_) <;> (try first | exact False.elim hc | (exfalso; omega))))
  rename_i b5 b7 h1 b9 h2
  refine G.loop (ι := Nat × List FrP) (fun y => [(0, .slice A n c), (5, .pointer (some ⟨b5, 0, none⟩)), (6, .int .i64 m.2), (9, .pointer (some ⟨b9, 0, none⟩)), (10, .func (.func 35) #[] #[.pointer (some ⟨b9, 0, none⟩)]), (11, z.v), (66, u), (67, .int .i64 os.length), (68, .int .i64 (y.1 : Int))])
    (fun y => [Hl.rw z.v 24 cF 2 y.2, Hl.rd (.slice A n c) cF 2 l, Hl.blk b9 42 [x.v], Hl.nw x.v cF 2 s, Hl.blk b5 24 [.int .i64 m.1.1, .int .i64 m.1.2], Hl.rd u cU 1 os]) (fun y => y.1 ≤ os.length ∧ y.2.Perm l) (fun y => os.length - y.1) (0, l) ⟨Nat.zero_le _, .refl _⟩ ⟨rfl, rfl, rfl, rfl, rfl, rfl, rfl, rfl, rfl, trivial⟩ (by exact fun w h => h.sub (by repeat (first | exact List.Sublist.refl _ | apply List.Sublist.cons_cons | apply List.Sublist.cons))) ?_
  rintro ⟨i, ds⟩ mx ⟨g1, g2⟩ hmx
  dsimp only at g1 g2 hmx ⊢
  have hdl := g2.length_eq
  rcases Nat.lt_or_ge i os.length with hi | hi
  · have hk := hob _ (nth_mem (l := os) (m := (i : Int)) (by omega))
    have hnz : (ds.length : Int) ≠ 0 := by omega
    have r1 := Int.emod_nonneg (i : Int) hnz
    have r2 := Int.emod_lt_of_pos (i : Int) (show (0 : Int) < ds.length by omega)
    have r3 := Int.emod_nonneg (nth os (i : Int)) hnz
    have r4 := Int.emod_lt_of_pos (nth os (i : Int)) (show (0 : Int) < ds.length by omega)
    repeat' (first
    | (show RF _ _ _ _ _ _ _ _ _; refine RF.storeEl (f := cF) (l := ds) (b := nth ds (nth os (i : Int) % (ds.length : Int))) (by rfl) (by rfl) (by rfl) (by rfl) (by exact updA) (by omega) (fun _ => rfl) (by rfl) (by decide +kernel) (by decide +kernel) ?_)
    | (show RF _ _ _ _ _ _ _ _ _; refine RF.storeEl (f := cF) (l := ds.set ((i : Int) % (ds.length : Int)).toNat (nth ds (nth os (i : Int) % (ds.length : Int)))) (b := nth ds ((i : Int) % (ds.length : Int))) (by rfl) (by rfl) (by rfl) (by rfl) (by exact updA) (by rw [List.length_set]; omega) (fun _ => rfl) (by rfl) (by decide +kernel) (by decide +kernel) ?_)
    | (refine G.mixedFH 16 [.go 0, .go 1, .go 2, .go 3, .go 4, .go 5, .go 6, .go 7, .go 8, .go 9, .go 10, .go 11, .go 12, .go 13, .go 14, .go 15] ?_)
    | (refine nxRF ?_)
    | (refine nxVF ?_)
    | (refine nxV ?_)
    | (show RS _ _ _ _ _ _ _ _; first | (refine nxRS ?_) | (refine nxRS1 fun _ => ?_))
    | (show RM _ _ _ _ _ _ _ _ _ _; first | (refine nxRM ?_) | (refine nxRM1 fun _ => ?_))
    | (refine nxG ?_)
    | (refine G.mixedA 15 [.go 0, .go 1, .go 2, .go 3, .go 4, .go 5, .go 6, .go 7, .go 8, .go 9, .go 10] ?_)
    | (refine nxX ?_)
    | (refine G.condN rfl (fun hc => ?_) (fun hc => ?_) <;> (try first | exact False.elim hc | (exfalso; omega))))
    refine X.again (i + 1, swp ds ((i : Int) % (ds.length : Int)) (nth os (i : Int) % (ds.length : Int))) ⟨by dsimp only; omega, (swp_perm (by omega) (by omega)).trans g2⟩ (by dsimp only; omega) ⟨rfl, rfl, rfl, rfl, rfl, rfl, rfl, rfl, rfl, trivial⟩ (by exact fun w h => h.sub (by repeat (first | exact List.Sublist.refl _ | apply List.Sublist.cons_cons | apply List.Sublist.cons)))
  · have p4' := p4 z.a z.n z.c ds g2
    clear p4
    repeat' (first
    | (show YK _ _ _ _ _ _ _; first | refine YK.mk (y_callRA (p4') ⟨rfl, rfl⟩) ?_)
    | (show YK _ _ _ _ _ _ _; refine YK.ofV vAuto ?_)
    | (show VK _ _ _ _ _ _ _; refine VK.mk vAuto ?_)
    | (show RS _ _ _ _ _ _ _ _; first | (refine nxRS ?_) | (refine nxRS1 fun _ => ?_))
    | (show RM _ _ _ _ _ _ _ _ _ _; first | (refine nxRM ?_) | (refine nxRM1 fun _ => ?_))
    | (show YG _ _ _ _ _ _ _ _; refine YG.mk (fun hb => by (try (have hc := And.left hb; have hb := And.right hb; rw [hc])); (try rw [hb]); first | exact (y_callRA (p4') ⟨rfl, rfl⟩) | exact V.y vAuto) ?_)
    | (show VG _ _ _ _ _ _ _ _; refine VG.mk (fun hb => by (try (have hc := And.left hb; have hb := And.right hb; rw [hc])); (try rw [hb]); exact vAuto) ?_)
    | (refine G.mixedA 15 [.go 0, .go 1, .go 2, .go 3, .go 4, .go 5, .go 6, .go 7, .go 8, .go 9, .go 10] ?_)
    | (refine G.mixedA 16 [.go 0, .go 1, .go 2, .go 3, .go 4, .go 5, .go 6, .go 7, .go 8, .go 9, .go 10, .go 11, .go 12, .go 13, .go 14, .go 15] ?_)
    | (refine nxX ?_)
    | (refine G.condN rfl (fun hc => ?_) (fun hc => ?_) <;> (try first | exact False.elim hc | (exfalso; omega))))
    · exact X.ret (vs := [_]) rfl ⟨rfl, rfl⟩ rfl (fun w hw => ⟨rfl, hw.ext⟩)
    · rename_i b16 h3
      have hm0 := hc
      refine G.loop (ι := Nat × Int × Int) (fun y => [(0, .slice A n c), (5, .pointer (some ⟨b5, 0, none⟩)), (10, .func (.func 35) #[] #[.pointer (some ⟨b9, 0, none⟩)]), (18, .int .i64 y.2.1), (19, .int .i64 y.2.2), (112, .slice A n c), (113, .int .i64 l.length), (114, .int .i64 (y.1 : Int))])
        (fun y => [Hl.rd (.slice A n c) cF 2 l, Hl.blk b9 42 [x.v], Hl.nw x.v cF 2 s, Hl.blk b5 24 [.int .i64 m.1.1, .int .i64 m.1.2]]) (fun y => y.1 ≤ l.length ∧ y.2.1 = cntL l m.1 y.1 ∧ y.2.2 = cntM l m.1 y.1) (fun y => l.length - y.1) (0, 0, 0) ⟨Nat.zero_le _, by simp [cntL, lessN], by simp [cntM, moreN]⟩ ⟨rfl, rfl, rfl, rfl, rfl, rfl, rfl, rfl, trivial⟩ (by exact fun w h => h.sub (by repeat (first | exact List.Sublist.refl _ | apply List.Sublist.cons_cons | apply List.Sublist.cons))) ?_
      rintro ⟨i, a, b⟩ my ⟨f1, f2, f3⟩ hmy
      dsimp only at f1 f2 f3 hmy ⊢
      have f4 := cnt_le l m.1 i
      rcases Nat.lt_or_ge i l.length with hi | hi
      · have q5 := p5 hc i hi
        have z1 := cntL_succ (m := m.1) hi
        have z2 := cntM_succ (m := m.1) hi
        generalize cfr (nth l (i : Int)) m.1 = k at q5 z1 z2
        repeat' (first
    | (show YK _ _ _ _ _ _ _; first | refine YK.mk (y_callA (q5) ⟨rfl, rfl, rfl⟩) ?_)
    | (show YK _ _ _ _ _ _ _; refine YK.ofV vAuto ?_)
    | (show VK _ _ _ _ _ _ _; refine VK.mk vAuto ?_)
    | (show RS _ _ _ _ _ _ _ _; first | (refine nxRS ?_) | (refine nxRS1 fun _ => ?_))
    | (show RM _ _ _ _ _ _ _ _ _ _; first | (refine nxRM ?_) | (refine nxRM1 fun _ => ?_))
    | (show YG _ _ _ _ _ _ _ _; refine YG.mk (fun hb => by (try (have hc := And.left hb; have hb := And.right hb; rw [hc])); (try rw [hb]); first | exact (y_callA (q5) ⟨rfl, rfl, rfl⟩) | exact V.y vAuto) ?_)
    | (show VG _ _ _ _ _ _ _ _; refine VG.mk (fun hb => by (try (have hc := And.left hb; have hb := And.right hb; rw [hc])); (try rw [hb]); exact vAuto) ?_)
    | (refine G.mixedA 15 [.go 0, .go 1, .go 2, .go 3, .go 4, .go 5, .go 6, .go 7, .go 8, .go 9, .go 10] ?_)
    | (refine G.mixedA 16 [.go 0, .go 1, .go 2, .go 3, .go 4, .go 5, .go 6, .go 7, .go 8, .go 9, .go 10, .go 11, .go 12, .go 13, .go 14, .go 15] ?_)
    | (refine nxX ?_)
    | (refine G.condN rfl (fun hc => ?_) (fun hc => ?_) <;> (try first | exact False.elim hc | (exfalso; omega))))
        · refine X.again (i + 1, a + 1, b) ⟨by dsimp only; omega, by dsimp only; split at z1 <;> omega, by dsimp only; split at z2 <;> omega⟩ (by dsimp only; omega) ⟨rfl, rfl, rfl, rfl, rfl, rfl, rfl, rfl, trivial⟩ (by exact fun w h => h.sub (by repeat (first | exact List.Sublist.refl _ | apply List.Sublist.cons_cons | apply List.Sublist.cons)))
        · refine X.again (i + 1, a, b + 1) ⟨by dsimp only; omega, by dsimp only; split at z1 <;> omega, by dsimp only; split at z2 <;> omega⟩ (by dsimp only; omega) ⟨rfl, rfl, rfl, rfl, rfl, rfl, rfl, rfl, trivial⟩ (by exact fun w h => h.sub (by repeat (first | exact List.Sublist.refl _ | apply List.Sublist.cons_cons | apply List.Sublist.cons)))
        · refine X.again (i + 1, a, b) ⟨by dsimp only; omega, by dsimp only; split at z1 <;> omega, by dsimp only; split at z2 <;> omega⟩ (by dsimp only; omega) ⟨rfl, rfl, rfl, rfl, rfl, rfl, rfl, rfl, trivial⟩ (by exact fun w h => h.sub (by repeat (first | exact List.Sublist.refl _ | apply List.Sublist.cons_cons | apply List.Sublist.cons)))
      · obtain rfl : i = l.length := by omega
        have f5 := k1 hc
        have f6 : cntL l m.1 l.length = lessN l m.1 := by unfold cntL; rw [List.take_length]
        have f7 : cntM l m.1 l.length = moreN l m.1 := by unfold cntM; rw [List.take_length]
        repeat' (first
    | (show YK _ _ _ _ _ ⟨_, .call _, _, _, _, _⟩ _; refine YK.mk (y_callV (f := 35) (by rfl) (pm hm0 _ _) (fun w hw => ⟨box_of hw (by exact memA), ro_of hw (by exact memA)⟩) ⟨rfl, rfl⟩ (by decide +kernel)) ?_)
    | (refine nxV ?_)
    | (show RS _ _ _ _ _ _ _ _; first | (refine nxRS ?_) | (refine nxRS1 fun _ => ?_))
    | (show RM _ _ _ _ _ _ _ _ _ _; first | (refine nxRM ?_) | (refine nxRM1 fun _ => ?_))
    | (refine nxG ?_)
    | (refine G.mixedA 15 [.go 0, .go 1, .go 2, .go 3, .go 4, .go 5, .go 6, .go 7, .go 8, .go 9, .go 10] ?_)
    | (refine G.mixedA 16 [.go 0, .go 1, .go 2, .go 3, .go 4, .go 5, .go 6, .go 7, .go 8, .go 9, .go 10, .go 11, .go 12, .go 13, .go 14, .go 15] ?_)
    | (refine nxX ?_)
    | (refine G.condN rfl (fun hc => ?_) (fun hc => ?_) <;> (try first | exact False.elim hc | (exfalso; omega))))
        refine X.ret (vs := [_]) rfl ⟨rfl, rfl⟩ rfl (fun w hw => ⟨ret_bool ?_, hw.ext⟩)
        have e1 : (2 * a ≤ (l.length : Int)) := by omega
        have e2 : (2 * b ≤ (l.length : Int)) := by omega
        simp [e1, e2]
theorem ratioMiddle_c {A : Option Addr} {n c : Nat} {u : Value} {l : List FrP} {os : List Int} (hm : l.length ≤ 9223372036854775807) (ho : os.length ≤ 9223372036854775807) (hj : allJ l) (hob : ∀ x ∈ os, 0 ≤ x ∧ x ≤ 255) : ContIn Tryd.prog (fun w => (RdG (.slice A n c) l w ∧ RO w u 1 os.length (os.flatMap cU)) ∧ LaidT w) 9 [.slice A n c, u] (.bool true) := by
  by_cases h1 : l.length = 0 ∨ 40 < l.length ∨ 60 < os.length
  · exact rm_no (b := allV l) hm ho (fun h2 h3 => validAll_c _ l (by omega) hj) (by omega)
  cases hb : allV l with
  | false => exact rm_no (b := false) hm ho (fun h2 h3 => hb ▸ validAll_c _ l (by omega) hj) (.inr (.inr (.inr rfl)))
  | true =>
    have hv : ∀ x ∈ l, vF x = true := vf_of_all.1 (by unfold allV at hb; simpa using hb)
    have hlen : 0 < l.length ∧ l.length ≤ 1000 := by omega
    have pv := validAll_c (.slice A n c) l (by omega) hj
    rw [hb] at pv
    have hsl := (sortF_perm hv).length_eq
    have hvs := perm_v (sortF_perm hv) hv
    have clo : ∀ m : FrP, vF m = true → leF (nth (sortF l) 0) m → leF m (nth (sortF l) ((l.length : Int) - 1)) → ∀ B xv, ContIn Tryd.prog (wiP B xv (sortF l)) 35 ([frV m] ++ (#[.pointer (some ⟨B, 0, none⟩)] : Array Value).toList) (.bool true) := fun m v1 k1 k2 B xv => by
      have b1 := validF_bd v1
      have q1 := valid3_c (n := m.1) (d := m.2) (by omega)
      rw [show validF m.1 m.2 = true from v1] at q1
      have v2 := hvs _ (nth_mem (l := sortF l) (m := 0) (by omega))
      have v3 := hvs _ (nth_mem (l := sortF l) (m := ((sortF l).length : Int) - 1) (by omega))
      obtain ⟨c1, c2, _⟩ := prods v2 v1
      obtain ⟨c3, c4, _⟩ := prods v1 v3
      have e1 := cfr_neg (nth (sortF l) 0) m
      rw [← hsl] at k2
      have e2 := cfr_neg m (nth (sortF l) (((sortF l).length : Int) - 1))
      exact within_c (by omega) q1 (cmp3_c (by omega)) (cmp3_c (by omega)) (by omega) (by omega)
    refine rm_main (by omega) hsl (by omega) hob pv (median_c A n c l (by omega) hj) (mean_c _ l (by omega) hj) (sortR_of (by omega) hv) (fun h0 => ?_) (fun h0 => ?_) (fun A n c ds hp => ?_) (fun h0 i hi => ?_) (fun h0 => ?_)
    · obtain ⟨v1, k1, k2⟩ := mean_mid hv hlen h0
      exact clo _ v1 k1 k2
    · obtain ⟨v1, k1, k2, _⟩ := median_mid hv hlen h0
      exact clo _ v1 k1 k2
    · have hl := hp.length_eq
      have h := median_c A n c ds (by omega) (fun i hi => by
        have := validF_bd (perm_v hp hv _ (nth_mem (l := ds) (m := (i : Int)) (by omega)))
        omega)
      rw [medS_perm hp hv hlen] at h
      exact h
    · obtain ⟨v1, _⟩ := median_mid hv hlen h0
      obtain ⟨c1, c2, _⟩ := prods (hv _ (nth_mem (l := l) (m := (i : Int)) (by omega))) v1
      exact cmp3_c (by omega)
    · obtain ⟨_, _, _, k1, k2⟩ := median_mid hv hlen h0
      exact ⟨k1, k2⟩
end Go.Proofs.YtnanempkkeokbaaDoor
