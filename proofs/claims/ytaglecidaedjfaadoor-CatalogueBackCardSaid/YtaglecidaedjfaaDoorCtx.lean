/- decimal.Format at one digit; catalogue.Text. -/
import Derived.Test.YtaglecidaedjfaaDoorDcm
import Derived.Test.YtaglecidaedjfaaDoorCat
set_option linter.unusedVariables false
set_option maxHeartbeats 4000000
namespace Go.Proofs.YtaglecidaedjfaaDoor
open Go.RowKit

theorem big_c {n : Int} (h : -999 ≤ n ∧ n ≤ 999) : Cont Tryd.prog 72 [.int .i64 n] (.bool false) := fun w => by
  refine enter0 Tryd.func72 rfl rfl rfl ?_
  repeat' (first
    | (refine nxV ?_)
    | (show RS _ _ _ _ _ _ _ _; first | (refine nxRS ?_) | (refine nxRS1 fun _ => ?_))
    | (show RM _ _ _ _ _ _ _ _ _ _; first | (refine nxRM ?_) | (refine nxRM1 fun _ => ?_))
    | (refine nxG ?_)
    | (refine nxX ?_)
    | (refine G.condN rfl (fun hc => ?_) (fun hc => ?_) <;> (try first | exact False.elim hc | (exfalso; omega))))
  exact X.ret (vs := [_]) rfl ⟨rfl, rfl⟩ rfl (fun w hw => ⟨ret_bool (by simp; omega), hw.ext⟩)
theorem Format_c {n : Int} (h : -999 ≤ n ∧ n ≤ 999) : Cont Tryd.prog 45 [.int .i64 n, .int .i64 1] (.tuple [strV (decL n), .int .i64 0].toArray) := fun w => by
  have q1 := big_c h
  have q2 := format_c h
  generalize decL n = l at q2
  refine enter0 Tryd.func45 rfl rfl rfl ?_
  repeat' (first
    | (show YK _ _ _ _ _ _ _; first | refine YK.mk (y_callA (q1) ⟨rfl, rfl⟩) ?_ | refine YK.mk (y_callA (q2) ⟨rfl, rfl, rfl⟩) ?_)
    | (show YK _ _ _ _ _ _ _; refine YK.ofV vAuto ?_)
    | (show VK _ _ _ _ _ _ _; refine VK.mk vAuto ?_)
    | (show RS _ _ _ _ _ _ _ _; first | (refine nxRS ?_) | (refine nxRS1 fun _ => ?_))
    | (show RM _ _ _ _ _ _ _ _ _ _; first | (refine nxRM ?_) | (refine nxRM1 fun _ => ?_))
    | (show YG _ _ _ _ _ _ _ _; refine YG.mk (fun hb => by (try (have hc := And.left hb; have hb := And.right hb; rw [hc])); (try rw [hb]); first | exact (y_callA (q1) ⟨rfl, rfl⟩) | exact (y_callA (q2) ⟨rfl, rfl, rfl⟩) | exact V.y vAuto) ?_)
    | (show VG _ _ _ _ _ _ _ _; refine VG.mk (fun hb => by (try (have hc := And.left hb; have hb := And.right hb; rw [hc])); (try rw [hb]); exact vAuto) ?_)
    | (refine nxX ?_)
    | (refine G.condN rfl (fun hc => ?_) (fun hc => ?_) <;> (try first | exact False.elim hc | (exfalso; omega))))
  exact X.ret (vs := [_, _]) rfl ⟨rfl, rfl, rfl⟩ rfl (fun w hw => ⟨rfl, hw.ext⟩)
theorem decL_len (n : Int) : (decL n).length ≤ 5 := by
  unfold decL decR
  split <;> split <;> simp
def lineS (s : StarT) : List UInt8 := s.1 ++ [32] ++ angL (100 * s.2.1) ++ [32] ++ angL (100 * s.2.2.1) ++ [32] ++ decL s.2.2.2 ++ [10]
def catT (l : List StarT) : Nat → List UInt8
  | 0 => []
  | k + 1 => catT l k ++ lineS (nth l (k : Int))
theorem ctext_c (v : Value) (l : List StarT) (hv : validS l = true) (hnm : ∀ i : Nat, i < l.length → (nth l (i : Int)).1.length ≤ 60) : ContIn Tryd.prog (fun w => LaidC w ∧ RO w v 4 l.length (l.flatMap cSt)) 19 [v] (.tuple [strV (catT l l.length), .int .i64 0].toArray) := fun w hw0 => by
  have hI := hw0.1
  have hl := (validS_t hv).1
  have pv := valid_c v l (by omega) (fun _ i hi => by have := hnm i hi; omega)
  rw [hv] at pv
  refine enter Tryd.func19 rfl rfl rfl (Hp := [Hl.rd v cSt 4 l]) (fun h hm => by
    rcases List.mem_singleton.1 hm with rfl
    exact ⟨⟨hw0.2, fun h => by cases h⟩, rfl⟩) ?_
  repeat' (first
    | (show YK _ _ _ _ _ _ _; first | refine YK.mk (y_callRA (pv) ⟨rfl, rfl⟩) ?_)
    | (show YK _ _ _ _ _ _ _; refine YK.ofV vAuto ?_)
    | (show VK _ _ _ _ _ _ _; refine VK.mk vAuto ?_)
    | (show RS _ _ _ _ _ _ _ _; first | (refine nxRS ?_) | (refine nxRS1 fun _ => ?_))
    | (show RM _ _ _ _ _ _ _ _ _ _; first | (refine nxRM ?_) | (refine nxRM1 fun _ => ?_))
    | (show YG _ _ _ _ _ _ _ _; refine YG.mk (fun hb => by (try (have hc := And.left hb; have hb := And.right hb; rw [hc])); (try rw [hb]); first | exact (y_callRA (pv) ⟨rfl, rfl⟩) | exact V.y vAuto) ?_)
    | (show VG _ _ _ _ _ _ _ _; refine VG.mk (fun hb => by (try (have hc := And.left hb; have hb := And.right hb; rw [hc])); (try rw [hb]); exact vAuto) ?_)
    | (refine nxX ?_)
    | (refine G.condN rfl (fun hc => ?_) (fun hc => ?_) <;> (try first | exact False.elim hc | (exfalso; omega))))
  rename_i b2
  refine G.loop (ι := Nat × Value × Sl) (fun x => [(4, pB b2), (16, v), (17, .int .i64 l.length), (18, .int .i64 (x.1 : Int))]) (fun x => [bldB b2 x.2.1 x.2.2, bldR x.2.2 (catT l x.1), Hl.rd v cSt 4 l]) (fun x => (x.1 ≤ l.length ∧ (catT l x.1).length ≤ 300 * x.1) ∧ (x.2.1 = .pointer none ∨ x.2.1 = pB b2)) (fun x => l.length - x.1) (0, .pointer none, ⟨none, 0, 0⟩) ⟨⟨Nat.zero_le _, Nat.zero_le _⟩, .inl rfl⟩ ⟨rfl, rfl, rfl, rfl, trivial⟩ (fun w h => St.front (.there .here) (h.nilRow 5 cU 1)) ?_
  rintro ⟨k, p, z⟩ mx ⟨⟨g1, g3⟩, g2⟩ hmx
  dsimp only at g1 g2 g3 hmx ⊢
  rcases Nat.lt_or_ge k l.length with hk | hk
  · have hnum := num_of hv hk
    have hn6 := hnm k hk
    have q1 := aText_c (n := 100 * (nth l (k : Int)).2.1) (by omega)
    have q2 := aText_c (n := 100 * (nth l (k : Int)).2.2.1) (by omega)
    have q3 := Format_c (n := (nth l (k : Int)).2.2.2) (by omega)
    have l1 := angL_len (n := 100 * (nth l (k : Int)).2.1) (by omega)
    have l2 := angL_len (n := 100 * (nth l (k : Int)).2.2.1) (by omega)
    have l3 := decL_len (nth l (k : Int)).2.2.2
    have hln : (lineS (nth l (k : Int))).length ≤ 300 := by simp only [lineS, List.length_append, List.length_singleton]; omega
    have qw := writeS_c b2 p g2 z (catT l k) (lineS (nth l (k : Int))) (by omega)
    have hs : catT l (k + 1) = catT l k ++ lineS (nth l (k : Int)) := rfl
    have hsl : (catT l (k + 1)).length ≤ 300 * (k + 1) := by rw [hs, List.length_append]; omega
    rw [← hs] at qw
    generalize catT l (k + 1) = cn at qw hsl hs
    unfold lineS at qw
    repeat' (first
    | (refine RS.callW qw ⟨rfl, rfl, rfl⟩ ?_; rintro z1 _; dsimp only [List.cons_append, List.nil_append])
    | (show YK _ _ _ _ _ _ _; first | refine YK.mk (y_callIn (q1) (fun _ hw => hI.keep hw.ext) ⟨rfl, rfl⟩ (by decide +kernel)) ?_ | refine YK.mk (y_callIn (q2) (fun _ hw => hI.keep hw.ext) ⟨rfl, rfl⟩ (by decide +kernel)) ?_ | refine YK.mk (y_callA (q3) ⟨rfl, rfl, rfl⟩) ?_)
    | (show YK _ _ _ _ _ _ _; refine YK.ofV vAuto ?_)
    | (show VK _ _ _ _ _ _ _; refine VK.mk vAuto ?_)
    | (show RS _ _ _ _ _ _ _ _; first | (refine nxRS ?_) | (refine nxRS1 fun _ => ?_))
    | (show RM _ _ _ _ _ _ _ _ _ _; first | (refine nxRM ?_) | (refine nxRM1 fun _ => ?_))
    | (show YG _ _ _ _ _ _ _ _; refine YG.mk (fun hb => by (try (have hc := And.left hb; have hb := And.right hb; rw [hc])); (try rw [hb]); first | exact (y_callIn (q1) (fun _ hw => hI.keep hw.ext) ⟨rfl, rfl⟩ (by decide +kernel)) | exact (y_callIn (q2) (fun _ hw => hI.keep hw.ext) ⟨rfl, rfl⟩ (by decide +kernel)) | exact (y_callA (q3) ⟨rfl, rfl, rfl⟩) | exact V.y vAuto) ?_)
    | (show VG _ _ _ _ _ _ _ _; refine VG.mk (fun hb => by (try (have hc := And.left hb; have hb := And.right hb; rw [hc])); (try rw [hb]); exact vAuto) ?_)
    | (refine nxVS ?_)
    | (refine nxGS ?_)
    | (refine nxX ?_)
    | (refine G.condN rfl (fun hc => ?_) (fun hc => ?_) <;> (try first | exact False.elim hc | (exfalso; omega))))
    refine X.again (k + 1, pB b2, z1) ⟨⟨by dsimp only; omega, by dsimp only; rw [← show cn = catT l (k + 1) from hs]; exact hsl⟩, .inr rfl⟩ (by dsimp only; omega) ⟨rfl, rfl, rfl, rfl, trivial⟩ (fun w h => ?_)
    dsimp only
    rw [← show cn = catT l (k + 1) from hs]
    exact h.sub (by repeat (first | exact List.Sublist.refl _ | apply List.Sublist.cons_cons | apply List.Sublist.cons))
  · obtain rfl : k = l.length := by omega
    repeat' (first
    | (refine RS.string ?_ g2 (List.Mem.head _) (List.Mem.tail _ (List.Mem.head _)) ⟨rfl, rfl⟩)
    | (refine nxV ?_)
    | (show RS _ _ _ _ _ _ _ _; first | (refine nxRS ?_) | (refine nxRS1 fun _ => ?_))
    | (show RM _ _ _ _ _ _ _ _ _ _; first | (refine nxRM ?_) | (refine nxRM1 fun _ => ?_))
    | (refine nxG ?_)
    | (refine nxX ?_)
    | (refine G.condN rfl (fun hc => ?_) (fun hc => ?_) <;> (try first | exact False.elim hc | (exfalso; omega))))
    exact X.ret (vs := [_, _]) rfl ⟨rfl, rfl, rfl⟩ rfl (fun w hw => ⟨rfl, hw.ext⟩)
end Go.Proofs.YtaglecidaedjfaaDoor
