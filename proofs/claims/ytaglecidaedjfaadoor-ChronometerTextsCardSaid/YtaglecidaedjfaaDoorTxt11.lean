/- Text of chapter 11, the program's and the reference's; read back; slices.Equal at comparisons. -/
import Derived.Test.YtaglecidaedjfaaDoorPar11
import Derived.Test.YtaglecidaedjfaaDoorBld
set_option linter.unusedVariables false
set_option maxHeartbeats 4000000
namespace Go.Proofs.YtaglecidaedjfaaDoor
open Go.RowKit Go.Shelf
attribute [local go_sem] Oper.semAt_some

theorem RM.callW {P : Program} {n : Nat} {L : FL} {w0 : World} {H HS : List Hl} {Q : Exit → Act → World → Prop} {ops : Array Oper} {ord : List Mv} {dd i : Nat} {ty : TypeId} {pos : String} {af : Array Edge} {ι : Type} {X1 X2 : Hl} {A B A' B' : List Hl} {f : FuncId} {xs : List Operand} {vs : List Value} {tys : Array TypeId} {post : ι → Prop} {v : ι → Value} {Y : ι → List Hl} (hc : ContW P X1 X2 f vs post v Y)
    (h : ∀ z, post z → RM P ops Q HS n [] ((dd, v z) :: L) w0 (Y z ++ (A' ++ B')) ord) (ho : ops[i]? = some ⟨some dd, .call { callee := .value (.func f), args := xs.toArray, argTypes := tys }, ty, pos, af, none⟩ := by rfl) (ha : AE L xs vs := by exact ⟨rfl, rfl, rfl⟩)
    (hA : At X2 A B H := by first | exact .here | exact .there .here | exact .there (.there .here) | exact .there (.there (.there .here)) | exact .there (.there (.there (.there .here))))
    (hA2 : At X1 A' B' (A ++ B) := by first | exact .here | exact .there .here | exact .there (.there .here) | exact .there (.there (.there .here)) | exact .there (.there (.there (.there .here))))
    (hl : ∀ z w, St w0 (Y z ++ (A' ++ B')) w → St w0 HS w := by exact fun _ w h => h.sub (by repeat (first | exact List.Sublist.refl _ | apply List.Sublist.cons_cons | apply List.Sublist.cons))) (hg : isGo P f = true := by decide +kernel) (hd : Nat.blt dd n = true := by rfl) : RM P ops Q HS n [] L w0 H (.go i :: ord) :=
  RM.actX ho rfl rfl (x_callW hc ha hA hA2 hg hd) (.inl hl) h
theorem blen_c (b : Nat) (v : Value) (l : List UInt8) : ContIn Tryd.prog (fun w => w.cell? ⟨b, 1, none⟩ = some v ∧ RO w v 1 l.length (l.flatMap cU)) 58 [pB b] (.int .i64 l.length) := fun w ⟨h1, h2⟩ => by
  obtain ⟨_, A, c, rfl, _⟩ := h2
  refine (callsIn_wide (n := 2)).1 ?_
  refine callsIn_of_wp Tryd.func58 rfl trivial ?_ rfl
  simp only [Tryd.ntmps58, List.size_toArray, List.length_cons, List.length_nil, Nat.reduceAdd, Nat.reduceSub, Array.replicate_succ, Array.replicate_zero, List.push_toArray, List.append_toArray, List.nil_append, List.cons_append]
  gi_wp2
  go_ret
  exact ⟨rfl, Below.refl _ _⟩
def lineK (c : Chk) : List UInt8 := Lib.itoa c.face ++ [32] ++ Lib.itoa c.ut ++ [32] ++ Lib.itoa c.within ++ [10]
def txC (l : List Chk) : Nat → List UInt8
  | 0 => []
  | k + 1 => txC l k ++ lineK (nth l (k : Int))
theorem valid_rng {l : List Chk} (h : validC l = true) {k : Nat} (hk : k < l.length) : (-70368744177664 ≤ (nth l (k : Int)).face ∧ (nth l (k : Int)).face ≤ 70368744177664) ∧ (-70368744177664 ≤ (nth l (k : Int)).ut ∧ (nth l (k : Int)).ut ≤ 70368744177664) ∧ 0 ≤ (nth l (k : Int)).within ∧ (nth l (k : Int)).within ≤ 86400000 := by
  have := (validC_iff.1 h).2 (k : Int) (by omega) (by omega)
  simp only [okB, Bool.and_eq_true, decide_eq_true_eq, timeB_iff] at this
  omega
theorem lineK_len {c : Chk} (h1 : I64 c.face) (h2 : I64 c.ut) (h3 : I64 c.within) : (lineK c).length ≤ 70 := by
  have l1 := itoa_len h1
  have l2 := itoa_len h2
  have l3 := itoa_len h3
  simp only [lineK, List.length_append, List.length_singleton]; omega
theorem txC_len {l : List Chk} (h : validC l = true) : ∀ k : Nat, k ≤ l.length → (txC l k).length ≤ 70 * k
  | 0, _ => by simp [txC]
  | k + 1, hk => by
    have ih := txC_len h k (by omega)
    have hr := valid_rng h (k := k) (by omega)
    have hl := lineK_len (c := nth l (k : Int)) (by unfold I64; omega) (by unfold I64; omega) (by unfold I64; omega)
    rw [show txC l (k + 1) = txC l k ++ lineK (nth l (k : Int)) from rfl, List.length_append]; omega
theorem ctx_no {v : Value} {l : List Chk} (pv : ContR Tryd.prog [Hl.rd v cC 3 l] 55 [v] (.bool false)) : ContR Tryd.prog [Hl.rd v cC 3 l] 27 [v] (.tuple [strV [], .int .i64 1].toArray) := fun w hw0 => by
  refine enter Tryd.func27 rfl rfl rfl hw0 ?_
  repeat' (first
    | (show YK _ _ _ _ _ _ _; first | refine YK.mk (y_callRA (pv) ⟨rfl, rfl⟩) ?_)
    | (show YK _ _ _ _ _ _ _; refine YK.ofV vAuto ?_)
    | (show VK _ _ _ _ _ _ _; refine VK.mk vAuto ?_)
    | (show RS _ _ _ _ _ _ _ _; first | (refine nxRS ?_) | (refine nxRS1 fun _ => ?_))
    | (show RM _ _ _ _ _ _ _ _ _ _; first | (refine nxRM ?_) | (refine nxRM1 fun _ => ?_))
    | (show YG _ _ _ _ _ _ _ _; refine YG.mk (fun hb => by (try (have hc := And.left hb; have hb := And.right hb; rw [hc])); (try rw [hb]); first | exact (y_callRA (pv) ⟨rfl, rfl⟩) | exact V.y vAuto) ?_)
    | (show VG _ _ _ _ _ _ _ _; refine VG.mk (fun hb => by (try (have hc := And.left hb; have hb := And.right hb; rw [hc])); (try rw [hb]); exact vAuto) ?_)
    | (refine nxVS ?_)
    | (refine nxGS ?_)
    | (refine G.mixedA 7 [.go 0, .go 1, .go 4, .go 5, .go 9, .go 10, .go 2, .go 3, .go 6, .go 7, .go 8, .go 11, .go 12, .go 13, .go 14] ?_)
    | (refine nxX ?_)
    | (refine G.condN rfl (fun hc => ?_) (fun hc => ?_) <;> (try first | exact False.elim hc | (exfalso; omega))))
  exact X.ret (vs := [_, _]) rfl ⟨rfl, rfl, rfl⟩ rfl (fun w hw => ⟨rfl, hw.ext⟩)
theorem ctx_c {v : Value} {l : List Chk} (hv : validC l = true) (hl40 : l.length ≤ 900) (pv : ContR Tryd.prog [Hl.rd v cC 3 l] 55 [v] (.bool true)) : ContIn Tryd.prog (fun w => Laid w ∧ RO w v 3 l.length (l.flatMap cC)) 27 [v] (.tuple [strV (txC l l.length), .int .i64 0].toArray) := fun w hw0 => by
  have hI := hw0.1
  have htl := txC_len hv l.length (Nat.le_refl _)
  refine enter Tryd.func27 rfl rfl rfl (Hp := [Hl.rd v cC 3 l]) (fun h hm => by
    rcases List.mem_singleton.1 hm with rfl
    exact ⟨⟨hw0.2, fun h => by cases h⟩, rfl⟩) ?_
  repeat' (first
    | (show YK _ _ _ _ _ _ _; first | refine YK.mk (y_callRA (pv) ⟨rfl, rfl⟩) ?_)
    | (show YK _ _ _ _ _ _ _; refine YK.ofV vAuto ?_)
    | (show VK _ _ _ _ _ _ _; refine VK.mk vAuto ?_)
    | (show RS _ _ _ _ _ _ _ _; first | (refine nxRS ?_) | (refine nxRS1 fun _ => ?_))
    | (show RM _ _ _ _ _ _ _ _ _ _; first | (refine nxRM ?_) | (refine nxRM1 fun _ => ?_))
    | (show YG _ _ _ _ _ _ _ _; refine YG.mk (fun hb => by (try (have hc := And.left hb; have hb := And.right hb; rw [hc])); (try rw [hb]); first | exact (y_callRA (pv) ⟨rfl, rfl⟩) | exact V.y vAuto) ?_)
    | (show VG _ _ _ _ _ _ _ _; refine VG.mk (fun hb => by (try (have hc := And.left hb; have hb := And.right hb; rw [hc])); (try rw [hb]); exact vAuto) ?_)
    | (refine G.mixedA 7 [.go 0, .go 1, .go 4, .go 5, .go 9, .go 10, .go 2, .go 3, .go 6, .go 7, .go 8, .go 11, .go 12, .go 13, .go 14] ?_)
    | (refine nxX ?_)
    | (refine G.condN rfl (fun hc => ?_) (fun hc => ?_) <;> (try first | exact False.elim hc | (exfalso; omega))))
  rename_i b2
  refine G.loop (ι := Nat × Value × Sl) (fun x => [(4, pB b2), (10, v), (11, .int .i64 l.length), (12, .int .i64 (x.1 : Int))]) (fun x => [bldB b2 x.2.1 x.2.2, bldR x.2.2 (txC l x.1), Hl.rd v cC 3 l]) (fun x => (x.1 ≤ l.length ∧ (txC l x.1).length ≤ 70 * x.1) ∧ (x.2.1 = .pointer none ∨ x.2.1 = pB b2)) (fun x => l.length - x.1) (0, .pointer none, ⟨none, 0, 0⟩) ⟨⟨Nat.zero_le _, Nat.zero_le _⟩, .inl rfl⟩ ⟨rfl, rfl, rfl, rfl, trivial⟩ (fun w h => St.front (.there .here) (h.nilRow 5 cU 1)) ?_
  rintro ⟨k, p, z⟩ mx ⟨⟨g1, g3⟩, g2⟩ hmx
  dsimp only at g1 g2 g3 hmx ⊢
  rcases Nat.lt_or_ge k l.length with hk | hk
  · have hr := valid_rng hv hk
    have i1 : I64 (nth l (k : Int)).face := by unfold I64; omega
    have i2 : I64 (nth l (k : Int)).ut := by unfold I64; omega
    have i3 : I64 (nth l (k : Int)).within := by unfold I64; omega
    have q1 := itoa_c i1
    have q2 := itoa_c i2
    have q3 := itoa_c i3
    have l1 := itoa_len i1
    have l2 := itoa_len i2
    have l3 := itoa_len i3
    have hln := lineK_len i1 i2 i3
    have qw := writeS_c b2 p g2 z (txC l k) (lineK (nth l (k : Int))) (by omega)
    have hs : txC l (k + 1) = txC l k ++ lineK (nth l (k : Int)) := rfl
    have hsl : (txC l (k + 1)).length ≤ 70 * (k + 1) := by rw [hs, List.length_append]; omega
    rw [← hs] at qw
    generalize txC l (k + 1) = cn at qw hsl hs
    unfold lineK at qw
    repeat' (first
    | (refine RM.callW qw ?_; rintro z1 _; dsimp only [List.cons_append, List.nil_append])
    | (refine G.mixedM 7 [.go 0, .go 1, .go 4, .go 5, .go 9, .go 10, .go 2, .go 3, .go 6, .go 7, .go 8, .go 11, .go 12, .go 13, .go 14] [true, false, false, true] ?_; dsimp only [maskH])
    | (show YK _ _ _ _ _ _ _; first | refine YK.mk (y_callIn (q1) (fun _ hw => hI.keep hw.ext) ⟨rfl, rfl⟩ (by decide +kernel)) ?_ | refine YK.mk (y_callIn (q2) (fun _ hw => hI.keep hw.ext) ⟨rfl, rfl⟩ (by decide +kernel)) ?_ | refine YK.mk (y_callIn (q3) (fun _ hw => hI.keep hw.ext) ⟨rfl, rfl⟩ (by decide +kernel)) ?_)
    | (show YK _ _ _ _ _ _ _; refine YK.ofV vAuto ?_)
    | (show VK _ _ _ _ _ _ _; refine VK.mk vAuto ?_)
    | (show RS _ _ _ _ _ _ _ _; first | (refine nxRS ?_) | (refine nxRS1 fun _ => ?_))
    | (show RM _ _ _ _ _ _ _ _ _ _; first | (refine nxRM ?_) | (refine nxRM1 fun _ => ?_))
    | (show YG _ _ _ _ _ _ _ _; refine YG.mk (fun hb => by (try (have hc := And.left hb; have hb := And.right hb; rw [hc])); (try rw [hb]); first | exact (y_callIn (q1) (fun _ hw => hI.keep hw.ext) ⟨rfl, rfl⟩ (by decide +kernel)) | exact (y_callIn (q2) (fun _ hw => hI.keep hw.ext) ⟨rfl, rfl⟩ (by decide +kernel)) | exact (y_callIn (q3) (fun _ hw => hI.keep hw.ext) ⟨rfl, rfl⟩ (by decide +kernel)) | exact V.y vAuto) ?_)
    | (show VG _ _ _ _ _ _ _ _; refine VG.mk (fun hb => by (try (have hc := And.left hb; have hb := And.right hb; rw [hc])); (try rw [hb]); exact vAuto) ?_)
    | (refine nxVS ?_)
    | (refine nxGS ?_)
    | (refine nxX ?_)
    | (refine G.condN rfl (fun hc => ?_) (fun hc => ?_) <;> (try first | exact False.elim hc | (exfalso; omega))))
    refine X.again (k + 1, pB b2, z1) ⟨⟨by dsimp only; omega, by dsimp only; rw [← show cn = txC l (k + 1) from hs]; exact hsl⟩, .inr rfl⟩ (by dsimp only; omega) ⟨rfl, rfl, rfl, rfl, trivial⟩ (fun w h => ?_)
    dsimp only
    rw [← show cn = txC l (k + 1) from hs]
    exact h.sub (by repeat (first | exact List.Sublist.refl _ | apply List.Sublist.cons_cons | apply List.Sublist.cons))
  · obtain rfl : k = l.length := by omega
    have qn := blen_c b2 z.v (txC l l.length)
    repeat' (first
    | (refine YK.mk (y_callIn (xs := [.tmp 4]) qn (fun w hw => ⟨(hw.cell (List.Mem.head _) 1).trans rfl, RO.of_row (hw.all _ (List.Mem.tail _ (List.Mem.head _)))⟩) ⟨rfl, rfl⟩ (by decide +kernel)) ?_)
    | (refine RS.string ?_ g2 (List.Mem.head _) (List.Mem.tail _ (List.Mem.head _)) ⟨rfl, rfl⟩)
    | (refine nxV ?_)
    | (show RS _ _ _ _ _ _ _ _; first | (refine nxRS ?_) | (refine nxRS1 fun _ => ?_))
    | (show RM _ _ _ _ _ _ _ _ _ _; first | (refine nxRM ?_) | (refine nxRM1 fun _ => ?_))
    | (refine nxG ?_)
    | (refine G.mixedA 7 [.go 0, .go 1, .go 4, .go 5, .go 9, .go 10, .go 2, .go 3, .go 6, .go 7, .go 8, .go 11, .go 12, .go 13, .go 14] ?_)
    | (refine nxX ?_)
    | (refine G.condN rfl (fun hc => ?_) (fun hc => ?_) <;> (try first | exact False.elim hc | (exfalso; omega))))
    exact X.ret (vs := [_, _]) rfl ⟨rfl, rfl, rfl⟩ rfl (fun w hw => ⟨rfl, hw.ext⟩)
theorem rtx_c {v : Value} {l : List Chk} (hv : validC l = true) (hl40 : l.length ≤ 900) : ContR Tryd.prog [Hl.rd v cC 3 l] 29 [v] (strV (txC l l.length)) := fun w hw0 => by
  refine enter Tryd.func29 rfl rfl rfl hw0 ?_
  repeat' (first
    | (refine nxV ?_)
    | (show RS _ _ _ _ _ _ _ _; first | (refine nxRS ?_) | (refine nxRS1 fun _ => ?_))
    | (show RM _ _ _ _ _ _ _ _ _ _; first | (refine nxRM ?_) | (refine nxRM1 fun _ => ?_))
    | (refine nxG ?_)
    | (refine nxVS ?_)
    | (refine nxGS ?_)
    | (refine G.mixedA 5 [.go 0, .go 1, .go 2, .go 3, .go 4, .go 5, .go 9, .go 10, .go 11, .go 12, .go 13, .go 17, .go 18, .go 19, .go 20, .go 21, .go 6, .go 7, .go 8, .go 14, .go 15, .go 16, .go 22, .go 23, .go 24, .go 25] ?_)
    | (refine nxX ?_)
    | (refine G.condN rfl (fun hc => ?_) (fun hc => ?_) <;> (try first | exact False.elim hc | (exfalso; omega))))
  refine G.loop (ι := Nat) (fun k => [(0, v), (3, strV (txC l k)), (4, .int .i64 (k : Int))]) (fun _ => [Hl.rd v cC 3 l]) (fun k => k ≤ l.length ∧ (txC l k).length ≤ 70 * k) (fun k => l.length - k) 0 ⟨Nat.zero_le _, Nat.zero_le _⟩ ⟨rfl, rfl, rfl, trivial⟩ (fun w h => h) ?_
  rintro k mx ⟨g1, g3⟩ hmx
  rcases Nat.lt_or_ge k l.length with hk | hk
  · have hr := valid_rng hv hk
    have i1 : I64 (nth l (k : Int)).face := by unfold I64; omega
    have i2 : I64 (nth l (k : Int)).ut := by unfold I64; omega
    have i3 : I64 (nth l (k : Int)).within := by unfold I64; omega
    have q1 := decimal_c i1
    have q2 := decimal_c i2
    have q3 := decimal_c i3
    have l1 := itoa_len i1
    have l2 := itoa_len i2
    have l3 := itoa_len i3
    have hln := lineK_len i1 i2 i3
    have hs : txC l (k + 1) = txC l k ++ lineK (nth l (k : Int)) := rfl
    have hsl : (txC l (k + 1)).length ≤ 70 * (k + 1) := by rw [hs, List.length_append]; omega
    unfold lineK at hs
    generalize hcn : txC l (k + 1) = cn at hs hsl
    generalize txC l k = c0 at g3 hs
    generalize Lib.itoa (nth l (k : Int)).face = y1 at q1 l1 hs
    generalize Lib.itoa (nth l (k : Int)).ut = y2 at q2 l2 hs
    generalize Lib.itoa (nth l (k : Int)).within = y3 at q3 l3 hs
    clear hln hr hv i1 i2 i3
    have hs2 : cn = c0 ++ y1 ++ [32] ++ y2 ++ [32] ++ y3 ++ [10] := by rw [hs]; simp only [List.append_assoc]
    clear hs
    repeat' (first
    | (show YK _ _ _ _ _ _ _; first | refine YK.mk (y_callA (q1) ⟨rfl, rfl⟩) ?_ | refine YK.mk (y_callA (q2) ⟨rfl, rfl⟩) ?_ | refine YK.mk (y_callA (q3) ⟨rfl, rfl⟩) ?_)
    | (show YK _ _ _ _ _ _ _; refine YK.ofV vAuto ?_)
    | (show VK _ _ _ _ _ _ _; refine VK.mk vAuto ?_)
    | (show RS _ _ _ _ _ _ _ _; first | (refine nxRS ?_) | (refine nxRS1 fun _ => ?_))
    | (show RM _ _ _ _ _ _ _ _ _ _; first | (refine nxRM ?_) | (refine nxRM1 fun _ => ?_))
    | (show YG _ _ _ _ _ _ _ _; refine YG.mk (fun hb => by (try (have hc := And.left hb; have hb := And.right hb; rw [hc])); (try rw [hb]); first | exact (y_callA (q1) ⟨rfl, rfl⟩) | exact (y_callA (q2) ⟨rfl, rfl⟩) | exact (y_callA (q3) ⟨rfl, rfl⟩) | exact V.y vAuto) ?_)
    | (show VG _ _ _ _ _ _ _ _; refine VG.mk (fun hb => by (try (have hc := And.left hb; have hb := And.right hb; rw [hc])); (try rw [hb]); exact vAuto) ?_)
    | (refine nxVS ?_)
    | (refine nxGS ?_)
    | (refine G.mixedA 5 [.go 0, .go 1, .go 2, .go 3, .go 4, .go 5, .go 9, .go 10, .go 11, .go 12, .go 13, .go 17, .go 18, .go 19, .go 20, .go 21, .go 6, .go 7, .go 8, .go 14, .go 15, .go 16, .go 22, .go 23, .go 24, .go 25] ?_)
    | (refine nxX ?_)
    | (refine G.condN rfl (fun hc => ?_) (fun hc => ?_) <;> (try first | exact False.elim hc | (exfalso; omega))))
    exact X.again (k + 1) ⟨by omega, by rw [hcn]; exact hsl⟩ (by omega) ⟨rfl, by rw [hcn, hs2]; rfl, rfl, trivial⟩ (fun w h => h)
  · obtain rfl : k = l.length := by omega
    repeat' (first
    | (refine nxV ?_)
    | (show RS _ _ _ _ _ _ _ _; first | (refine nxRS ?_) | (refine nxRS1 fun _ => ?_))
    | (show RM _ _ _ _ _ _ _ _ _ _; first | (refine nxRM ?_) | (refine nxRM1 fun _ => ?_))
    | (refine nxG ?_)
    | (refine nxVS ?_)
    | (refine nxGS ?_)
    | (refine G.mixedA 5 [.go 0, .go 1, .go 2, .go 3, .go 4, .go 5, .go 9, .go 10, .go 11, .go 12, .go 13, .go 17, .go 18, .go 19, .go 20, .go 21, .go 6, .go 7, .go 8, .go 14, .go 15, .go 16, .go 22, .go 23, .go 24, .go 25] ?_)
    | (refine nxX ?_)
    | (refine G.condN rfl (fun hc => ?_) (fun hc => ?_) <;> (try first | exact False.elim hc | (exfalso; omega))))
    exact X.ret (vs := [_]) rfl ⟨rfl, rfl⟩ rfl (fun w hw => ⟨rfl, hw.ext⟩)
theorem eqK_c (v u : Value) (l : List Chk) (hl : l.length ≤ 1000000) : ContR Tryd.prog [Hl.rd v cC 3 l, Hl.rd u cC 3 l] 26 [v, u] (.bool true) := fun w hw0 => by
  refine enter Tryd.func26 rfl rfl rfl hw0 ?_
  repeat' (first
    | (refine nxV ?_)
    | (show RS _ _ _ _ _ _ _ _; first | (refine nxRS ?_) | (refine nxRS1 fun _ => ?_))
    | (show RM _ _ _ _ _ _ _ _ _ _; first | (refine nxRM ?_) | (refine nxRM1 fun _ => ?_))
    | (refine nxG ?_)
    | (refine G.mixedA 6 [.go 0, .go 1, .go 2, .go 3, .go 4, .go 5, .go 6, .go 7, .go 8] ?_)
    | (refine nxX ?_)
    | (refine G.condN rfl (fun hc => ?_) (fun hc => ?_) <;> (try first | exact False.elim hc | (exfalso; omega))))
  refine G.loop (ι := Nat) (fun i => [(0, v), (1, u), (11, v), (12, .int .i64 l.length), (13, .int .i64 (i : Int))]) (fun _ => [Hl.rd v cC 3 l, Hl.rd u cC 3 l]) (fun i => i ≤ l.length) (fun i => l.length - i) 0 (by omega) ⟨rfl, rfl, rfl, rfl, rfl, trivial⟩ (fun w h => h) ?_
  rintro i mx g1 hmx
  rcases Nat.lt_or_ge i l.length with hi | hi
  · repeat' (first
    | (refine nxV ?_)
    | (show RS _ _ _ _ _ _ _ _; first | (refine nxRS ?_) | (refine nxRS1 fun _ => ?_))
    | (show RM _ _ _ _ _ _ _ _ _ _; first | (refine nxRM ?_) | (refine nxRM1 fun _ => ?_))
    | (refine nxG ?_)
    | (refine nxVS ?_)
    | (refine nxGS ?_)
    | (refine G.mixedA 6 [.go 0, .go 1, .go 2, .go 3, .go 4, .go 5, .go 6, .go 7, .go 8] ?_)
    | (refine nxX ?_)
    | (refine G.condN rfl (fun hc => ?_) (fun hc => ?_) <;> (try first | exact False.elim hc | (exfalso; omega))))
    exact X.again (i + 1) (by omega) (by omega) ⟨rfl, rfl, rfl, rfl, rfl, trivial⟩ (by exact fun w h => h.sub (by repeat (first | exact List.Sublist.refl _ | apply List.Sublist.cons_cons | apply List.Sublist.cons)))
  · repeat' (first
    | (refine nxV ?_)
    | (show RS _ _ _ _ _ _ _ _; first | (refine nxRS ?_) | (refine nxRS1 fun _ => ?_))
    | (show RM _ _ _ _ _ _ _ _ _ _; first | (refine nxRM ?_) | (refine nxRM1 fun _ => ?_))
    | (refine nxG ?_)
    | (refine G.mixedA 6 [.go 0, .go 1, .go 2, .go 3, .go 4, .go 5, .go 6, .go 7, .go 8] ?_)
    | (refine nxX ?_)
    | (refine G.condN rfl (fun hc => ?_) (fun hc => ?_) <;> (try first | exact False.elim hc | (exfalso; omega))))
    exact X.ret (vs := [_]) rfl ⟨rfl, rfl⟩ rfl (fun w hw => ⟨rfl, hw.ext⟩)
/-! ### Texts are read back -/
def lineB (c : Chk) : List UInt8 := Lib.itoa c.face ++ 32 :: (Lib.itoa c.ut ++ 32 :: Lib.itoa c.within)
theorem lineK_eq (c : Chk) (r : List UInt8) : lineK c ++ r = lineB c ++ 10 :: r := by simp [lineK, lineB]
theorem lineB_no (c : Chk) : (10 : UInt8) ∉ lineB c := by
  have h : ∀ n : Int, (10 : UInt8) ∉ Lib.itoa n := fun n => itoa_not (by decide) (by decide)
  simp only [lineB, List.mem_append, List.mem_cons, not_or]
  exact ⟨h _, by decide, h _, by decide, h _⟩
theorem lineP_B {c : Chk} (h1 : I64 c.face) (h2 : I64 c.ut) (h3 : I64 c.within) : lineP (lineB c) = ((c.face, c.ut, c.within), true) := by
  have h : ∀ n : Int, (32 : UInt8) ∉ Lib.itoa n := fun n => itoa_not (by decide) (by decide)
  refine lineP_ok ?_
  unfold lineB
  rw [split_atB _ (h _), split_atB _ (h _), split_notB (h _)]
  simp only [List.map_cons, List.map_nil]
  rw [intW_iff.2 ⟨h1, rfl⟩, intW_iff.2 ⟨h2, rfl⟩, intW_iff.2 ⟨h3, rfl⟩]
theorem txC_take (l : List Chk) : ∀ k : Nat, k ≤ l.length → txC l k = (l.take k).flatMap lineK
  | 0, _ => by simp [txC]
  | k + 1, h => by
    have e : l.take (k + 1) = l.take k ++ [nth l (k : Int)] := by
      have e := nth_some (l := l) (m := (k : Int)) (by omega) (by omega)
      rw [Int.toNat_natCast] at e
      rw [List.take_add_one, e]; rfl
    rw [e, List.flatMap_append, ← txC_take l k (by omega)]
    simp [txC]
theorem reads_go {l : List Chk} (hv : validC l = true) (hg : ∀ c ∈ l, I64 c.face ∧ I64 c.ut ∧ I64 c.within) : ∀ (r out : List Chk), l = out ++ r → ReadsC out (r.flatMap lineK) l (0, 0) 0
  | [], out, e => by
    rw [List.append_nil] at e
    subst e
    exact .done hv
  | c :: r, out, e => by
    have hs := hg c (by rw [e]; simp)
    rw [List.flatMap_cons, lineK_eq]
    have hc := cut_at (r.flatMap lineK) (lineB_no c)
    have hl : (lineP (lineB c)).2 = true ∧ lineC (lineB c) = c := by
      rw [lineC, lineP_B hs.1 hs.2.1 hs.2.2]; exact ⟨rfl, rfl⟩
    refine .next (by simp) (by rw [hc]) (by rw [hc]; exact hl.1) ?_
    rw [hc]
    dsimp only
    rw [hl.2]
    exact reads_go hv hg r (out ++ [c]) (by rw [e]; simp)
theorem reads_tx {l : List Chk} (hv : validC l = true) : ReadsC [] (txC l l.length) l (0, 0) 0 := by
  rw [txC_take l _ (Nat.le_refl _), List.take_length]
  refine reads_go hv (fun c hc => ?_) l [] rfl
  obtain ⟨i, hi, e⟩ := List.getElem_of_mem hc
  have hn : nth l (i : Int) = c := by
    have e2 := nth_some (l := l) (m := (i : Int)) (by omega) (by omega)
    rw [Int.toNat_natCast, List.getElem?_eq_getElem hi, e] at e2
    exact (Option.some.inj e2).symm
  have hr := valid_rng hv hi
  rw [hn] at hr
  unfold I64
  omega
end Go.Proofs.YtaglecidaedjfaaDoor
