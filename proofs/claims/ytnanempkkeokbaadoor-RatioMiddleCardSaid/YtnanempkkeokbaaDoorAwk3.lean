/- The awake of chapter 3 gives true. -/
import Derived.Test.YtnanempkkeokbaaDoorUniq3
import Derived.Test.YtnanempkkeokbaaDoorLaidT
set_option linter.unusedVariables false
set_option maxHeartbeats 4000000
namespace Go.Proofs.YtnanempkkeokbaaDoor
open Go.RowKit

section
variable {P : Program} {n : Nat} {L : FL} {w0 : World} {H : List Hl} {dd : Tmp} {ty : TypeId} {pos : String} {af : Array Edge} {gd : Option (Nat × Bool)} {t e : TypeId} {s bytes : Nat} {α : Type} {f : α → List Value} {l : List α}
/-- A slice literal whose elements are values of s cells. -/
theorem x_litS {parts : List (Nat × Operand)} {vs cs : List Value} {k : Nat} (ha : AE L (parts.map (·.2)) vs) (hi : parts.map (·.1) = List.range' 0 k) (hk : Nat.ble (k * s) 16777216 = true) (hk2 : Nat.ble k 16777216 = true) (hk0 : Nat.blt 0 (k * s) = true)
    (hfill : ∀ zs : List Value, zs.length = k * s → Instr.fill (fun i => some (i * s, s)) zs.toArray ((List.range' 0 k).zip vs) = some cs.toArray) (hcl : cs.length = k * s)
    (hc : cs = l.flatMap f) (hlk : l.length = k) (ht : rowTyB P t e s bytes = true) (hd : Nat.blt dd n = true) :
    EX P n L w0 H ⟨some dd, .buildSlice t k parts.toArray, ty, pos, af, gd⟩ (fun _ : Sl => True) (fun v' => (dd, v'.v) :: L) (fun v' => Hl.rw v'.v e f s l :: H) :=
  EX.of_run (fun a w hfr hw => by
    obtain ⟨i, z, hu1, hi1, hz1, hs, hby, hzs, h0⟩ := rowTyB_spec ht
    have hk' : k * s ≤ 16777216 := Nat.le_of_ble_eq_true hk
    have hk2 : k ≤ 16777216 := Nat.le_of_ble_eq_true hk2
    have hk3 : ¬ (16777216 < k * s) := by omega
    have hk4 : ¬ (k * s = 0) := by have := Nat.le_of_ble_eq_true hk0; omega
    have hparts : (Array.map (fun x => match x with | (i, x) => (i, a.eval x)) parts.toArray).toList = (List.range' 0 k).zip vs := by
      have := ha.map hfr
      subst this
      rw [← hi]
      simp only [List.map_toArray, List.toList_toArray]
      clear hc hi ha hfill
      induction parts with
      | nil => rfl
      | cons p r ih => simp [ih]
    have hrun : (Instr.buildSlice t k (Array.map (fun x => match x with | (i, x) => (i, a.eval x)) parts.toArray)).run P w = .ok (.slice (some ⟨w.heap.size, 0, none⟩) k k) (w.alloc (.cells cs.toArray e)) := by
      unfold Instr.buildSlice
      have hsz : (P.info? e).map (·.size) = some s := by simp [hi1, hs]
      have hzv : (zeroValue e).run P w = .ok z w := by simp [zeroValue, typeInfo, hi1, hz1]
      simp only [Sem.run_bind, run_underlying hu1, Result.andThen_ok, run_sizeOf_of hsz, hparts]
      have h5 := hfill ((Array.map (fun x => z.cells[x % z.cells.size]!) (Array.range (k * s))).toList) (by simp)
      simp only [Array.toArray_toList] at h5
      simp [hk3, hk4, hzv, h5, newRow]
    refine ⟨.slice (some ⟨w.heap.size, 0, none⟩) k k, w.alloc (.cells cs.toArray e), ⟨some ⟨w.heap.size, 0, none⟩, k, k⟩, by simp only [execOp, Sem.run_bind, hrun, Result.andThen_ok, Sem.run_pure], trivial, rfl, ?_⟩
    have h6 := hw.newRow e cs.toArray s k (by simp [hcl]) (by simp only [maxLen]; omega)
    subst hc
    rw [← hlk] at h6 ⊢
    exact h6) hd
end
theorem text3_c {a b : Int} (hv : validF a b = true) (hb : b ≠ 1) : ContIn Tryd.prog LaidT 42 [fracV a b] (.tuple [strV (Lib.itoa a ++ ([47] ++ Lib.itoa b)), .int .i64 0].toArray) := fun w hI => by
  have g := validF_bd hv
  have h1 := rvalid_c (n := a) (d := b) (by omega)
  rw [hv] at h1
  have h2 := itoaT_c (n := a) (by omega)
  have h3 := itoaT_c (n := b) (by omega)
  have l2 := itoa_len (n := a) (by omega)
  have l3 := itoa_len (n := b) (by omega)
  generalize Lib.itoa a = x at h2 l2 ⊢
  generalize Lib.itoa b = y at h3 l3 ⊢
  refine enter0 Tryd.func42 rfl rfl rfl ?_
  repeat' (first
    | (show YK _ _ _ _ _ _ _; first | refine YK.mk (y_callA (h1) ⟨rfl, rfl⟩) ?_ | refine YK.mk (y_callIn (h2) (fun _ hw => hI.keep hw.ext) ⟨rfl, rfl⟩ (by decide +kernel)) ?_ | refine YK.mk (y_callIn (h3) (fun _ hw => hI.keep hw.ext) ⟨rfl, rfl⟩ (by decide +kernel)) ?_)
    | (show YK _ _ _ _ _ _ _; refine YK.ofV vAuto ?_)
    | (show VK _ _ _ _ _ _ _; refine VK.mk vAuto ?_)
    | (show RS _ _ _ _ _ _ _ _; first | (refine nxRS ?_) | (refine nxRS1 fun _ => ?_))
    | (show RM _ _ _ _ _ _ _ _ _ _; first | (refine nxRM ?_) | (refine nxRM1 fun _ => ?_))
    | (show YG _ _ _ _ _ _ _ _; refine YG.mk (fun hb => by (try (have hc := And.left hb; have hb := And.right hb; rw [hc])); (try rw [hb]); first | exact (y_callA (h1) ⟨rfl, rfl⟩) | exact (y_callIn (h2) (fun _ hw => hI.keep hw.ext) ⟨rfl, rfl⟩ (by decide +kernel)) | exact (y_callIn (h3) (fun _ hw => hI.keep hw.ext) ⟨rfl, rfl⟩ (by decide +kernel)) | exact V.y vAuto) ?_)
    | (show VG _ _ _ _ _ _ _ _; refine VG.mk (fun hb => by (try (have hc := And.left hb; have hb := And.right hb; rw [hc])); (try rw [hb]); exact vAuto) ?_)
    | (refine nxVS ?_)
    | (refine nxGS ?_)
    | (refine nxX ?_)
    | (refine G.condN rfl (fun hc => ?_) (fun hc => ?_) <;> (try first | exact False.elim hc | (exfalso; omega))))
  exact X.ret (vs := [_, _]) rfl ⟨rfl, rfl, rfl⟩ rfl (fun w hw => ⟨rfl, hw.ext⟩)
theorem RS.lit4F {P : Program} {ops : Array Oper} {Q : Exit → Act → World → Prop} {n : Nat} {L : FL} {w0 : World} {H : List Hl} {dd : Tmp} {ty : TypeId} {pos : String} {af : Array Edge} {t e : TypeId} {bytes : Nat} {x y z u : Operand} {a b c d : FrP} {rest : List Oper} (h : ∀ v' : Sl, RS P ops Q n ((dd, v'.v) :: L) w0 (Hl.rw v'.v e cF 2 [a, b, c, d] :: H) rest) (hx : evO L x = some (frV a) := by rfl) (hy : evO L y = some (frV b) := by rfl) (hz : evO L z = some (frV c) := by rfl) (hu : evO L u = some (frV d) := by rfl) [ht : RowTy P t e 2 bytes] (hd : Nat.blt dd n = true := by rfl) :
    RS P ops Q n L w0 H (⟨some dd, .buildSlice t 4 #[(0, x), (1, y), (2, z), (3, u)], ty, pos, af, none⟩ :: rest) := RS.actX rfl (x_litS (parts := [(0, x), (1, y), (2, z), (3, u)]) (vs := [frV a, frV b, frV c, frV d]) (cs := cF a ++ cF b ++ cF c ++ cF d) (f := cF) (l := [a, b, c, d]) ⟨hx, hy, hz, hu, rfl⟩ rfl rfl rfl rfl (fun zs hz => by
      match zs, hz with
      | [_, _, _, _, _, _, _, _], _ => rfl) rfl rfl rfl (rowTy_B ht.is) hd) fun v' _ => h v'
theorem v31 : validF 3 1 = true := by decide +kernel
theorem v12 : validF 1 2 = true := by decide +kernel
theorem v11 : validF 1 1 = true := by decide +kernel
theorem v21 : validF 2 1 = true := by decide +kernel
def z31 : VF := Subtype.mk ((3 : Int), (1 : Int)) v31
def z12 : VF := Subtype.mk ((1 : Int), (2 : Int)) v12
def z11 : VF := Subtype.mk ((1 : Int), (1 : Int)) v11
def z21 : VF := Subtype.mk ((2 : Int), (1 : Int)) v21
abbrev four : List FrP := [(3, 1), (1, 2), (1, 1), (2, 1)]
theorem four_sorted : sortedP [z31, z12, z11, z21] [z12, z11, z21, z31] := sorted_mk (List.perm_append_comm (l₁ := [z12, z11, z21]) (l₂ := [z31])) (by decide +kernel)
theorem four_sort (v : Value) : SortP v four [(1, 2), (1, 1), (2, 1), (3, 1)] := fun B => sortedF_s0 v B [z31, z12, z11, z21] [z12, z11, z21, z31] (by decide) (by decide) (fun ds h => sorted_uniq h four_sorted)
theorem four_J : allJ four := by
  intro i hi
  have : i = 0 ∨ i = 1 ∨ i = 2 ∨ i = 3 := by simp at hi; omega
  rcases this with rfl | rfl | rfl | rfl <;> decide +kernel
theorem four_list (v : Value) : ContR Tryd.prog [Hl.rd v cF 2 four] 50 [v] (.int .i64 0) := by
  have h := list_c v four (by decide) four_J
  rw [show listS four = 0 by decide +kernel] at h
  exact h
theorem four_mean (v : Value) : ContR Tryd.prog [Hl.rd v cF 2 four] 33 [v] (.tuple [fracV 13 8, .int .i64 0].toArray) := by
  have h := mean_c v four (by decide) four_J
  rw [show meanS four = ((13, 8), 0) by decide +kernel] at h
  exact h
theorem four_median (x : Sl) : ContR Tryd.prog [Hl.rd x.v cF 2 four] 32 [x.v] (.tuple [fracV 3 2, .int .i64 0].toArray) := by
  have q1 := Add_c (a := 1) (b := 1) (c := 2) (d := 1) (by decide)
  rw [show addF 1 1 2 1 = ((3, 1), 0) by decide +kernel] at q1
  have q2 := Div_c (a := 3) (b := 1) (c := 2) (d := 1) (by decide)
  rw [show divF 3 1 2 1 = ((3, 2), 0) by decide +kernel] at q2
  exact med_even x.a x.n x.c four [(1, 2), (1, 1), (2, 1), (3, 1)] 4 rfl (by decide) (four_list _) (four_sort _) (u := ((3, 1), 0)) (r := ((3, 2), 0)) q1 rfl q2
theorem awake3_c : ContIn Tryd.prog LaidT 12 [] (.bool true) := fun w hI => by
  have h1 := rmake_c (n := 6) (d := -4) (by decide)
  rw [show makeF 6 (-4) = ((-3, 2), 0) by decide +kernel] at h1
  have h2 := Floor_c (a := -3) (b := 2) (by decide)
  rw [show FloorF (-3) 2 = (-2, 0) by decide +kernel] at h2
  have h3 := Round_c (a := -3) (b := 2) (by decide)
  rw [show RoundF (-3) 2 = (-1, 0) by decide +kernel] at h3
  have h4 := text3_c (a := -3) (b := 2) (by decide +kernel) (by decide)
  rw [show Lib.itoa (-3) ++ ([47] ++ Lib.itoa 2) = [45, 51, 47, 50] by decide +kernel] at h4
  have h5 := Add_c (a := 1) (b := 2) (c := 1) (d := 3) (by decide)
  rw [show addF 1 2 1 3 = ((5, 6), 0) by decide +kernel] at h5
  have h6 := rmake_c (n := 1) (d := 1073741825) (by decide)
  rw [show makeF 1 1073741825 = ((0, 0), 5) by decide +kernel] at h6
  refine enter0 Tryd.func12 rfl rfl rfl ?_
  repeat' (first
    | (refine RS.lit4F (a := (3, 1)) (b := (1, 2)) (c := (1, 1)) (d := (2, 1)) (fun v' => ?_))
    | (show YK _ _ _ _ _ _ _; first | refine YK.mk (y_callA (h1) ⟨rfl, rfl, rfl⟩) ?_ | refine YK.mk (y_callA (h2) ⟨rfl, rfl⟩) ?_ | refine YK.mk (y_callA (h3) ⟨rfl, rfl⟩) ?_ | refine YK.mk (y_callIn (h4) (fun _ hw => hI.keep hw.ext) ⟨rfl, rfl⟩ (by decide +kernel)) ?_ | refine YK.mk (y_callA (h5) ⟨rfl, rfl, rfl⟩) ?_ | refine YK.mk (y_callA (h6) ⟨rfl, rfl, rfl⟩) ?_ | refine YK.mk (y_callRA (four_median _) ⟨rfl, rfl⟩) ?_ | refine YK.mk (y_callRA (four_mean _) ⟨rfl, rfl⟩) ?_)
    | (show YK _ _ _ _ _ _ _; refine YK.ofV vAuto ?_)
    | (show VK _ _ _ _ _ _ _; refine VK.mk vAuto ?_)
    | (show RS _ _ _ _ _ _ _ _; first | (refine nxRS ?_) | (refine nxRS1 fun _ => ?_))
    | (show RM _ _ _ _ _ _ _ _ _ _; first | (refine nxRM ?_) | (refine nxRM1 fun _ => ?_))
    | (show YG _ _ _ _ _ _ _ _; refine YG.mk (fun hb => by (try (have hc := And.left hb; have hb := And.right hb; rw [hc])); (try rw [hb]); first | exact (y_callA (h1) ⟨rfl, rfl, rfl⟩) | exact (y_callA (h2) ⟨rfl, rfl⟩) | exact (y_callA (h3) ⟨rfl, rfl⟩) | exact (y_callIn (h4) (fun _ hw => hI.keep hw.ext) ⟨rfl, rfl⟩ (by decide +kernel)) | exact (y_callA (h5) ⟨rfl, rfl, rfl⟩) | exact (y_callA (h6) ⟨rfl, rfl, rfl⟩) | exact (y_callRA (four_median _) ⟨rfl, rfl⟩) | exact (y_callRA (four_mean _) ⟨rfl, rfl⟩) | exact V.y vAuto) ?_)
    | (show VG _ _ _ _ _ _ _ _; refine VG.mk (fun hb => by (try (have hc := And.left hb; have hb := And.right hb; rw [hc])); (try rw [hb]); exact vAuto) ?_)
    | (refine nxVS ?_)
    | (refine nxGS ?_)
    | (refine nxX ?_)
    | (refine G.condN rfl (fun hc => ?_) (fun hc => ?_) <;> (try first | exact False.elim hc | (exfalso; omega))))
  refine X.ret (vs := [_]) rfl ⟨rfl, rfl⟩ rfl (fun w hw => ⟨ret_bool ?_, hw.ext⟩)
  simp [eqCells, vEq]
end Go.Proofs.YtnanempkkeokbaaDoor
