/- A slice literal of structs; the law's constants. -/
import Derived.Test.YtaglecidaedjfaaDoorBytes
set_option linter.unusedVariables false
set_option maxHeartbeats 4000000
namespace Go.Proofs.YtaglecidaedjfaaDoor
open Go.RowKit
section
variable {P : Program} {n : Nat} {L : FL} {w0 : World} {H : List Hl} {dd : Tmp} {ty : TypeId} {pos : String} {af : Array Edge} {gd : Option (Nat × Bool)} {t e : TypeId} {s bytes : Nat} {α : Type} {f : α → List Value} {l : List α}
/-- A slice literal whose elements are values of s cells. -/
theorem x_litS {parts : List (Nat × Operand)} {vs cs : List Value} {k : Nat} (ha : AE L (parts.map (·.2)) vs) (hi : parts.map (·.1) = List.range' 0 k) (hk : Nat.ble (k * s) 16777216 = true) (hk2 : Nat.ble k 16777216 = true) (hk0 : Nat.blt 0 (k * s) = true)
    (hfill : ∀ zs : List Value, zs.length = k * s → Instr.fill (fun i => some (i * s, s)) zs.toArray ((List.range' 0 k).zip vs) = some cs.toArray) (hcl : cs.length = k * s)
    (hc : cs = l.flatMap f) (hlk : l.length = k) (ht : rowTyB P t e s bytes = true) (hd : Nat.blt dd n = true) :
    EX P n L w0 H ⟨some dd, .buildSlice t k parts.toArray, ty, pos, af, gd⟩ (fun _ : Sl => True) (fun v' => (dd, v'.v) :: L) (fun v' => Hl.rw v'.v e f s l :: H) :=
  EX.of_run (fun a w hfr hw => by
    obtain ⟨i, z, hu1, hi1, hz1, hs, hby, hzs, h0⟩ := rowTyB_spec ht
    have hk' : k * s ≤ 16777216 := Nat.le_of_ble_eq_true hk
    have hk2 : k ≤ 16777216 := Nat.le_of_ble_eq_true hk2
    have hk3 : ¬ (16777216 < k * s) := by omega
    have hk4 : ¬ (k * s = 0) := by have := Nat.le_of_ble_eq_true hk0; omega
    have hparts : (Array.map (fun x => match x with | (i, x) => (i, a.eval x)) parts.toArray).toList = (List.range' 0 k).zip vs := by
      have := ha.map hfr
      subst this
      rw [← hi]
      simp only [List.map_toArray, List.toList_toArray]
      clear hc hi ha hfill
      induction parts with
      | nil => rfl
      | cons p r ih => simp [ih]
    have hrun : (Instr.buildSlice t k (Array.map (fun x => match x with | (i, x) => (i, a.eval x)) parts.toArray)).run P w = .ok (.slice (some ⟨w.heap.size, 0, none⟩) k k) (w.alloc (.cells cs.toArray e)) := by
      unfold Instr.buildSlice
      have hsz : (P.info? e).map (·.size) = some s := by simp [hi1, hs]
      have hzv : (zeroValue e).run P w = .ok z w := by simp [zeroValue, typeInfo, hi1, hz1]
      simp only [Sem.run_bind, run_underlying hu1, Result.andThen_ok, run_sizeOf_of hsz, hparts]
      have h5 := hfill ((Array.map (fun x => z.cells[x % z.cells.size]!) (Array.range (k * s))).toList) (by simp)
      simp only [Array.toArray_toList] at h5
      simp [hk3, hk4, hzv, h5, newRow]
    refine ⟨.slice (some ⟨w.heap.size, 0, none⟩) k k, w.alloc (.cells cs.toArray e), ⟨some ⟨w.heap.size, 0, none⟩, k, k⟩, by simp only [execOp, Sem.run_bind, hrun, Result.andThen_ok, Sem.run_pure], trivial, rfl, ?_⟩
    have h6 := hw.newRow e cs.toArray s k (by simp [hcl]) (by simp only [maxLen]; omega)
    subst hc
    rw [← hlk] at h6 ⊢
    exact h6) hd
end
end Go.Proofs.YtaglecidaedjfaaDoor
