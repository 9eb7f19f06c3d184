/- Slices of bytes that the call makes, stored into, and made a string. -/
import Derived.Test.YtaglecidaedjfaaDoorStr
import Derived.Laws.BytesString
set_option linter.unusedVariables false
set_option maxHeartbeats 4000000
namespace Go.Proofs.YtaglecidaedjfaaDoor
open Go.RowKit

abbrev cB (x : Int) : List Value := [.int .u8 x]
section
variable {P : Program} {n : Nat} {L : FL} {w0 : World} {H : List Hl} {Q : Exit → Act → World → Prop} {ops : Array Oper} {rest : List Oper} {d : Option Tmp} {dd : Nat} {ty : TypeId} {pos : String} {af : Array Edge} {g : Option (Nat × Bool)} {x y : Operand} {t t' e : TypeId} {v : Value} {k : IntKind} {m : Int} {bytes : Nat}
def zeroByteB (P : Program) (e : TypeId) : Bool := match zeroOf P e with
  | some (.int .u8 0) => true
  | _ => false
theorem zeroByteB_spec {P : Program} {e : TypeId} (h : zeroByteB P e = true) : zeroOf P e = some (.int .u8 0) := by
  unfold zeroByteB at h
  split at h
  · assumption
  · cases h
theorem RS.makeB (h : ∀ v' : Sl, RS P ops Q n ((dd, v'.v) :: L) w0 (Hl.rw v'.v e cB 1 (List.replicate m.toNat 0) :: H) rest) (hx : evO L x = some (.int k m) := by rfl) [ht : RowTy P t e 1 bytes] (hz : zeroByteB P e = true := by decide +kernel) (hm : 0 ≤ m ∧ m * bytes ≤ 140737488355328 ∧ m ≤ 140737488355328 := by exact omlA) (hd : Nat.blt dd n = true := by rfl) :
    RS P ops Q n L w0 H (⟨some dd, .makeSlice t x x, ty, pos, af, none⟩ :: rest) := RS.actX rfl (x_make (f := cB) (z0 := 0) hx hm (zeroByteB_spec hz) rfl (fun _ => rfl) (rowTy_B ht.is) hd) fun v' _ => h v'
theorem RS.storeY {ls : List Int} {b : Int} {H' : List Hl} (h : RS P ops Q n L w0 H' rest) (hx : evO L x = some (elA v 1 m 0) := by rfl) (hy : evO L y = some (.int .u8 b) := by rfl) (hu : Upd (Hl.rw v e cB 1 ls) (Hl.rw v e cB 1 (ls.set m.toNat b)) H H' := by exact updA) (hm : 0 ≤ m ∧ m < ls.length := by exact omlA) (hs : scalarB P t = true := by decide +kernel) :
    RS P ops Q n L w0 H (⟨none, .store t x y, ty, pos, af, none⟩ :: rest) := RS.actX rfl (x_storeEl (f := cB) (b := b) hx hy rfl hu hm (fun _ => rfl) rfl rfl hs) fun _ _ => h
theorem fold_push : ∀ (ns : List Int) (s : ByteArray), ns.foldl (fun r n => r.push (UInt8.ofNat n.toNat)) s = ⟨(s.data.toList ++ ns.map fun n => UInt8.ofNat n.toNat).toArray⟩
  | [], s => by cases s; simp
  | n :: ns, s => by
    rw [List.foldl_cons, fold_push ns]
    congr 1
    simp [ByteArray.push]
theorem y_strOf {ls : List Int} (hx : evO L x = some v) (h : RdT H v cB 1 ls) (h1 : P.underlying t = some (.slice e)) (h2 : P.underlying e = some (.int .u8)) (h3 : P.underlying t' = some .string) (hne : ls ≠ []) : V P n L w0 H ⟨d, .convert t t' x, ty, pos, af, g⟩ (strV (ls.map fun n => UInt8.ofNat n.toNat)) := by
  unfold V
  intro a w ha hw
  obtain ⟨hl, A, c, rfl, hnc, hcells, _⟩ := h _ _ hw
  obtain ⟨ad, rfl, hc⟩ := hcells (by cases ls with | nil => exact absurd rfl hne | cons b r => simp)
  have e1 : ls.flatMap cB = ls.map (Value.int .u8) := by
    clear hl hnc hcells hc hne hx h
    induction ls with
    | nil => rfl
    | cons b r ih => simp [ih]
  have hld : (loadCells ad ls.length).run P w = .ok (ls.map (Value.int .u8)).toArray w := by
    have := run_loadCells_list (P := P) w ad (ls.map (Value.int .u8)) (by rw [← e1]; exact hc)
    simpa using this
  have h4 := run_convert_bytes_string (P := P) w t t' e (some ad) ls.length c h1 h2 h3
  rw [run_bytesToString w ad ls.length c ls hld, fold_push] at h4
  simp only [execOp, ha.eval hx]
  simp [h4]
end
end Go.Proofs.YtaglecidaedjfaaDoor
