/- The bytes of a string: a new slice; bools in an own slice. -/
import Derived.Test.YtaglecidaedjfaaDoorBytes
import Derived.Laws.IdiomStrings
set_option linter.unusedVariables false
set_option maxHeartbeats 4000000
namespace Go.Proofs.YtaglecidaedjfaaDoor
open Go.RowKit
abbrev bytI (l : List UInt8) : List Int := l.map fun b => (b.toNat : Int)
abbrev cO (x : Bool) : List Value := [.bool x]
section
variable {P : Program} {n : Nat} {L : FL} {w0 : World} {H : List Hl} {Q : Exit → Act → World → Prop} {ops : Array Oper} {rest : List Oper} {dd : Nat} {ty : TypeId} {pos : String} {af : Array Edge} {gd : Option (Nat × Bool)} {x y : Operand} {t t' e : TypeId} {v : Value} {k : IntKind} {m : Int} {bytes : Nat}
theorem bytI_len (l : List UInt8) : (bytI l).length = l.length := by simp
theorem bytI_get {l : List UInt8} {i : Nat} (h : i < l.length) : nth (bytI l) (i : Int) = ((nth l (i : Int)).toNat : Int) := by
  show (bytI l).getD i default = ((l.getD i default).toNat : Int)
  rw [List.getD_eq_getElem?_getD, List.getD_eq_getElem?_getD, List.getElem?_map, List.getElem?_eq_getElem h]; rfl
theorem bytI_flat : ∀ l : List UInt8, (bytI l).flatMap cB = l.map fun b => Value.int .u8 b.toNat
  | [] => rfl
  | b :: r => by
    have := bytI_flat r
    simp only [bytI, List.map_cons, List.flatMap_cons] at this ⊢
    rw [this]; rfl
theorem x_bytesOf {l : List UInt8} (hx : evO L x = some (strV l)) (hs : P.underlying t = some .string) (ht : P.underlying t' = some (.slice e)) (he : P.underlying e = some (.int .u8)) (hd : Nat.blt dd n = true) :
    EX P n L w0 H ⟨some dd, .convert t t' x, ty, pos, af, gd⟩ (fun _ : Sl => True) (fun v' => (dd, v'.v) :: L) (fun v' => Hl.nw v'.v cB 1 (bytI l) :: H) :=
  EX.of_run (fun a w hfr hw => by
    have h1 := run_bytes_of_string w t t' e ⟨l.toArray⟩ hs ht he
    obtain ⟨c, hc⟩ : ∃ c, grownCap w (ByteArray.size ⟨l.toArray⟩) 0 e = c := ⟨_, rfl⟩
    have hle : l.length ≤ c := by
      have := grownCap_ge w (ByteArray.size ⟨l.toArray⟩) 0 e
      rw [hc, size_str] at this
      exact this
    rw [hc, size_str] at h1
    obtain ⟨W, hW⟩ : ∃ W, w.drew.alloc (.cells (bytesRow ⟨l.toArray⟩ c) e ((bytesRow ⟨l.toArray⟩ c).size, (bytesRow ⟨l.toArray⟩ c).size + 1)) = W := ⟨_, rfl⟩
    rw [hW] at h1
    refine ⟨.slice (some ⟨w.heap.size, 0, none⟩) l.length c, W, ⟨some ⟨w.heap.size, 0, none⟩, l.length, c⟩, by simp only [execOp, hfr.eval hx]; simp [h1], trivial, rfl, ?_⟩
    subst hW
    refine hw.news (Hn := [Hl.nw (.slice (some ⟨w.heap.size, 0, none⟩) l.length c) cB 1 (bytI l)]) ?_ (fun z hz => ?_)
    · exact (show Below w.heap.size w w.drew from ⟨rfl, rfl, rfl, Nat.le_refl _, fun _ _ => rfl⟩).alloc (Nat.le_refl _) _
    · rcases List.mem_singleton.1 hz with rfl
      refine ⟨⟨?_, fun _ _ b hb => ?_⟩, rfl⟩
      · rw [bytI_flat, bytI_len]
        refine ⟨by simp, some ⟨w.heap.size, 0, none⟩, c, rfl, hle, fun _ => ⟨_, rfl, fun j u hu => ?_⟩, fun h => by cases h⟩
        have hj : j < l.length := by
          have := (List.getElem?_eq_some_iff.1 hu).1
          simpa using this
        have e1 : (⟨w.heap.size, 0, none⟩ : Addr).add j = ⟨w.heap.size, j, none⟩ := by unfold Addr.add; split <;> simp_all
        rw [e1]
        have hb : (w.drew.alloc (.cells (bytesRow ⟨l.toArray⟩ c) e ((bytesRow ⟨l.toArray⟩ c).size, (bytesRow ⟨l.toArray⟩ c).size + 1))).heap[w.heap.size]? = some (.cells (bytesRow ⟨l.toArray⟩ c) e ((bytesRow ⟨l.toArray⟩ c).size, (bytesRow ⟨l.toArray⟩ c).size + 1)) := by
          show (w.heap.push _)[w.heap.size]? = _
          simp
        unfold World.cell?
        simp only [hb]
        unfold bytesRow
        rw [List.getElem?_map] at hu
        simp [hj] at hu ⊢
        simp [Array.getElem?_append, hj, hu]
      · simp [Value.ownBlock] at hb; omega) hd
theorem RS.bytesOf {l : List UInt8} (h : ∀ v' : Sl, RS P ops Q n ((dd, v'.v) :: L) w0 (Hl.nw v'.v cB 1 (bytI l) :: H) rest) (hx : evO L x = some (strV l) := by rfl) (hs : P.underlying t = some .string) (ht : P.underlying t' = some (.slice e)) (he : P.underlying e = some (.int .u8)) (hd : Nat.blt dd n = true := by rfl) :
    RS P ops Q n L w0 H (⟨some dd, .convert t t' x, ty, pos, af, none⟩ :: rest) := RS.actX rfl (x_bytesOf hx hs ht he hd) fun v' _ => h v'
def zeroBoolB (P : Program) (e : TypeId) : Bool := match zeroOf P e with
  | some (.bool false) => true
  | _ => false
theorem zeroBoolB_spec {P : Program} {e : TypeId} (h : zeroBoolB P e = true) : zeroOf P e = some (.bool false) := by
  unfold zeroBoolB at h
  split at h
  · assumption
  · cases h
theorem RS.makeO (h : ∀ v' : Sl, RS P ops Q n ((dd, v'.v) :: L) w0 (Hl.rw v'.v e cO 1 (List.replicate m.toNat false) :: H) rest) (hx : evO L x = some (.int k m) := by rfl) [ht : RowTy P t e 1 bytes] (hz : zeroBoolB P e = true := by decide +kernel) (hm : 0 ≤ m ∧ m * bytes ≤ 140737488355328 ∧ m ≤ 140737488355328 := by exact omlA) (hd : Nat.blt dd n = true := by rfl) :
    RS P ops Q n L w0 H (⟨some dd, .makeSlice t x x, ty, pos, af, none⟩ :: rest) := RS.actX rfl (x_make (f := cO) (z0 := false) hx hm (zeroBoolB_spec hz) rfl (fun _ => rfl) (rowTy_B ht.is) hd) fun v' _ => h v'
theorem RS.storeO {ls : List Bool} {b : Bool} {H' : List Hl} (h : RS P ops Q n L w0 H' rest) (hx : evO L x = some (elA v 1 m 0) := by rfl) (hy : evO L y = some (.bool b) := by rfl) (hu : Upd (Hl.rw v e cO 1 ls) (Hl.rw v e cO 1 (ls.set m.toNat b)) H H' := by exact updA) (hm : 0 ≤ m ∧ m < ls.length := by exact omlA) (hs : scalarB P t = true := by decide +kernel) :
    RS P ops Q n L w0 H (⟨none, .store t x y, ty, pos, af, none⟩ :: rest) := RS.actX rfl (x_storeEl (f := cO) (b := b) hx hy rfl hu hm (fun _ => rfl) rfl rfl hs) fun _ _ => h
end
end Go.Proofs.YtaglecidaedjfaaDoor
