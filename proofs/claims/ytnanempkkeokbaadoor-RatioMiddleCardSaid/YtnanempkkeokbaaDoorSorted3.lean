/- slices.Values, Collect, SortedFunc at valid fractions. -/
import Derived.Test.YtnanempkkeokbaaDoorSort3
set_option linter.unusedVariables false
namespace Go.Proofs.YtnanempkkeokbaaDoor
open Go.RowKit Go.Shelf Go.Lib Go.Sort

theorem flatV_get : ∀ (zs : List VF) (t : Nat), (zs.flatMap encV)[t]? = (zs[t / 2]?).bind fun x => (encV x)[t % 2]?
  | [], t => by simp
  | x :: r, 0 => rfl
  | x :: r, 1 => rfl
  | x :: r, t + 2 => by
    have := flatV_get r t
    rw [show (t + 2) / 2 = t / 2 + 1 by omega, show (t + 2) % 2 = t % 2 by omega]
    show ([Value.int .i64 x.1.1, .int .i64 x.1.2] ++ r.flatMap encV)[t + 2]? = _
    rw [List.getElem?_append_right (by simp)]
    exact this
theorem flatV_len : ∀ zs : List VF, (zs.flatMap encV).length = zs.length * 2
  | [] => rfl
  | x :: r => by
    rw [List.flatMap_cons, List.length_append, flatV_len r, List.length_cons]
    show 2 + _ = _
    omega
theorem flatK_list (zs : List VF) : (flatK encV 2 zs.toArray).toList = zs.flatMap encV := by
  apply List.ext_getElem?
  intro t
  by_cases ht : t < zs.length * 2
  · have hs : t < (flatK encV 2 zs.toArray).size := by rw [size_flatK]; simpa using ht
    have h2 : t / 2 < zs.length := by omega
    rw [flatV_get, List.getElem?_eq_getElem h2, Array.getElem?_toList, Array.getElem?_eq_getElem hs]
    have hg := get_flatK encV 2 zs.toArray t (by simpa using ht)
    rw [getElem!_pos _ t hs] at hg
    rw [hg]
    have hz : zs.toArray[t / 2]! = zs[t / 2] := by rw [getElem!_pos _ (t / 2) (by simpa using h2)]; simp
    rw [hz]
    show some (encV zs[t / 2])[t % 2]! = (encV zs[t / 2])[t % 2]?
    rcases (show t % 2 = 0 ∨ t % 2 = 1 by omega) with e | e <;> rw [e] <;> rfl
  · have z1 : (flatK encV 2 zs.toArray).toList.length = zs.length * 2 := by rw [Array.length_toList, size_flatK]; simp
    rw [List.getElem?_eq_none (l := (flatK encV 2 zs.toArray).toList) (by omega), List.getElem?_eq_none (l := zs.flatMap encV) (by rw [flatV_len]; omega)]
theorem holdsK_of {w : World} {g : Nat} {cur : Array Value} {e : TypeId} {zs : List VF} (hb : w.heap[g]? = some (.cells cur e (0, 0))) (ht : cur.toList.take (zs.length * 2) = zs.flatMap encV) : HoldsK encV 2 w g 0 zs.toArray := by
  intro j hj
  have hj' : j < zs.length * 2 := by rw [size_flatK] at hj; simpa using hj
  refine ⟨?_, by simp [World.frozen?, hb]⟩
  have h1 : cur[j]? = some (flatK encV 2 zs.toArray)[j]! := by
    have e1 : (cur.toList.take (zs.length * 2))[j]? = cur[j]? := by rw [List.getElem?_take_of_lt hj', Array.getElem?_toList]
    rw [← e1, ht, ← flatK_list, Array.getElem?_toList, Array.getElem?_eq_getElem hj, getElem!_pos _ j hj]
  show (match w.heap[g]? with | some (.cells c _ _) => if (none : Option Nat).isSome then none else c[0 + j]? | _ => none) = _
  rw [hb, Nat.zero_add]
  exact h1
theorem heap_sortedV {w : World} {g n : Nat} {os : Array Obj} {cur : Array Value} {e : TypeId} {fr : Nat × Nat} (d : Array Value) (hb : w.heap[g]? = some (.cells cur e fr)) :
    (grow (putRow id (Sort.ahead w n) g 0 d) os).heap[g]? = some (.cells (putCells id 0 d cur) e fr) := by
  have hg : g < w.heap.size := (Array.getElem?_eq_some_iff.1 hb).1
  rw [heap_grow_old _ _ (by simpa using hg)]
  simp [putRow, mapBlock, Sort.ahead, Array.getElem?_modify, hb, onCells]
theorem grownBy_sortedV {w : World} {g n : Nat} {os : Array Obj} (d : Array Value) : w.grownBy (grow (putRow id (Sort.ahead w n) g 0 d) os) (some g) := by
  refine ⟨rfl, rfl, rfl, by simp, fun k hk hne => ?_⟩
  rw [heap_grow_old _ _ (by simpa using hk)]
  have : g ≠ k := fun e => hne (by rw [e])
  simp [putRow, mapBlock, Sort.ahead, Array.getElem?_modify, this]
theorem take_putV (cur F : Array Value) (h : F.size ≤ cur.size) : (putCells id 0 F cur).toList.take F.size = F.toList := by
  apply List.ext_getElem?
  intro j
  by_cases hj : j < F.size
  · rw [List.getElem?_take_of_lt hj, Array.getElem?_toList, Array.getElem?_toList]
    simp [putCells, hj, show j < cur.size by omega]
  · rw [List.getElem?_take_eq_none (by omega), List.getElem?_eq_none (by simp; omega)]
theorem ownsRow_sortedV {w : World} {base g cap n : Nat} {e : TypeId} {os : Array Obj} {cur : Array Value} {m : Nat} {ds : List VF} (hl : ds.length = m) (hbase : base ≤ g) (hb : w.heap[g]? = some (.cells cur e (0, 0)))
    (h1 : m ≤ cap) (h2 : cap ≤ maxLen) (h3 : cur.size = cap * 2) :
    (sortWorldK encV 2 w g 0 n ds.toArray os).ownsRow base e 2 (.slice (some ⟨g, 0, none⟩) m cap) m (ds.flatMap encV) := by
  have hsz : (flatK encV 2 ds.toArray).size = m * 2 := by rw [size_flatK]; simp [hl]
  refine ⟨by rw [flatV_len, hl], .inr ⟨g, cap, _, rfl, hbase, heap_sortedV _ hb, h1, h2, by simp [putCells, h3], ?_⟩⟩
  rw [← hsz, take_putV _ _ (by omega), flatK_list]
theorem append_calls (Bs b off cap : Nat) (zs : List FrQ) (hreach : zs.length ≤ 1000000) (w : World) (hBn : Bs < w.heap.size)
    (hc : w.cell? ⟨Bs, 0, none⟩ = some (.slice (some ⟨b, off, none⟩) zs.length cap)) (hI : FracsAt w.heap.size w b off zs) :
    Calls Tryd.prog 72 #[.slice none 0 0, .func (.func 65) #[] #[.pointer (some ⟨Bs, 0, none⟩)]] w fun e W' =>
      (∃ v, e = .returned v ∧ W'.ownsRow w.heap.size 24 2 v zs.length (zs.flatMap cQ)) ∧ Below w.heap.size w W' :=
  callsIn_wide.1 (append_in Fence.wide 3 trivial trivial rfl (by decide) Bs b off cap zs hreach w hBn hc hI)
set_option maxHeartbeats 1000000 in
theorem collect_calls (Bs b off cap : Nat) (zs : List FrQ) (hreach : zs.length ≤ 1000000) (w : World) (hBn : Bs < w.heap.size)
    (hc : w.cell? ⟨Bs, 0, none⟩ = some (.slice (some ⟨b, off, none⟩) zs.length cap)) (hI : FracsAt w.heap.size w b off zs) :
    Calls Tryd.prog 63 #[.func (.func 65) #[] #[.pointer (some ⟨Bs, 0, none⟩)]] w fun e W' =>
      (∃ v, e = .returned v ∧ W'.ownsRow w.heap.size 24 2 v zs.length (zs.flatMap cQ)) ∧ Below w.heap.size w W' := by
  have hcon := append_calls Bs b off cap zs hreach w hBn hc hI
  clear hc hI
  go_enter Tryd.func63, Tryd.ntmps63
  go_wp2_with (go_at_call 72; refine hcon.mono ?_; rintro e w' ⟨⟨v, rfl, hr⟩, hb⟩)
  go_ret
  exact ⟨⟨v, rfl, hr⟩, hb⟩
end Go.Proofs.YtnanempkkeokbaaDoor
