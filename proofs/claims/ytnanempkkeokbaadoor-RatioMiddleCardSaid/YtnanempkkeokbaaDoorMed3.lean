/- ratio.Median. -/
import Derived.Test.YtnanempkkeokbaaDoorSortedF3
import Derived.Test.YtnanempkkeokbaaDoorList3
set_option linter.unusedVariables false
set_option maxHeartbeats 4000000
namespace Go.Proofs.YtnanempkkeokbaaDoor
open Go.RowKit

abbrev boxV (B : Nat) : Value := .slice (some ⟨B, 0, none⟩) 1 1
abbrev c1V (v : Value) : List Value := [v]
abbrev seqV (B : Nat) : Value := .func (.func 65) #[] #[.pointer (some ⟨B, 0, none⟩)]
theorem values_c (a : Option Addr) (len cap : Nat) : ContX Tryd.prog [] 52 [.slice a len cap] (fun _ : Nat => True) seqV (fun B => [Hl.nw (boxV B) c1V 1 [.slice a len cap]]) := fun w _ => by
  have h : Calls Tryd.prog 52 #[.slice a len cap] w fun e w' => e = .returned (seqV w.heap.size) ∧ w' = w.alloc (.cells #[.slice a len cap] 42) := by
    go_enter Tryd.func52, Tryd.ntmps52
    go_wp2
    go_ret
    exact ⟨rfl, rfl⟩
  refine h.mono fun e w' ⟨he, hw⟩ => ⟨w.heap.size, trivial, he, by rw [hw]; exact (Below.refl _ w).alloc (Nat.le_refl _) _, fun x hx => ?_⟩
  rcases List.mem_singleton.1 hx with rfl
  refine ⟨⟨⟨rfl, some ⟨w.heap.size, 0, none⟩, 1, rfl, Nat.le_refl _, fun _ => ⟨_, rfl, fun j u hu => ?_⟩, fun g => by cases g⟩, fun _ _ b hb => ?_⟩, rfl⟩
  · match j, hu with
    | 0, hu =>
      have hb := World.alloc_heap_new w (.cells #[.slice a len cap] 42)
      rw [hw, show ((⟨w.heap.size, 0, none⟩ : Addr).add 0) = ⟨w.heap.size, 0, none⟩ from rfl]
      unfold World.cell?; dsimp only; rw [hb]; exact hu
  · have : some w.heap.size = some b := hb
    cases this
    exact Nat.le_refl _
theorem cell_spot {w : World} {a : Addr} {v : Value} (h : w.cell? a = some v) : a.spot = none ∧ a.block < w.heap.size := by
  refine ⟨?_, World.block_lt_of_cell? w _ h⟩
  unfold World.cell? at h
  split at h
  · split at h
    · cases h
    next hs => cases hq : a.spot with
      | none => rfl
      | some s => rw [hq] at hs; exact absurd rfl hs
  · cases h
/-- A read slice of fractions, as the iterator's walk wants it. -/
theorem fracs_of {w : World} {v : Value} {zs : List FrQ} (hpos : 0 < zs.length) (h : RO w v 2 zs.length (zs.flatMap cF)) : ∃ b off cap, v = .slice (some ⟨b, off, none⟩) zs.length cap ∧ FracsAt w.heap.size w b off zs := by
  obtain ⟨hl, A, c, rfl, hnc, hcells, _⟩ := h
  have hne : zs.flatMap cF ≠ [] := fun e => by rw [e] at hl; simp at hl; omega
  obtain ⟨a, rfl, hc⟩ := hcells hne
  have hget : ∀ (ys : List FrQ) (j : Nat), j < ys.length → (ys.flatMap cF)[j * 2]? = some (.int .i64 (ys[j]?.getD (0, 0)).1) ∧ (ys.flatMap cF)[j * 2 + 1]? = some (.int .i64 (ys[j]?.getD (0, 0)).2) := by
    intro ys
    induction ys with
    | nil => intro j hj; simp at hj
    | cons y r ih =>
      intro j hj
      cases j with
      | zero => exact ⟨rfl, rfl⟩
      | succ j =>
        obtain ⟨i1, i2⟩ := ih j (by simpa using hj)
        rw [show (j + 1) * 2 = j * 2 + 2 by omega]
        exact ⟨i1, i2⟩
  have h0 := hc 0 _ (hget zs 0 hpos).1
  obtain ⟨b, off, spot⟩ := a
  obtain ⟨hs, hb⟩ := cell_spot h0
  have hs' : spot = none := hs
  subst hs'
  have hadd : ∀ k, (⟨b, off, none⟩ : Addr).add k = ⟨b, off + k, none⟩ := fun k => by
    unfold Addr.add
    split
    next e => rw [e]; rfl
    next => rfl
  refine ⟨b, off, c, rfl, hb, fun j hj => ?_⟩
  obtain ⟨g1, g2⟩ := hget zs j hj
  have k1 := hc _ _ g1
  have k2 := hc _ _ g2
  rw [hadd] at k1 k2
  exact ⟨k1, by rw [show off + j * 2 + 1 = off + (j * 2 + 1) by omega]; exact k2⟩
abbrev sortedP (zs ds : List VF) : Prop := ds.length = zs.length ∧ Go.Sort.PermIn 0 zs.length zs.toArray ds.toArray ∧ Go.Sort.SortedIn (ltOf cfV) 0 zs.length ds.toArray
theorem sortedF_c (v : Value) (B : Nat) (zs : List VF) (hpos : 0 < zs.length) (hl : zs.length ≤ 1000000) : ContX Tryd.prog [Hl.rd (boxV B) c1V 1 [v], Hl.rd v cF 2 (zs.map Subtype.val)] 51 [seqV B, .func (.func 49) #[] #[]]
    (fun z : Sl × List VF => sortedP zs z.2) (fun z => z.1.v) (fun z => [Hl.nw z.1.v cF 2 (z.2.map Subtype.val)]) := fun w hw => by
  obtain ⟨⟨⟨_, A, c, hA, _, hbx, _⟩, _⟩, _⟩ := hw _ (List.Mem.head _)
  obtain ⟨⟨hro, _⟩, _⟩ := hw _ (List.Mem.tail _ (List.Mem.head _))
  cases hA
  obtain ⟨a, ha, hc⟩ := hbx (by simp)
  cases ha
  have hcell := hc 0 v rfl
  rw [show ((⟨B, 0, none⟩ : Addr).add 0) = ⟨B, 0, none⟩ from rfl] at hcell
  obtain ⟨b, off, cap, rfl, hf⟩ := fracs_of (by simpa using hpos) hro
  have hlt := World.block_lt_of_cell? w _ hcell
  rw [List.length_map] at hcell
  refine (sortedFunc_calls B b off cap zs hpos hl w hlt hcell hf).mono fun e w' h => ?_
  obtain ⟨v', ds, he, hp, hown, hbl⟩ := h
  obtain ⟨x, rfl⟩ := owns_sl hown
  refine ⟨(x, ds), hp, he, hbl, fun y hy => ?_⟩
  rcases List.mem_singleton.1 hy with rfl
  have hR : RO w' x.v 2 (ds.map Subtype.val).length ((ds.map Subtype.val).flatMap cF) := by
    rw [List.length_map, List.flatMap_map, hp.1]
    exact RO.of_row hown
  exact ⟨⟨hR, fun _ _ b hb => (hown.lt b hb).1⟩, rfl⟩
end Go.Proofs.YtnanempkkeokbaaDoor
