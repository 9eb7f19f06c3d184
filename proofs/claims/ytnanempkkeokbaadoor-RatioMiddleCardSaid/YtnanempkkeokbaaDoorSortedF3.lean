/- slices.SortedFunc(slices.Values(l), compare) at valid fractions. -/
import Derived.Test.YtnanempkkeokbaaDoorSorted3
set_option linter.unusedVariables false
namespace Go.Proofs.YtnanempkkeokbaaDoor
open Go.RowKit Go.Shelf Go.Lib Go.Sort

theorem own_shape {w : World} {base : Nat} {e : TypeId} {v : Value} {n : Nat} {xs : List Value} (h : w.ownsRow base e 2 v n xs) (hn : 0 < n) :
    ∃ g cap cur, v = .slice (some ⟨g, 0, none⟩) n cap ∧ base ≤ g ∧ w.heap[g]? = some (.cells cur e (0, 0)) ∧ n ≤ cap ∧ cap ≤ maxLen ∧ cur.size = cap * 2 ∧ cur.toList.take (n * 2) = xs := by
  rcases h.2 with ⟨_, h0⟩ | h
  · omega
  · exact h
set_option maxHeartbeats 1000000 in
theorem sortedFunc_calls (Bs b off cap : Nat) (zs : List VF) (hpos : 0 < zs.length) (hreach : zs.length ≤ 1000000) (w : World) (hBn : Bs < w.heap.size)
    (hc : w.cell? ⟨Bs, 0, none⟩ = some (.slice (some ⟨b, off, none⟩) zs.length cap)) (hI : FracsAt w.heap.size w b off (zs.map Subtype.val)) :
    Calls Tryd.prog 51 #[.func (.func 65) #[] #[.pointer (some ⟨Bs, 0, none⟩)], .func (.func 49) #[] #[]] w fun e W' =>
      ∃ v, ∃ ds : List VF, e = .returned v ∧ (ds.length = zs.length ∧ PermIn 0 zs.length zs.toArray ds.toArray ∧ SortedIn (ltOf cfV) 0 zs.length ds.toArray) ∧ W'.ownsRow w.heap.size 24 2 v zs.length (ds.flatMap encV) ∧ Below w.heap.size w W' := by
  have hcon := collect_calls Bs b off cap (zs.map Subtype.val) (by simpa using hreach) w hBn (by simpa using hc) hI
  rw [List.length_map, List.flatMap_map] at hcon
  clear hc hI
  go_enter Tryd.func51, Tryd.ntmps51
  go_wp2_with (go_at_call 63; refine hcon.mono ?_; rintro e w1 ⟨⟨v, rfl, hr⟩, hb⟩; obtain ⟨g, cap', cur, rfl, hg, hbk, hn, hcap, hcs, htk⟩ := own_shape hr hpos; have hsort := sort_world g 0 cap' zs.toArray w1 (holdsK_of hbk htk) (Array.getElem?_eq_some_iff.1 hbk).1 (by simpa using hreach))
  refine hsort.mono ?_
  rintro e w' ⟨rfl, d', n, os, hp, hs, rfl⟩
  obtain ⟨ds, rfl⟩ : ∃ ds : List VF, d' = ds.toArray := ⟨d'.toList, by simp⟩
  have hl : ds.length = zs.length := by have := hp.1; simpa using this
  go_wp2
  go_ret
  refine ⟨_, ds, rfl, ⟨hl, by simpa using hp, by simpa using hs⟩, ownsRow_sortedV hl hg hbk hn hcap hcs, ?_⟩
  exact hb.grown (grownBy_sortedV _) hb.size (fun k e => by cases e; exact hg)
end Go.Proofs.YtnanempkkeokbaaDoor
