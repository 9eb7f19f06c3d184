/- slices.SortFunc at valid fractions by ratio.compare. -/
import Derived.Test.YtnanempkkeokbaaDoorOrdP
import Derived.Test.YtnanempkkeokbaaDoorApp3
import Derived.Test.YtnanempkkeokbaaDoorSortLay
import Derived.WalkKit
set_option linter.unusedVariables false
namespace Go.Proofs.YtnanempkkeokbaaDoor
open Go.RowKit Go.Shelf Go.Lib Go.Sort

set_option maxHeartbeats 1000000 in
theorem cmp_world (a b : Int) (W : World) : Calls Tryd.prog 60 #[.int .i64 a, .int .i64 b] W fun e w' => e = .returned (.int .i64 (cmpI a b)) ∧ w' = W := by
  go_enter Tryd.func60, Tryd.ntmps60
  go_wp2
  all_goals go_ret
  all_goals refine ⟨?_, rfl⟩
  all_goals (congr 2; unfold cmpI; (repeat' split) <;> first | rfl | omega | (simp_all; omega) | trace_state)
abbrev VF := { x : FrQ // validF x.1 x.2 = true }
theorem vf_01 : validF 0 1 = true := validF_iff.2 ⟨⟨by omega, by omega⟩, by simp⟩
instance vf_inh : Inhabited VF := Inhabited.mk (Subtype.mk ((0 : Int), (1 : Int)) (show validF 0 1 = true from vf_01))
def encV (x : VF) : List Value := cQ x.1
def cfV (x y : VF) : Int := cmpF x.1.1 x.1.2 y.1.1 y.1.2
set_option maxRecDepth 100000 in
set_option maxHeartbeats 1000000 in
theorem compare_world (x y : VF) (W : World) : Calls Tryd.prog 49 #[.agg #[.int .i64 x.1.1, .int .i64 x.1.2], .agg #[.int .i64 y.1.1, .int .i64 y.1.2]] W fun e w' => e = .returned (.int .i64 (cfV x y)) ∧ ∃ q os', w' = grow (W.drewN q) os' := by
  obtain ⟨⟨a, b⟩, h1⟩ := x
  obtain ⟨⟨c, d⟩, h2⟩ := y
  obtain ⟨b1, b2, _⟩ := prods h1 h2
  have e1 : wrap64 (a * d) = a * d := IntWalk.wrap64_in (a * d) (by dsimp only at b1; omega)
  have e2 : wrap64 (c * b) = c * b := IntWalk.wrap64_in (c * b) (by dsimp only at b2; omega)
  show Calls Tryd.prog 49 #[.agg #[.int .i64 a, .int .i64 b], .agg #[.int .i64 c, .int .i64 d]] W fun e w' => e = .returned (.int .i64 (cmpI (a * d) (c * b))) ∧ ∃ q os', w' = grow (W.drewN q) os'
  go_enter Tryd.func49, Tryd.ntmps49
  go_wp2_with (go_at_call 60; refine (cmp_world _ _ _).mono ?_; rintro e w' ⟨rfl, rfl⟩)
  go_ret
  exact ⟨rfl, 0, _, by rw [alloc_eq_grow, alloc_eq_grow, grow_grow]; rfl⟩
theorem cmpLays (blk off size : Nat) (w : World) : CmpLays Tryd.prog 49 #[] encV 2 cfV blk off size w := fun _ _ _ _ x y => compare_world x y _
theorem swoV : SWO (ltOf cfV) where
  irrefl x := by
    have := (cmpF_zero x.2 x.2).2 ⟨rfl, rfl⟩
    unfold ltOf cfV; rw [this]; rfl
  trans x y z h1 h2 := by
    have g1 := validF_bd x.2
    have g2 := validF_bd y.2
    have g3 := validF_bd z.2
    have k1 := cmpF_lt.1 (of_decide_eq_true h1 : cfV x y < 0)
    have k2 := cmpF_lt.1 (of_decide_eq_true h2 : cfV y z < 0)
    exact decide_eq_true (cmpF_lt.2 (order_lt (by omega) (by omega) (by omega) (Int.le_of_lt k1) (Int.le_of_lt k2) (.inl k1)))
  ntrans x y z h1 h2 := by
    have g1 := validF_bd x.2
    have g2 := validF_bd y.2
    have g3 := validF_bd z.2
    have k1 : ¬ cfV x y < 0 := of_decide_eq_false h1
    have k2 : ¬ cfV y z < 0 := of_decide_eq_false h2
    have m1 : ¬ x.1.1 * y.1.2 < y.1.1 * x.1.2 := fun g => k1 (cmpF_lt.2 g)
    have m2 : ¬ y.1.1 * z.1.2 < z.1.1 * y.1.2 := fun g => k2 (cmpF_lt.2 g)
    refine decide_eq_false fun g => ?_
    have k3 := cmpF_lt.1 g
    have q := order_le (a := z.1.1) (b := z.1.2) (c := y.1.1) (d := y.1.2) (e := x.1.1) (f := x.1.2) (by omega) (by omega) (by omega) (by omega) (by omega)
    omega
set_option maxHeartbeats 1000000 in
/-- SortFunc at valid fractions: a permutation, sorted. -/
theorem sort_world (blk off cap : Nat) (d : Array VF) (w : World) (hH : HoldsK encV 2 w blk off d) (hblk : blk < w.heap.size) (hsz : d.size ≤ 1000000) :
    Calls Tryd.prog 64 #[.slice (some ⟨blk, off, none⟩) d.size cap, .func (.func 49) #[] #[]] w fun e w' => e = .returned (.tuple #[]) ∧ ∃ d' n os, PermIn 0 d.size d d' ∧ SortedIn (ltOf cfV) 0 d.size d' ∧ w' = sortWorldK encV 2 w blk off n d' os := by
  have eg : ∀ args w, (callFunc 49 args).run Tryd.prog w = .ok (.enter 49 args) w := enters_of Tryd.func49 (by kernel_rfl) rfl
  exact AnyQ.slices_SortFunc Tryd.sortFr 2 Tryd.isAgg24 Tryd.sizeOf24 encV (fun _ => rfl) (fun x v hv => by simp [encV] at hv; rcases hv with rfl | rfl <;> rfl) cfV swoV 49 #[] blk off cap d w eg (cmpLays blk off d.size w) hH hblk (by omega)
end Go.Proofs.YtnanempkkeokbaaDoor
