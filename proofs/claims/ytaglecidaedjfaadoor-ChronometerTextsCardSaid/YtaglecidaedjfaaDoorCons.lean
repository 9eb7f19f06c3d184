/- Consistent: the chronometer's and the reference's. -/
import Derived.Test.YtaglecidaedjfaaDoorUtLaw
set_option linter.unusedVariables false
set_option maxHeartbeats 4000000
namespace Go.Proofs.YtaglecidaedjfaaDoor
open Go.RowKit

/-- Two comparisons are within the drift of each other. -/
def nearB (n d : Int) (a b : Chk) : Bool := allowB n d (max (a.face - a.ut - (b.face - b.ut)) (b.face - b.ut - (a.face - a.ut)) - a.within - b.within) (max (a.face - b.face) (b.face - a.face))
abbrev okC (c : Chk) : Prop := (-70368744177664 ≤ c.face ∧ c.face ≤ 70368744177664) ∧ (-70368744177664 ≤ c.ut ∧ c.ut ≤ 70368744177664) ∧ 0 ≤ c.within ∧ c.within ≤ 86400000
/-- The first comparison that is apart from one before it. -/
def firstBad (l : List Chk) (n d : Int) (k : Nat) : Bool := (List.range k).any fun i => !nearB n d (nth l i) (nth l k)
abbrev consV (r : Bool × Int × Int) : Value := .tuple [.bool r.1, .int .i64 r.2.1, .int .i64 r.2.2].toArray
/-- What Consistent returns. -/
def consS (l : List Chk) (n d : Int) : Bool × Int × Int :=
  if validC l = false ∨ driftB n d = false then (false, 0, 1) else
  match (List.range l.length).find? (firstBad l n d) with
  | some k => (false, (k : Int), 0)
  | none => (true, -1, 0)
theorem bad_true {l : List Chk} {n d : Int} {i k : Nat} (hi : i < k) (h : nearB n d (nth l i) (nth l k) = false) : firstBad l n d k = true := List.any_eq_true.2 ⟨i, List.mem_range.2 hi, by rw [h]; rfl⟩
theorem bad_false {l : List Chk} {n d : Int} {k : Nat} (h : ∀ i : Nat, i < k → nearB n d (nth l i) (nth l k) = true) : firstBad l n d k = false := by
  rw [Bool.eq_false_iff]
  intro hb
  obtain ⟨i, hi, hf⟩ := List.any_eq_true.1 hb
  rw [h i (List.mem_range.1 hi)] at hf
  cases hf
theorem find_some {p : Nat → Bool} {m j : Nat} (hj : j < m) (h1 : ∀ k, k < j → p k = false) (h2 : p j = true) : (List.range m).find? p = some j :=
  List.find?_range_eq_some.2 ⟨h2, List.mem_range.2 hj, fun k hk => by rw [h1 k hk]; rfl⟩
theorem find_none {p : Nat → Bool} {m : Nat} (h1 : ∀ k, k < m → p k = false) : (List.range m).find? p = none :=
  List.find?_range_eq_none.2 fun k hk => by rw [h1 k hk]; rfl
end Go.Proofs.YtaglecidaedjfaaDoor
