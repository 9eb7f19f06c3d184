/- The clock's number: what digits stand for. -/
import Derived.Test.YtpnfmbfehbnljaaGreatDoorStr
set_option linter.unusedVariables false
set_option maxHeartbeats 4000000
namespace Go.Proofs.YtpnfmbfehbnljaaGreatDoor
open Go.RowKit

/-- The number that digits stand for; none: another byte, or too great. -/
def numR (acc : Int) : List UInt8 → Option Int
  | [] => some acc
  | b :: r => if (b.toNat : Int) < 48 ∨ 57 < (b.toNat : Int) then none else if 1000 < 10 * acc + ((b.toNat : Int) - 48) then none else numR (10 * acc + ((b.toNat : Int) - 48)) r
def numV (r : Option Int) (c lim len : Int) : Value := match r with
  | none => .tuple [.int .i64 0, .bool false].toArray
  | some n => .tuple [.int .i64 n, .bool (decide (len = c) && decide (n < lim))].toArray
theorem drop_cons {l : List UInt8} {i : Nat} (h : i < l.length) : l.drop i = nth l (i : Int) :: l.drop (i + 1) := by
  have e := nth_some (l := l) (m := (i : Int)) (by omega) (by omega)
  rw [Int.toNat_natCast, List.getElem?_eq_getElem h] at e
  rw [List.drop_eq_getElem_cons h, Option.some.inj e]
theorem cnum_c (l : List UInt8) {c lim : Int} (hl : l.length ≤ 1000000) (h : (-9223372036854775808 ≤ c ∧ c ≤ 9223372036854775807) ∧ -9223372036854775808 ≤ lim ∧ lim ≤ 9223372036854775807) : Cont Tryz.prog 53 [strV l, .int .i64 c, .int .i64 lim] (numV (numR 0 l) c lim l.length) := fun w => by
  refine enter0 Tryz.func53 rfl rfl rfl ?_
  repeat' (first
    | (refine nxV ?_)
    | (show RS _ _ _ _ _ _ _ _; first | (refine nxRS ?_) | (refine nxRS1 fun _ => ?_))
    | (show RM _ _ _ _ _ _ _ _ _ _; first | (refine nxRM ?_) | (refine nxRM1 fun _ => ?_))
    | (refine nxG ?_)
    | (refine nxVS ?_)
    | (refine nxGS ?_)
    | (refine nxX ?_)
    | (refine G.condN rfl (fun hc => ?_) (fun hc => ?_) <;> (try first | exact False.elim hc | (exfalso; omega))))
  refine G.loop (ι := Nat × Int) (fun x => [(0, strV l), (1, .int .i64 c), (2, .int .i64 lim), (8, .int .i64 x.2), (11, .int .i64 l.length), (12, .int .i64 (x.1 : Int))]) (fun _ => []) (fun x => x.1 ≤ l.length ∧ (0 ≤ x.2 ∧ x.2 ≤ 1000) ∧ numR x.2 (l.drop x.1) = numR 0 l) (fun x => l.length - x.1) (0, 0) ⟨Nat.zero_le _, by decide, rfl⟩ ⟨rfl, rfl, rfl, rfl, rfl, rfl, trivial⟩ (fun w h => h) ?_
  rintro ⟨i, acc⟩ mx ⟨g1, g2, g3⟩ hmx
  dsimp only at g1 g2 g3 hmx ⊢
  rcases Nat.lt_or_ge i l.length with hi | hi
  · rw [drop_cons hi] at g3
    have hb : (nth l (i : Int)).toNat < 256 := UInt8.toNat_lt _
    repeat' (first
    | (show YK _ _ _ _ _ ⟨_, .binOp .sub 5 _ _ _, _, _, _, _⟩ _; refine YK.ofV (V.int_ (y_sub (by rfl) (by rfl)) (IntWalk.u8_in _ (by omega))) ?_)
    | (refine nxV ?_)
    | (show RS _ _ _ _ _ _ _ _; first | (refine nxRS ?_) | (refine nxRS1 fun _ => ?_))
    | (show RM _ _ _ _ _ _ _ _ _ _; first | (refine nxRM ?_) | (refine nxRM1 fun _ => ?_))
    | (refine nxG ?_)
    | (refine nxVS ?_)
    | (refine nxGS ?_)
    | (refine nxX ?_)
    | (refine G.condN rfl (fun hc => ?_) (fun hc => ?_) <;> (try first | exact False.elim hc | (exfalso; omega))))
    · have e : numR 0 l = none := by rw [← g3]; unfold numR; rw [if_pos hc]
      exact X.ret (vs := [_, _]) rfl ⟨rfl, rfl, rfl⟩ rfl (fun w hw => ⟨by rw [e]; rfl, hw.ext⟩)
    · have e : numR 0 l = none := by rw [← g3]; unfold numR; rw [if_neg (by omega), if_pos hc]
      exact X.ret (vs := [_, _]) rfl ⟨rfl, rfl, rfl⟩ rfl (fun w hw => ⟨by rw [e]; rfl, hw.ext⟩)
    · have e : numR (10 * acc + (((nth l (i : Int)).toNat : Int) - 48)) (l.drop (i + 1)) = numR 0 l := by
        rw [← g3]
        conv => rhs; unfold numR
        rw [if_neg (by omega), if_neg (by omega)]
      exact X.again (i + 1, 10 * acc + (((nth l (i : Int)).toNat : Int) - 48)) ⟨by dsimp only; omega, by dsimp only; omega, e⟩ (by dsimp only; omega) ⟨rfl, rfl, rfl, rfl, rfl, rfl, trivial⟩ (by exact fun w h => h.sub (by repeat (first | exact List.Sublist.refl _ | apply List.Sublist.cons_cons | apply List.Sublist.cons)))
  · obtain rfl : i = l.length := by omega
    rw [List.drop_length] at g3
    repeat' (first
    | (refine nxV ?_)
    | (show RS _ _ _ _ _ _ _ _; first | (refine nxRS ?_) | (refine nxRS1 fun _ => ?_))
    | (show RM _ _ _ _ _ _ _ _ _ _; first | (refine nxRM ?_) | (refine nxRM1 fun _ => ?_))
    | (refine nxG ?_)
    | (refine nxVS ?_)
    | (refine nxGS ?_)
    | (refine nxX ?_)
    | (refine G.condN rfl (fun hc => ?_) (fun hc => ?_) <;> (try first | exact False.elim hc | (exfalso; omega))))
    have e : numR 0 l = some acc := g3.symm
    exact X.ret (vs := [_, _]) rfl ⟨rfl, rfl, rfl⟩ rfl (fun w hw => ⟨by rw [e]; rfl, hw.ext⟩)
end Go.Proofs.YtpnfmbfehbnljaaGreatDoor
