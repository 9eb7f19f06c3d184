/- The clock's digits. -/
import Derived.Test.YtpnfmbfehbnljaaGreatDoorBytes
set_option linter.unusedVariables false
set_option maxHeartbeats 4000000
namespace Go.Proofs.YtpnfmbfehbnljaaGreatDoor
open Go.RowKit

/-- The last j digits of n, as bytes. -/
def tlD (n : Int) : Nat → List Int
  | 0 => []
  | j + 1 => (48 + n / 10 ^ j % 10) :: tlD n j
theorem tlD_len (n : Int) : ∀ j, (tlD n j).length = j
  | 0 => rfl
  | j + 1 => by simp [tlD, tlD_len n j]
theorem set_pad (n : Int) (k j : Nat) : (List.replicate (k + 1) 0 ++ tlD n j).set k (48 + n / 10 ^ j % 10) = List.replicate k 0 ++ tlD n (j + 1) := by
  rw [List.replicate_succ', List.append_assoc, List.set_append_right _ _ (by simp)]
  simp [tlD]
def digS (n : Int) (c : Nat) : List UInt8 := (tlD n c).map fun x => UInt8.ofNat x.toNat
theorem digits_c {n : Int} {c : Nat} (h : (0 ≤ n ∧ n ≤ 1000000000) ∧ 1 ≤ c ∧ c ≤ 10) : Cont Tryz.prog 26 [.int .i64 n, .int .i64 (c : Int)] (strV (digS n c)) := fun w => by
  refine enter0 Tryz.func26 rfl rfl rfl ?_
  repeat' (first
    | (show RS _ _ _ _ _ _ _ (⟨some _, .makeSlice _ _ _, _, _, _, _⟩ :: _); refine RS.makeB (fun v' => ?_))
    | (refine nxV ?_)
    | (show RS _ _ _ _ _ _ _ _; first | (refine nxRS ?_) | (refine nxRS1 fun _ => ?_))
    | (show RM _ _ _ _ _ _ _ _ _ _; first | (refine nxRM ?_) | (refine nxRM1 fun _ => ?_))
    | (refine nxG ?_)
    | (refine nxX ?_)
    | (refine G.condN rfl (fun hc => ?_) (fun hc => ?_) <;> (try first | exact False.elim hc | (exfalso; omega))))
  refine G.loop (ι := Nat) (fun j => [(0, .int .i64 (n / 10 ^ j)), (1, .int .i64 (c : Int)), (5, v'.v), (6, .int .i64 ((c : Int) - 1 - j))]) (fun j => [Hl.rw v'.v 5 cB 1 (List.replicate (c - j) 0 ++ tlD n j)]) (fun j => j ≤ c) (fun j => c - j) 0 (Nat.zero_le _) ⟨by simp; rfl, rfl, rfl, by simp; rfl, trivial⟩ (fun w hw => by simpa [tlD] using hw) ?_
  rintro j mx hj hmx
  have hp : (0 : Int) < 10 ^ j := Int.pow_pos (by decide)
  have b1 : 0 ≤ n / 10 ^ j := Int.ediv_nonneg h.1.1 (by omega)
  have b2 : n / 10 ^ j ≤ n := Int.ediv_le_self _ h.1.1
  have hlen : (List.replicate (c - j) (0 : Int) ++ tlD n j).length = c := by simp [tlD_len]; omega
  rcases Nat.lt_or_ge j c with hlt | hge
  · obtain ⟨k, rfl⟩ : ∃ k, c = j + 1 + k := ⟨c - j - 1, by omega⟩
    simp only [show j + 1 + k - j = k + 1 by omega] at hlen ⊢
    repeat' (first
    | (show RS _ _ _ _ _ _ _ (⟨none, .store _ _ _, _, _, _, _⟩ :: _); refine RS.storeY ?_)
    | (refine nxV ?_)
    | (show RS _ _ _ _ _ _ _ _; first | (refine nxRS ?_) | (refine nxRS1 fun _ => ?_))
    | (show RM _ _ _ _ _ _ _ _ _ _; first | (refine nxRM ?_) | (refine nxRM1 fun _ => ?_))
    | (refine nxG ?_)
    | (refine nxX ?_)
    | (refine G.condN rfl (fun hc => ?_) (fun hc => ?_) <;> (try first | exact False.elim hc | (exfalso; omega))))
    refine X.again (j + 1) (by omega) (by omega) ⟨?_, rfl, rfl, ?_, trivial⟩ ?_
    · show some (Value.int .i64 (n / 10 ^ j / 10)) = some (.int .i64 (n / 10 ^ (j + 1)))
      rw [Int.ediv_ediv, if_neg (fun g => by omega), Int.sub_zero, Int.pow_succ]
    · show some (Value.int .i64 (((j + 1 + k : Nat) : Int) - 1 - j - 1)) = some (.int .i64 (((j + 1 + k : Nat) : Int) - 1 - ((j + 1 : Nat) : Int)))
      congr 2; omega
    · rw [show (((j + 1 + k : Nat) : Int) - 1 - j).toNat = k by omega, show j + 1 + k - (j + 1) = k by omega, set_pad]
      exact fun w h => h.sub (by repeat (first | exact List.Sublist.refl _ | apply List.Sublist.cons_cons | apply List.Sublist.cons))
  · obtain rfl : j = c := by omega
    have hne : tlD n j ≠ [] := fun e => by have := tlD_len n j; rw [e] at this; simp at this; omega
    simp only [Nat.sub_self, List.replicate_zero, List.nil_append]
    repeat' (first
    | (show YK _ _ _ _ _ ⟨_, .convert _ _ _, _, _, _, _⟩ _; refine YK.ofV (y_strOf (e := 5) (ls := tlD n j) (by rfl) (by exact rdA) (by kernel_rfl) (by kernel_rfl) (by kernel_rfl) hne) ?_)
    | (refine nxV ?_)
    | (show RS _ _ _ _ _ _ _ _; first | (refine nxRS ?_) | (refine nxRS1 fun _ => ?_))
    | (show RM _ _ _ _ _ _ _ _ _ _; first | (refine nxRM ?_) | (refine nxRM1 fun _ => ?_))
    | (refine nxG ?_)
    | (refine nxX ?_)
    | (refine G.condN rfl (fun hc => ?_) (fun hc => ?_) <;> (try first | exact False.elim hc | (exfalso; omega))))
    exact X.ret (vs := [_]) rfl ⟨rfl, rfl⟩ rfl (fun w hw => ⟨rfl, hw.ext⟩)
end Go.Proofs.YtpnfmbfehbnljaaGreatDoor
