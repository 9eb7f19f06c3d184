/- Joined texts: Wid, Fx2, Sym, Stab, Stab2. -/
import Derived.Test.YtjmdeplmenbmmaaGreatDoorW09
import Derived.Test.YtjmdeplmenbmmaaGreatDoorW05
import Derived.Test.YtjmdeplmenbmmaaGreatDoorV07
import Derived.Test.YtjmdeplmenbmmaaGreatDoorW01
import Derived.Test.YtjmdeplmenbmmaaGreatDoorW02
import Derived.Test.YtjmdeplmenbmmaaGreatDoorW04
import Derived.Test.YtjmdeplmenbmmaaGreatDoorW03
set_option linter.unusedVariables false
set_option maxHeartbeats 8000000
namespace Go.Proofs.YtjmdeplmenbmmaaGreatDoor
open Go.RowKit
section
variable {P : Program} {n : Nat} {L : FL} {w0 : World} {H : List Hl} {d : Option Tmp} {ty : TypeId} {pos : String} {af : Array Edge} {g : Option (Nat × Bool)} {x y : Operand} {k k' : IntKind} {m q r c : Int} {t t' : TypeId}
theorem y_shrQ (hx : evO L x = some (.int k m)) (hy : evO L y = some (.int k' c)) (hc : 0 ≤ c) (hq : (2 : Int) ^ (min c.toNat k.bits) = q) (hr : m / q = r) : V P n L w0 H ⟨d, .binOp .shr t x y t', ty, pos, af, g⟩ (.int k r) := by
  rw [← hr]
  exact y_shr hx hy hc hq
theorem y_and60 {m : Nat} (hx : evO L x = some (.int .i64 (m : Int))) (hy : evO L y = some (.int .i64 1152921504606846975)) (h : m < 1152921504606846976) : V P n L w0 H ⟨d, .binOp .and t x y t', ty, pos, af, g⟩ (.int .i64 (m : Int)) := by
  have := y_band (P := P) (n := n) (w0 := w0) (H := H) (d := d) (ty := ty) (pos := pos) (af := af) (g := g) (t := t) (t' := t') hx hy
  have e : bits .and .i64 (m : Int) 1152921504606846975 = ((m % 2 ^ 60 : Nat) : Int) := and_low (a := m) (k := 60) (by omega) (by decide)
  rw [e, Nat.mod_eq_of_lt (by omega)] at this
  exact this
theorem y_and60U {m : Nat} (hx : evO L x = some (.int .u64 (m : Int))) (hy : evO L y = some (.int .u64 1152921504606846975)) (h : m < 1152921504606846976) : V P n L w0 H ⟨d, .binOp .and t x y t', ty, pos, af, g⟩ (.int .u64 (m : Int)) := by
  have := y_band (P := P) (n := n) (w0 := w0) (H := H) (d := d) (ty := ty) (pos := pos) (af := af) (g := g) (t := t) (t' := t') hx hy
  have e : bits .and .u64 (m : Int) 1152921504606846975 = (m : Int) := by
    have h1 := bits_and_u64_nat m 1152921504606846975 (by omega) (by omega)
    have h2 : m &&& 1152921504606846975 = m % 1152921504606846976 := Nat.and_two_pow_sub_one_eq_mod m 60
    rw [h2, Nat.mod_eq_of_lt h] at h1
    exact h1
  rw [e] at this
  exact this
theorem y_or0U {m : Nat} (hx : evO L x = some (.int .u64 0)) (hy : evO L y = some (.int .u64 (m : Int))) (h : m < 18446744073709551616) : V P n L w0 H ⟨d, .binOp .or t x y t', ty, pos, af, g⟩ (.int .u64 (m : Int)) := by
  have := y_bor (P := P) (n := n) (w0 := w0) (H := H) (d := d) (ty := ty) (pos := pos) (af := af) (g := g) (t := t) (t' := t') hx hy
  have e : bits .or .u64 0 (m : Int) = (m : Int) := by
    have h1 := bits_or_u64_nat 0 m (by omega) h
    rw [Nat.zero_or] at h1
    exact h1
  rw [e] at this
  exact this
end
abbrev i60 (p : Nat) : Prop := p < 1152921504606846976
theorem wabs_c {n : Int} (h : 0 ≤ n ∧ n ≤ 4611686018427387904) : Cont Tryz.prog 225 [.int .i64 n] (.int .u64 n) := fun w => by
  refine enter0 Tryz.func225 rfl rfl rfl ?_
  repeat' (first
    | (refine nxV ?_)
    | (refine nxRS ?_) | (refine nxRS1 fun _ => ?_)
    | (refine nxRM ?_) | (refine nxRM1 fun _ => ?_)
    | (refine nxG ?_)
    | (refine nxX ?_)
    | (refine G.condN rfl (fun hc => ?_) (fun hc => ?_) <;> (try first | exact False.elim hc | (exfalso; omega))))
  exact X.ret (vs := [_]) rfl ⟨rfl, rfl⟩ rfl (fun w hw => ⟨rfl, hw.ext⟩)
theorem wval_c {p : Nat} (h : i60 p) : Cont Tryz.prog 271 [arcV 0 (p : Int)] (.bool true) := fun w => by
  have h' : (p : Int) < 1152921504606846976 := by omega
  refine enter0 Tryz.func271 rfl rfl rfl ?_
  repeat' (first
    | (refine nxV ?_)
    | (refine nxRS ?_) | (refine nxRS1 fun _ => ?_)
    | (refine nxRM ?_) | (refine nxRM1 fun _ => ?_)
    | (refine nxG ?_)
    | (refine nxX ?_)
    | (refine G.condN rfl (fun hc => ?_) (fun hc => ?_) <;> (try first | exact False.elim hc | (exfalso; omega))))
  refine X.ret (vs := [_]) rfl ⟨rfl, rfl⟩ rfl (fun w hw => ⟨ret_bool ?_, hw.ext⟩)
  simp
  omega
theorem wfit_c {p : Nat} (h : i60 p) : Cont Tryz.prog 270 [.int .i64 0, .int .i64 (p : Int)] (.tuple [arcV 0 (p : Int), .int .i64 0].toArray) := fun w => by
  have h' : (p : Int) / 1152921504606846976 = 0 := by omega
  have q1 := wval_c h
  refine enter0 Tryz.func270 rfl rfl rfl ?_
  repeat' (first
    | (show VK _ _ _ _ _ ⟨_, .binOp .shr _ _ _ _, _, _, _, _⟩ _; refine VK.mk (y_shrQ (r := 0) (by rfl) (by rfl) (by omega) (by decide) h') ?_)
    | (show YK _ _ _ _ _ ⟨_, .binOp .shr _ _ _ _, _, _, _, _⟩ _; refine YK.ofV (y_shrQ (r := 0) (by rfl) (by rfl) (by omega) (by decide) h') ?_)
    | (show VG _ _ _ _ _ _ ⟨_, .binOp .shr _ _ _ _, _, _, _, _⟩ _; refine VG.mk (fun hb => by (try (have hc := And.left hb; have hb := And.right hb; rw [hc])); (try rw [hb]); exact y_shrQ (r := 0) (by rfl) (by rfl) (by omega) (by decide) h') ?_)
    | (show YG _ _ _ _ _ _ ⟨_, .binOp .shr _ _ _ _, _, _, _, _⟩ _; refine YG.mk (fun hb => by (try (have hc := And.left hb; have hb := And.right hb; rw [hc])); (try rw [hb]); exact V.y (y_shrQ (r := 0) (by rfl) (by rfl) (by omega) (by decide) h')) ?_)
    | (show VK _ _ _ _ _ ⟨_, .binOp .and _ _ _ _, _, _, _, _⟩ _; refine VK.mk (y_and60 (by rfl) (by rfl) h) ?_)
    | (show YK _ _ _ _ _ ⟨_, .binOp .and _ _ _ _, _, _, _, _⟩ _; refine YK.ofV (y_and60 (by rfl) (by rfl) h) ?_)
    | (show VG _ _ _ _ _ _ ⟨_, .binOp .and _ _ _ _, _, _, _, _⟩ _; refine VG.mk (fun hb => by (try (have hc := And.left hb; have hb := And.right hb; rw [hc])); (try rw [hb]); exact y_and60 (by rfl) (by rfl) h) ?_)
    | (show YG _ _ _ _ _ _ ⟨_, .binOp .and _ _ _ _, _, _, _, _⟩ _; refine YG.mk (fun hb => by (try (have hc := And.left hb; have hb := And.right hb; rw [hc])); (try rw [hb]); exact V.y (y_and60 (by rfl) (by rfl) h)) ?_)
    | (show YK _ _ _ _ _ _ _; first | refine YK.mk (y_callA (q1) ⟨rfl, rfl⟩) ?_)
    | (refine nxV ?_)
    | (refine nxRS ?_) | (refine nxRS1 fun _ => ?_)
    | (refine nxRM ?_) | (refine nxRM1 fun _ => ?_)
    | (show YG _ _ _ _ _ _ _ _; refine YG.mk (fun hb => by (try (have hc := And.left hb; have hb := And.right hb; rw [hc])); (try rw [hb]); first | exact (y_callA (q1) ⟨rfl, rfl⟩) | exact V.y vAuto) ?_)
    | (refine nxG ?_)
    | (refine nxX ?_)
    | (refine G.condN rfl (fun hc => ?_) (fun hc => ?_) <;> (try first | exact False.elim hc | (exfalso; omega))))
  exact X.ret (vs := [_, _]) rfl ⟨⟨_, _, _, _, rfl, (by exact memA), (by (repeat (first | exact .nil | apply LenIs.cons))), by decide +kernel, rfl⟩, rfl, rfl⟩ rfl (fun w hw => ⟨rfl, hw.ext⟩)
theorem wwide_c {p : Nat} (h : i60 p) : Cont Tryz.prog 226 [.agg [.int .u64 0, .int .u64 (p : Int), .bool false].toArray] (.tuple [arcV 0 (p : Int), .int .i64 0].toArray) := fun w => by
  have h' : (p : Int) / 1152921504606846976 = 0 := by omega
  have q1 := wfit_c h
  refine enter0 Tryz.func226 rfl rfl rfl ?_
  repeat' (first
    | (show VK _ _ _ _ _ ⟨_, .binOp .shr _ _ _ _, _, _, _, _⟩ _; refine VK.mk (y_shrQ (r := 0) (by rfl) (by rfl) (by omega) (by decide) h') ?_)
    | (show YK _ _ _ _ _ ⟨_, .binOp .shr _ _ _ _, _, _, _, _⟩ _; refine YK.ofV (y_shrQ (r := 0) (by rfl) (by rfl) (by omega) (by decide) h') ?_)
    | (show VG _ _ _ _ _ _ ⟨_, .binOp .shr _ _ _ _, _, _, _, _⟩ _; refine VG.mk (fun hb => by (try (have hc := And.left hb; have hb := And.right hb; rw [hc])); (try rw [hb]); exact y_shrQ (r := 0) (by rfl) (by rfl) (by omega) (by decide) h') ?_)
    | (show YG _ _ _ _ _ _ ⟨_, .binOp .shr _ _ _ _, _, _, _, _⟩ _; refine YG.mk (fun hb => by (try (have hc := And.left hb; have hb := And.right hb; rw [hc])); (try rw [hb]); exact V.y (y_shrQ (r := 0) (by rfl) (by rfl) (by omega) (by decide) h')) ?_)
    | (show VK _ _ _ _ _ ⟨_, .binOp .and _ _ _ _, _, _, _, _⟩ _; refine VK.mk (y_and60U (by rfl) (by rfl) h) ?_)
    | (show YK _ _ _ _ _ ⟨_, .binOp .and _ _ _ _, _, _, _, _⟩ _; refine YK.ofV (y_and60U (by rfl) (by rfl) h) ?_)
    | (show VG _ _ _ _ _ _ ⟨_, .binOp .and _ _ _ _, _, _, _, _⟩ _; refine VG.mk (fun hb => by (try (have hc := And.left hb; have hb := And.right hb; rw [hc])); (try rw [hb]); exact y_and60U (by rfl) (by rfl) h) ?_)
    | (show YG _ _ _ _ _ _ ⟨_, .binOp .and _ _ _ _, _, _, _, _⟩ _; refine YG.mk (fun hb => by (try (have hc := And.left hb; have hb := And.right hb; rw [hc])); (try rw [hb]); exact V.y (y_and60U (by rfl) (by rfl) h)) ?_)
    | (show VK _ _ _ _ _ ⟨_, .binOp .or _ _ _ _, _, _, _, _⟩ _; refine VK.mk (y_or0U (m := 0) (by rfl) (by rfl) (by omega)) ?_)
    | (show YK _ _ _ _ _ ⟨_, .binOp .or _ _ _ _, _, _, _, _⟩ _; refine YK.ofV (y_or0U (m := 0) (by rfl) (by rfl) (by omega)) ?_)
    | (show VG _ _ _ _ _ _ ⟨_, .binOp .or _ _ _ _, _, _, _, _⟩ _; refine VG.mk (fun hb => by (try (have hc := And.left hb; have hb := And.right hb; rw [hc])); (try rw [hb]); exact y_or0U (m := 0) (by rfl) (by rfl) (by omega)) ?_)
    | (show YG _ _ _ _ _ _ ⟨_, .binOp .or _ _ _ _, _, _, _, _⟩ _; refine YG.mk (fun hb => by (try (have hc := And.left hb; have hb := And.right hb; rw [hc])); (try rw [hb]); exact V.y (y_or0U (m := 0) (by rfl) (by rfl) (by omega))) ?_)
    | (show YK _ _ _ _ _ _ _; first | refine YK.mk (y_callA (q1) ⟨rfl, rfl, rfl⟩) ?_)
    | (refine nxV ?_)
    | (refine nxRS ?_) | (refine nxRS1 fun _ => ?_)
    | (refine nxRM ?_) | (refine nxRM1 fun _ => ?_)
    | (show YG _ _ _ _ _ _ _ _; refine YG.mk (fun hb => by (try (have hc := And.left hb; have hb := And.right hb; rw [hc])); (try rw [hb]); first | exact (y_callA (q1) ⟨rfl, rfl, rfl⟩) | exact V.y vAuto) ?_)
    | (refine nxG ?_)
    | (refine G.mixedA 3 [.go 0, .go 1, .go 2, .go 3, .go 4, .go 5, .go 6, .go 7, .go 8, .go 9, .go 10, .go 11, .go 12, .go 13] ?_)
    | (refine nxX ?_)
    | (refine G.condN rfl (fun hc => ?_) (fun hc => ?_) <;> (try first | exact False.elim hc | (exfalso; omega))))
  all_goals first
    | (exfalso; omega)
    | exact X.ret (vs := [_, _]) rfl ⟨⟨_, _, _, _, rfl, (by exact memA), (by (repeat (first | exact .nil | apply LenIs.cons))), by decide +kernel, rfl⟩, rfl, rfl⟩ rfl (fun w hw => ⟨rfl, hw.ext⟩)
theorem wprod_c {a b : Nat} (h : i60 (a * b)) (ha : a ≤ 4611686018427387904) (hb : b ≤ 4611686018427387904) : Cont Tryz.prog 168 [.int .i64 (a : Int), .int .i64 (b : Int)] (.tuple [arcV 0 ((a * b : Nat) : Int), .int .i64 0].toArray) := fun w => by
  have q1 := wabs_c (n := (a : Int)) (by omega)
  have q2 := wabs_c (n := (b : Int)) (by omega)
  have q3 := mul64_c (x := (a : Int)) (y := (b : Int)) (by omega)
  have e : (a : Int) * b = ((a * b : Nat) : Int) := by simp
  rw [e] at q3
  have q4 := wwide_c h
  generalize a * b = p at *
  rw [show (p : Int) / 18446744073709551616 = 0 by omega, show (p : Int) % 18446744073709551616 = p by omega] at q3
  clear e
  refine enter0 Tryz.func168 rfl rfl rfl ?_
  repeat' (first
    | (show YK _ _ _ _ _ _ _; first | refine YK.mk (y_callA (q1) ⟨rfl, rfl⟩) ?_ | refine YK.mk (y_callA (q2) ⟨rfl, rfl⟩) ?_ | refine YK.mk (y_callA (q3) ⟨rfl, rfl, rfl⟩) ?_ | refine YK.mk (y_callA (q4) ⟨rfl, rfl⟩) ?_)
    | (refine nxV ?_)
    | (refine nxRS ?_) | (refine nxRS1 fun _ => ?_)
    | (refine nxRM ?_) | (refine nxRM1 fun _ => ?_)
    | (show YG _ _ _ _ _ _ _ _; refine YG.mk (fun hb => by (try (have hc := And.left hb; have hb := And.right hb; rw [hc])); (try rw [hb]); first | exact (y_callA (q1) ⟨rfl, rfl⟩) | exact (y_callA (q2) ⟨rfl, rfl⟩) | exact (y_callA (q3) ⟨rfl, rfl, rfl⟩) | exact (y_callA (q4) ⟨rfl, rfl⟩) | exact V.y vAuto) ?_)
    | (refine nxG ?_)
    | (refine nxX ?_)
    | (refine G.condN rfl (fun hc => ?_) (fun hc => ?_) <;> (try first | exact False.elim hc | (exfalso; omega))))
  exact X.ret (vs := [_, _]) rfl ⟨⟨_, _, _, _, rfl, (by exact memA), (by (repeat (first | exact .nil | apply LenIs.cons))), by decide +kernel, rfl⟩, rfl, rfl⟩ rfl (fun w hw => ⟨rfl, hw.ext⟩)
theorem wsize_c {p : Nat} (h : i60 p) : Cont Tryz.prog 272 [arcV 0 (p : Int)] (.agg [.int .u64 0, .int .u64 (p : Int), .bool false].toArray) := fun w => by
  refine enter0 Tryz.func272 rfl rfl rfl ?_
  repeat' (first
    | (show VK _ _ _ _ _ ⟨_, .binOp .or _ _ _ _, _, _, _, _⟩ _; refine VK.mk (y_or0U (m := p) (by rfl) (by rfl) (by omega)) ?_)
    | (show YK _ _ _ _ _ ⟨_, .binOp .or _ _ _ _, _, _, _, _⟩ _; refine YK.ofV (y_or0U (m := p) (by rfl) (by rfl) (by omega)) ?_)
    | (show VG _ _ _ _ _ _ ⟨_, .binOp .or _ _ _ _, _, _, _, _⟩ _; refine VG.mk (fun hb => by (try (have hc := And.left hb; have hb := And.right hb; rw [hc])); (try rw [hb]); exact y_or0U (m := p) (by rfl) (by rfl) (by omega)) ?_)
    | (show YG _ _ _ _ _ _ ⟨_, .binOp .or _ _ _ _, _, _, _, _⟩ _; refine YG.mk (fun hb => by (try (have hc := And.left hb; have hb := And.right hb; rw [hc])); (try rw [hb]); exact V.y (y_or0U (m := p) (by rfl) (by rfl) (by omega))) ?_)
    | (refine nxV ?_)
    | (refine nxRS ?_) | (refine nxRS1 fun _ => ?_)
    | (refine nxRM ?_) | (refine nxRM1 fun _ => ?_)
    | (refine nxG ?_)
    | (refine G.mixedA 1 [.go 0, .go 1, .go 2, .go 3, .go 4, .go 5] ?_)
    | (refine nxX ?_)
    | (refine G.condN rfl (fun hc => ?_) (fun hc => ?_) <;> (try first | exact False.elim hc | (exfalso; omega))))
  exact X.ret (vs := [_]) rfl ⟨⟨_, _, _, _, rfl, (by exact memA), (by (repeat (first | exact .nil | apply LenIs.cons))), by decide +kernel, rfl⟩, rfl⟩ rfl (fun w hw => ⟨rfl, hw.ext⟩)
def rndI (p d : Int) (u : Bool) : Int := if u = true then -(-p / d) else p / d
theorem rnd_up {p d : Int} (hd : 0 < d) : -(-p / d) = p / d + (if p % d = 0 then 0 else 1) := by
  have h1 := Int.emod_add_mul_ediv p d
  have h2 := Int.emod_nonneg p (by omega : d ≠ 0)
  have h3 := Int.emod_lt_of_pos p hd
  split
  · rename_i h
    rw [h, Int.zero_add] at h1
    have : -p / d = -(p / d) := by
      rw [← h1]
      rw [show -(d * (p / d)) = d * -(p / d) by rw [Int.mul_neg]]
      rw [Int.mul_ediv_cancel_left _ (by omega), Int.mul_ediv_cancel_left _ (by omega)]
    omega
  · have : -p / d = -(p / d) - 1 := by
      refine (Int.ediv_eq_iff_of_pos hd).2 ?_
      generalize p / d = q at *
      generalize p % d = r at *
      have e : (-q - 1) * d = -(d * q) - d := by rw [Int.sub_mul, Int.neg_mul, Int.mul_comm]; omega
      omega
    omega
theorem wquot_c {p : Nat} {d : Int} (h : i60 p) (hd : 0 < d ∧ d ≤ 4611686018427387904) (u : Bool) : Cont Tryz.prog 227 [arcV 0 (p : Int), .int .i64 d, .bool u] (.tuple [.int .i64 (rndI p d u), .int .i64 0].toArray) := fun w => by
  have q1 := wval_c h
  have q2 := wsize_c h
  have q3 := wabs_c (n := d) (by omega)
  have q4 := div64_c (hi := 0) (lo := (p : Int)) (y := d) (by omega)
  rw [show (0 : Int) * 18446744073709551616 + p = p by omega] at q4
  have h1 := Int.emod_nonneg (p : Int) (show d ≠ 0 by omega)
  have h2 : 0 ≤ (p : Int) / d := Int.ediv_nonneg (by omega) (by omega)
  have h3 : (p : Int) / d ≤ p := Int.ediv_le_self _ (by omega)
  have hr := rnd_up (p := p) hd.1
  unfold rndI
  rw [hr]
  generalize (p : Int) / d = q at *
  generalize (p : Int) % d = r at *
  have hd0 : ¬ d < 0 := by omega
  have hd1 : decide (d < 0) = false := decide_eq_false hd0
  cases u with
  | false =>
    rw [if_neg (by decide)]
    refine enter0 Tryz.func227 rfl rfl rfl ?_
    repeat' (first
    | (show YK _ _ _ _ _ _ _; first | refine YK.mk (y_callA (q1) ⟨rfl, rfl⟩) ?_ | refine YK.mk (y_callA (q2) ⟨rfl, rfl⟩) ?_ | refine YK.mk (y_callA (q3) ⟨rfl, rfl⟩) ?_ | refine YK.mk (y_callA (q4) ⟨rfl, rfl, rfl, rfl⟩) ?_)
    | (refine nxV ?_)
    | (refine nxRS ?_) | (refine nxRS1 fun _ => ?_)
    | (refine nxRM ?_) | (refine nxRM1 fun _ => ?_)
    | (show YG _ _ _ _ _ _ _ _; refine YG.mk (fun hb => by (try (have hc := And.left hb; have hb := And.right hb; rw [hc])); (try rw [hb]); first | exact (y_callA (q1) ⟨rfl, rfl⟩) | exact (y_callA (q2) ⟨rfl, rfl⟩) | exact (y_callA (q3) ⟨rfl, rfl⟩) | exact (y_callA (q4) ⟨rfl, rfl, rfl, rfl⟩) | exact V.y vAuto) ?_)
    | (refine nxG ?_)
    | (refine nxX ?_)
    | (refine G.condN rfl (fun hc => ?_) (fun hc => ?_) <;> (try first | exact False.elim hc | (exfalso; omega))))
    all_goals first
      | (exfalso; simp [hd1] at *; done)
      | (exfalso; simp [hd1] at *; omega)
      | exact X.ret (vs := [_, _]) rfl ⟨rfl, rfl, rfl⟩ rfl (fun w hw => ⟨rfl, hw.ext⟩)
  | true =>
    rw [if_pos rfl]
    by_cases h0 : r = 0
    · rw [if_pos h0, Int.add_zero]
      refine enter0 Tryz.func227 rfl rfl rfl ?_
      repeat' (first
    | (show YK _ _ _ _ _ _ _; first | refine YK.mk (y_callA (q1) ⟨rfl, rfl⟩) ?_ | refine YK.mk (y_callA (q2) ⟨rfl, rfl⟩) ?_ | refine YK.mk (y_callA (q3) ⟨rfl, rfl⟩) ?_ | refine YK.mk (y_callA (q4) ⟨rfl, rfl, rfl, rfl⟩) ?_)
    | (refine nxV ?_)
    | (refine nxRS ?_) | (refine nxRS1 fun _ => ?_)
    | (refine nxRM ?_) | (refine nxRM1 fun _ => ?_)
    | (show YG _ _ _ _ _ _ _ _; refine YG.mk (fun hb => by (try (have hc := And.left hb; have hb := And.right hb; rw [hc])); (try rw [hb]); first | exact (y_callA (q1) ⟨rfl, rfl⟩) | exact (y_callA (q2) ⟨rfl, rfl⟩) | exact (y_callA (q3) ⟨rfl, rfl⟩) | exact (y_callA (q4) ⟨rfl, rfl, rfl, rfl⟩) | exact V.y vAuto) ?_)
    | (refine nxG ?_)
    | (refine nxX ?_)
    | (refine G.condN rfl (fun hc => ?_) (fun hc => ?_) <;> (try first | exact False.elim hc | (exfalso; omega))))
      all_goals first
      | (exfalso; simp [hd1] at *; done)
      | (exfalso; simp [hd1] at *; omega)
      | exact X.ret (vs := [_, _]) rfl ⟨rfl, rfl, rfl⟩ rfl (fun w hw => ⟨rfl, hw.ext⟩)
    · rw [if_neg h0]
      refine enter0 Tryz.func227 rfl rfl rfl ?_
      repeat' (first
    | (show YK _ _ _ _ _ _ _; first | refine YK.mk (y_callA (q1) ⟨rfl, rfl⟩) ?_ | refine YK.mk (y_callA (q2) ⟨rfl, rfl⟩) ?_ | refine YK.mk (y_callA (q3) ⟨rfl, rfl⟩) ?_ | refine YK.mk (y_callA (q4) ⟨rfl, rfl, rfl, rfl⟩) ?_)
    | (refine nxV ?_)
    | (refine nxRS ?_) | (refine nxRS1 fun _ => ?_)
    | (refine nxRM ?_) | (refine nxRM1 fun _ => ?_)
    | (show YG _ _ _ _ _ _ _ _; refine YG.mk (fun hb => by (try (have hc := And.left hb; have hb := And.right hb; rw [hc])); (try rw [hb]); first | exact (y_callA (q1) ⟨rfl, rfl⟩) | exact (y_callA (q2) ⟨rfl, rfl⟩) | exact (y_callA (q3) ⟨rfl, rfl⟩) | exact (y_callA (q4) ⟨rfl, rfl, rfl, rfl⟩) | exact V.y vAuto) ?_)
    | (refine nxG ?_)
    | (refine nxX ?_)
    | (refine G.condN rfl (fun hc => ?_) (fun hc => ?_) <;> (try first | exact False.elim hc | (exfalso; omega))))
      all_goals first
      | (exfalso; simp [hd1] at *; done)
      | (exfalso; simp [hd1] at *; omega)
      | exact X.ret (vs := [_, _]) rfl ⟨rfl, rfl, rfl⟩ rfl (fun w hw => ⟨rfl, hw.ext⟩)
theorem wfloor_c {p : Nat} {d : Int} (h : i60 p) (hd : 0 < d ∧ d ≤ 4611686018427387904) : Cont Tryz.prog 169 [arcV 0 (p : Int), .int .i64 d] (.tuple [.int .i64 ((p : Int) / d), .int .i64 0].toArray) := fun w => by
  have q1 := wquot_c h hd false
  have e : rndI p d false = (p : Int) / d := if_neg (by decide)
  rw [e] at q1
  refine enter0 Tryz.func169 rfl rfl rfl ?_
  repeat' (first
    | (show YK _ _ _ _ _ _ _; first | refine YK.mk (y_callA (q1) ⟨rfl, rfl, rfl, rfl⟩) ?_)
    | (refine nxV ?_)
    | (refine nxRS ?_) | (refine nxRS1 fun _ => ?_)
    | (refine nxRM ?_) | (refine nxRM1 fun _ => ?_)
    | (show YG _ _ _ _ _ _ _ _; refine YG.mk (fun hb => by (try (have hc := And.left hb; have hb := And.right hb; rw [hc])); (try rw [hb]); first | exact (y_callA (q1) ⟨rfl, rfl, rfl, rfl⟩) | exact V.y vAuto) ?_)
    | (refine nxG ?_)
    | (refine nxX ?_)
    | (refine G.condN rfl (fun hc => ?_) (fun hc => ?_) <;> (try first | exact False.elim hc | (exfalso; omega))))
  exact X.ret (vs := [_, _]) rfl ⟨rfl, rfl, rfl⟩ rfl (fun w hw => ⟨rfl, hw.ext⟩)
theorem wceil_c {p : Nat} {d : Int} (h : i60 p) (hd : 0 < d ∧ d ≤ 4611686018427387904) : Cont Tryz.prog 170 [arcV 0 (p : Int), .int .i64 d] (.tuple [.int .i64 (-(-(p : Int) / d)), .int .i64 0].toArray) := fun w => by
  have q1 := wquot_c h hd true
  have e : rndI p d true = -(-(p : Int) / d) := if_pos rfl
  rw [e] at q1
  refine enter0 Tryz.func170 rfl rfl rfl ?_
  repeat' (first
    | (show YK _ _ _ _ _ _ _; first | refine YK.mk (y_callA (q1) ⟨rfl, rfl, rfl, rfl⟩) ?_)
    | (refine nxV ?_)
    | (refine nxRS ?_) | (refine nxRS1 fun _ => ?_)
    | (refine nxRM ?_) | (refine nxRM1 fun _ => ?_)
    | (show YG _ _ _ _ _ _ _ _; refine YG.mk (fun hb => by (try (have hc := And.left hb; have hb := And.right hb; rw [hc])); (try rw [hb]); first | exact (y_callA (q1) ⟨rfl, rfl, rfl, rfl⟩) | exact V.y vAuto) ?_)
    | (refine nxG ?_)
    | (refine nxX ?_)
    | (refine G.condN rfl (fun hc => ?_) (fun hc => ?_) <;> (try first | exact False.elim hc | (exfalso; omega))))
  exact X.ret (vs := [_, _]) rfl ⟨rfl, rfl, rfl⟩ rfl (fun w hw => ⟨rfl, hw.ext⟩)
theorem enclose_c {x n : Nat} {d : Int} (h : i60 (x * n)) (hx : x ≤ 4611686018427387904) (hn : n ≤ 4611686018427387904) (hd : 0 < d ∧ d ≤ 4611686018427387904) : Cont Tryz.prog 98 [.int .i64 (x : Int), .int .i64 (n : Int), .int .i64 d] (.tuple [.int .i64 (((x * n : Nat) : Int) / d), .int .i64 (-(-((x * n : Nat) : Int) / d)), .int .i64 0].toArray) := fun w => by
  have q1 := wprod_c h hx hn
  have q2 := wfloor_c h hd
  have q3 := wceil_c h hd
  generalize x * n = p at *
  generalize (p : Int) / d = a at *
  generalize -(-(p : Int) / d) = b at *
  refine enter0 Tryz.func98 rfl rfl rfl ?_
  repeat' (first
    | (show YK _ _ _ _ _ _ _; first | refine YK.mk (y_callA (q1) ⟨rfl, rfl, rfl⟩) ?_ | refine YK.mk (y_callA (q2) ⟨rfl, rfl, rfl⟩) ?_ | refine YK.mk (y_callA (q3) ⟨rfl, rfl, rfl⟩) ?_)
    | (refine nxV ?_)
    | (refine nxRS ?_) | (refine nxRS1 fun _ => ?_)
    | (refine nxRM ?_) | (refine nxRM1 fun _ => ?_)
    | (show YG _ _ _ _ _ _ _ _; refine YG.mk (fun hb => by (try (have hc := And.left hb; have hb := And.right hb; rw [hc])); (try rw [hb]); first | exact (y_callA (q1) ⟨rfl, rfl, rfl⟩) | exact (y_callA (q2) ⟨rfl, rfl, rfl⟩) | exact (y_callA (q3) ⟨rfl, rfl, rfl⟩) | exact V.y vAuto) ?_)
    | (refine nxG ?_)
    | (refine nxX ?_)
    | (refine G.condN rfl (fun hc => ?_) (fun hc => ?_) <;> (try first | exact False.elim hc | (exfalso; omega))))
  all_goals exact X.ret (vs := [_, _, _]) rfl ⟨rfl, rfl, rfl, rfl⟩ rfl (fun w hw => ⟨rfl, hw.ext⟩)
theorem factor_c {n : Int} : Cont Tryz.prog 96 [.int .i64 n] (.bool (decide (-1099511627776 ≤ n) && decide (n ≤ 1099511627776))) := fun w => by
  refine enter0 Tryz.func96 rfl rfl rfl ?_
  repeat' (first
    | (refine nxV ?_)
    | (refine nxRS ?_) | (refine nxRS1 fun _ => ?_)
    | (refine nxRM ?_) | (refine nxRM1 fun _ => ?_)
    | (refine nxG ?_)
    | (refine nxX ?_)
    | (refine G.condN rfl (fun hc => ?_) (fun hc => ?_) <;> (try first | exact False.elim hc | (exfalso; omega))))
  exact X.ret (vs := [_]) rfl ⟨rfl, rfl⟩ rfl (fun w hw => ⟨rfl, hw.ext⟩)
theorem factor_t {n : Int} (h : -1099511627776 ≤ n ∧ n ≤ 1099511627776) : Cont Tryz.prog 96 [.int .i64 n] (.bool true) := by
  have := factor_c (n := n)
  rw [decide_eq_true h.1, decide_eq_true h.2] at this
  exact this
theorem scale_c {p1 p2 n : Nat} (h : p1 ≤ p2 ∧ p2 ≤ 1073741824) (hn : n ≤ 100000000) : Cont Tryz.prog 90 [arcV (p1 : Int) (p2 : Int), .int .i64 (n : Int)] (.tuple [.int .i64 (((p1 * n : Nat) : Int) / 1073741824), .int .i64 (-(-((p2 * n : Nat) : Int) / 1073741824)), .int .i64 0].toArray) := fun w => by
  have b1 : p1 * n ≤ 1073741824 * 100000000 := Nat.mul_le_mul (by omega) hn
  have b2 : p2 * n ≤ 1073741824 * 100000000 := Nat.mul_le_mul (by omega) hn
  have b3 : p1 * n ≤ p2 * n := Nat.mul_le_mul_right n h.1
  have q1 := fvalid_t (lo := (p1 : Int)) (hi := (p2 : Int)) (by omega)
  have q2 := factor_t (n := (n : Int)) (by omega)
  have q3 := enclose_c (x := p1) (n := n) (d := 1073741824) (by omega) (by omega) (by omega) (by omega)
  have q4 := enclose_c (x := p2) (n := n) (d := 1073741824) (by omega) (by omega) (by omega) (by omega)
  generalize p1 * n = u at *
  generalize p2 * n = v at *
  have e1 : min ((u : Int) / 1073741824) ((v : Int) / 1073741824) = (u : Int) / 1073741824 := by omega
  have e2 : max (-(-(u : Int) / 1073741824)) (-(-(v : Int) / 1073741824)) = -(-(v : Int) / 1073741824) := by omega
  refine enter0 Tryz.func90 rfl rfl rfl ?_
  repeat' (first
    | (show YK _ _ _ _ _ _ _; first | refine YK.mk (y_callA (q1) ⟨rfl, rfl⟩) ?_ | refine YK.mk (y_callA (q2) ⟨rfl, rfl⟩) ?_ | refine YK.mk (y_callA (q3) ⟨rfl, rfl, rfl, rfl⟩) ?_ | refine YK.mk (y_callA (q4) ⟨rfl, rfl, rfl, rfl⟩) ?_)
    | (refine nxV ?_)
    | (refine nxRS ?_) | (refine nxRS1 fun _ => ?_)
    | (refine nxRM ?_) | (refine nxRM1 fun _ => ?_)
    | (show YG _ _ _ _ _ _ _ _; refine YG.mk (fun hb => by (try (have hc := And.left hb; have hb := And.right hb; rw [hc])); (try rw [hb]); first | exact (y_callA (q1) ⟨rfl, rfl⟩) | exact (y_callA (q2) ⟨rfl, rfl⟩) | exact (y_callA (q3) ⟨rfl, rfl, rfl, rfl⟩) | exact (y_callA (q4) ⟨rfl, rfl, rfl, rfl⟩) | exact V.y vAuto) ?_)
    | (refine nxG ?_)
    | (refine nxX ?_)
    | (refine G.condN rfl (fun hc => ?_) (fun hc => ?_) <;> (try first | exact False.elim hc | (exfalso; omega))))
  refine X.ret (vs := [_, _, _]) rfl ⟨rfl, rfl, rfl, rfl⟩ rfl (fun w hw => ⟨?_, hw.ext⟩)
  rw [e1, e2]
end Go.Proofs.YtjmdeplmenbmmaaGreatDoor
set_option maxHeartbeats 8000000
namespace Go.Proofs.YtjmdeplmenbmmaaGreatDoor
open Go.RowKit
abbrev two31 (p : Int × Int) : Prop := -2147483648 ≤ p.1 ∧ p.1 ≤ p.2 ∧ p.2 ≤ 2147483648
theorem fsub_c {p q : Int × Int} (hp : two31 p) (hq : two31 q) (h : -2147483648 ≤ (TT.subE p q).1 ∧ (TT.subE p q).2 ≤ 2147483648) : Cont Tryz.prog 175 [arcV p.1 p.2, arcV q.1 q.2] (.tuple [arcV (TT.subE p q).1 (TT.subE p q).2, .int .i64 0].toArray) := fun w => by
  unfold TT.subE at *
  dsimp only at *
  have q1 := fboth_c hp hq
  have q2 := ffit_c (lo := p.1 - q.2) (hi := p.2 - q.1) (by omega)
  refine enter0 Tryz.func175 rfl rfl rfl ?_
  repeat' (first
    | (show YK _ _ _ _ _ _ _; first | refine YK.mk (y_callA (q1) ⟨rfl, rfl, rfl⟩) ?_ | refine YK.mk (y_callA (q2) ⟨rfl, rfl, rfl⟩) ?_)
    | (refine nxV ?_)
    | (refine nxRS ?_) | (refine nxRS1 fun _ => ?_)
    | (refine nxRM ?_) | (refine nxRM1 fun _ => ?_)
    | (show YG _ _ _ _ _ _ _ _; refine YG.mk (fun hb => by (try (have hc := And.left hb; have hb := And.right hb; rw [hc])); (try rw [hb]); first | exact (y_callA (q1) ⟨rfl, rfl, rfl⟩) | exact (y_callA (q2) ⟨rfl, rfl, rfl⟩) | exact V.y vAuto) ?_)
    | (refine nxG ?_)
    | (refine nxX ?_)
    | (refine G.condN rfl (fun hc => ?_) (fun hc => ?_) <;> (try first | exact False.elim hc | (exfalso; omega))))
  all_goals exact X.ret (vs := [_, _]) rfl ⟨⟨_, _, _, _, rfl, (by exact memA), (by (repeat (first | exact .nil | apply LenIs.cons))), by decide +kernel, rfl⟩, rfl, rfl⟩ rfl (fun w hw => ⟨rfl, hw.ext⟩)
theorem fmeet_c {p : Int × Int} (hp : two31 p) (h : (TT.meetO p).1 ≤ (TT.meetO p).2) : Cont Tryz.prog 107 [arcV p.1 p.2, arcV (-1073741824) 1073741824] (.tuple [arcV (TT.meetO p).1 (TT.meetO p).2, .int .i64 0].toArray) := fun w => by
  unfold TT.meetO at *
  dsimp only at *
  have q1 := fboth_c (a := p.1) (b := p.2) (c := -1073741824) (d := 1073741824) hp (by omega)
  refine enter0 Tryz.func107 rfl rfl rfl ?_
  repeat' (first
    | (show YK _ _ _ _ _ _ _; first | refine YK.mk (y_callA (q1) ⟨rfl, rfl, rfl⟩) ?_)
    | (refine nxV ?_)
    | (refine nxRS ?_) | (refine nxRS1 fun _ => ?_)
    | (refine nxRM ?_) | (refine nxRM1 fun _ => ?_)
    | (show YG _ _ _ _ _ _ _ _; refine YG.mk (fun hb => by (try (have hc := And.left hb; have hb := And.right hb; rw [hc])); (try rw [hb]); first | exact (y_callA (q1) ⟨rfl, rfl, rfl⟩) | exact V.y vAuto) ?_)
    | (refine nxG ?_)
    | (refine nxX ?_)
    | (refine G.condN rfl (fun hc => ?_) (fun hc => ?_) <;> (try first | exact False.elim hc | (exfalso; omega))))
  all_goals first
    | (exfalso; omega)
    | exact X.ret (vs := [_, _]) rfl ⟨⟨_, _, _, _, rfl, (by exact memA), (by (repeat (first | exact .nil | apply LenIs.cons))), by decide +kernel, rfl⟩, rfl, rfl⟩ rfl (fun w hw => ⟨rfl, hw.ext⟩)
theorem fzero_c {a b : Int} : Cont Tryz.prog 97 [arcV a b] (.bool (decide (a ≤ 0) && decide (0 ≤ b))) := fun w => by
  refine enter0 Tryz.func97 rfl rfl rfl ?_
  repeat' (first
    | (refine nxV ?_)
    | (refine nxRS ?_) | (refine nxRS1 fun _ => ?_)
    | (refine nxRM ?_) | (refine nxRM1 fun _ => ?_)
    | (refine nxG ?_)
    | (refine nxX ?_)
    | (refine G.condN rfl (fun hc => ?_) (fun hc => ?_) <;> (try first | exact False.elim hc | (exfalso; omega))))
  exact X.ret (vs := [_]) rfl ⟨rfl, rfl⟩ rfl (fun w hw => ⟨rfl, hw.ext⟩)
theorem fzero_f {a b : Int} (h : 0 < a) : Cont Tryz.prog 97 [arcV a b] (.bool false) := by
  have := fzero_c (a := a) (b := b)
  rw [decide_eq_false (by omega), Bool.false_and] at this
  exact this
theorem tdiv_gen {n d : Int} (hd : 0 < d) : (n.tmod d = 0 → n.tdiv d = n / d) ∧ (n.tmod d ≠ 0 → n < 0 → n.tdiv d - 1 = n / d) ∧ (0 ≤ n → n.tdiv d = n / d) := by
  by_cases h : n < 0
  · obtain ⟨m, rfl⟩ : ∃ m, n = -m := ⟨-n, by omega⟩
    have e1 : (-m).tdiv d = -(m / d) := by rw [Int.neg_tdiv, Int.tdiv_eq_ediv_of_nonneg (by omega)]
    have e2 : (-m).tmod d = -(m % d) := by rw [Int.neg_tmod, Int.tmod_eq_emod_of_nonneg (by omega)]
    have e3 := rnd_up (p := m) hd
    rw [e1, e2]
    split at e3 <;> omega
  · have e1 := Int.tdiv_eq_ediv_of_nonneg (a := n) (b := d) (by omega)
    omega
theorem tdiv_bd {n d : Int} (hd : 0 < d) (h : -4611686018427387904 ≤ n ∧ n ≤ 4611686018427387904) : -4611686018427387904 ≤ n / d ∧ n / d ≤ 4611686018427387904 := by
  have h1 := Int.emod_add_mul_ediv n d
  have h2 := Int.emod_nonneg n (by omega : d ≠ 0)
  have h3 := Int.emod_lt_of_pos n hd
  constructor
  · refine Int.not_lt.1 fun hlt => ?_
    have : d * (n / d) ≤ d * -4611686018427387905 := Int.mul_le_mul_of_nonneg_left (by omega) (by omega)
    have h4 : d * -4611686018427387905 + d ≤ -4611686018427387904 := by omega
    omega
  · by_cases hn : 0 ≤ n
    · have := Int.ediv_le_self (a := n) d hn
      omega
    · have : n / d < 0 := Int.ediv_neg_of_neg_of_pos (by omega) hd
      omega
theorem ffloorD_c {n d : Int} (hd : 0 < d ∧ d ≤ 4611686018427387904) (h : -4611686018427387904 ≤ n ∧ n ≤ 4611686018427387904) : Cont Tryz.prog 160 [.int .i64 n, .int .i64 d] (.int .i64 (n / d)) := fun w => by
  obtain ⟨g1, g2, g3⟩ := tdiv_gen (n := n) hd.1
  have hb := tdiv_bd hd.1 h
  have hb2 : -4611686018427387904 ≤ n.tdiv d ∧ n.tdiv d ≤ 4611686018427387905 := by
    by_cases e : n.tmod d = 0
    · rw [g1 e]; omega
    · by_cases e2 : n < 0
      · have := g2 e e2; omega
      · rw [g3 (by omega)]; omega
  have hw1 := IntWalk.i64_in (n.tdiv d) (by omega)
  have hw2 := IntWalk.i64_in (n.tdiv d - 1) (by omega)
  have hd0 : ¬ d < 0 := by omega
  generalize n / d = r at *
  refine enter0 Tryz.func160 rfl rfl rfl ?_
  repeat' (first
    | (refine nxV ?_)
    | (refine nxRS ?_) | (refine nxRS1 fun _ => ?_)
    | (refine nxRM ?_) | (refine nxRM1 fun _ => ?_)
    | (refine nxG ?_)
    | (refine nxX ?_)
    | (refine G.condN rfl (fun hc => ?_) (fun hc => ?_) <;> (try first | exact False.elim hc | (exfalso; omega))))
  all_goals refine X.ret (vs := [_]) rfl ⟨rfl, rfl⟩ rfl (fun w hw => ⟨congrArg Ending.returned (congrArg (Value.int .i64) ?_), hw.ext⟩)
  all_goals rw [hw1]
  all_goals (try rw [hw2])
  all_goals (simp [hd0] at hc; omega)
theorem fceilD_c {n d : Int} (hd : 0 < d ∧ d ≤ 4611686018427387904) (h : -4611686018427387904 ≤ n ∧ n ≤ 4611686018427387904) : Cont Tryz.prog 161 [.int .i64 n, .int .i64 d] (.int .i64 (-(-n / d))) := fun w => by
  have q1 := ffloorD_c (n := -n) hd (by omega)
  have hb := tdiv_bd (n := -n) hd.1 (by omega)
  generalize -n / d = r at *
  refine enter0 Tryz.func161 rfl rfl rfl ?_
  repeat' (first
    | (show YK _ _ _ _ _ _ _; first | refine YK.mk (y_callA (q1) ⟨rfl, rfl, rfl⟩) ?_)
    | (refine nxV ?_)
    | (refine nxRS ?_) | (refine nxRS1 fun _ => ?_)
    | (refine nxRM ?_) | (refine nxRM1 fun _ => ?_)
    | (show YG _ _ _ _ _ _ _ _; refine YG.mk (fun hb => by (try (have hc := And.left hb; have hb := And.right hb; rw [hc])); (try rw [hb]); first | exact (y_callA (q1) ⟨rfl, rfl, rfl⟩) | exact V.y vAuto) ?_)
    | (refine nxG ?_)
    | (refine nxX ?_)
    | (refine G.condN rfl (fun hc => ?_) (fun hc => ?_) <;> (try first | exact False.elim hc | (exfalso; omega))))
  exact X.ret (vs := [_]) rfl ⟨rfl, rfl⟩ rfl (fun w hw => ⟨rfl, hw.ext⟩)
end Go.Proofs.YtjmdeplmenbmmaaGreatDoor
set_option maxHeartbeats 1000000
namespace Go.Proofs.YtjmdeplmenbmmaaGreatDoor
open Go.RowKit
end Go.Proofs.YtjmdeplmenbmmaaGreatDoor
set_option maxHeartbeats 4000000
namespace Go.Proofs.YtjmdeplmenbmmaaGreatDoor
open Go.RowKit
theorem X.endN {P : Program} {n : Nat} {L : FL} {w0 : World} {H : List Hl} {fn : Func} {R : Ending → World → Prop} (hf : fn.results = #[]) (h : ∀ w, St w0 H w → R (.returned (.tuple #[])) w) : X (bodyPost P fn R) n L w0 H .normal := by
  have h1 := X.ret (P := P) (n := n) (L := L) (w0 := w0) (H := H) (fn := fn) (R := R) (rs := []) (vs := []) hf rfl rfl h
  unfold X at h1 ⊢
  exact h1
end Go.Proofs.YtjmdeplmenbmmaaGreatDoor
set_option maxHeartbeats 4000000
namespace Go.Proofs.YtjmdeplmenbmmaaGreatDoor
open Go.RowKit
theorem X.retZ {P : Program} {n : Nat} {L : FL} {w0 : World} {H : List Hl} {fn : Func} {R : Ending → World → Prop} (hf : fn.results = #[]) (h : ∀ w, St w0 H w → R (.returned (.tuple #[])) w) : X (bodyPost P fn R) n L w0 H .ret := X.ret (rs := []) (vs := []) hf rfl rfl h
end Go.Proofs.YtjmdeplmenbmmaaGreatDoor
