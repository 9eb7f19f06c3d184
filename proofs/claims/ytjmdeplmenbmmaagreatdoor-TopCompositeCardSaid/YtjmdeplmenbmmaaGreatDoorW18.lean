/- Joined texts: Plc, Gdr, Dir. -/
import Derived.Test.YtjmdeplmenbmmaaGreatDoorW17
import Derived.Test.YtjmdeplmenbmmaaGreatDoorW16
import Derived.Test.YtjmdeplmenbmmaaGreatDoorV08
import Derived.Test.YtjmdeplmenbmmaaGreatDoorV06
set_option linter.unusedVariables false
set_option maxHeartbeats 8000000
namespace Go.Proofs.YtjmdeplmenbmmaaGreatDoor
open Go.RowKit
abbrev plV (a b c d : Int) : Value := .agg [.int .i64 a, .int .i64 b, .int .i64 c, .int .i64 d].toArray
theorem edge_c {i lv e : Nat} (hi : i ≤ 200000) (hl : lv ≤ 16) (he : i * 10800000 / 2 ^ lv = e) : Cont Tryz.prog 145 [.int .i64 (i : Int), .int .i64 (lv : Int)] (.int .i64 (e : Int)) := fun w => by
  refine enter0 Tryz.func145 rfl rfl rfl ?_
  repeat' (first
    | (show VK _ _ _ _ _ ⟨_, .binOp .shr _ _ _ _, _, _, _, _⟩ _; refine VK.mk (y_shrA (m := i * 10800000) (j := lv) (by rfl) (by rfl) (by omega) (by omega) he) ?_)
    | (show YK _ _ _ _ _ ⟨_, .binOp .shr _ _ _ _, _, _, _, _⟩ _; refine YK.ofV (y_shrA (m := i * 10800000) (j := lv) (by rfl) (by rfl) (by omega) (by omega) he) ?_)
    | (show VG _ _ _ _ _ _ ⟨_, .binOp .shr _ _ _ _, _, _, _, _⟩ _; refine VG.mk (fun hb => by (try (have hc := And.left hb; have hb := And.right hb; rw [hc])); (try rw [hb]); exact y_shrA (m := i * 10800000) (j := lv) (by rfl) (by rfl) (by omega) (by omega) he) ?_)
    | (show YG _ _ _ _ _ _ ⟨_, .binOp .shr _ _ _ _, _, _, _, _⟩ _; refine YG.mk (fun hb => by (try (have hc := And.left hb; have hb := And.right hb; rw [hc])); (try rw [hb]); exact V.y (y_shrA (m := i * 10800000) (j := lv) (by rfl) (by rfl) (by omega) (by omega) he)) ?_)
    | (refine nxV ?_)
    | (refine nxRS ?_) | (refine nxRS1 fun _ => ?_)
    | (refine nxRM ?_) | (refine nxRM1 fun _ => ?_)
    | (refine nxG ?_)
    | (refine nxX ?_)
    | (refine G.condN rfl (fun hc => ?_) (fun hc => ?_) <;> (try first | exact False.elim hc | (exfalso; omega))))
  exact X.ret (vs := [_]) rfl ⟨rfl, rfl⟩ rfl (fun w hw => ⟨rfl, hw.ext⟩)
def egN (i lv : Nat) : Nat := i * 10800000 / 2 ^ lv
def bxA (x : RR.CellT) : Int := (egN x.r x.lv : Int) - 5400000
def bxB (x : RR.CellT) : Int := (egN (x.r + 1) x.lv : Int) - 5400000
def bxC (x : RR.CellT) : Int := (egN x.c x.lv : Int) - 10800000
def bxD (x : RR.CellT) : Int := (egN (x.c + 1) x.lv : Int) - 10800000
theorem egN_mono {i j lv : Nat} (h : i ≤ j) : egN i lv ≤ egN j lv := Nat.div_le_div_right (Nat.mul_le_mul_right _ h)
theorem egN_top (k lv : Nat) : egN (k * 2 ^ lv) lv = k * 10800000 := by
  unfold egN
  rw [Nat.mul_right_comm, Nat.mul_div_cancel _ (Nat.pow_pos (by decide))]
theorem egN_step (i lv : Nat) : egN (i + 1) lv ≤ egN i lv + 10800001 := by
  unfold egN
  have hp : 0 < 2 ^ lv := Nat.pow_pos (by decide)
  have h1 := Nat.div_add_mod (i * 10800000) (2 ^ lv)
  have h2 := Nat.mod_lt (i * 10800000) hp
  have h3 : (i + 1) * 10800000 < (i * 10800000 / 2 ^ lv + 10800002) * 2 ^ lv := by
    rw [Nat.add_mul (i * 10800000 / 2 ^ lv), Nat.mul_comm (i * 10800000 / 2 ^ lv)]
    have h4 : 10800002 * 1 ≤ 10800002 * 2 ^ lv := Nat.mul_le_mul_left _ hp
    omega
  have := (Nat.div_lt_iff_lt_mul hp).2 h3
  omega
structure BxOk (a b c d : Int) : Prop where
  lat : -5400000 ≤ a ∧ a ≤ b ∧ b ≤ 5400000
  lon : -10800000 ≤ c ∧ c < 10800000 ∧ c ≤ d ∧ d - c < 21600000
theorem box_ok {x : RR.CellT} (ok : RR.okC x) : BxOk (bxA x) (bxB x) (bxC x) (bxD x) := by
  obtain ⟨h1, h2, h3⟩ := ok
  have r1 := egN_mono (i := x.r) (j := x.r + 1) (lv := x.lv) (by omega)
  have r2 := egN_mono (i := x.r + 1) (j := 1 * 2 ^ x.lv) (lv := x.lv) (by omega)
  have c1 := egN_mono (i := x.c) (j := x.c + 1) (lv := x.lv) (by omega)
  have c2 := egN_mono (i := x.c + 1) (j := 2 * 2 ^ x.lv) (lv := x.lv) (by omega)
  have c3 := egN_step x.c x.lv
  have c4 : egN x.c x.lv < 21600000 := by
    unfold egN
    refine (Nat.div_lt_iff_lt_mul (Nat.pow_pos (by decide))).2 ?_
    have : x.c * 10800000 < 2 * 2 ^ x.lv * 10800000 := Nat.mul_lt_mul_of_pos_right h3 (by decide)
    omega
  rw [egN_top] at r2 c2
  unfold bxA bxB bxC bxD
  exact ⟨by omega, by omega⟩
theorem built_pl (a b c d : Int) : Tryz.prog.built 36 [(0, .agg [.int .i64 a, .int .i64 b].toArray), (1, .agg [.int .i64 c, .int .i64 d].toArray)] = some [.int .i64 a, .int .i64 b, .int .i64 c, .int .i64 d].toArray := by kernel_rfl
theorem box_c {x : RR.CellT} (ok : RR.okC x) : Cont Tryz.prog 61 [celV x.lv x.r x.c] (plV (bxA x) (bxB x) (bxC x) (bxD x)) := fun w => by
  have hbd := okC_bd ok
  have hk := box_ok ok
  have q1 := edge_c (i := x.r) (lv := x.lv) (e := egN x.r x.lv) (by omega) (by omega) rfl
  have q2 := edge_c (i := x.r + 1) (lv := x.lv) (e := egN (x.r + 1) x.lv) (by omega) (by omega) rfl
  have q3 := edge_c (i := x.c) (lv := x.lv) (e := egN x.c x.lv) (by omega) (by omega) rfl
  have q4 := edge_c (i := x.c + 1) (lv := x.lv) (e := egN (x.c + 1) x.lv) (by omega) (by omega) rfl
  obtain ⟨hk1, hk2⟩ := hk
  unfold bxA bxB bxC bxD at *
  generalize egN x.r x.lv = A at *
  generalize egN (x.r + 1) x.lv = B at *
  generalize egN x.c x.lv = C at *
  generalize egN (x.c + 1) x.lv = D at *
  refine enter0 Tryz.func61 rfl rfl rfl ?_
  repeat' (first
    | (refine nxN ?_)
    | (show VK _ _ _ _ _ ⟨some 31, .build _ _, _, _, _, _⟩ _; refine VK.mk (y_build (parts := [(0, .tmp 16), (1, .tmp 30)]) (vs := [_, _]) ⟨rfl, rfl, rfl⟩ (built_pl _ _ _ _)) ?_)
    | (show YK _ _ _ _ _ _ _; first | refine YK.mk (y_callA (q1) ⟨rfl, rfl, rfl⟩) ?_ | refine YK.mk (y_callA (q2) ⟨rfl, rfl, rfl⟩) ?_ | refine YK.mk (y_callA (q3) ⟨rfl, rfl, rfl⟩) ?_ | refine YK.mk (y_callA (q4) ⟨rfl, rfl, rfl⟩) ?_)
    | (refine nxV ?_)
    | (refine nxRS ?_) | (refine nxRS1 fun _ => ?_)
    | (refine nxRM ?_) | (refine nxRM1 fun _ => ?_)
    | (show YG _ _ _ _ _ _ _ _; refine YG.mk (fun hb => by (try (have hc := And.left hb; have hb := And.right hb; rw [hc])); (try rw [hb]); first | exact (y_callA (q1) ⟨rfl, rfl, rfl⟩) | exact (y_callA (q2) ⟨rfl, rfl, rfl⟩) | exact (y_callA (q3) ⟨rfl, rfl, rfl⟩) | exact (y_callA (q4) ⟨rfl, rfl, rfl⟩) | exact V.y vAuto) ?_)
    | (refine nxG ?_)
    | (refine G.mixedA 1 [.go 0, .go 1, .go 2, .go 3, .go 6, .go 7, .go 8, .go 9, .go 10, .go 14, .go 15, .go 16, .go 17, .go 20, .go 21, .go 22, .go 23, .go 24, .go 4, .go 5, .go 11, .go 12, .go 13, .go 18, .go 19, .go 25, .go 26, .go 27, .go 28, .go 29] ?_)
    | (refine nxX ?_)
    | (refine G.condN rfl (fun hc => ?_) (fun hc => ?_) <;> (try first | exact False.elim hc | (exfalso; omega))))
  exact X.ret (vs := [_]) rfl ⟨⟨_, _, _, _, rfl, (by exact memA), (by (repeat (first | exact .nil | apply LenIs.cons))), by decide +kernel, rfl⟩, rfl⟩ rfl (fun w hw => ⟨rfl, hw.ext⟩)
theorem plat_c {a b : Int} (h : -5400000 ≤ a ∧ a ≤ b ∧ b ≤ 5400000) : Cont Tryz.prog 100 [arcV a b] (.bool true) := fun w => by
  refine enter0 Tryz.func100 rfl rfl rfl ?_
  repeat' (first
    | (refine nxN ?_)
    | (refine nxV ?_)
    | (refine nxRS ?_) | (refine nxRS1 fun _ => ?_)
    | (refine nxRM ?_) | (refine nxRM1 fun _ => ?_)
    | (refine nxG ?_)
    | (refine nxX ?_)
    | (refine G.condN rfl (fun hc => ?_) (fun hc => ?_) <;> (try first | exact False.elim hc | (exfalso; omega))))
  exact X.ret (vs := [_]) rfl ⟨rfl, rfl⟩ rfl (fun w hw => ⟨ret_bool (by simp; omega), hw.ext⟩)
theorem pev_c : Cont Tryz.prog 176 [] (arcV (-10800000) 10800000) := fun w => by
  refine enter0 Tryz.func176 rfl rfl rfl ?_
  repeat' (first
    | (refine nxN ?_)
    | (refine nxV ?_)
    | (refine nxRS ?_) | (refine nxRS1 fun _ => ?_)
    | (refine nxRM ?_) | (refine nxRM1 fun _ => ?_)
    | (refine nxG ?_)
    | (refine nxX ?_)
    | (refine G.condN rfl (fun hc => ?_) (fun hc => ?_) <;> (try first | exact False.elim hc | (exfalso; omega))))
  exact X.ret (vs := [_]) rfl ⟨⟨_, _, _, _, rfl, (by exact memA), (by (repeat (first | exact .nil | apply LenIs.cons))), by decide +kernel, rfl⟩, rfl⟩ rfl (fun w hw => ⟨rfl, hw.ext⟩)
theorem pall_c {c d : Int} (h : d - c < 21600000) : Cont Tryz.prog 113 [arcV c d] (.bool false) := fun w => by
  have q1 := pev_c
  refine enter0 Tryz.func113 rfl rfl rfl ?_
  repeat' (first
    | (refine nxN ?_)
    | (show YK _ _ _ _ _ _ _; first | refine YK.mk (y_callA (q1) rfl) ?_)
    | (refine nxV ?_)
    | (refine nxRS ?_) | (refine nxRS1 fun _ => ?_)
    | (refine nxRM ?_) | (refine nxRM1 fun _ => ?_)
    | (show YG _ _ _ _ _ _ _ _; refine YG.mk (fun hb => by (try (have hc := And.left hb; have hb := And.right hb; rw [hc])); (try rw [hb]); first | exact (y_callA (q1) rfl) | exact V.y vAuto) ?_)
    | (refine nxG ?_)
    | (refine G.mixedA 1 [.go 0, .go 1, .go 2, .go 3] ?_)
    | (refine nxX ?_)
    | (refine G.condN rfl (fun hc => ?_) (fun hc => ?_) <;> (try first | exact False.elim hc | (exfalso; omega))))
  refine X.ret (vs := [_]) rfl ⟨rfl, rfl⟩ rfl (fun w hw => ⟨ret_bool ?_, hw.ext⟩)
  simp [eqCells, vEq]
  omega
theorem plon_c {c d : Int} (h : -10800000 ≤ c ∧ c < 10800000 ∧ c ≤ d ∧ d - c < 21600000) : Cont Tryz.prog 101 [arcV c d] (.bool true) := fun w => by
  have q1 := pall_c h.2.2.2
  refine enter0 Tryz.func101 rfl rfl rfl ?_
  repeat' (first
    | (refine nxN ?_)
    | (show YK _ _ _ _ _ _ _; first | refine YK.mk (y_callA (q1) ⟨rfl, rfl⟩) ?_)
    | (refine nxV ?_)
    | (refine nxRS ?_) | (refine nxRS1 fun _ => ?_)
    | (refine nxRM ?_) | (refine nxRM1 fun _ => ?_)
    | (show YG _ _ _ _ _ _ _ _; refine YG.mk (fun hb => by (try (have hc := And.left hb; have hb := And.right hb; rw [hc])); (try rw [hb]); first | exact (y_callA (q1) ⟨rfl, rfl⟩) | exact V.y vAuto) ?_)
    | (refine nxG ?_)
    | (refine nxX ?_)
    | (refine G.condN rfl (fun hc => ?_) (fun hc => ?_) <;> (try first | exact False.elim hc | (exfalso; omega))))
  exact X.ret (vs := [_]) rfl ⟨rfl, rfl⟩ rfl (fun w hw => ⟨ret_bool (by simp; omega), hw.ext⟩)
theorem pval_c {a b c d : Int} (h : BxOk a b c d) : Cont Tryz.prog 46 [plV a b c d] (.bool true) := fun w => by
  have q1 := plat_c h.lat
  have q2 := plon_c h.lon
  refine enter0 Tryz.func46 rfl rfl rfl ?_
  repeat' (first
    | (refine nxN ?_)
    | (show YK _ _ _ _ _ ⟨_, .load 34 _, _, _, _, _⟩ _; refine YK.ofV (y_loadPart (k := 2) (by rfl) (by exact memA) (by decide +kernel) (by rfl)) ?_)
    | (show VG _ _ _ _ _ _ ⟨_, .load 34 _, _, _, _, _⟩ _; refine VG.mk (fun hb => by (try rw [hb]); exact y_loadPart (k := 2) (by rfl) (by exact memA) (by decide +kernel) (by rfl)) ?_)
    | (show YG _ _ _ _ _ _ ⟨_, .load 34 _, _, _, _, _⟩ _; refine YG.mk (fun hb => by (try rw [hb]); exact V.y (y_loadPart (k := 2) (by rfl) (by exact memA) (by decide +kernel) (by rfl))) ?_)
    | (show YK _ _ _ _ _ _ _; first | refine YK.mk (y_callA (q1) ⟨rfl, rfl⟩) ?_ | refine YK.mk (y_callA (q2) ⟨rfl, rfl⟩) ?_)
    | (refine nxV ?_)
    | (refine nxRS ?_) | (refine nxRS1 fun _ => ?_)
    | (refine nxRM ?_) | (refine nxRM1 fun _ => ?_)
    | (show YG _ _ _ _ _ _ _ _; refine YG.mk (fun hb => by (try (have hc := And.left hb; have hb := And.right hb; rw [hc])); (try rw [hb]); first | exact (y_callA (q1) ⟨rfl, rfl⟩) | exact (y_callA (q2) ⟨rfl, rfl⟩) | exact V.y vAuto) ?_)
    | (refine nxG ?_)
    | (refine nxX ?_)
    | (refine G.condN rfl (fun hc => ?_) (fun hc => ?_) <;> (try first | exact False.elim hc | (exfalso; omega))))
  exact X.ret (vs := [_]) rfl ⟨rfl, rfl⟩ rfl (fun w hw => ⟨rfl, hw.ext⟩)
theorem pbey_c {c d n : Int} (h1 : -21600000 ≤ c ∧ c ≤ 21600000) (h2 : -21600000 ≤ n ∧ n ≤ 21600000) : Cont Tryz.prog 114 [arcV c d, .int .i64 n] (.int .i64 (TT.turnI (n - c))) := fun w => by
  have q1 := wrap_c (n := n - c) (by omega)
  refine enter0 Tryz.func114 rfl rfl rfl ?_
  repeat' (first
    | (refine nxN ?_)
    | (show YK _ _ _ _ _ _ _; first | refine YK.mk (y_callA (q1) ⟨rfl, rfl⟩) ?_)
    | (refine nxV ?_)
    | (refine nxRS ?_) | (refine nxRS1 fun _ => ?_)
    | (refine nxRM ?_) | (refine nxRM1 fun _ => ?_)
    | (show YG _ _ _ _ _ _ _ _; refine YG.mk (fun hb => by (try (have hc := And.left hb; have hb := And.right hb; rw [hc])); (try rw [hb]); first | exact (y_callA (q1) ⟨rfl, rfl⟩) | exact V.y vAuto) ?_)
    | (refine nxG ?_)
    | (refine nxX ?_)
    | (refine G.condN rfl (fun hc => ?_) (fun hc => ?_) <;> (try first | exact False.elim hc | (exfalso; omega))))
  exact X.ret (vs := [_]) rfl ⟨rfl, rfl⟩ rfl (fun w hw => ⟨rfl, hw.ext⟩)
theorem phas_c {c d n : Int} (h : -10800000 ≤ c ∧ c < 10800000 ∧ c ≤ d ∧ d - c < 21600000) (h2 : -10800000 ≤ n ∧ n ≤ 10800000) : Cont Tryz.prog 48 [arcV c d, .int .i64 n] (.bool (decide (TT.turnI (n - c) ≤ d - c))) := fun w => by
  have q1 := pall_c h.2.2.2
  have q2 := pbey_c (c := c) (d := d) (n := n) (by omega) (by omega)
  generalize TT.turnI (n - c) = k at *
  refine enter0 Tryz.func48 rfl rfl rfl ?_
  repeat' (first
    | (refine nxN ?_)
    | (show YK _ _ _ _ _ _ _; first | refine YK.mk (y_callA (q1) ⟨rfl, rfl⟩) ?_ | refine YK.mk (y_callA (q2) ⟨rfl, rfl, rfl⟩) ?_)
    | (refine nxV ?_)
    | (refine nxRS ?_) | (refine nxRS1 fun _ => ?_)
    | (refine nxRM ?_) | (refine nxRM1 fun _ => ?_)
    | (show YG _ _ _ _ _ _ _ _; refine YG.mk (fun hb => by (try (have hc := And.left hb; have hb := And.right hb; rw [hc])); (try rw [hb]); first | exact (y_callA (q1) ⟨rfl, rfl⟩) | exact (y_callA (q2) ⟨rfl, rfl, rfl⟩) | exact V.y vAuto) ?_)
    | (refine nxG ?_)
    | (refine G.mixedA 1 [.go 0, .go 1, .go 2, .go 3, .go 4, .go 6, .go 7, .go 8, .go 9, .go 10, .go 5, .go 11, .go 12, .go 13] ?_)
    | (refine nxX ?_)
    | (refine G.condN rfl (fun hc => ?_) (fun hc => ?_) <;> (try first | exact False.elim hc | (exfalso; omega))))
  exact X.ret (vs := [_]) rfl ⟨rfl, rfl⟩ rfl (fun w hw => ⟨ret_bool (by simp), hw.ext⟩)
def inBx (a b c d la lo : Int) : Bool := if la < a ∨ b < la then false else decide (la = 5400000) || decide (la = -5400000) || decide (TT.turnI (lo - c) ≤ d - c)
end Go.Proofs.YtjmdeplmenbmmaaGreatDoor
set_option maxHeartbeats 8000000
namespace Go.Proofs.YtjmdeplmenbmmaaGreatDoor
open Go.RowKit
def lonsI (k : Int × Int) : Int × Int := if 21600000 ≤ k.2 - k.1 then (-10800000, 10800000) else (signI k.1, signI k.1 + k.2 - k.1)
theorem glons_c {k : Int × Int} (h : -100000000 ≤ k.1 ∧ k.1 ≤ k.2 ∧ k.2 ≤ 100000000) : Cont Tryz.prog 112 [arcV k.1 k.2] (arcV (lonsI k).1 (lonsI k).2) := fun w => by
  obtain ⟨k1, k2⟩ := k
  unfold lonsI
  dsimp only at *
  have q1 := signed_c (n := k1) (by omega)
  have hs := signI_bd k1
  generalize signI k1 = s at *
  refine enter0 Tryz.func112 rfl rfl rfl ?_
  repeat' (first
    | (refine nxN ?_)
    | (show YK _ _ _ _ _ _ _; first | refine YK.mk (y_callA (q1) ⟨rfl, rfl⟩) ?_)
    | (refine nxV ?_)
    | (refine nxRS ?_) | (refine nxRS1 fun _ => ?_)
    | (refine nxRM ?_) | (refine nxRM1 fun _ => ?_)
    | (show YG _ _ _ _ _ _ _ _; refine YG.mk (fun hb => by (try (have hc := And.left hb; have hb := And.right hb; rw [hc])); (try rw [hb]); first | exact (y_callA (q1) ⟨rfl, rfl⟩) | exact V.y vAuto) ?_)
    | (refine nxG ?_)
    | (refine nxX ?_)
    | (refine G.condN rfl (fun hc => ?_) (fun hc => ?_) <;> (try first | exact False.elim hc | (exfalso; omega))))
  all_goals first
    | (rw [if_pos (by omega)]; exact X.ret (vs := [_]) rfl ⟨⟨_, _, _, _, rfl, (by exact memA), (by (repeat (first | exact .nil | apply LenIs.cons))), by decide +kernel, rfl⟩, rfl⟩ rfl (fun w hw => ⟨rfl, hw.ext⟩))
    | (rw [if_neg (by omega)]; exact X.ret (vs := [_]) rfl ⟨⟨_, _, _, _, rfl, (by exact memA), (by (repeat (first | exact .nil | apply LenIs.cons))), by decide +kernel, rfl⟩, rfl⟩ rfl (fun w hw => ⟨rfl, hw.ext⟩))
theorem kdir_c {b : Nat} {a lo n m : Int} {D kk : Int × Int} (h1 : lat8I a ∧ lon8I lo) (hD : 0 ≤ D.1 ∧ D.1 ≤ D.2 ∧ D.2 ≤ 10800000) (hK : 0 ≤ kk.1 ∧ kk.1 ≤ kk.2 ∧ kk.1 ≤ 21600000 ∧ kk.2 ≤ 43200000)
    (hm : (TT.meetO (TT.gdS a D kk)).1 ≤ (TT.meetO (TT.gdS a D kk)).2 ∧ -1073741824 ≤ (TT.meetO (TT.gdS a D kk)).1 ∧ (TT.meetO (TT.gdS a D kk)).2 ≤ 1073741824)
    (i1 : TT.IsAsin (TT.meetO (TT.gdS a D kk)).1 n) (i2 : TT.IsAsin (-(TT.meetO (TT.gdS a D kk)).2) m) :
    ContIn Tryz.prog (WkW b) 47 [ptK b, v4 a a lo lo, v4 kk.1 kk.2 D.1 D.2] (v4 n (-m) (lonsI (lo + (TT.gdE a D kk).1, lo + (TT.gdE a D kk).2)).1 (lonsI (lo + (TT.gdE a D kk).1, lo + (TT.gdE a D kk).2)).2) := fun w hs => by
  have eb : 0 ≤ (TT.gdE a D kk).1 ∧ (TT.gdE a D kk).1 ≤ (TT.gdE a D kk).2 ∧ (TT.gdE a D kk).1 ≤ 21600000 ∧ (TT.gdE a D kk).2 ≤ 43200000 := TT.brgI_bd _ _
  have q8 := glons_c (k := (lo + (TT.gdE a D kk).1, lo + (TT.gdE a D kk).2)) (by dsimp only; omega)
  dsimp only at q8
  generalize lonsI (lo + (TT.gdE a D kk).1, lo + (TT.gdE a D kk).2) = lg at *
  have o1 := TT.encl_ord (Int.le_refl a)
  have o2 := TT.cosE_ord (Int.le_refl a)
  have o3 := TT.encl_ord hD.2.1
  have o4 := TT.cosE_ord hD.2.1
  have o5 := TT.encl_ord hK.2.1
  have o6 := TT.cosE_ord hK.2.1
  have o7 := TT.mulE_bd o1 o4
  have o8 := TT.mulE_bd o2 o3
  have o9 := TT.mulE_bd o8 o6
  have o10 := TT.mulE_bd o5 o3
  have o11 := TT.mulE_bd o10 o2
  have o12 : one31 (TT.meetO (TT.gdS a D kk)) := ⟨hm.2.1, hm.1, hm.2.2⟩
  have o13 := TT.mulE_bd o1 o12
  have t1 := two_of o7
  have t2 := two_of o9
  have t3 := two_of o4
  have t4 := two_of o13
  have t5 : -2147483648 ≤ (TT.addE (TT.mulE (TT.encl a a) (TT.cosE D.1 D.2)) (TT.mulE (TT.mulE (TT.cosE a a) (TT.encl D.1 D.2)) (TT.cosE kk.1 kk.2))).1 ∧ (TT.addE (TT.mulE (TT.encl a a) (TT.cosE D.1 D.2)) (TT.mulE (TT.mulE (TT.cosE a a) (TT.encl D.1 D.2)) (TT.cosE kk.1 kk.2))).2 ≤ 2147483648 := by
    unfold TT.addE; omega
  have t6 : two31 (TT.gdS a D kk) := by unfold TT.gdS TT.addE; omega
  have q1 := fmeet_c t6 hm.1
  have q2 := Asin_c ⟨hm.2.1, hm.1, hm.2.2⟩ i1 i2
  have t7 : two31 (TT.subE (TT.cosE D.1 D.2) (TT.mulE (TT.encl a a) (TT.meetO (TT.gdS a D kk)))) := by unfold TT.subE; omega
  have q3 := Bearing_c (y := TT.mulE (TT.mulE (TT.encl kk.1 kk.2) (TT.encl D.1 D.2)) (TT.cosE a a)) (x := TT.subE (TT.cosE D.1 D.2) (TT.mulE (TT.encl a a) (TT.meetO (TT.gdS a D kk)))) (by omega) t7
  change Cont _ _ _ (.tuple [arcV (TT.gdE a D kk).1 (TT.gdE a D kk).2, .int .i64 0].toArray) at q3
  generalize TT.gdE a D kk = eE at *
  have v1 := valI (lo := a) (hi := a) (by omega)
  have v2 := valI (lo := D.1) (hi := D.2) (by omega)
  have v3 := valI (lo := kk.1) (hi := kk.2) (by omega)
  have ksub : ∀ b', ContIn Tryz.prog (WkW b') 111 [ptK b', arcV (TT.cosE D.1 D.2).1 (TT.cosE D.1 D.2).2, arcV (TT.mulE (TT.encl a a) (TT.meetO (TT.gdS a D kk))).1 (TT.mulE (TT.encl a a) (TT.meetO (TT.gdS a D kk))).2] (arcV (TT.subE (TT.cosE D.1 D.2) (TT.mulE (TT.encl a a) (TT.meetO (TT.gdS a D kk)))).1 (TT.subE (TT.cosE D.1 D.2) (TT.mulE (TT.encl a a) (TT.meetO (TT.gdS a D kk)))).2) := fun b' => ksub_c t3 t4 ⟨t7.1, t7.2.2⟩
  clear i1 i2 t7
  generalize TT.subE (TT.cosE D.1 D.2) (TT.mulE (TT.encl a a) (TT.meetO (TT.gdS a D kk))) = sx at *
  clear t6 hm
  generalize hS : TT.meetO (TT.gdS a D kk) = ms at *
  unfold TT.gdS at *
  obtain ⟨D1, D2⟩ := D
  obtain ⟨kk1, kk2⟩ := kk
  dsimp only at *
  refine enter0 Tryz.func47 rfl rfl rfl ?_
  repeat' (first
    | (refine nxN ?_)
    | (show YK _ _ _ _ _ ⟨_, .call { callee := .value (.func 102), args := _, argTypes := _ }, _, _, _, _⟩ _; refine YK.mk (y_callIn (ksin_c (by assumption)) (fun w' hw' => hs.keep hw'.ext) ⟨rfl, rfl, rfl⟩ (by decide +kernel)) ?_)
    | (show YG _ _ _ _ _ _ ⟨_, .call { callee := .value (.func 102), args := _, argTypes := _ }, _, _, _, _⟩ _; refine YG.mk (fun hb => by (try (have hc := And.left hb; have hb := And.right hb; rw [hc])); (try rw [hb]); exact y_callIn (ksin_c (by assumption)) (fun w' hw' => hs.keep hw'.ext) ⟨rfl, rfl, rfl⟩ (by decide +kernel)) ?_)
    | (show YK _ _ _ _ _ ⟨_, .call { callee := .value (.func 103), args := _, argTypes := _ }, _, _, _, _⟩ _; refine YK.mk (y_callIn (kcos_c (by assumption)) (fun w' hw' => hs.keep hw'.ext) ⟨rfl, rfl, rfl⟩ (by decide +kernel)) ?_)
    | (show YG _ _ _ _ _ _ ⟨_, .call { callee := .value (.func 103), args := _, argTypes := _ }, _, _, _, _⟩ _; refine YG.mk (fun hb => by (try (have hc := And.left hb; have hb := And.right hb; rw [hc])); (try rw [hb]); exact y_callIn (kcos_c (by assumption)) (fun w' hw' => hs.keep hw'.ext) ⟨rfl, rfl, rfl⟩ (by decide +kernel)) ?_)
    | (show YK _ _ _ _ _ ⟨_, .call { callee := .value (.func 105), args := _, argTypes := _ }, _, _, _, _⟩ _; refine YK.mk (y_callIn (kmul_c (by assumption) (by assumption)) (fun w' hw' => hs.keep hw'.ext) ⟨rfl, rfl, rfl, rfl⟩ (by decide +kernel)) ?_)
    | (show YG _ _ _ _ _ _ ⟨_, .call { callee := .value (.func 105), args := _, argTypes := _ }, _, _, _, _⟩ _; refine YG.mk (fun hb => by (try (have hc := And.left hb; have hb := And.right hb; rw [hc])); (try rw [hb]); exact y_callIn (kmul_c (by assumption) (by assumption)) (fun w' hw' => hs.keep hw'.ext) ⟨rfl, rfl, rfl, rfl⟩ (by decide +kernel)) ?_)
    | (show YK _ _ _ _ _ ⟨_, .call { callee := .value (.func 111), args := _, argTypes := _ }, _, _, _, _⟩ _; refine YK.mk (y_callIn (ksub _) (fun w' hw' => hs.keep hw'.ext) ⟨rfl, rfl, rfl, rfl⟩ (by decide +kernel)) ?_)
    | (show YG _ _ _ _ _ _ ⟨_, .call { callee := .value (.func 111), args := _, argTypes := _ }, _, _, _, _⟩ _; refine YG.mk (fun hb => by (try (have hc := And.left hb; have hb := And.right hb; rw [hc])); (try rw [hb]); exact y_callIn (ksub _) (fun w' hw' => hs.keep hw'.ext) ⟨rfl, rfl, rfl, rfl⟩ (by decide +kernel)) ?_)
    | (show YK _ _ _ _ _ ⟨_, .call { callee := .value (.func 104), args := _, argTypes := _ }, _, _, _, _⟩ _; refine YK.mk (y_callIn (kadd_c (by assumption) (by assumption) (by assumption)) (fun w' hw' => hs.keep hw'.ext) ⟨rfl, rfl, rfl, rfl⟩ (by decide +kernel)) ?_)
    | (show YG _ _ _ _ _ _ ⟨_, .call { callee := .value (.func 104), args := _, argTypes := _ }, _, _, _, _⟩ _; refine YG.mk (fun hb => by (try (have hc := And.left hb; have hb := And.right hb; rw [hc])); (try rw [hb]); exact y_callIn (kadd_c (by assumption) (by assumption) (by assumption)) (fun w' hw' => hs.keep hw'.ext) ⟨rfl, rfl, rfl, rfl⟩ (by decide +kernel)) ?_)
    | (show YK _ _ _ _ _ ⟨_, .call { callee := .value (.func 106), args := _, argTypes := _ }, _, _, _, _⟩ _; refine YK.mk (y_callIn (knum_c) (fun w' hw' => hs.keep hw'.ext) ⟨rfl, rfl, rfl, rfl⟩ (by decide +kernel)) ?_)
    | (show YG _ _ _ _ _ _ ⟨_, .call { callee := .value (.func 106), args := _, argTypes := _ }, _, _, _, _⟩ _; refine YG.mk (fun hb => by (try (have hc := And.left hb; have hb := And.right hb; rw [hc])); (try rw [hb]); exact y_callIn (knum_c) (fun w' hw' => hs.keep hw'.ext) ⟨rfl, rfl, rfl, rfl⟩ (by decide +kernel)) ?_)
    | (show YK _ _ _ _ _ ⟨_, .call { callee := .value (.func 108), args := _, argTypes := _ }, _, _, _, _⟩ _; refine YK.mk (y_callIn (karc_c) (fun w' hw' => hs.keep hw'.ext) ⟨rfl, rfl, rfl, rfl⟩ (by decide +kernel)) ?_)
    | (show YG _ _ _ _ _ _ ⟨_, .call { callee := .value (.func 108), args := _, argTypes := _ }, _, _, _, _⟩ _; refine YG.mk (fun hb => by (try (have hc := And.left hb; have hb := And.right hb; rw [hc])); (try rw [hb]); exact y_callIn (karc_c) (fun w' hw' => hs.keep hw'.ext) ⟨rfl, rfl, rfl, rfl⟩ (by decide +kernel)) ?_)
    | (show VK _ _ _ _ _ ⟨_, .load 34 _, _, _, _, _⟩ _; refine VK.mk (y_loadPart (k := 2) (by rfl) (by exact memA) (by decide +kernel) (by rfl)) ?_)
    | (show YK _ _ _ _ _ ⟨_, .load 34 _, _, _, _, _⟩ _; refine YK.ofV (y_loadPart (k := 2) (by rfl) (by exact memA) (by decide +kernel) (by rfl)) ?_)
    | (show VG _ _ _ _ _ _ ⟨_, .load 34 _, _, _, _, _⟩ _; refine VG.mk (fun hb => by (try rw [hb]); exact y_loadPart (k := 2) (by rfl) (by exact memA) (by decide +kernel) (by rfl)) ?_)
    | (show YG _ _ _ _ _ _ ⟨_, .load 34 _, _, _, _, _⟩ _; refine YG.mk (fun hb => by (try rw [hb]); exact V.y (y_loadPart (k := 2) (by rfl) (by exact memA) (by decide +kernel) (by rfl))) ?_)
    | (show VK _ _ _ _ _ ⟨_, .build 36 #[(0, _), (1, _)], _, _, _, _⟩ _; refine VK.mk (y_build (parts := [(0, _), (1, _)]) (vs := [_, _]) ⟨rfl, rfl, rfl⟩ (place_built _ _ _ _)) ?_)
    | (show YK _ _ _ _ _ ⟨_, .build 36 #[(0, _), (1, _)], _, _, _, _⟩ _; refine YK.ofV (y_build (parts := [(0, _), (1, _)]) (vs := [_, _]) ⟨rfl, rfl, rfl⟩ (place_built _ _ _ _)) ?_)
    | (show YK _ _ _ _ _ _ _; first | refine YK.mk (y_callA (q1) ⟨rfl, rfl, rfl⟩) ?_ | refine YK.mk (y_callA (q2) ⟨rfl, rfl⟩) ?_ | refine YK.mk (y_callA (q3) ⟨rfl, rfl, rfl⟩) ?_ | refine YK.mk (y_callA (q8) ⟨rfl, rfl⟩) ?_ | refine YK.mk (y_callA (kone_c) ⟨rfl, rfl⟩) ?_)
    | (refine nxV ?_)
    | (refine nxRS ?_) | (refine nxRS1 fun _ => ?_)
    | (refine nxRM ?_) | (refine nxRM1 fun _ => ?_)
    | (show YG _ _ _ _ _ _ _ _; refine YG.mk (fun hb => by (try (have hc := And.left hb; have hb := And.right hb; rw [hc])); (try rw [hb]); first | exact (y_callA (q1) ⟨rfl, rfl, rfl⟩) | exact (y_callA (q2) ⟨rfl, rfl⟩) | exact (y_callA (q3) ⟨rfl, rfl, rfl⟩) | exact (y_callA (q8) ⟨rfl, rfl⟩) | exact (y_callA (kone_c) ⟨rfl, rfl⟩) | exact V.y vAuto) ?_)
    | (refine nxG ?_)
    | (refine G.mixedA 1 [.go 0, .go 1, .go 2, .go 4, .go 5, .go 6, .pend 8, .pend 9, .go 3, .go 7, .done, .done, .go 10, .go 11] ?_)
    | (refine G.mixedA 2 [.go 0, .go 1, .go 2, .go 4, .go 5, .go 6, .pend 8, .pend 9, .go 3, .go 7, .done, .done, .go 10, .go 11] ?_)
    | (refine G.mixedA 3 [.go 0, .go 1, .go 2, .go 3, .go 5, .go 6, .go 7, .go 8, .go 10, .go 11, .go 12, .pend 16, .go 4, .go 9, .go 13, .go 14, .go 15, .done, .go 17] ?_)
    | (refine G.mixedA 6 [.go 0, .go 1, .go 2, .go 3, .go 4, .go 5, .go 7, .go 9, .go 11, .go 12, .go 13, .go 14, .go 15, .pend 22, .go 6, .go 8, .go 10, .go 16, .go 17, .go 18, .go 19, .go 20, .go 21, .done, .go 23] ?_)
    | (refine G.mixedA 7 [.go 0, .go 1, .go 2, .go 3, .go 4, .go 5, .go 6, .go 7, .go 8, .go 9, .go 10, .go 11, .go 12, .go 13, .go 14, .go 15, .go 16] ?_)
    | (refine nxX ?_)
    | (refine G.condN rfl (fun hc => ?_) (fun hc => ?_) <;> (try first | exact False.elim hc | (exfalso; omega))))
  all_goals exact X.ret (vs := [_]) rfl ⟨⟨_, _, _, _, rfl, (by exact memA), (by (repeat (first | exact .nil | apply LenIs.cons))), by decide +kernel, rfl⟩, rfl⟩ rfl (fun w hw => ⟨rfl, hw.ext⟩)
end Go.Proofs.YtjmdeplmenbmmaaGreatDoor
set_option maxHeartbeats 8000000
namespace Go.Proofs.YtjmdeplmenbmmaaGreatDoor
open Go.RowKit
theorem gfits_c {n : Int} (h : -1099511627776 ≤ n ∧ n ≤ 1099511627776) : Cont Tryz.prog 91 [.int .i64 n] (.bool true) := fun w => by
  refine enter0 Tryz.func91 rfl rfl rfl ?_
  repeat' (first
    | (refine nxV ?_)
    | (refine nxRS ?_) | (refine nxRS1 fun _ => ?_)
    | (refine nxRM ?_) | (refine nxRM1 fun _ => ?_)
    | (refine nxG ?_)
    | (refine nxX ?_)
    | (refine G.condN rfl (fun hc => ?_) (fun hc => ?_) <;> (try first | exact False.elim hc | (exfalso; omega))))
  refine X.ret (vs := [_]) rfl ⟨rfl, rfl⟩ rfl (fun w hw => ⟨ret_bool ?_, hw.ext⟩)
  simp [h.1, h.2]
theorem gval_c {a b : Int} (h : -1099511627776 ≤ a ∧ a ≤ b ∧ b ≤ 1099511627776) : Cont Tryz.prog 39 [arcV a b] (.bool true) := fun w => by
  have q1 := gfits_c (n := a) (by omega)
  have q2 := gfits_c (n := b) (by omega)
  refine enter0 Tryz.func39 rfl rfl rfl ?_
  repeat' (first
    | (show YK _ _ _ _ _ _ _; first | refine YK.mk (y_callA (q1) ⟨rfl, rfl⟩) ?_ | refine YK.mk (y_callA (q2) ⟨rfl, rfl⟩) ?_)
    | (refine nxV ?_)
    | (refine nxRS ?_) | (refine nxRS1 fun _ => ?_)
    | (refine nxRM ?_) | (refine nxRM1 fun _ => ?_)
    | (show YG _ _ _ _ _ _ _ _; refine YG.mk (fun hb => by (try (have hc := And.left hb; have hb := And.right hb; rw [hc])); (try rw [hb]); first | exact (y_callA (q1) ⟨rfl, rfl⟩) | exact (y_callA (q2) ⟨rfl, rfl⟩) | exact V.y vAuto) ?_)
    | (refine nxG ?_)
    | (refine nxX ?_)
    | (refine G.condN rfl (fun hc => ?_) (fun hc => ?_) <;> (try first | exact False.elim hc | (exfalso; omega))))
  refine X.ret (vs := [_]) rfl ⟨rfl, rfl⟩ rfl (fun w hw => ⟨ret_bool ?_, hw.ext⟩)
  simp [h.2.1]
theorem direct_c {a lo n m : Int} {D kk : Int × Int} (h1 : lat8I a ∧ lon8I lo) (hD : 0 ≤ D.1 ∧ D.1 ≤ D.2 ∧ D.2 ≤ 10800000) (hK : 0 ≤ kk.1 ∧ kk.1 ≤ kk.2 ∧ kk.1 ≤ 21600000 ∧ kk.2 ≤ 43200000)
    (hm : (TT.meetO (TT.gdS a D kk)).1 ≤ (TT.meetO (TT.gdS a D kk)).2 ∧ -1073741824 ≤ (TT.meetO (TT.gdS a D kk)).1 ∧ (TT.meetO (TT.gdS a D kk)).2 ≤ 1073741824)
    (i1 : TT.IsAsin (TT.meetO (TT.gdS a D kk)).1 n) (i2 : TT.IsAsin (-(TT.meetO (TT.gdS a D kk)).2) m) :
    Cont Tryz.prog 13 [v4 a a lo lo, v4 kk.1 kk.2 D.1 D.2] (.tuple [v4 n (-m) (lonsI (lo + (TT.gdE a D kk).1, lo + (TT.gdE a D kk).2)).1 (lonsI (lo + (TT.gdE a D kk).1, lo + (TT.gdE a D kk).2)).2, .int .i64 0].toArray) := fun w => by
  have q1 := pval_c (a := a) (b := a) (c := lo) (d := lo) ⟨by omega, by omega⟩
  have q2 := gval_c (a := kk.1) (b := kk.2) (by omega)
  have q3 := fun b => kdir_c (b := b) h1 hD hK hm i1 i2
  clear i1 i2 hm
  generalize lonsI (lo + (TT.gdE a D kk).1, lo + (TT.gdE a D kk).2) = lg at *
  obtain ⟨D1, D2⟩ := D
  obtain ⟨kk1, kk2⟩ := kk
  dsimp only at *
  refine enter0 Tryz.func13 rfl rfl rfl ?_
  repeat' (first
    | (refine nxN ?_)
    | (show YK _ _ _ _ _ ⟨_, .call { callee := .value (.func 47), args := _, argTypes := _ }, _, _, _, _⟩ _; refine YK.mk (y_callIn (q3 _) (fun w' hw' => WkW.ofSt hw' (by exact memA)) ⟨rfl, rfl, rfl, rfl⟩ (by decide +kernel)) ?_)
    | (show YG _ _ _ _ _ _ ⟨_, .call { callee := .value (.func 47), args := _, argTypes := _ }, _, _, _, _⟩ _; refine YG.mk (fun hb => by (try (have hc := And.left hb; have hb := And.right hb; rw [hc])); (try rw [hb]); exact y_callIn (q3 _) (fun w' hw' => WkW.ofSt hw' (by exact memA)) ⟨rfl, rfl, rfl, rfl⟩ (by decide +kernel)) ?_)
    | (show VK _ _ _ _ _ ⟨_, .load 34 _, _, _, _, _⟩ _; refine VK.mk (y_loadPart (k := 2) (by rfl) (by exact memA) (by decide +kernel) (by rfl)) ?_)
    | (show YK _ _ _ _ _ ⟨_, .load 34 _, _, _, _, _⟩ _; refine YK.ofV (y_loadPart (k := 2) (by rfl) (by exact memA) (by decide +kernel) (by rfl)) ?_)
    | (show VG _ _ _ _ _ _ ⟨_, .load 34 _, _, _, _, _⟩ _; refine VG.mk (fun hb => by (try rw [hb]); exact y_loadPart (k := 2) (by rfl) (by exact memA) (by decide +kernel) (by rfl)) ?_)
    | (show YG _ _ _ _ _ _ ⟨_, .load 34 _, _, _, _, _⟩ _; refine YG.mk (fun hb => by (try rw [hb]); exact V.y (y_loadPart (k := 2) (by rfl) (by exact memA) (by decide +kernel) (by rfl))) ?_)
    | (show YK _ _ _ _ _ _ _; first | refine YK.mk (y_callA (q1) ⟨rfl, rfl⟩) ?_ | refine YK.mk (y_callA (q2) ⟨rfl, rfl⟩) ?_)
    | (refine nxV ?_)
    | (refine nxRS ?_) | (refine nxRS1 fun _ => ?_)
    | (refine nxRM ?_) | (refine nxRM1 fun _ => ?_)
    | (show YG _ _ _ _ _ _ _ _; refine YG.mk (fun hb => by (try (have hc := And.left hb; have hb := And.right hb; rw [hc])); (try rw [hb]); first | exact (y_callA (q1) ⟨rfl, rfl⟩) | exact (y_callA (q2) ⟨rfl, rfl⟩) | exact V.y vAuto) ?_)
    | (refine nxG ?_)
    | (refine G.mixedA 6 [.go 0, .go 1, .go 2, .go 3, .go 4] ?_)
    | (refine nxX ?_)
    | (refine G.condN rfl (fun hc => ?_) (fun hc => ?_) <;> (try first | exact False.elim hc | (exfalso; omega))))
  all_goals first
    | (exfalso; simp at hc; omega)
    | exact X.ret (vs := [_, _]) rfl ⟨⟨_, _, _, _, rfl, (by exact memA), (by (repeat (first | exact .nil | apply LenIs.cons))), by decide +kernel, rfl⟩, rfl, rfl⟩ rfl (fun w hw => ⟨rfl, hw.ext⟩)
def lonOk (c d : Int) : Prop := (c = -10800000 ∧ d = 10800000) ∨ (-10800000 ≤ c ∧ c < 10800000 ∧ c ≤ d ∧ d - c < 21600000)
theorem pallT_c {c d : Int} (h : c = -10800000 ∧ d = 10800000) : Cont Tryz.prog 113 [arcV c d] (.bool true) := fun w => by
  have q1 := pev_c
  refine enter0 Tryz.func113 rfl rfl rfl ?_
  repeat' (first
    | (refine nxN ?_)
    | (show YK _ _ _ _ _ _ _; first | refine YK.mk (y_callA (q1) rfl) ?_)
    | (refine nxV ?_)
    | (refine nxRS ?_) | (refine nxRS1 fun _ => ?_)
    | (refine nxRM ?_) | (refine nxRM1 fun _ => ?_)
    | (show YG _ _ _ _ _ _ _ _; refine YG.mk (fun hb => by (try (have hc := And.left hb; have hb := And.right hb; rw [hc])); (try rw [hb]); first | exact (y_callA (q1) rfl) | exact V.y vAuto) ?_)
    | (refine nxG ?_)
    | (refine G.mixedA 1 [.go 0, .go 1, .go 2, .go 3] ?_)
    | (refine nxX ?_)
    | (refine G.condN rfl (fun hc => ?_) (fun hc => ?_) <;> (try first | exact False.elim hc | (exfalso; omega))))
  refine X.ret (vs := [_]) rfl ⟨rfl, rfl⟩ rfl (fun w hw => ⟨ret_bool ?_, hw.ext⟩)
  simp [eqCells, vEq]
  omega
theorem plonT_c {c d : Int} (h : c = -10800000 ∧ d = 10800000) : Cont Tryz.prog 101 [arcV c d] (.bool true) := fun w => by
  have q1 := pallT_c h
  obtain ⟨bb, hbb⟩ : ∃ bb : Bool, bb = true := ⟨_, rfl⟩
  rw [← hbb] at q1 ⊢
  refine enter0 Tryz.func101 rfl rfl rfl ?_
  repeat' (first
    | (refine nxN ?_)
    | (show YK _ _ _ _ _ _ _; first | refine YK.mk (y_callA (q1) ⟨rfl, rfl⟩) ?_)
    | (refine nxV ?_)
    | (refine nxRS ?_) | (refine nxRS1 fun _ => ?_)
    | (refine nxRM ?_) | (refine nxRM1 fun _ => ?_)
    | (show YG _ _ _ _ _ _ _ _; refine YG.mk (fun hb => by (try (have hc := And.left hb; have hb := And.right hb; rw [hc])); (try rw [hb]); first | exact (y_callA (q1) ⟨rfl, rfl⟩) | exact V.y vAuto) ?_)
    | (refine nxG ?_)
    | (refine nxX ?_)
    | (refine G.condN rfl (fun hc => ?_) (fun hc => ?_) <;> (try first | exact False.elim hc | (exfalso; omega))))
  all_goals exact X.ret (vs := [_]) rfl ⟨rfl, rfl⟩ rfl (fun w hw => ⟨ret_bool (by simp [hbb]), hw.ext⟩)
theorem plon2_c {c d : Int} (h : lonOk c d) : Cont Tryz.prog 101 [arcV c d] (.bool true) := by
  rcases h with h | h
  · exact plonT_c h
  · exact plon_c h
theorem phas2_c {c d n : Int} (h : lonOk c d) (h2 : -10800000 ≤ n ∧ n ≤ 10800000) : Cont Tryz.prog 48 [arcV c d, .int .i64 n] (.bool (decide (TT.turnI (n - c) ≤ d - c))) := fun w => by
  rcases h with h | h
  · have q1 := pallT_c h
    have q2 := pbey_c (c := c) (d := d) (n := n) (by omega) (by omega)
    have hk : TT.turnI (n - c) ≤ 21600000 := by unfold TT.turnI; omega
    generalize TT.turnI (n - c) = k at *
    refine enter0 Tryz.func48 rfl rfl rfl ?_
    repeat' (first
    | (refine nxN ?_)
    | (show YK _ _ _ _ _ _ _; first | refine YK.mk (y_callA (q1) ⟨rfl, rfl⟩) ?_ | refine YK.mk (y_callA (q2) ⟨rfl, rfl, rfl⟩) ?_)
    | (refine nxV ?_)
    | (refine nxRS ?_) | (refine nxRS1 fun _ => ?_)
    | (refine nxRM ?_) | (refine nxRM1 fun _ => ?_)
    | (show YG _ _ _ _ _ _ _ _; refine YG.mk (fun hb => by (try (have hc := And.left hb; have hb := And.right hb; rw [hc])); (try rw [hb]); first | exact (y_callA (q1) ⟨rfl, rfl⟩) | exact (y_callA (q2) ⟨rfl, rfl, rfl⟩) | exact V.y vAuto) ?_)
    | (refine nxG ?_)
    | (refine G.mixedA 1 [.go 0, .go 1, .go 2, .go 3, .go 4, .go 6, .go 7, .go 8, .go 9, .go 10, .go 5, .go 11, .go 12, .go 13] ?_)
    | (refine nxX ?_)
    | (refine G.condN rfl (fun hc => ?_) (fun hc => ?_) <;> (try first | exact False.elim hc | (exfalso; omega))))
    all_goals exact X.ret (vs := [_]) rfl ⟨rfl, rfl⟩ rfl (fun w hw => ⟨ret_bool (by simp; omega), hw.ext⟩)
  · exact phas_c h h2 w
theorem pval2_c {a b c d : Int} (h : -5400000 ≤ a ∧ a ≤ b ∧ b ≤ 5400000) (hl : lonOk c d) : Cont Tryz.prog 46 [v4 a b c d] (.bool true) := fun w => by
  have q1 := plat_c h
  have q2 := plon2_c hl
  refine enter0 Tryz.func46 rfl rfl rfl ?_
  repeat' (first
    | (refine nxN ?_)
    | (show VK _ _ _ _ _ ⟨_, .load 34 _, _, _, _, _⟩ _; refine VK.mk (y_loadPart (k := 2) (by rfl) (by exact memA) (by decide +kernel) (by rfl)) ?_)
    | (show YK _ _ _ _ _ ⟨_, .load 34 _, _, _, _, _⟩ _; refine YK.ofV (y_loadPart (k := 2) (by rfl) (by exact memA) (by decide +kernel) (by rfl)) ?_)
    | (show VG _ _ _ _ _ _ ⟨_, .load 34 _, _, _, _, _⟩ _; refine VG.mk (fun hb => by (try rw [hb]); exact y_loadPart (k := 2) (by rfl) (by exact memA) (by decide +kernel) (by rfl)) ?_)
    | (show YG _ _ _ _ _ _ ⟨_, .load 34 _, _, _, _, _⟩ _; refine YG.mk (fun hb => by (try rw [hb]); exact V.y (y_loadPart (k := 2) (by rfl) (by exact memA) (by decide +kernel) (by rfl))) ?_)
    | (show YK _ _ _ _ _ _ _; first | refine YK.mk (y_callA (q1) ⟨rfl, rfl⟩) ?_ | refine YK.mk (y_callA (q2) ⟨rfl, rfl⟩) ?_)
    | (refine nxV ?_)
    | (refine nxRS ?_) | (refine nxRS1 fun _ => ?_)
    | (refine nxRM ?_) | (refine nxRM1 fun _ => ?_)
    | (show YG _ _ _ _ _ _ _ _; refine YG.mk (fun hb => by (try (have hc := And.left hb; have hb := And.right hb; rw [hc])); (try rw [hb]); first | exact (y_callA (q1) ⟨rfl, rfl⟩) | exact (y_callA (q2) ⟨rfl, rfl⟩) | exact V.y vAuto) ?_)
    | (refine nxG ?_)
    | (refine nxX ?_)
    | (refine G.condN rfl (fun hc => ?_) (fun hc => ?_) <;> (try first | exact False.elim hc | (exfalso; omega))))
  exact X.ret (vs := [_]) rfl ⟨rfl, rfl⟩ rfl (fun w hw => ⟨rfl, hw.ext⟩)
theorem pcon2_c {a b c d la lo : Int} (h : -5400000 ≤ a ∧ a ≤ b ∧ b ≤ 5400000) (hl : lonOk c d) (hp : lat8I la ∧ lon8I lo) : Cont Tryz.prog 14 [v4 a b c d, ptV la lo] (.tuple [.bool (inBx a b c d la lo), .int .i64 0].toArray) := fun w => by
  have q1 := pval2_c h hl
  have q2 := pointT hp
  have q3 := phas2_c (n := lo) hl (by omega)
  unfold inBx
  generalize TT.turnI (lo - c) = k at *
  refine enter0 Tryz.func14 rfl rfl rfl ?_
  repeat' (first
    | (refine nxN ?_)
    | (show VK _ _ _ _ _ ⟨_, .load 34 _, _, _, _, _⟩ _; refine VK.mk (y_loadPart (k := 2) (by rfl) (by exact memA) (by decide +kernel) (by rfl)) ?_)
    | (show YK _ _ _ _ _ ⟨_, .load 34 _, _, _, _, _⟩ _; refine YK.ofV (y_loadPart (k := 2) (by rfl) (by exact memA) (by decide +kernel) (by rfl)) ?_)
    | (show VG _ _ _ _ _ _ ⟨_, .load 34 _, _, _, _, _⟩ _; refine VG.mk (fun hb => by (try rw [hb]); exact y_loadPart (k := 2) (by rfl) (by exact memA) (by decide +kernel) (by rfl)) ?_)
    | (show YG _ _ _ _ _ _ ⟨_, .load 34 _, _, _, _, _⟩ _; refine YG.mk (fun hb => by (try rw [hb]); exact V.y (y_loadPart (k := 2) (by rfl) (by exact memA) (by decide +kernel) (by rfl))) ?_)
    | (show YK _ _ _ _ _ _ _; first | refine YK.mk (y_callA (q1) ⟨rfl, rfl⟩) ?_ | refine YK.mk (y_callA (q2) ⟨rfl, rfl⟩) ?_ | refine YK.mk (y_callA (q3) ⟨rfl, rfl, rfl⟩) ?_)
    | (refine nxV ?_)
    | (refine nxRS ?_) | (refine nxRS1 fun _ => ?_)
    | (refine nxRM ?_) | (refine nxRM1 fun _ => ?_)
    | (show YG _ _ _ _ _ _ _ _; refine YG.mk (fun hb => by (try (have hc := And.left hb; have hb := And.right hb; rw [hc])); (try rw [hb]); first | exact (y_callA (q1) ⟨rfl, rfl⟩) | exact (y_callA (q2) ⟨rfl, rfl⟩) | exact (y_callA (q3) ⟨rfl, rfl, rfl⟩) | exact V.y vAuto) ?_)
    | (refine nxG ?_)
    | (refine nxX ?_)
    | (refine G.condN rfl (fun hc => ?_) (fun hc => ?_) <;> (try first | exact False.elim hc | (exfalso; omega))))
  · exact X.ret (vs := [_, _]) rfl ⟨rfl, rfl, rfl⟩ rfl (fun w hw => ⟨by rw [if_pos (by omega)], hw.ext⟩)
  · exact X.ret (vs := [_, _]) rfl ⟨rfl, rfl, rfl⟩ rfl (fun w hw => ⟨by rw [if_neg (by omega)], hw.ext⟩)
theorem pof_c {a lo : Int} (h : lat8I a ∧ lon8I lo) : Cont Tryz.prog 9 [ptV a lo] (.tuple [v4 a a lo lo, .int .i64 0].toArray) := fun w => by
  have q1 := pointT h
  refine enter0 Tryz.func9 rfl rfl rfl ?_
  repeat' (first
    | (refine nxN ?_)
    | (show VK _ _ _ _ _ ⟨_, .build 36 #[(0, _), (1, _)], _, _, _, _⟩ _; refine VK.mk (y_build (parts := [(0, _), (1, _)]) (vs := [_, _]) ⟨rfl, rfl, rfl⟩ (place_built _ _ _ _)) ?_)
    | (show YK _ _ _ _ _ ⟨_, .build 36 #[(0, _), (1, _)], _, _, _, _⟩ _; refine YK.ofV (y_build (parts := [(0, _), (1, _)]) (vs := [_, _]) ⟨rfl, rfl, rfl⟩ (place_built _ _ _ _)) ?_)
    | (show YK _ _ _ _ _ _ _; first | refine YK.mk (y_callA (q1) ⟨rfl, rfl⟩) ?_)
    | (refine nxV ?_)
    | (refine nxRS ?_) | (refine nxRS1 fun _ => ?_)
    | (refine nxRM ?_) | (refine nxRM1 fun _ => ?_)
    | (show YG _ _ _ _ _ _ _ _; refine YG.mk (fun hb => by (try (have hc := And.left hb; have hb := And.right hb; rw [hc])); (try rw [hb]); first | exact (y_callA (q1) ⟨rfl, rfl⟩) | exact V.y vAuto) ?_)
    | (refine nxG ?_)
    | (refine nxX ?_)
    | (refine G.condN rfl (fun hc => ?_) (fun hc => ?_) <;> (try first | exact False.elim hc | (exfalso; omega))))
  all_goals exact X.ret (vs := [_, _]) rfl ⟨⟨_, _, _, _, rfl, (by exact memA), (by (repeat (first | exact .nil | apply LenIs.cons))), by decide +kernel, rfl⟩, rfl, rfl⟩ rfl (fun w hw => ⟨rfl, hw.ext⟩)
theorem reach_in {pa po qa qo n m : Int} {D : Int × Int} (h1 : (-5400000 < pa ∧ pa < 5400000) ∧ lon8I po) (h2 : (-5400000 < qa ∧ qa < 5400000) ∧ lon8I qo) (hne : pa ≠ qa ∨ po ≠ qo) (hD : TT.IsGc pa qa (signI (qo - po)) D)
    (i1 : TT.IsAsin (TT.meetO (TT.gdS pa D (TT.gcK pa qa (signI (qo - po))))).1 n) (i2 : TT.IsAsin (-(TT.meetO (TT.gdS pa D (TT.gcK pa qa (signI (qo - po))))).2) m) :
    lonOk (lonsI (po + (TT.gdE pa D (TT.gcK pa qa (signI (qo - po)))).1, po + (TT.gdE pa D (TT.gcK pa qa (signI (qo - po)))).2)).1 (lonsI (po + (TT.gdE pa D (TT.gcK pa qa (signI (qo - po)))).1, po + (TT.gdE pa D (TT.gcK pa qa (signI (qo - po)))).2)).2 ∧
    inBx n (-m) (lonsI (po + (TT.gdE pa D (TT.gcK pa qa (signI (qo - po)))).1, po + (TT.gdE pa D (TT.gcK pa qa (signI (qo - po)))).2)).1 (lonsI (po + (TT.gdE pa D (TT.gcK pa qa (signI (qo - po)))).1, po + (TT.gdE pa D (TT.gcK pa qa (signI (qo - po)))).2)).2 qa qo = true := by
  have hs := signI_bd (qo - po)
  have hne' : pa ≠ qa ∨ TT.turnI (signI (qo - po)) ≠ 0 := by
    unfold signI TT.turnI
    omega
  have hwE : ∃ j : Int, signI (qo - po) = qo - po + 21600000 * j := ⟨-((qo - po + 10800000) / 21600000), by unfold signI TT.turnI; split <;> omega⟩
  have hb := TT.gc_back h1.1 h2.1 (by omega) hne' hD i1 i2
  have eb : 0 ≤ (TT.gdE pa D (TT.gcK pa qa (signI (qo - po)))).1 ∧ (TT.gdE pa D (TT.gcK pa qa (signI (qo - po)))).1 ≤ (TT.gdE pa D (TT.gcK pa qa (signI (qo - po)))).2 ∧ (TT.gdE pa D (TT.gcK pa qa (signI (qo - po)))).1 ≤ 21600000 ∧ (TT.gdE pa D (TT.gcK pa qa (signI (qo - po)))).2 ≤ 43200000 := TT.brgI_bd _ _
  clear hD i1 i2 hne'
  generalize TT.gdE pa D (TT.gcK pa qa (signI (qo - po))) = ee at *
  obtain ⟨e1, e2⟩ := ee
  obtain ⟨j, hj⟩ := hwE
  rw [hj] at hb
  obtain ⟨hl, ho⟩ := hb
  unfold lonsI inBx lonOk
  dsimp only at *
  by_cases hT : 21600000 ≤ po + e2 - (po + e1)
  · rw [if_pos hT, if_neg (by omega)]
    refine ⟨Or.inl ⟨rfl, rfl⟩, ?_⟩
    simp only [Bool.or_eq_true, decide_eq_true_eq]
    right
    unfold TT.turnI
    omega
  · rw [if_neg hT, if_neg (by omega)]
    have hs1 := signI_bd (po + e1)
    have hsE : ∃ i : Int, signI (po + e1) = po + e1 + 21600000 * i := ⟨-((po + e1 + 10800000) / 21600000), by unfold signI TT.turnI; split <;> omega⟩
    obtain ⟨i, hi⟩ := hsE
    generalize signI (po + e1) = s1 at *
    refine ⟨Or.inr (by dsimp only; omega), ?_⟩
    simp only [Bool.or_eq_true, decide_eq_true_eq]
    right
    rcases ho with ho | ⟨k, ho⟩
    · have g1 := congrArg Prod.fst ho
      have g2 := congrArg Prod.snd ho
      dsimp only at g1 g2
      omega
    · unfold TT.turnI
      omega
end Go.Proofs.YtjmdeplmenbmmaaGreatDoor
