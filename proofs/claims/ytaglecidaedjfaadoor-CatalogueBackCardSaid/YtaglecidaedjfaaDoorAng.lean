/- angle.text: an angle's text by a strings.Builder. -/
import Derived.Test.YtaglecidaedjfaaDoorBld
import Derived.Test.YtaglecidaedjfaaDoorLaidC
set_option linter.unusedVariables false
set_option maxHeartbeats 4000000
namespace Go.Proofs.YtaglecidaedjfaaDoor
open Go.RowKit

section
variable {P : Program} {n : Nat} {L : FL} {w0 : World} {H : List Hl} {Q : Exit → Act → World → Prop} {ops : Array Oper} {rest : List Oper} {dd : Nat} {ty : TypeId} {pos : String} {af : Array Edge} {gd : Option (Nat × Bool)} {ι : Type}
/-- The first write into a fresh builder: its buffer is nil. -/
theorem RS.callW0 {X2 : Hl} {A B : List Hl} {f : FuncId} {xs : List Operand} {vs : List Value} {tys : Array TypeId} {post : ι → Prop} {v : ι → Value} {Y : ι → List Hl} (hc : ContW P (bldR ⟨none, 0, 0⟩ []) X2 f vs post v Y) (ha : AE L xs vs) (h : ∀ z, post z → RS P ops Q n ((dd, v z) :: L) w0 (Y z ++ (A ++ B)) rest)
    (hA : At X2 A B H := by first | exact .here | exact .there .here | exact .there (.there .here) | exact .there (.there (.there .here)) | exact .there (.there (.there (.there .here))))
    (hg : isGo P f = true := by decide +kernel) (hd : Nat.blt dd n = true := by rfl) :
    RS P ops Q n L w0 H (⟨some dd, .call { callee := .value (.func f), args := xs.toArray, argTypes := tys }, ty, pos, af, none⟩ :: rest) := RS.actX (post := post) (L' := fun z => (dd, v z) :: L) (H' := fun z => Y z ++ (A ++ B)) rfl (fun a w hfr hw K Q hK => by
      unfold Oper.wp
      rw [run_call hfr ha hg]
      have h2 := (St.front hA hw).nilRow 5 cU 1
      refine (hc w0 (A ++ B) w h2).mono ?_
      rintro e w' ⟨z, hz, rfl, hs⟩
      exact hK _ _ ⟨z, hz, hfr.put (by simpa [Nat.blt_eq] using hd), hs⟩) h
end
def padL (n k : Int) : List UInt8 := Lib.repeatL [48] (max 0 (k - (Lib.itoa n).length)).toNat ++ Lib.itoa n
theorem pad_len {n k : Int} (h : -9223372036854775808 ≤ n ∧ n ≤ 9223372036854775807) (hk : k ≤ 10) : (padL n k).length ≤ 30 := by
  have := itoa_len h
  unfold padL
  rw [List.length_append, Lib.repeatL_length]
  simp; omega
theorem padded_c {n k : Int} (h : (-9223372036854775808 ≤ n ∧ n ≤ 9223372036854775807) ∧ 0 ≤ k ∧ k ≤ 10) : ContIn Tryd.prog LaidC 99 [.int .i64 n, .int .i64 k] (strV (padL n k)) := fun w hI => by
  have hl := itoa_len h.1
  have h1 := itoaC_c h.1
  have hr : (Lib.repeatL [48] (max 0 (k - (Lib.itoa n).length)).toNat).length ≤ 10 := by rw [Lib.repeatL_length]; simp; omega
  refine enter0 Tryd.func99 rfl rfl rfl ?_
  repeat' (first
    | (show YK _ _ _ _ _ _ _; first | refine YK.mk (y_callIn (h1) (fun _ hw => hI.keep hw.ext) ⟨rfl, rfl⟩ (by decide +kernel)) ?_ | refine YK.mk (y_callA (repeat_c [48] (m := max 0 (k - (Lib.itoa n).length)) (by omega) (by decide)) ⟨rfl, rfl, rfl⟩) ?_)
    | (show YK _ _ _ _ _ _ _; refine YK.ofV vAuto ?_)
    | (show VK _ _ _ _ _ _ _; refine VK.mk vAuto ?_)
    | (show RS _ _ _ _ _ _ _ _; first | (refine nxRS ?_) | (refine nxRS1 fun _ => ?_))
    | (show RM _ _ _ _ _ _ _ _ _ _; first | (refine nxRM ?_) | (refine nxRM1 fun _ => ?_))
    | (show YG _ _ _ _ _ _ _ _; refine YG.mk (fun hb => by (try (have hc := And.left hb; have hb := And.right hb; rw [hc])); (try rw [hb]); first | exact (y_callIn (h1) (fun _ hw => hI.keep hw.ext) ⟨rfl, rfl⟩ (by decide +kernel)) | exact (y_callA (repeat_c [48] (m := max 0 (k - (Lib.itoa n).length)) (by omega) (by decide)) ⟨rfl, rfl, rfl⟩) | exact V.y vAuto) ?_)
    | (show VG _ _ _ _ _ _ _ _; refine VG.mk (fun hb => by (try (have hc := And.left hb; have hb := And.right hb; rw [hc])); (try rw [hb]); exact vAuto) ?_)
    | (refine nxVS ?_)
    | (refine nxGS ?_)
    | (refine nxX ?_)
    | (refine G.condN rfl (fun hc => ?_) (fun hc => ?_) <;> (try first | exact False.elim hc | (exfalso; omega))))
  exact X.ret (vs := [_]) rfl ⟨rfl, rfl⟩ rfl (fun w hw => ⟨rfl, hw.ext⟩)
def angHead (n : Int) : List UInt8 := Lib.itoa (n / 60000) ++ [45] ++ padL (n % 60000 / 1000) 2 ++ [46]
def angRest (n : Int) : List UInt8 := if n % 1000 % 100 = 0 then Lib.itoa (n % 1000 / 100) else padL (n % 1000) 3
theorem text_p {n : Int} (h : 0 ≤ n ∧ n ≤ 1099511627776) : ContIn Tryd.prog LaidC 71 [.int .i64 n] (strV (angHead n ++ angRest n)) := fun w hI => by
  have i1 := itoaC_c (n := n / 60000) (by omega)
  have i2 := padded_c (n := n % 60000 / 1000) (k := 2) (by omega)
  have i3 := itoaC_c (n := n % 1000 / 100) (by omega)
  have i4 := padded_c (n := n % 1000) (k := 3) (by omega)
  have l1 := itoa_len (n := n / 60000) (by omega)
  have l2 := pad_len (n := n % 60000 / 1000) (k := 2) (by omega) (by omega)
  have l3 := itoa_len (n := n % 1000 / 100) (by omega)
  have l4 := pad_len (n := n % 1000) (k := 3) (by omega) (by omega)
  have e1 : (angHead n).length ≤ 100 := by simp only [angHead, List.length_append, List.length_singleton]; omega
  have w1 := fun b => writeS_c b (.pointer none) (.inl rfl) ⟨none, 0, 0⟩ [] (angHead n) (by simp only [List.length_nil]; omega)
  have w2 := fun b z => writeS_c b (pB b) (.inr rfl) z (angHead n) (Lib.itoa (n % 1000 / 100)) (by omega)
  have w3 := fun b z => writeS_c b (pB b) (.inr rfl) z (angHead n) (padL (n % 1000) 3) (by omega)
  unfold angHead angRest at *
  refine enter0 Tryd.func71 rfl rfl rfl ?_
  repeat' (first
    | (refine RS.callW0 (w1 _) ⟨rfl, rfl, rfl⟩ ?_; rintro z1 _; dsimp only [List.cons_append, List.nil_append])
    | (refine RS.callW (w2 _ _) ⟨rfl, rfl, rfl⟩ ?_; rintro z2 _; dsimp only [List.cons_append, List.nil_append])
    | (refine RS.callW (w3 _ _) ⟨rfl, rfl, rfl⟩ ?_; rintro z2 _; dsimp only [List.cons_append, List.nil_append])
    | (refine RS.string ?_ (.inr rfl) (List.Mem.head _) (List.Mem.tail _ (List.Mem.head _)) ⟨rfl, rfl⟩)
    | (show YK _ _ _ _ _ _ _; first | refine YK.mk (y_callIn (i1) (fun _ hw => hI.keep hw.ext) ⟨rfl, rfl⟩ (by decide +kernel)) ?_ | refine YK.mk (y_callIn (i2) (fun _ hw => hI.keep hw.ext) ⟨rfl, rfl, rfl⟩ (by decide +kernel)) ?_ | refine YK.mk (y_callIn (i3) (fun _ hw => hI.keep hw.ext) ⟨rfl, rfl⟩ (by decide +kernel)) ?_ | refine YK.mk (y_callIn (i4) (fun _ hw => hI.keep hw.ext) ⟨rfl, rfl, rfl⟩ (by decide +kernel)) ?_)
    | (show YK _ _ _ _ _ _ _; refine YK.ofV vAuto ?_)
    | (show VK _ _ _ _ _ _ _; refine VK.mk vAuto ?_)
    | (show RS _ _ _ _ _ _ _ _; first | (refine nxRS ?_) | (refine nxRS1 fun _ => ?_))
    | (show RM _ _ _ _ _ _ _ _ _ _; first | (refine nxRM ?_) | (refine nxRM1 fun _ => ?_))
    | (show YG _ _ _ _ _ _ _ _; refine YG.mk (fun hb => by (try (have hc := And.left hb; have hb := And.right hb; rw [hc])); (try rw [hb]); first | exact (y_callIn (i1) (fun _ hw => hI.keep hw.ext) ⟨rfl, rfl⟩ (by decide +kernel)) | exact (y_callIn (i2) (fun _ hw => hI.keep hw.ext) ⟨rfl, rfl, rfl⟩ (by decide +kernel)) | exact (y_callIn (i3) (fun _ hw => hI.keep hw.ext) ⟨rfl, rfl⟩ (by decide +kernel)) | exact (y_callIn (i4) (fun _ hw => hI.keep hw.ext) ⟨rfl, rfl, rfl⟩ (by decide +kernel)) | exact V.y vAuto) ?_)
    | (show VG _ _ _ _ _ _ _ _; refine VG.mk (fun hb => by (try (have hc := And.left hb; have hb := And.right hb; rw [hc])); (try rw [hb]); exact vAuto) ?_)
    | (refine nxVS ?_)
    | (refine nxGS ?_)
    | (refine nxX ?_)
    | (refine G.condN rfl (fun hc => ?_) (fun hc => ?_) <;> (try first | exact False.elim hc | (exfalso; omega))))
  · rw [if_pos hc]; exact X.ret (vs := [_]) rfl ⟨rfl, rfl⟩ rfl (fun w hw => ⟨rfl, hw.ext⟩)
  · rw [if_neg hc]; exact X.ret (vs := [_]) rfl ⟨rfl, rfl⟩ rfl (fun w hw => ⟨rfl, hw.ext⟩)
theorem text_m {n m : Int} (hm : m = -n) (h : 0 < m ∧ m ≤ 1099511627776) : ContIn Tryd.prog LaidC 71 [.int .i64 n] (strV ([45] ++ angHead m ++ angRest m)) := fun w hI => by
  have i1 := itoaC_c (n := m / 60000) (by omega)
  have i2 := padded_c (n := m % 60000 / 1000) (k := 2) (by omega)
  have i3 := itoaC_c (n := m % 1000 / 100) (by omega)
  have i4 := padded_c (n := m % 1000) (k := 3) (by omega)
  have l1 := itoa_len (n := m / 60000) (by omega)
  have l2 := pad_len (n := m % 60000 / 1000) (k := 2) (by omega) (by omega)
  have l3 := itoa_len (n := m % 1000 / 100) (by omega)
  have l4 := pad_len (n := m % 1000) (k := 3) (by omega) (by omega)
  have e1 : (angHead m).length ≤ 100 := by simp only [angHead, List.length_append, List.length_singleton]; omega
  have w0' := fun b => writeB_c b (.pointer none) (.inl rfl) ⟨none, 0, 0⟩ [] 45 (by simp)
  have w1 := fun b z => writeS_c b (pB b) (.inr rfl) z [45] (angHead m) (by simp only [List.length_singleton]; omega)
  have w2 := fun b z => writeS_c b (pB b) (.inr rfl) z ([45] ++ angHead m) (Lib.itoa (m % 1000 / 100)) (by simp only [List.length_append, List.length_singleton]; omega)
  have w3 := fun b z => writeS_c b (pB b) (.inr rfl) z ([45] ++ angHead m) (padL (m % 1000) 3) (by simp only [List.length_append, List.length_singleton]; omega)
  unfold angHead angRest at *
  subst hm
  refine enter0 Tryd.func71 rfl rfl rfl ?_
  repeat' (first
    | (refine RS.callW0 (w0' _) ⟨rfl, rfl, rfl⟩ ?_; rintro z0 _; dsimp only [List.cons_append, List.nil_append])
    | (refine RS.callW (w1 _ _) ⟨rfl, rfl, rfl⟩ ?_; rintro z1 _; dsimp only [List.cons_append, List.nil_append])
    | (refine RS.callW (w2 _ _) ⟨rfl, rfl, rfl⟩ ?_; rintro z2 _; dsimp only [List.cons_append, List.nil_append])
    | (refine RS.callW (w3 _ _) ⟨rfl, rfl, rfl⟩ ?_; rintro z2 _; dsimp only [List.cons_append, List.nil_append])
    | (refine RS.string ?_ (.inr rfl) (List.Mem.head _) (List.Mem.tail _ (List.Mem.head _)) ⟨rfl, rfl⟩)
    | (show YK _ _ _ _ _ _ _; first | refine YK.mk (y_callIn (i1) (fun _ hw => hI.keep hw.ext) ⟨rfl, rfl⟩ (by decide +kernel)) ?_ | refine YK.mk (y_callIn (i2) (fun _ hw => hI.keep hw.ext) ⟨rfl, rfl, rfl⟩ (by decide +kernel)) ?_ | refine YK.mk (y_callIn (i3) (fun _ hw => hI.keep hw.ext) ⟨rfl, rfl⟩ (by decide +kernel)) ?_ | refine YK.mk (y_callIn (i4) (fun _ hw => hI.keep hw.ext) ⟨rfl, rfl, rfl⟩ (by decide +kernel)) ?_)
    | (show YK _ _ _ _ _ _ _; refine YK.ofV vAuto ?_)
    | (show VK _ _ _ _ _ _ _; refine VK.mk vAuto ?_)
    | (show RS _ _ _ _ _ _ _ _; first | (refine nxRS ?_) | (refine nxRS1 fun _ => ?_))
    | (show RM _ _ _ _ _ _ _ _ _ _; first | (refine nxRM ?_) | (refine nxRM1 fun _ => ?_))
    | (show YG _ _ _ _ _ _ _ _; refine YG.mk (fun hb => by (try (have hc := And.left hb; have hb := And.right hb; rw [hc])); (try rw [hb]); first | exact (y_callIn (i1) (fun _ hw => hI.keep hw.ext) ⟨rfl, rfl⟩ (by decide +kernel)) | exact (y_callIn (i2) (fun _ hw => hI.keep hw.ext) ⟨rfl, rfl, rfl⟩ (by decide +kernel)) | exact (y_callIn (i3) (fun _ hw => hI.keep hw.ext) ⟨rfl, rfl⟩ (by decide +kernel)) | exact (y_callIn (i4) (fun _ hw => hI.keep hw.ext) ⟨rfl, rfl, rfl⟩ (by decide +kernel)) | exact V.y vAuto) ?_)
    | (show VG _ _ _ _ _ _ _ _; refine VG.mk (fun hb => by (try (have hc := And.left hb; have hb := And.right hb; rw [hc])); (try rw [hb]); exact vAuto) ?_)
    | (refine nxVS ?_)
    | (refine nxGS ?_)
    | (refine nxX ?_)
    | (refine G.condN rfl (fun hc => ?_) (fun hc => ?_) <;> (try first | exact False.elim hc | (exfalso; omega))))
  · rw [if_pos hc]; exact X.ret (vs := [_]) rfl ⟨rfl, rfl⟩ rfl (fun w hw => ⟨rfl, hw.ext⟩)
  · rw [if_neg hc]; exact X.ret (vs := [_]) rfl ⟨rfl, rfl⟩ rfl (fun w hw => ⟨rfl, hw.ext⟩)
def angL (n : Int) : List UInt8 := if n < 0 then [45] ++ angHead (-n) ++ angRest (-n) else angHead n ++ angRest n
theorem angH_len {n : Int} (h : 0 ≤ n ∧ n ≤ 1099511627776) : (angHead n).length ≤ 70 ∧ (angRest n).length ≤ 30 := by
  have l1 := itoa_len (n := n / 60000) (by omega)
  have l2 := pad_len (n := n % 60000 / 1000) (k := 2) (by omega) (by omega)
  have l3 := itoa_len (n := n % 1000 / 100) (by omega)
  have l4 := pad_len (n := n % 1000) (k := 3) (by omega) (by omega)
  refine ⟨by simp only [angHead, List.length_append, List.length_singleton]; omega, ?_⟩
  unfold angRest
  split <;> omega
theorem angL_len {n : Int} (h : -1099511627776 ≤ n ∧ n ≤ 1099511627776) : (angL n).length ≤ 110 := by
  unfold angL
  split
  · have := angH_len (n := -n) (by omega)
    simp only [List.length_append, List.length_singleton]; omega
  · have := angH_len (n := n) (by omega)
    simp only [List.length_append]; omega
theorem atext_c {n : Int} (h : -1099511627776 ≤ n ∧ n ≤ 1099511627776) : ContIn Tryd.prog LaidC 71 [.int .i64 n] (strV (angL n)) := by
  unfold angL
  split
  · exact text_m rfl (by omega)
  · exact text_p (by omega)
theorem fits_c {n : Int} (h : -1099511627776 ≤ n ∧ n ≤ 1099511627776) : Cont Tryd.prog 70 [.int .i64 n] (.bool true) := fun w => by
  refine enter0 Tryd.func70 rfl rfl rfl ?_
  repeat' (first
    | (refine nxV ?_)
    | (show RS _ _ _ _ _ _ _ _; first | (refine nxRS ?_) | (refine nxRS1 fun _ => ?_))
    | (show RM _ _ _ _ _ _ _ _ _ _; first | (refine nxRM ?_) | (refine nxRM1 fun _ => ?_))
    | (refine nxG ?_)
    | (refine nxX ?_)
    | (refine G.condN rfl (fun hc => ?_) (fun hc => ?_) <;> (try first | exact False.elim hc | (exfalso; omega))))
  exact X.ret (vs := [_]) rfl ⟨rfl, rfl⟩ rfl (fun w hw => ⟨ret_bool (by simp; omega), hw.ext⟩)
theorem aText_c {n : Int} (h : -1099511627776 ≤ n ∧ n ≤ 1099511627776) : ContIn Tryd.prog LaidC 44 [.int .i64 n] (.tuple [strV (angL n), .int .i64 0].toArray) := fun w hI => by
  have q1 := fits_c h
  have q2 := atext_c h
  generalize angL n = l at q2
  refine enter0 Tryd.func44 rfl rfl rfl ?_
  repeat' (first
    | (show YK _ _ _ _ _ _ _; first | refine YK.mk (y_callA (q1) ⟨rfl, rfl⟩) ?_ | refine YK.mk (y_callIn (q2) (fun _ hw => hI.keep hw.ext) ⟨rfl, rfl⟩ (by decide +kernel)) ?_)
    | (show YK _ _ _ _ _ _ _; refine YK.ofV vAuto ?_)
    | (show VK _ _ _ _ _ _ _; refine VK.mk vAuto ?_)
    | (show RS _ _ _ _ _ _ _ _; first | (refine nxRS ?_) | (refine nxRS1 fun _ => ?_))
    | (show RM _ _ _ _ _ _ _ _ _ _; first | (refine nxRM ?_) | (refine nxRM1 fun _ => ?_))
    | (show YG _ _ _ _ _ _ _ _; refine YG.mk (fun hb => by (try (have hc := And.left hb; have hb := And.right hb; rw [hc])); (try rw [hb]); first | exact (y_callA (q1) ⟨rfl, rfl⟩) | exact (y_callIn (q2) (fun _ hw => hI.keep hw.ext) ⟨rfl, rfl⟩ (by decide +kernel)) | exact V.y vAuto) ?_)
    | (show VG _ _ _ _ _ _ _ _; refine VG.mk (fun hb => by (try (have hc := And.left hb; have hb := And.right hb; rw [hc])); (try rw [hb]); exact vAuto) ?_)
    | (refine nxX ?_)
    | (refine G.condN rfl (fun hc => ?_) (fun hc => ?_) <;> (try first | exact False.elim hc | (exfalso; omega))))
  exact X.ret (vs := [_, _]) rfl ⟨rfl, rfl, rfl⟩ rfl (fun w hw => ⟨rfl, hw.ext⟩)
end Go.Proofs.YtaglecidaedjfaaDoor
