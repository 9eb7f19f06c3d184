/- Joined texts: LaidC, Ang, ATx, One, Wrp, RNw, Mad3, Sca, RPx, LawFo. -/
import Derived.Test.YthilhhegchmjeaaGreatDoorWb
import Derived.Test.YthilhhegchmjeaaGreatDoorWa
import Derived.Test.YthilhhegchmjeaaGreatDoorWq
import Derived.Test.YthilhhegchmjeaaGreatDoorWp
import Derived.Test.YthilhhegchmjeaaGreatDoorWr
/- What rows without error variables list: the table of powers, and the bound of bytealg. -/
set_option linter.unusedVariables false
set_option maxHeartbeats 4000000
namespace Go.Proofs.YthilhhegchmjeaaGreatDoor
open Go.RowKit

structure LaidC (w : World) : Prop where
  tab : Lib.TabIs Tryz.prog w "internal/strconv.uint64pow10" .u64 Lib.pow10Tab
  max : ∃ m, w.cell? ⟨0, 0, none⟩ = some (.int .i64 m)
theorem LaidC.keep {w w' : World} (h : LaidC w) (hb : Below w.heap.size w w') : LaidC w' where
  tab := var_keep h.tab hb
  max := by obtain ⟨m, e⟩ := h.max; exact ⟨m, (hb.cell (World.block_lt_of_cell? w _ e)).trans e⟩
theorem laidC_of {w : World} {l : List (String × DataW Unit)} (h : laidMetH Tryz.prog l w) (hp : (l.all fun x => x.2.handleName?.isNone) = true) (hs : w.ShapedOpen Tryz.prog)
    (m1 : ("internal/strconv.uint64pow10", Lib.tabData .u64 Lib.pow10Tab) ∈ l) : LaidC w := by
  rw [MakeChecks.laidMetH_plain _ _ _ hp] at h
  obtain ⟨ps, h, _⟩ := h
  refine ⟨?_, cell_of_shapedOpen_int (t := 3) (zero := #[.int .i64 0]) hs (of_decide_eq_true (by kernel_rfl)) (by kernel_rfl) (by kernel_rfl) (by kernel_rfl) (by kernel_rfl) (by kernel_rfl)⟩
  obtain ⟨g', t', cs, fuel, p, h1, h2, h3, h4⟩ := laid_get h m1
  obtain rfl := Option.some.inj (gPow.symm.trans h1)
  unfold Lib.TabIs
  rw [h3, ← Lib.cells_of_tab (P := Tryz.prog) (t := t') (e := 145) (n := 20) (by obtain rfl := Option.some.inj ((show (Tryz.prog.globals[3]?).map (·.type) = some 223 by kernel_rfl).symm.trans h2); kernel_rfl) (by kernel_rfl) (by kernel_rfl) (by obtain rfl := Option.some.inj ((show (Tryz.prog.globals[3]?).map (·.type) = some 223 by kernel_rfl).symm.trans h2); kernel_rfl) h4]
theorem itoaC_c {n : Int} (h : -9223372036854775808 ≤ n ∧ n ≤ 9223372036854775807) : ContIn Tryz.prog LaidC 116 [.int .i64 n] (strV (Lib.itoa n)) := fun w hI =>
  (Tryz.strconv_Itoa n h.1 h.2 w hI.tab).mono fun e w' ⟨he, k, os, hw⟩ => ⟨he, by subst hw; exact below_grown w k os⟩
theorem splitC_c (l sep : List UInt8) (hl : l.length < 4294967281) (h1 : 1 ≤ sep.length) : ContXI Tryz.prog LaidC 40 [strV l, strV sep] (fun _ : Sl => True) (fun z => z.v) (fun z => [Hl.nw z.v cS 1 (Lib.split l sep)]) := fun w hI => by
  obtain ⟨m, hm⟩ := hI.max
  refine (Tryz.strings_Split ⟨l.toArray⟩ ⟨sep.toArray⟩ m w (by rw [size_str]; exact hl) hm (by rw [size_str]; exact h1)).mono fun e w' ⟨he, hw⟩ => ?_
  subst hw
  obtain ⟨k, hk⟩ : ∃ k, Lib.countB ⟨l.toArray⟩ ⟨sep.toArray⟩ = k := ⟨_, rfl⟩
  have hd := Lib.splitB_data ⟨sep.toArray⟩ 0 k ⟨l.toArray⟩
  have hs : Lib.split l sep = (Lib.splitB ⟨sep.toArray⟩ 0 k ⟨l.toArray⟩).map (·.data.toList) := by rw [hd, ← hk]; rfl
  have hlen : (Lib.splitB ⟨sep.toArray⟩ 0 k ⟨l.toArray⟩).length = k + 1 := Lib.splitB_all _ (by rw [size_str]; exact h1) 0 k _ hk
  rw [hk] at he ⊢
  have hkb : k ≤ l.length + 1 := by rw [← hk]; exact Lib.count_le l sep
  have hf : (Lib.splitB ⟨sep.toArray⟩ 0 k ⟨l.toArray⟩).map Value.string = (Lib.split l sep).flatMap cS := by
    rw [hs, List.flatMap_map]
    induction Lib.splitB ⟨sep.toArray⟩ 0 k ⟨l.toArray⟩ with
    | nil => rfl
    | cons b r ih => simp [ih]
  have hsl : (Lib.split l sep).length = k + 1 := by rw [hs, List.length_map, hlen]
  have own := World.ownsRow_lit (base := w.heap.size) (e := 9) (size := 1) w ((Lib.splitB ⟨sep.toArray⟩ 0 k ⟨l.toArray⟩).map Value.string).toArray (k + 1) (Nat.le_refl _) (by unfold maxLen; omega) (by simp [hlen])
  refine ⟨⟨some ⟨w.heap.size, 0, none⟩, k + 1, k + 1⟩, trivial, he, (Below.refl w.heap.size w).alloc (Nat.le_refl _) _, fun x hx => ?_⟩
  rcases List.mem_singleton.1 hx with rfl
  refine ⟨⟨?_, fun _ _ b hb => ?_⟩, rfl⟩
  · have := RO.of_row own
    rw [hsl]
    simpa [hf] using this
  · simp [Value.ownBlock] at hb; omega
end Go.Proofs.YthilhhegchmjeaaGreatDoor
/- angle.text: an angle's text by a strings.Builder. -/
set_option linter.unusedVariables false
set_option maxHeartbeats 4000000
namespace Go.Proofs.YthilhhegchmjeaaGreatDoor
open Go.RowKit

section
variable {P : Program} {n : Nat} {L : FL} {w0 : World} {H : List Hl} {Q : Exit → Act → World → Prop} {ops : Array Oper} {rest : List Oper} {dd : Nat} {ty : TypeId} {pos : String} {af : Array Edge} {gd : Option (Nat × Bool)} {ι : Type}
/-- The first write into a fresh builder: its buffer is nil. -/
theorem RS.callW0 {X2 : Hl} {A B : List Hl} {f : FuncId} {xs : List Operand} {vs : List Value} {tys : Array TypeId} {post : ι → Prop} {v : ι → Value} {Y : ι → List Hl} (hc : ContW P (bldR ⟨none, 0, 0⟩ []) X2 f vs post v Y) (ha : AE L xs vs) (h : ∀ z, post z → RS P ops Q n ((dd, v z) :: L) w0 (Y z ++ (A ++ B)) rest)
    (hA : At X2 A B H := by first | exact .here | exact .there .here | exact .there (.there .here) | exact .there (.there (.there .here)) | exact .there (.there (.there (.there .here))))
    (hg : isGo P f = true := by decide +kernel) (hd : Nat.blt dd n = true := by rfl) :
    RS P ops Q n L w0 H (⟨some dd, .call { callee := .value (.func f), args := xs.toArray, argTypes := tys }, ty, pos, af, none⟩ :: rest) := RS.actX (post := post) (L' := fun z => (dd, v z) :: L) (H' := fun z => Y z ++ (A ++ B)) rfl (fun a w hfr hw K Q hK => by
      unfold Oper.wp
      rw [run_call hfr ha hg]
      have h2 := (St.front hA hw).nilRow 5 cU 1
      refine (hc w0 (A ++ B) w h2).mono ?_
      rintro e w' ⟨z, hz, rfl, hs⟩
      exact hK _ _ ⟨z, hz, hfr.put (by simpa [Nat.blt_eq] using hd), hs⟩) h
end
def padL (n k : Int) : List UInt8 := Lib.repeatL [48] (max 0 (k - (Lib.itoa n).length)).toNat ++ Lib.itoa n
theorem pad_len {n k : Int} (h : -9223372036854775808 ≤ n ∧ n ≤ 9223372036854775807) (hk : k ≤ 10) : (padL n k).length ≤ 30 := by
  have := itoa_len h
  unfold padL
  rw [List.length_append, Lib.repeatL_length]
  simp; omega
theorem padded_c {n k : Int} (h : (-9223372036854775808 ≤ n ∧ n ≤ 9223372036854775807) ∧ 0 ≤ k ∧ k ≤ 10) : ContIn Tryz.prog LaidC 117 [.int .i64 n, .int .i64 k] (strV (padL n k)) := fun w hI => by
  have hl := itoa_len h.1
  have h1 := itoaC_c h.1
  have hr : (Lib.repeatL [48] (max 0 (k - (Lib.itoa n).length)).toNat).length ≤ 10 := by rw [Lib.repeatL_length]; simp; omega
  refine enter0 Tryz.func117 rfl rfl rfl ?_
  repeat' (first
    | (show YK _ _ _ _ _ ⟨_, .call { callee := .builtin .len, args := _, argTypes := #[9] }, _, _, _, _⟩ _; refine YK.ofV (y_lenS (by rfl) StrTy.is) ?_)
    | (show VK _ _ _ _ _ ⟨_, .call { callee := .builtin .len, args := _, argTypes := #[9] }, _, _, _, _⟩ _; refine VK.mk (y_lenS (by rfl) StrTy.is) ?_)
    | (show YG _ _ _ _ _ _ ⟨_, .call { callee := .builtin .len, args := _, argTypes := #[9] }, _, _, _, _⟩ _; refine YG.mk (fun hb => by (try (have hc := And.left hb; have hb := And.right hb; rw [hc])); (try rw [hb]); exact V.y (y_lenS (by rfl) StrTy.is)) ?_)
    | (show VG _ _ _ _ _ _ ⟨_, .call { callee := .builtin .len, args := _, argTypes := #[9] }, _, _, _, _⟩ _; refine VG.mk (fun hb => by (try (have hc := And.left hb; have hb := And.right hb; rw [hc])); (try rw [hb]); exact y_lenS (by rfl) StrTy.is) ?_)
    | (show YK _ _ _ _ _ _ _; first | refine YK.mk (y_callIn (h1) (fun _ hw => hI.keep hw.ext) ⟨rfl, rfl⟩ (by decide +kernel)) ?_ | refine YK.mk (y_callA (repeat_c [48] (m := max 0 (k - (Lib.itoa n).length)) (by omega) (by decide)) ⟨rfl, rfl, rfl⟩) ?_)
    | (show YK _ _ _ _ _ _ _; refine YK.ofV vAuto ?_)
    | (show VK _ _ _ _ _ _ _; refine VK.mk vAuto ?_)
    | (show RS _ _ _ _ _ _ _ _; first | (refine nxRS ?_) | (refine nxRS1 fun _ => ?_))
    | (show RM _ _ _ _ _ _ _ _ _ _; first | (refine nxRM ?_) | (refine nxRM1 fun _ => ?_))
    | (show YG _ _ _ _ _ _ _ _; refine YG.mk (fun hb => by (try (have hc := And.left hb; have hb := And.right hb; rw [hc])); (try rw [hb]); first | exact (y_callIn (h1) (fun _ hw => hI.keep hw.ext) ⟨rfl, rfl⟩ (by decide +kernel)) | exact (y_callA (repeat_c [48] (m := max 0 (k - (Lib.itoa n).length)) (by omega) (by decide)) ⟨rfl, rfl, rfl⟩) | exact V.y vAuto) ?_)
    | (show VG _ _ _ _ _ _ _ _; refine VG.mk (fun hb => by (try (have hc := And.left hb; have hb := And.right hb; rw [hc])); (try rw [hb]); exact vAuto) ?_)
    | (refine nxVS ?_)
    | (refine nxGS ?_)
    | (refine nxX ?_)
    | (refine G.condN rfl (fun hc => ?_) (fun hc => ?_) <;> (try first | exact False.elim hc | (exfalso; omega))))
  exact X.ret (vs := [_]) rfl ⟨rfl, rfl⟩ rfl (fun w hw => ⟨rfl, hw.ext⟩)
def angHead (n : Int) : List UInt8 := Lib.itoa (n / 60000) ++ [45] ++ padL (n % 60000 / 1000) 2 ++ [46]
def angRest (n : Int) : List UInt8 := if n % 1000 % 100 = 0 then Lib.itoa (n % 1000 / 100) else padL (n % 1000) 3
theorem text_p {n : Int} (h : 0 ≤ n ∧ n ≤ 1099511627776) : ContIn Tryz.prog LaidC 85 [.int .i64 n] (strV (angHead n ++ angRest n)) := fun w hI => by
  have i1 := itoaC_c (n := n / 60000) (by omega)
  have i2 := padded_c (n := n % 60000 / 1000) (k := 2) (by omega)
  have i3 := itoaC_c (n := n % 1000 / 100) (by omega)
  have i4 := padded_c (n := n % 1000) (k := 3) (by omega)
  have l1 := itoa_len (n := n / 60000) (by omega)
  have l2 := pad_len (n := n % 60000 / 1000) (k := 2) (by omega) (by omega)
  have l3 := itoa_len (n := n % 1000 / 100) (by omega)
  have l4 := pad_len (n := n % 1000) (k := 3) (by omega) (by omega)
  have e1 : (angHead n).length ≤ 100 := by simp only [angHead, List.length_append, List.length_singleton]; omega
  have w1 := fun b => writeS_c b (.pointer none) (.inl rfl) ⟨none, 0, 0⟩ [] (angHead n) (by simp only [List.length_nil]; omega)
  have w2 := fun b z => writeS_c b (pB b) (.inr rfl) z (angHead n) (Lib.itoa (n % 1000 / 100)) (by omega)
  have w3 := fun b z => writeS_c b (pB b) (.inr rfl) z (angHead n) (padL (n % 1000) 3) (by omega)
  unfold angHead angRest at *
  refine enter0 Tryz.func85 rfl rfl rfl ?_
  repeat' (first
    | (show YK _ _ _ _ _ ⟨_, .call { callee := .builtin .len, args := _, argTypes := #[9] }, _, _, _, _⟩ _; refine YK.ofV (y_lenS (by rfl) StrTy.is) ?_)
    | (show VK _ _ _ _ _ ⟨_, .call { callee := .builtin .len, args := _, argTypes := #[9] }, _, _, _, _⟩ _; refine VK.mk (y_lenS (by rfl) StrTy.is) ?_)
    | (show YG _ _ _ _ _ _ ⟨_, .call { callee := .builtin .len, args := _, argTypes := #[9] }, _, _, _, _⟩ _; refine YG.mk (fun hb => by (try (have hc := And.left hb; have hb := And.right hb; rw [hc])); (try rw [hb]); exact V.y (y_lenS (by rfl) StrTy.is)) ?_)
    | (show VG _ _ _ _ _ _ ⟨_, .call { callee := .builtin .len, args := _, argTypes := #[9] }, _, _, _, _⟩ _; refine VG.mk (fun hb => by (try (have hc := And.left hb; have hb := And.right hb; rw [hc])); (try rw [hb]); exact y_lenS (by rfl) StrTy.is) ?_)
    | (refine RS.callW0 (w1 _) ⟨rfl, rfl, rfl⟩ ?_; rintro z1 _; dsimp only [List.cons_append, List.nil_append])
    | (refine RS.callW (w2 _ _) ⟨rfl, rfl, rfl⟩ ?_; rintro z2 _; dsimp only [List.cons_append, List.nil_append])
    | (refine RS.callW (w3 _ _) ⟨rfl, rfl, rfl⟩ ?_; rintro z2 _; dsimp only [List.cons_append, List.nil_append])
    | (refine RS.string ?_ (.inr rfl) (List.Mem.head _) (List.Mem.tail _ (List.Mem.head _)) ⟨rfl, rfl⟩)
    | (show YK _ _ _ _ _ _ _; first | refine YK.mk (y_callIn (i1) (fun _ hw => hI.keep hw.ext) ⟨rfl, rfl⟩ (by decide +kernel)) ?_ | refine YK.mk (y_callIn (i2) (fun _ hw => hI.keep hw.ext) ⟨rfl, rfl, rfl⟩ (by decide +kernel)) ?_ | refine YK.mk (y_callIn (i3) (fun _ hw => hI.keep hw.ext) ⟨rfl, rfl⟩ (by decide +kernel)) ?_ | refine YK.mk (y_callIn (i4) (fun _ hw => hI.keep hw.ext) ⟨rfl, rfl, rfl⟩ (by decide +kernel)) ?_)
    | (show YK _ _ _ _ _ _ _; refine YK.ofV vAuto ?_)
    | (show VK _ _ _ _ _ _ _; refine VK.mk vAuto ?_)
    | (show RS _ _ _ _ _ _ _ _; first | (refine nxRS ?_) | (refine nxRS1 fun _ => ?_))
    | (show RM _ _ _ _ _ _ _ _ _ _; first | (refine nxRM ?_) | (refine nxRM1 fun _ => ?_))
    | (show YG _ _ _ _ _ _ _ _; refine YG.mk (fun hb => by (try (have hc := And.left hb; have hb := And.right hb; rw [hc])); (try rw [hb]); first | exact (y_callIn (i1) (fun _ hw => hI.keep hw.ext) ⟨rfl, rfl⟩ (by decide +kernel)) | exact (y_callIn (i2) (fun _ hw => hI.keep hw.ext) ⟨rfl, rfl, rfl⟩ (by decide +kernel)) | exact (y_callIn (i3) (fun _ hw => hI.keep hw.ext) ⟨rfl, rfl⟩ (by decide +kernel)) | exact (y_callIn (i4) (fun _ hw => hI.keep hw.ext) ⟨rfl, rfl, rfl⟩ (by decide +kernel)) | exact V.y vAuto) ?_)
    | (show VG _ _ _ _ _ _ _ _; refine VG.mk (fun hb => by (try (have hc := And.left hb; have hb := And.right hb; rw [hc])); (try rw [hb]); exact vAuto) ?_)
    | (refine nxVS ?_)
    | (refine nxGS ?_)
    | (refine nxX ?_)
    | (refine G.condN rfl (fun hc => ?_) (fun hc => ?_) <;> (try first | exact False.elim hc | (exfalso; omega))))
  · rw [if_pos hc]; exact X.ret (vs := [_]) rfl ⟨rfl, rfl⟩ rfl (fun w hw => ⟨rfl, hw.ext⟩)
  · rw [if_neg hc]; exact X.ret (vs := [_]) rfl ⟨rfl, rfl⟩ rfl (fun w hw => ⟨rfl, hw.ext⟩)
theorem text_m {n m : Int} (hm : m = -n) (h : 0 < m ∧ m ≤ 1099511627776) : ContIn Tryz.prog LaidC 85 [.int .i64 n] (strV ([45] ++ angHead m ++ angRest m)) := fun w hI => by
  have i1 := itoaC_c (n := m / 60000) (by omega)
  have i2 := padded_c (n := m % 60000 / 1000) (k := 2) (by omega)
  have i3 := itoaC_c (n := m % 1000 / 100) (by omega)
  have i4 := padded_c (n := m % 1000) (k := 3) (by omega)
  have l1 := itoa_len (n := m / 60000) (by omega)
  have l2 := pad_len (n := m % 60000 / 1000) (k := 2) (by omega) (by omega)
  have l3 := itoa_len (n := m % 1000 / 100) (by omega)
  have l4 := pad_len (n := m % 1000) (k := 3) (by omega) (by omega)
  have e1 : (angHead m).length ≤ 100 := by simp only [angHead, List.length_append, List.length_singleton]; omega
  have w0' := fun b => writeB_c b (.pointer none) (.inl rfl) ⟨none, 0, 0⟩ [] 45 (by simp)
  have w1 := fun b z => writeS_c b (pB b) (.inr rfl) z [45] (angHead m) (by simp only [List.length_singleton]; omega)
  have w2 := fun b z => writeS_c b (pB b) (.inr rfl) z ([45] ++ angHead m) (Lib.itoa (m % 1000 / 100)) (by simp only [List.length_append, List.length_singleton]; omega)
  have w3 := fun b z => writeS_c b (pB b) (.inr rfl) z ([45] ++ angHead m) (padL (m % 1000) 3) (by simp only [List.length_append, List.length_singleton]; omega)
  unfold angHead angRest at *
  subst hm
  refine enter0 Tryz.func85 rfl rfl rfl ?_
  repeat' (first
    | (show YK _ _ _ _ _ ⟨_, .call { callee := .builtin .len, args := _, argTypes := #[9] }, _, _, _, _⟩ _; refine YK.ofV (y_lenS (by rfl) StrTy.is) ?_)
    | (show VK _ _ _ _ _ ⟨_, .call { callee := .builtin .len, args := _, argTypes := #[9] }, _, _, _, _⟩ _; refine VK.mk (y_lenS (by rfl) StrTy.is) ?_)
    | (show YG _ _ _ _ _ _ ⟨_, .call { callee := .builtin .len, args := _, argTypes := #[9] }, _, _, _, _⟩ _; refine YG.mk (fun hb => by (try (have hc := And.left hb; have hb := And.right hb; rw [hc])); (try rw [hb]); exact V.y (y_lenS (by rfl) StrTy.is)) ?_)
    | (show VG _ _ _ _ _ _ ⟨_, .call { callee := .builtin .len, args := _, argTypes := #[9] }, _, _, _, _⟩ _; refine VG.mk (fun hb => by (try (have hc := And.left hb; have hb := And.right hb; rw [hc])); (try rw [hb]); exact y_lenS (by rfl) StrTy.is) ?_)
    | (refine RS.callW0 (w0' _) ⟨rfl, rfl, rfl⟩ ?_; rintro z0 _; dsimp only [List.cons_append, List.nil_append])
    | (refine RS.callW (w1 _ _) ⟨rfl, rfl, rfl⟩ ?_; rintro z1 _; dsimp only [List.cons_append, List.nil_append])
    | (refine RS.callW (w2 _ _) ⟨rfl, rfl, rfl⟩ ?_; rintro z2 _; dsimp only [List.cons_append, List.nil_append])
    | (refine RS.callW (w3 _ _) ⟨rfl, rfl, rfl⟩ ?_; rintro z2 _; dsimp only [List.cons_append, List.nil_append])
    | (refine RS.string ?_ (.inr rfl) (List.Mem.head _) (List.Mem.tail _ (List.Mem.head _)) ⟨rfl, rfl⟩)
    | (show YK _ _ _ _ _ _ _; first | refine YK.mk (y_callIn (i1) (fun _ hw => hI.keep hw.ext) ⟨rfl, rfl⟩ (by decide +kernel)) ?_ | refine YK.mk (y_callIn (i2) (fun _ hw => hI.keep hw.ext) ⟨rfl, rfl, rfl⟩ (by decide +kernel)) ?_ | refine YK.mk (y_callIn (i3) (fun _ hw => hI.keep hw.ext) ⟨rfl, rfl⟩ (by decide +kernel)) ?_ | refine YK.mk (y_callIn (i4) (fun _ hw => hI.keep hw.ext) ⟨rfl, rfl, rfl⟩ (by decide +kernel)) ?_)
    | (show YK _ _ _ _ _ _ _; refine YK.ofV vAuto ?_)
    | (show VK _ _ _ _ _ _ _; refine VK.mk vAuto ?_)
    | (show RS _ _ _ _ _ _ _ _; first | (refine nxRS ?_) | (refine nxRS1 fun _ => ?_))
    | (show RM _ _ _ _ _ _ _ _ _ _; first | (refine nxRM ?_) | (refine nxRM1 fun _ => ?_))
    | (show YG _ _ _ _ _ _ _ _; refine YG.mk (fun hb => by (try (have hc := And.left hb; have hb := And.right hb; rw [hc])); (try rw [hb]); first | exact (y_callIn (i1) (fun _ hw => hI.keep hw.ext) ⟨rfl, rfl⟩ (by decide +kernel)) | exact (y_callIn (i2) (fun _ hw => hI.keep hw.ext) ⟨rfl, rfl, rfl⟩ (by decide +kernel)) | exact (y_callIn (i3) (fun _ hw => hI.keep hw.ext) ⟨rfl, rfl⟩ (by decide +kernel)) | exact (y_callIn (i4) (fun _ hw => hI.keep hw.ext) ⟨rfl, rfl, rfl⟩ (by decide +kernel)) | exact V.y vAuto) ?_)
    | (show VG _ _ _ _ _ _ _ _; refine VG.mk (fun hb => by (try (have hc := And.left hb; have hb := And.right hb; rw [hc])); (try rw [hb]); exact vAuto) ?_)
    | (refine nxVS ?_)
    | (refine nxGS ?_)
    | (refine nxX ?_)
    | (refine G.condN rfl (fun hc => ?_) (fun hc => ?_) <;> (try first | exact False.elim hc | (exfalso; omega))))
  · rw [if_pos hc]; exact X.ret (vs := [_]) rfl ⟨rfl, rfl⟩ rfl (fun w hw => ⟨rfl, hw.ext⟩)
  · rw [if_neg hc]; exact X.ret (vs := [_]) rfl ⟨rfl, rfl⟩ rfl (fun w hw => ⟨rfl, hw.ext⟩)
def angL (n : Int) : List UInt8 := if n < 0 then [45] ++ angHead (-n) ++ angRest (-n) else angHead n ++ angRest n
theorem angH_len {n : Int} (h : 0 ≤ n ∧ n ≤ 1099511627776) : (angHead n).length ≤ 70 ∧ (angRest n).length ≤ 30 := by
  have l1 := itoa_len (n := n / 60000) (by omega)
  have l2 := pad_len (n := n % 60000 / 1000) (k := 2) (by omega) (by omega)
  have l3 := itoa_len (n := n % 1000 / 100) (by omega)
  have l4 := pad_len (n := n % 1000) (k := 3) (by omega) (by omega)
  refine ⟨by simp only [angHead, List.length_append, List.length_singleton]; omega, ?_⟩
  unfold angRest
  split <;> omega
theorem angL_len {n : Int} (h : -1099511627776 ≤ n ∧ n ≤ 1099511627776) : (angL n).length ≤ 110 := by
  unfold angL
  split
  · have := angH_len (n := -n) (by omega)
    simp only [List.length_append, List.length_singleton]; omega
  · have := angH_len (n := n) (by omega)
    simp only [List.length_append]; omega
theorem atext_c {n : Int} (h : -1099511627776 ≤ n ∧ n ≤ 1099511627776) : ContIn Tryz.prog LaidC 85 [.int .i64 n] (strV (angL n)) := by
  unfold angL
  split
  · exact text_m rfl (by omega)
  · exact text_p (by omega)
theorem fits_c {n : Int} (h : -1099511627776 ≤ n ∧ n ≤ 1099511627776) : Cont Tryz.prog 84 [.int .i64 n] (.bool true) := fun w => by
  refine enter0 Tryz.func84 rfl rfl rfl ?_
  repeat' (first
    | (refine nxV ?_)
    | (show RS _ _ _ _ _ _ _ _; first | (refine nxRS ?_) | (refine nxRS1 fun _ => ?_))
    | (show RM _ _ _ _ _ _ _ _ _ _; first | (refine nxRM ?_) | (refine nxRM1 fun _ => ?_))
    | (refine nxG ?_)
    | (refine nxX ?_)
    | (refine G.condN rfl (fun hc => ?_) (fun hc => ?_) <;> (try first | exact False.elim hc | (exfalso; omega))))
  exact X.ret (vs := [_]) rfl ⟨rfl, rfl⟩ rfl (fun w hw => ⟨ret_bool (by simp; omega), hw.ext⟩)
theorem aText_c {n : Int} (h : -1099511627776 ≤ n ∧ n ≤ 1099511627776) : ContIn Tryz.prog LaidC 51 [.int .i64 n] (.tuple [strV (angL n), .int .i64 0].toArray) := fun w hI => by
  have q1 := fits_c h
  have q2 := atext_c h
  generalize angL n = l at q2
  refine enter0 Tryz.func51 rfl rfl rfl ?_
  repeat' (first
    | (show YK _ _ _ _ _ _ _; first | refine YK.mk (y_callA (q1) ⟨rfl, rfl⟩) ?_ | refine YK.mk (y_callIn (q2) (fun _ hw => hI.keep hw.ext) ⟨rfl, rfl⟩ (by decide +kernel)) ?_)
    | (show YK _ _ _ _ _ _ _; refine YK.ofV vAuto ?_)
    | (show VK _ _ _ _ _ _ _; refine VK.mk vAuto ?_)
    | (show RS _ _ _ _ _ _ _ _; first | (refine nxRS ?_) | (refine nxRS1 fun _ => ?_))
    | (show RM _ _ _ _ _ _ _ _ _ _; first | (refine nxRM ?_) | (refine nxRM1 fun _ => ?_))
    | (show YG _ _ _ _ _ _ _ _; refine YG.mk (fun hb => by (try (have hc := And.left hb; have hb := And.right hb; rw [hc])); (try rw [hb]); first | exact (y_callA (q1) ⟨rfl, rfl⟩) | exact (y_callIn (q2) (fun _ hw => hI.keep hw.ext) ⟨rfl, rfl⟩ (by decide +kernel)) | exact V.y vAuto) ?_)
    | (show VG _ _ _ _ _ _ _ _; refine VG.mk (fun hb => by (try (have hc := And.left hb; have hb := And.right hb; rw [hc])); (try rw [hb]); exact vAuto) ?_)
    | (refine nxX ?_)
    | (refine G.condN rfl (fun hc => ?_) (fun hc => ?_) <;> (try first | exact False.elim hc | (exfalso; omega))))
  exact X.ret (vs := [_, _]) rfl ⟨rfl, rfl, rfl⟩ rfl (fun w hw => ⟨rfl, hw.ext⟩)
end Go.Proofs.YthilhhegchmjeaaGreatDoor
/- Angles' texts by the reference; places' texts. -/
set_option linter.unusedVariables false
set_option maxHeartbeats 8000000
namespace Go.Proofs.YthilhhegchmjeaaGreatDoor
open Go.RowKit
theorem RS.lit1B {P : Program} {ops : Array Oper} {Q : Exit → Act → World → Prop} {n : Nat} {L : FL} {w0 : World} {H : List Hl} {dd : Tmp} {ty : TypeId} {pos : String} {af : Array Edge} {t e : TypeId} {bytes : Nat} {x : Operand} {b : Int} {rest : List Oper} (h : ∀ v' : Sl, RS P ops Q n ((dd, v'.v) :: L) w0 (Hl.rw v'.v e cB 1 [b] :: H) rest) (hx : evO L x = some (.int .u8 b) := by rfl) [ht : RowTy P t e 1 bytes] (hd : Nat.blt dd n = true := by rfl) :
    RS P ops Q n L w0 H (⟨some dd, .buildSlice t 1 #[(0, x)], ty, pos, af, none⟩ :: rest) := RS.actX rfl (x_lit (parts := [(0, x)]) (vs := [.int .u8 b]) (f := cB) (l := [b]) (k := 1) ⟨hx, rfl⟩ rfl rfl rfl rfl rfl rfl (rowTy_B ht.is) hd) fun v' _ => h v'
theorem y_strOf1 {P : Program} {n : Nat} {L : FL} {w0 : World} {H : List Hl} {d : Option Tmp} {ty : TypeId} {pos : String} {af : Array Edge} {g : Option (Nat × Bool)} {x : Operand} {t t' e : TypeId} {v : Value} {b : Int} {c : UInt8} (hx : evO L x = some v) (h : RdT H v cB 1 [b]) (h1 : P.underlying t = some (.slice e)) (h2 : P.underlying e = some (.int .u8)) (h3 : P.underlying t' = some .string) (hb : UInt8.ofNat b.toNat = c) : V P n L w0 H ⟨d, .convert t t' x, ty, pos, af, g⟩ (strV [c]) := by
  subst hb
  exact y_strOf hx h h1 h2 h3 (by simp)
/-- The digits of a number, at least so many. -/
def rD (n l : Nat) : List UInt8 := if h : n = 0 ∧ l = 0 then [] else rD (n / 10) (l - 1) ++ [dgt (n % 10)]
termination_by n + l
decreasing_by omega
theorem rD_zero : rD 0 0 = [] := by unfold rD; rfl
theorem rD_step {n l : Nat} (h : ¬ (n = 0 ∧ l = 0)) : rD n l = rD (n / 10) (l - 1) ++ [dgt (n % 10)] := by
  conv => lhs; unfold rD
  rw [dif_neg h]
theorem r5digits_c {n l : Nat} (h : n ≤ 1000000000 ∧ l ≤ 20) : Cont Tryz.prog 87 [.int .i64 (n : Int), .int .i64 (l : Int)] (strV (rD n l)) := fun w => by
  refine enter0 Tryz.func87 rfl rfl rfl ?_
  repeat' (first
    | (show YK _ _ _ _ _ ⟨_, .call { callee := .builtin .len, args := _, argTypes := #[9] }, _, _, _, _⟩ _; refine YK.ofV (y_lenS (by rfl) StrTy.is) ?_)
    | (show VK _ _ _ _ _ ⟨_, .call { callee := .builtin .len, args := _, argTypes := #[9] }, _, _, _, _⟩ _; refine VK.mk (y_lenS (by rfl) StrTy.is) ?_)
    | (show YG _ _ _ _ _ _ ⟨_, .call { callee := .builtin .len, args := _, argTypes := #[9] }, _, _, _, _⟩ _; refine YG.mk (fun hb => by (try (have hc := And.left hb; have hb := And.right hb; rw [hc])); (try rw [hb]); exact V.y (y_lenS (by rfl) StrTy.is)) ?_)
    | (show VG _ _ _ _ _ _ ⟨_, .call { callee := .builtin .len, args := _, argTypes := #[9] }, _, _, _, _⟩ _; refine VG.mk (fun hb => by (try (have hc := And.left hb; have hb := And.right hb; rw [hc])); (try rw [hb]); exact y_lenS (by rfl) StrTy.is) ?_)
    | (refine nxV ?_)
    | (show RS _ _ _ _ _ _ _ _; first | (refine nxRS ?_) | (refine nxRS1 fun _ => ?_))
    | (show RM _ _ _ _ _ _ _ _ _ _; first | (refine nxRM ?_) | (refine nxRM1 fun _ => ?_))
    | (refine nxG ?_)
    | (refine nxVS ?_)
    | (refine nxGS ?_)
    | (refine nxX ?_)
    | (refine G.condN rfl (fun hc => ?_) (fun hc => ?_) <;> (try first | exact False.elim hc | (exfalso; omega))))
  refine G.loop (ι := Nat × Int × List UInt8) (fun x => [(0, .int .i64 (x.1 : Int)), (1, .int .i64 x.2.1), (5, strV x.2.2)]) (fun _ => []) (fun x => (-1000000000 + (x.1 : Int) ≤ x.2.1 ∧ x.2.1 ≤ 20) ∧ x.1 ≤ 1000000000 ∧ x.2.2.length + x.1 + x.2.1.toNat ≤ 1000000020 ∧ rD x.1 x.2.1.toNat ++ x.2.2 = rD n l) (fun x => x.1 + x.2.1.toNat) (n, (l : Int), []) ⟨by dsimp only; omega, by dsimp only; omega, by dsimp only [List.length_nil]; omega, by simp⟩ ⟨rfl, rfl, rfl, trivial⟩ (fun w h => h) ?_
  rintro ⟨a, b, s⟩ mx ⟨g1, g2, g3, g4⟩ hmx
  dsimp only at g1 g2 g3 g4 hmx ⊢
  by_cases hz : (a : Int) ≤ 0 ∧ b ≤ 0
  · have e : rD n l = s := by rw [← g4, show a = 0 by omega, show b.toNat = 0 by omega, rD_zero, List.nil_append]
    repeat' (first
    | (show YK _ _ _ _ _ ⟨_, .call { callee := .builtin .len, args := _, argTypes := #[9] }, _, _, _, _⟩ _; refine YK.ofV (y_lenS (by rfl) StrTy.is) ?_)
    | (show VK _ _ _ _ _ ⟨_, .call { callee := .builtin .len, args := _, argTypes := #[9] }, _, _, _, _⟩ _; refine VK.mk (y_lenS (by rfl) StrTy.is) ?_)
    | (show YG _ _ _ _ _ _ ⟨_, .call { callee := .builtin .len, args := _, argTypes := #[9] }, _, _, _, _⟩ _; refine YG.mk (fun hb => by (try (have hc := And.left hb; have hb := And.right hb; rw [hc])); (try rw [hb]); exact V.y (y_lenS (by rfl) StrTy.is)) ?_)
    | (show VG _ _ _ _ _ _ ⟨_, .call { callee := .builtin .len, args := _, argTypes := #[9] }, _, _, _, _⟩ _; refine VG.mk (fun hb => by (try (have hc := And.left hb; have hb := And.right hb; rw [hc])); (try rw [hb]); exact y_lenS (by rfl) StrTy.is) ?_)
    | (refine nxV ?_)
    | (show RS _ _ _ _ _ _ _ _; first | (refine nxRS ?_) | (refine nxRS1 fun _ => ?_))
    | (show RM _ _ _ _ _ _ _ _ _ _; first | (refine nxRM ?_) | (refine nxRM1 fun _ => ?_))
    | (refine nxG ?_)
    | (refine nxVS ?_)
    | (refine nxGS ?_)
    | (refine nxX ?_)
    | (refine G.condN rfl (fun hc => ?_) (fun hc => ?_) <;> (try first | exact False.elim hc | (exfalso; omega))))
    exact X.ret (vs := [_]) rfl ⟨rfl, rfl⟩ rfl (fun w hw => ⟨by rw [e], hw.ext⟩)
  · have hb : (UInt8.ofNat (48 + (a : Int) % 10).toNat) = dgt (a % 10) := by unfold dgt; congr 1 <;> omega
    rw [rD_step (by omega), List.append_assoc] at g4
    have hc1 : 0 ≤ 48 + (a : Int) % 10 ∧ 48 + (a : Int) % 10 ≤ 255 := by omega
    repeat' (first
    | (show YK _ _ _ _ _ ⟨_, .call { callee := .builtin .len, args := _, argTypes := #[9] }, _, _, _, _⟩ _; refine YK.ofV (y_lenS (by rfl) StrTy.is) ?_)
    | (show VK _ _ _ _ _ ⟨_, .call { callee := .builtin .len, args := _, argTypes := #[9] }, _, _, _, _⟩ _; refine VK.mk (y_lenS (by rfl) StrTy.is) ?_)
    | (show YG _ _ _ _ _ _ ⟨_, .call { callee := .builtin .len, args := _, argTypes := #[9] }, _, _, _, _⟩ _; refine YG.mk (fun hb => by (try (have hc := And.left hb; have hb := And.right hb; rw [hc])); (try rw [hb]); exact V.y (y_lenS (by rfl) StrTy.is)) ?_)
    | (show VG _ _ _ _ _ _ ⟨_, .call { callee := .builtin .len, args := _, argTypes := #[9] }, _, _, _, _⟩ _; refine VG.mk (fun hb => by (try (have hc := And.left hb; have hb := And.right hb; rw [hc])); (try rw [hb]); exact y_lenS (by rfl) StrTy.is) ?_)
    | (show RS _ _ _ _ _ _ _ (⟨some _, .buildSlice _ _ _, _, _, _, _⟩ :: _); refine RS.lit1B (fun v' => ?_))
    | (show YK _ _ _ _ _ ⟨_, .convert 85 _ _, _, _, _, _⟩ _; refine YK.ofV (y_strOf1 (e := 5) (b := 48 + (a : Int) % 10) (by rfl) (by exact rdA) (by kernel_rfl) (by kernel_rfl) (by kernel_rfl) hb) ?_)
    | (refine nxV ?_)
    | (show RS _ _ _ _ _ _ _ _; first | (refine nxRS ?_) | (refine nxRS1 fun _ => ?_))
    | (show RM _ _ _ _ _ _ _ _ _ _; first | (refine nxRM ?_) | (refine nxRM1 fun _ => ?_))
    | (refine nxG ?_)
    | (refine nxVS ?_)
    | (refine nxGS ?_)
    | (refine nxX ?_)
    | (refine G.condN rfl (fun hc => ?_) (fun hc => ?_) <;> (try first | exact False.elim hc | (exfalso; omega))))
    refine X.again (a / 10, b - 1, dgt (a % 10) :: s) ⟨by dsimp only; omega, by dsimp only; omega, by dsimp only [List.length_cons]; omega, by dsimp only; rw [show (b - 1).toNat = b.toNat - 1 by omega]; exact g4⟩ (by dsimp only; omega) ⟨rfl, rfl, rfl, trivial⟩ ?_
    exact fun w h => h.sub (by repeat (first | exact List.Sublist.refl _ | apply List.Sublist.cons_cons | apply List.Sublist.cons))
theorem rD_small : ∀ (k n : Nat), n ≤ k → 0 < n → rD n 0 = Lib.decDigits n
  | 0, n, h, h0 => by omega
  | k + 1, n, h, h0 => by
    rw [rD_step (by omega)]
    by_cases hn : n < 10
    · rw [show n / 10 = 0 by omega, rD_zero, deci_lt hn, show n % 10 = n by omega]; rfl
    · rw [deci_ge (by omega), rD_small k (n / 10) (by omega) (by omega)]
theorem rD_one (n : Nat) : rD n 1 = Lib.decDigits n := by
  rw [rD_step (by omega)]
  by_cases hn : n < 10
  · rw [show n / 10 = 0 by omega, rD_zero, deci_lt hn, show n % 10 = n by omega]; rfl
  · rw [deci_ge (by omega), rD_small (n / 10) (n / 10) (Nat.le_refl _) (by omega)]
theorem repeat_one (c : UInt8) : ∀ j : Nat, Lib.repeatL [c] j = List.replicate j c
  | 0 => by unfold Lib.repeatL; rfl
  | j + 1 => by
    show [c] ++ Lib.repeatL [c] j = _
    rw [repeat_one c j]; rfl
theorem dec1 {n : Nat} (h : n < 10) : Lib.itoa (n : Int) = [dgt n] := by rw [itoa_of_nat, deci_lt h]
theorem dec2 {n : Nat} (h : 10 ≤ n) (h2 : n < 100) : Lib.itoa (n : Int) = [dgt (n / 10), dgt (n % 10)] := by rw [itoa_of_nat, deci_ge h, deci_lt (by omega)]; rfl
theorem dec3 {n : Nat} (h : 100 ≤ n) (h2 : n < 1000) : Lib.itoa (n : Int) = [dgt (n / 10 / 10), dgt (n / 10 % 10), dgt (n % 10)] := by rw [itoa_of_nat, deci_ge (by omega), deci_ge (by omega), deci_lt (by omega)]; rfl
theorem rD_two {n : Nat} (h : n < 100) : rD n 2 = padL (n : Int) 2 := by
  rw [rD_step (by omega), rD_step (by omega), show n / 10 / 10 = 0 by omega, rD_zero, Nat.mod_eq_of_lt (show n / 10 < 10 by omega)]
  unfold padL
  by_cases h1 : n < 10
  · rw [dec1 h1, show n / 10 = 0 by omega, Nat.mod_eq_of_lt h1]; rfl
  · rw [dec2 (by omega) h]; rfl
theorem rD_three {n : Nat} (h : n < 1000) : rD n 3 = padL (n : Int) 3 := by
  rw [rD_step (by omega), rD_step (by omega), rD_step (by omega), show n / 10 / 10 / 10 = 0 by omega, rD_zero, Nat.mod_eq_of_lt (show n / 10 / 10 < 10 by omega)]
  unfold padL
  by_cases h1 : n < 10
  · rw [dec1 h1, show n / 10 / 10 = 0 by omega, show n / 10 % 10 = 0 by omega, Nat.mod_eq_of_lt h1]; rfl
  · by_cases h2 : n < 100
    · rw [dec2 (by omega) h2, show n / 10 / 10 = 0 by omega, Nat.mod_eq_of_lt (show n / 10 < 10 by omega)]; rfl
    · rw [dec3 (by omega) h]; rfl
theorem r5textN_c {u : Nat} {n : Int} {sg : List UInt8} (h : u ≤ 1000000000) (hs : n < 0 ∧ n = -(u : Int) ∧ sg = [45] ∨ 0 ≤ n ∧ n = (u : Int) ∧ sg = []) : Cont Tryz.prog 53 [.int .i64 n] (strV (sg ++ angHead u ++ angRest u)) := fun w => by
  have h1 : Cont Tryz.prog 87 [.int .i64 ((u / 60000 : Nat) : Int), .int .i64 1] (strV (rD (u / 60000) 1)) := r5digits_c (n := u / 60000) (l := 1) (by omega)
  have h2 : Cont Tryz.prog 87 [.int .i64 ((u % 60000 / 1000 : Nat) : Int), .int .i64 2] (strV (rD (u % 60000 / 1000) 2)) := r5digits_c (n := u % 60000 / 1000) (l := 2) (by omega)
  have h3 : Cont Tryz.prog 87 [.int .i64 ((u % 1000 / 100 : Nat) : Int), .int .i64 1] (strV (rD (u % 1000 / 100) 1)) := r5digits_c (n := u % 1000 / 100) (l := 1) (by omega)
  have h4 : Cont Tryz.prog 87 [.int .i64 ((u % 1000 : Nat) : Int), .int .i64 3] (strV (rD (u % 1000) 3)) := r5digits_c (n := u % 1000) (l := 3) (by omega)
  rw [rD_one, ← itoa_of_nat] at h1 h3
  rw [rD_two (by omega)] at h2
  rw [rD_three (by omega)] at h4
  have l1 := itoa_len (n := ((u / 60000 : Nat) : Int)) (by omega)
  have l2 := pad_len (n := ((u % 60000 / 1000 : Nat) : Int)) (k := 2) (by omega) (by decide)
  have l3 := itoa_len (n := ((u % 1000 / 100 : Nat) : Int)) (by omega)
  have l4 := pad_len (n := ((u % 1000 : Nat) : Int)) (k := 3) (by omega) (by decide)
  have e1 : ((u / 60000 : Nat) : Int) = (u : Int) / 60000 := by omega
  have e2 : ((u % 60000 / 1000 : Nat) : Int) = (u : Int) % 60000 / 1000 := by omega
  have e3 : ((u % 1000 / 100 : Nat) : Int) = (u : Int) % 1000 / 100 := by omega
  have e4 : ((u % 1000 : Nat) : Int) = (u : Int) % 1000 := by omega
  rw [e1] at h1 l1
  rw [e2] at h2 l2
  rw [e3] at h3 l3
  rw [e4] at h4 l4
  clear e1 e2 e3 e4
  unfold angHead angRest
  rcases hs with ⟨hn, rfl, rfl⟩ | ⟨hn, rfl, rfl⟩
  · have hw9 : IntKind.i64.wrap (0 - -(u : Int)) = (u : Int) := by rw [show 0 - -(u : Int) = (u : Int) by omega]; exact IntWalk.i64_in _ (by omega)
    refine enter0 Tryz.func53 rfl rfl rfl ?_
    repeat' (first
    | (show YK _ _ _ _ _ ⟨_, .call { callee := .builtin .len, args := _, argTypes := #[9] }, _, _, _, _⟩ _; refine YK.ofV (y_lenS (by rfl) StrTy.is) ?_)
    | (show VK _ _ _ _ _ ⟨_, .call { callee := .builtin .len, args := _, argTypes := #[9] }, _, _, _, _⟩ _; refine VK.mk (y_lenS (by rfl) StrTy.is) ?_)
    | (show YG _ _ _ _ _ _ ⟨_, .call { callee := .builtin .len, args := _, argTypes := #[9] }, _, _, _, _⟩ _; refine YG.mk (fun hb => by (try (have hc := And.left hb; have hb := And.right hb; rw [hc])); (try rw [hb]); exact V.y (y_lenS (by rfl) StrTy.is)) ?_)
    | (show VG _ _ _ _ _ _ ⟨_, .call { callee := .builtin .len, args := _, argTypes := #[9] }, _, _, _, _⟩ _; refine VG.mk (fun hb => by (try (have hc := And.left hb; have hb := And.right hb; rw [hc])); (try rw [hb]); exact y_lenS (by rfl) StrTy.is) ?_)
    | (show VK _ _ _ _ _ ⟨some 9, _, _, _, _, _⟩ _; refine VK.mk (V.int_ (y_sub (by rfl) (by rfl)) hw9) ?_)
    | (show YK _ _ _ _ _ ⟨some 9, _, _, _, _, _⟩ _; refine YK.ofV (V.int_ (y_sub (by rfl) (by rfl)) hw9) ?_)
    | (show YK _ _ _ _ _ _ _; first | refine YK.mk (y_callA (h1) ⟨rfl, rfl, rfl⟩) ?_ | refine YK.mk (y_callA (h2) ⟨rfl, rfl, rfl⟩) ?_ | refine YK.mk (y_callA (h3) ⟨rfl, rfl, rfl⟩) ?_ | refine YK.mk (y_callA (h4) ⟨rfl, rfl, rfl⟩) ?_)
    | (show YK _ _ _ _ _ _ _; refine YK.ofV vAuto ?_)
    | (show VK _ _ _ _ _ _ _; refine VK.mk vAuto ?_)
    | (show RS _ _ _ _ _ _ _ _; first | (refine nxRS ?_) | (refine nxRS1 fun _ => ?_))
    | (show RM _ _ _ _ _ _ _ _ _ _; first | (refine nxRM ?_) | (refine nxRM1 fun _ => ?_))
    | (show YG _ _ _ _ _ _ _ _; refine YG.mk (fun hb => by (try (have hc := And.left hb; have hb := And.right hb; rw [hc])); (try rw [hb]); first | exact (y_callA (h1) ⟨rfl, rfl, rfl⟩) | exact (y_callA (h2) ⟨rfl, rfl, rfl⟩) | exact (y_callA (h3) ⟨rfl, rfl, rfl⟩) | exact (y_callA (h4) ⟨rfl, rfl, rfl⟩) | exact V.y vAuto) ?_)
    | (show VG _ _ _ _ _ _ _ _; refine VG.mk (fun hb => by (try (have hc := And.left hb; have hb := And.right hb; rw [hc])); (try rw [hb]); exact vAuto) ?_)
    | (refine nxVS ?_)
    | (refine nxGS ?_)
    | (refine nxX ?_)
    | (refine G.condN rfl (fun hc => ?_) (fun hc => ?_) <;> (try first | exact False.elim hc | (exfalso; omega))))
    all_goals first | (exfalso; omega) | skip
    · exact X.ret (vs := [_]) rfl ⟨rfl, rfl⟩ rfl (fun w hw => ⟨by rw [if_pos hc]; simp only [List.append_assoc], hw.ext⟩)
    · exact X.ret (vs := [_]) rfl ⟨rfl, rfl⟩ rfl (fun w hw => ⟨by rw [if_neg hc]; simp only [List.append_assoc], hw.ext⟩)
  · refine enter0 Tryz.func53 rfl rfl rfl ?_
    repeat' (first
    | (show YK _ _ _ _ _ ⟨_, .call { callee := .builtin .len, args := _, argTypes := #[9] }, _, _, _, _⟩ _; refine YK.ofV (y_lenS (by rfl) StrTy.is) ?_)
    | (show VK _ _ _ _ _ ⟨_, .call { callee := .builtin .len, args := _, argTypes := #[9] }, _, _, _, _⟩ _; refine VK.mk (y_lenS (by rfl) StrTy.is) ?_)
    | (show YG _ _ _ _ _ _ ⟨_, .call { callee := .builtin .len, args := _, argTypes := #[9] }, _, _, _, _⟩ _; refine YG.mk (fun hb => by (try (have hc := And.left hb; have hb := And.right hb; rw [hc])); (try rw [hb]); exact V.y (y_lenS (by rfl) StrTy.is)) ?_)
    | (show VG _ _ _ _ _ _ ⟨_, .call { callee := .builtin .len, args := _, argTypes := #[9] }, _, _, _, _⟩ _; refine VG.mk (fun hb => by (try (have hc := And.left hb; have hb := And.right hb; rw [hc])); (try rw [hb]); exact y_lenS (by rfl) StrTy.is) ?_)
    | (show YK _ _ _ _ _ _ _; first | refine YK.mk (y_callA (h1) ⟨rfl, rfl, rfl⟩) ?_ | refine YK.mk (y_callA (h2) ⟨rfl, rfl, rfl⟩) ?_ | refine YK.mk (y_callA (h3) ⟨rfl, rfl, rfl⟩) ?_ | refine YK.mk (y_callA (h4) ⟨rfl, rfl, rfl⟩) ?_)
    | (show YK _ _ _ _ _ _ _; refine YK.ofV vAuto ?_)
    | (show VK _ _ _ _ _ _ _; refine VK.mk vAuto ?_)
    | (show RS _ _ _ _ _ _ _ _; first | (refine nxRS ?_) | (refine nxRS1 fun _ => ?_))
    | (show RM _ _ _ _ _ _ _ _ _ _; first | (refine nxRM ?_) | (refine nxRM1 fun _ => ?_))
    | (show YG _ _ _ _ _ _ _ _; refine YG.mk (fun hb => by (try (have hc := And.left hb; have hb := And.right hb; rw [hc])); (try rw [hb]); first | exact (y_callA (h1) ⟨rfl, rfl, rfl⟩) | exact (y_callA (h2) ⟨rfl, rfl, rfl⟩) | exact (y_callA (h3) ⟨rfl, rfl, rfl⟩) | exact (y_callA (h4) ⟨rfl, rfl, rfl⟩) | exact V.y vAuto) ?_)
    | (show VG _ _ _ _ _ _ _ _; refine VG.mk (fun hb => by (try (have hc := And.left hb; have hb := And.right hb; rw [hc])); (try rw [hb]); exact vAuto) ?_)
    | (refine nxVS ?_)
    | (refine nxGS ?_)
    | (refine nxX ?_)
    | (refine G.condN rfl (fun hc => ?_) (fun hc => ?_) <;> (try first | exact False.elim hc | (exfalso; omega))))
    all_goals first | (exfalso; omega) | skip
    · exact X.ret (vs := [_]) rfl ⟨rfl, rfl⟩ rfl (fun w hw => ⟨by rw [if_pos hc]; simp only [List.append_assoc, List.nil_append], hw.ext⟩)
    · exact X.ret (vs := [_]) rfl ⟨rfl, rfl⟩ rfl (fun w hw => ⟨by rw [if_neg hc]; simp only [List.append_assoc, List.nil_append], hw.ext⟩)
theorem r5text_c {n : Int} (h : -1000000000 ≤ n ∧ n ≤ 1000000000) : Cont Tryz.prog 53 [.int .i64 n] (strV (angL n)) := by
  unfold angL
  split
  · have q := r5textN_c (u := n.natAbs) (n := n) (sg := [45]) (by omega) (.inl ⟨by omega, by omega, rfl⟩)
    rw [show ((n.natAbs : Nat) : Int) = -n by omega] at q
    exact q
  · have q := r5textN_c (u := n.natAbs) (n := n) (sg := []) (by omega) (.inr ⟨by omega, by omega, rfl⟩)
    rw [show ((n.natAbs : Nat) : Int) = n by omega, List.nil_append] at q
    exact q
/-- A number's text with its side's letter. -/
def sideL (n : Int) (p m : UInt8) : List UInt8 := if n < 0 then angL (-n) ++ [m] else angL n ++ [p]
theorem sideL_len {n : Int} {p m : UInt8} (h : -1000000000 ≤ n ∧ n ≤ 1000000000) : (sideL n p m).length ≤ 111 := by
  unfold sideL
  split
  · have := angL_len (n := -n) (by omega)
    simp only [List.length_append, List.length_singleton]; omega
  · have := angL_len (n := n) (by omega)
    simp only [List.length_append, List.length_singleton]; omega
theorem pside_c {n : Int} {p m : UInt8} (h : -1000000000 ≤ n ∧ n ≤ 1000000000) : ContIn Tryz.prog LaidC 83 [.int .i64 n, strV [p], strV [m]] (strV (sideL n p m)) := fun w hI => by
  unfold sideL
  by_cases hn : n < 0
  · rw [if_pos hn]
    have q1 := aText_c (n := -n) (by omega)
    have hl := angL_len (n := -n) (by omega)
    generalize angL (-n) = s at *
    refine enter0 Tryz.func83 rfl rfl rfl ?_
    repeat' (first
    | (show YK _ _ _ _ _ ⟨_, .call { callee := .builtin .len, args := _, argTypes := #[9] }, _, _, _, _⟩ _; refine YK.ofV (y_lenS (by rfl) StrTy.is) ?_)
    | (show VK _ _ _ _ _ ⟨_, .call { callee := .builtin .len, args := _, argTypes := #[9] }, _, _, _, _⟩ _; refine VK.mk (y_lenS (by rfl) StrTy.is) ?_)
    | (show YG _ _ _ _ _ _ ⟨_, .call { callee := .builtin .len, args := _, argTypes := #[9] }, _, _, _, _⟩ _; refine YG.mk (fun hb => by (try (have hc := And.left hb; have hb := And.right hb; rw [hc])); (try rw [hb]); exact V.y (y_lenS (by rfl) StrTy.is)) ?_)
    | (show VG _ _ _ _ _ _ ⟨_, .call { callee := .builtin .len, args := _, argTypes := #[9] }, _, _, _, _⟩ _; refine VG.mk (fun hb => by (try (have hc := And.left hb; have hb := And.right hb; rw [hc])); (try rw [hb]); exact y_lenS (by rfl) StrTy.is) ?_)
    | (show YK _ _ _ _ _ _ _; first | refine YK.mk (y_callIn (q1) (fun _ hw => hI.keep hw.ext) ⟨rfl, rfl⟩ (by decide +kernel)) ?_)
    | (show YK _ _ _ _ _ _ _; refine YK.ofV vAuto ?_)
    | (show VK _ _ _ _ _ _ _; refine VK.mk vAuto ?_)
    | (show RS _ _ _ _ _ _ _ _; first | (refine nxRS ?_) | (refine nxRS1 fun _ => ?_))
    | (show RM _ _ _ _ _ _ _ _ _ _; first | (refine nxRM ?_) | (refine nxRM1 fun _ => ?_))
    | (show YG _ _ _ _ _ _ _ _; refine YG.mk (fun hb => by (try (have hc := And.left hb; have hb := And.right hb; rw [hc])); (try rw [hb]); first | exact (y_callIn (q1) (fun _ hw => hI.keep hw.ext) ⟨rfl, rfl⟩ (by decide +kernel)) | exact V.y vAuto) ?_)
    | (show VG _ _ _ _ _ _ _ _; refine VG.mk (fun hb => by (try (have hc := And.left hb; have hb := And.right hb; rw [hc])); (try rw [hb]); exact vAuto) ?_)
    | (refine nxVS ?_)
    | (refine nxGS ?_)
    | (refine nxX ?_)
    | (refine G.condN rfl (fun hc => ?_) (fun hc => ?_) <;> (try first | exact False.elim hc | (exfalso; omega))))
    all_goals first | (exfalso; omega) | exact X.ret (vs := [_]) rfl ⟨rfl, rfl⟩ rfl (fun w hw => ⟨rfl, hw.ext⟩)
  · rw [if_neg hn]
    have q1 := aText_c (n := n) (by omega)
    have hl := angL_len (n := n) (by omega)
    generalize angL n = s at *
    refine enter0 Tryz.func83 rfl rfl rfl ?_
    repeat' (first
    | (show YK _ _ _ _ _ ⟨_, .call { callee := .builtin .len, args := _, argTypes := #[9] }, _, _, _, _⟩ _; refine YK.ofV (y_lenS (by rfl) StrTy.is) ?_)
    | (show VK _ _ _ _ _ ⟨_, .call { callee := .builtin .len, args := _, argTypes := #[9] }, _, _, _, _⟩ _; refine VK.mk (y_lenS (by rfl) StrTy.is) ?_)
    | (show YG _ _ _ _ _ _ ⟨_, .call { callee := .builtin .len, args := _, argTypes := #[9] }, _, _, _, _⟩ _; refine YG.mk (fun hb => by (try (have hc := And.left hb; have hb := And.right hb; rw [hc])); (try rw [hb]); exact V.y (y_lenS (by rfl) StrTy.is)) ?_)
    | (show VG _ _ _ _ _ _ ⟨_, .call { callee := .builtin .len, args := _, argTypes := #[9] }, _, _, _, _⟩ _; refine VG.mk (fun hb => by (try (have hc := And.left hb; have hb := And.right hb; rw [hc])); (try rw [hb]); exact y_lenS (by rfl) StrTy.is) ?_)
    | (show YK _ _ _ _ _ _ _; first | refine YK.mk (y_callIn (q1) (fun _ hw => hI.keep hw.ext) ⟨rfl, rfl⟩ (by decide +kernel)) ?_)
    | (show YK _ _ _ _ _ _ _; refine YK.ofV vAuto ?_)
    | (show VK _ _ _ _ _ _ _; refine VK.mk vAuto ?_)
    | (show RS _ _ _ _ _ _ _ _; first | (refine nxRS ?_) | (refine nxRS1 fun _ => ?_))
    | (show RM _ _ _ _ _ _ _ _ _ _; first | (refine nxRM ?_) | (refine nxRM1 fun _ => ?_))
    | (show YG _ _ _ _ _ _ _ _; refine YG.mk (fun hb => by (try (have hc := And.left hb; have hb := And.right hb; rw [hc])); (try rw [hb]); first | exact (y_callIn (q1) (fun _ hw => hI.keep hw.ext) ⟨rfl, rfl⟩ (by decide +kernel)) | exact V.y vAuto) ?_)
    | (show VG _ _ _ _ _ _ _ _; refine VG.mk (fun hb => by (try (have hc := And.left hb; have hb := And.right hb; rw [hc])); (try rw [hb]); exact vAuto) ?_)
    | (refine nxVS ?_)
    | (refine nxGS ?_)
    | (refine nxX ?_)
    | (refine G.condN rfl (fun hc => ?_) (fun hc => ?_) <;> (try first | exact False.elim hc | (exfalso; omega))))
    all_goals first | (exfalso; omega) | exact X.ret (vs := [_]) rfl ⟨rfl, rfl⟩ rfl (fun w hw => ⟨rfl, hw.ext⟩)
theorem rside_c {n : Int} {p m : UInt8} (h : -1000000000 ≤ n ∧ n ≤ 1000000000) : Cont Tryz.prog 86 [.int .i64 n, strV [p], strV [m]] (strV (sideL n p m)) := fun w => by
  unfold sideL
  by_cases hn : n < 0
  · rw [if_pos hn]
    have q1 := r5text_c (n := -n) (by omega)
    have hl := angL_len (n := -n) (by omega)
    generalize angL (-n) = s at *
    refine enter0 Tryz.func86 rfl rfl rfl ?_
    repeat' (first
    | (show YK _ _ _ _ _ ⟨_, .call { callee := .builtin .len, args := _, argTypes := #[9] }, _, _, _, _⟩ _; refine YK.ofV (y_lenS (by rfl) StrTy.is) ?_)
    | (show VK _ _ _ _ _ ⟨_, .call { callee := .builtin .len, args := _, argTypes := #[9] }, _, _, _, _⟩ _; refine VK.mk (y_lenS (by rfl) StrTy.is) ?_)
    | (show YG _ _ _ _ _ _ ⟨_, .call { callee := .builtin .len, args := _, argTypes := #[9] }, _, _, _, _⟩ _; refine YG.mk (fun hb => by (try (have hc := And.left hb; have hb := And.right hb; rw [hc])); (try rw [hb]); exact V.y (y_lenS (by rfl) StrTy.is)) ?_)
    | (show VG _ _ _ _ _ _ ⟨_, .call { callee := .builtin .len, args := _, argTypes := #[9] }, _, _, _, _⟩ _; refine VG.mk (fun hb => by (try (have hc := And.left hb; have hb := And.right hb; rw [hc])); (try rw [hb]); exact y_lenS (by rfl) StrTy.is) ?_)
    | (show YK _ _ _ _ _ _ _; first | refine YK.mk (y_callA (q1) ⟨rfl, rfl⟩) ?_)
    | (show YK _ _ _ _ _ _ _; refine YK.ofV vAuto ?_)
    | (show VK _ _ _ _ _ _ _; refine VK.mk vAuto ?_)
    | (show RS _ _ _ _ _ _ _ _; first | (refine nxRS ?_) | (refine nxRS1 fun _ => ?_))
    | (show RM _ _ _ _ _ _ _ _ _ _; first | (refine nxRM ?_) | (refine nxRM1 fun _ => ?_))
    | (show YG _ _ _ _ _ _ _ _; refine YG.mk (fun hb => by (try (have hc := And.left hb; have hb := And.right hb; rw [hc])); (try rw [hb]); first | exact (y_callA (q1) ⟨rfl, rfl⟩) | exact V.y vAuto) ?_)
    | (show VG _ _ _ _ _ _ _ _; refine VG.mk (fun hb => by (try (have hc := And.left hb; have hb := And.right hb; rw [hc])); (try rw [hb]); exact vAuto) ?_)
    | (refine nxVS ?_)
    | (refine nxGS ?_)
    | (refine nxX ?_)
    | (refine G.condN rfl (fun hc => ?_) (fun hc => ?_) <;> (try first | exact False.elim hc | (exfalso; omega))))
    all_goals first | (exfalso; omega) | exact X.ret (vs := [_]) rfl ⟨rfl, rfl⟩ rfl (fun w hw => ⟨rfl, hw.ext⟩)
  · rw [if_neg hn]
    have q1 := r5text_c (n := n) (by omega)
    have hl := angL_len (n := n) (by omega)
    generalize angL n = s at *
    refine enter0 Tryz.func86 rfl rfl rfl ?_
    repeat' (first
    | (show YK _ _ _ _ _ ⟨_, .call { callee := .builtin .len, args := _, argTypes := #[9] }, _, _, _, _⟩ _; refine YK.ofV (y_lenS (by rfl) StrTy.is) ?_)
    | (show VK _ _ _ _ _ ⟨_, .call { callee := .builtin .len, args := _, argTypes := #[9] }, _, _, _, _⟩ _; refine VK.mk (y_lenS (by rfl) StrTy.is) ?_)
    | (show YG _ _ _ _ _ _ ⟨_, .call { callee := .builtin .len, args := _, argTypes := #[9] }, _, _, _, _⟩ _; refine YG.mk (fun hb => by (try (have hc := And.left hb; have hb := And.right hb; rw [hc])); (try rw [hb]); exact V.y (y_lenS (by rfl) StrTy.is)) ?_)
    | (show VG _ _ _ _ _ _ ⟨_, .call { callee := .builtin .len, args := _, argTypes := #[9] }, _, _, _, _⟩ _; refine VG.mk (fun hb => by (try (have hc := And.left hb; have hb := And.right hb; rw [hc])); (try rw [hb]); exact y_lenS (by rfl) StrTy.is) ?_)
    | (show YK _ _ _ _ _ _ _; first | refine YK.mk (y_callA (q1) ⟨rfl, rfl⟩) ?_)
    | (show YK _ _ _ _ _ _ _; refine YK.ofV vAuto ?_)
    | (show VK _ _ _ _ _ _ _; refine VK.mk vAuto ?_)
    | (show RS _ _ _ _ _ _ _ _; first | (refine nxRS ?_) | (refine nxRS1 fun _ => ?_))
    | (show RM _ _ _ _ _ _ _ _ _ _; first | (refine nxRM ?_) | (refine nxRM1 fun _ => ?_))
    | (show YG _ _ _ _ _ _ _ _; refine YG.mk (fun hb => by (try (have hc := And.left hb; have hb := And.right hb; rw [hc])); (try rw [hb]); first | exact (y_callA (q1) ⟨rfl, rfl⟩) | exact V.y vAuto) ?_)
    | (show VG _ _ _ _ _ _ _ _; refine VG.mk (fun hb => by (try (have hc := And.left hb; have hb := And.right hb; rw [hc])); (try rw [hb]); exact vAuto) ?_)
    | (refine nxVS ?_)
    | (refine nxGS ?_)
    | (refine nxX ?_)
    | (refine G.condN rfl (fun hc => ?_) (fun hc => ?_) <;> (try first | exact False.elim hc | (exfalso; omega))))
    all_goals first | (exfalso; omega) | exact X.ret (vs := [_]) rfl ⟨rfl, rfl⟩ rfl (fun w hw => ⟨rfl, hw.ext⟩)
/-- A point's text. -/
def ptL (la lo : Int) : List UInt8 := sideL la 78 83 ++ [32] ++ sideL lo 69 87
theorem ptext_c {la lo : Int} (h : pointB la lo = true) : ContIn Tryz.prog LaidC 50 [ptV la lo] (.tuple [strV (ptL la lo), .int .i64 0].toArray) := fun w hI => by
  have q0 := vpoint_c la lo
  rw [h] at q0
  simp only [pointB, Bool.and_eq_true, decide_eq_true_eq] at h
  have q1 := pside_c (n := la) (p := 78) (m := 83) (by omega)
  have q2 := pside_c (n := lo) (p := 69) (m := 87) (by omega)
  have l1 := sideL_len (n := la) (p := 78) (m := 83) (by omega)
  have l2 := sideL_len (n := lo) (p := 69) (m := 87) (by omega)
  unfold ptL
  generalize sideL la 78 83 = s1 at *
  generalize sideL lo 69 87 = s2 at *
  refine enter0 Tryz.func50 rfl rfl rfl ?_
  repeat' (first
    | (show YK _ _ _ _ _ ⟨_, .call { callee := .builtin .len, args := _, argTypes := #[9] }, _, _, _, _⟩ _; refine YK.ofV (y_lenS (by rfl) StrTy.is) ?_)
    | (show VK _ _ _ _ _ ⟨_, .call { callee := .builtin .len, args := _, argTypes := #[9] }, _, _, _, _⟩ _; refine VK.mk (y_lenS (by rfl) StrTy.is) ?_)
    | (show YG _ _ _ _ _ _ ⟨_, .call { callee := .builtin .len, args := _, argTypes := #[9] }, _, _, _, _⟩ _; refine YG.mk (fun hb => by (try (have hc := And.left hb; have hb := And.right hb; rw [hc])); (try rw [hb]); exact V.y (y_lenS (by rfl) StrTy.is)) ?_)
    | (show VG _ _ _ _ _ _ ⟨_, .call { callee := .builtin .len, args := _, argTypes := #[9] }, _, _, _, _⟩ _; refine VG.mk (fun hb => by (try (have hc := And.left hb; have hb := And.right hb; rw [hc])); (try rw [hb]); exact y_lenS (by rfl) StrTy.is) ?_)
    | (refine nxN ?_)
    | (show YK _ _ _ _ _ _ _; first | refine YK.mk (y_callA (q0) ⟨rfl, rfl⟩) ?_ | refine YK.mk (y_callIn (q1) (fun _ hw => hI.keep hw.ext) ⟨rfl, rfl, rfl, rfl⟩ (by decide +kernel)) ?_ | refine YK.mk (y_callIn (q2) (fun _ hw => hI.keep hw.ext) ⟨rfl, rfl, rfl, rfl⟩ (by decide +kernel)) ?_)
    | (show YK _ _ _ _ _ _ _; refine YK.ofV vAuto ?_)
    | (show VK _ _ _ _ _ _ _; refine VK.mk vAuto ?_)
    | (show RS _ _ _ _ _ _ _ _; first | (refine nxRS ?_) | (refine nxRS1 fun _ => ?_))
    | (show RM _ _ _ _ _ _ _ _ _ _; first | (refine nxRM ?_) | (refine nxRM1 fun _ => ?_))
    | (show YG _ _ _ _ _ _ _ _; refine YG.mk (fun hb => by (try (have hc := And.left hb; have hb := And.right hb; rw [hc])); (try rw [hb]); first | exact (y_callA (q0) ⟨rfl, rfl⟩) | exact (y_callIn (q1) (fun _ hw => hI.keep hw.ext) ⟨rfl, rfl, rfl, rfl⟩ (by decide +kernel)) | exact (y_callIn (q2) (fun _ hw => hI.keep hw.ext) ⟨rfl, rfl, rfl, rfl⟩ (by decide +kernel)) | exact V.y vAuto) ?_)
    | (show VG _ _ _ _ _ _ _ _; refine VG.mk (fun hb => by (try (have hc := And.left hb; have hb := And.right hb; rw [hc])); (try rw [hb]); exact vAuto) ?_)
    | (refine nxVS ?_)
    | (refine nxGS ?_)
    | (refine G.mixedA 3 [.go 0, .go 1, .go 4, .go 5, .go 2, .go 3, .go 6, .go 7, .go 8, .go 9] ?_)
    | (refine nxX ?_)
    | (refine G.condN rfl (fun hc => ?_) (fun hc => ?_) <;> (try first | exact False.elim hc | (exfalso; omega))))
  exact X.ret (vs := [_, _]) rfl ⟨rfl, rfl, rfl⟩ rfl (fun w hw => ⟨rfl, hw.ext⟩)
theorem rptext_c {la lo : Int} (h : pointB la lo = true) : Cont Tryz.prog 52 [ptV la lo] (strV (ptL la lo)) := fun w => by
  simp only [pointB, Bool.and_eq_true, decide_eq_true_eq] at h
  have q1 := rside_c (n := la) (p := 78) (m := 83) (by omega)
  have q2 := rside_c (n := lo) (p := 69) (m := 87) (by omega)
  have l1 := sideL_len (n := la) (p := 78) (m := 83) (by omega)
  have l2 := sideL_len (n := lo) (p := 69) (m := 87) (by omega)
  unfold ptL
  generalize sideL la 78 83 = s1 at *
  generalize sideL lo 69 87 = s2 at *
  refine enter0 Tryz.func52 rfl rfl rfl ?_
  repeat' (first
    | (show YK _ _ _ _ _ ⟨_, .call { callee := .builtin .len, args := _, argTypes := #[9] }, _, _, _, _⟩ _; refine YK.ofV (y_lenS (by rfl) StrTy.is) ?_)
    | (show VK _ _ _ _ _ ⟨_, .call { callee := .builtin .len, args := _, argTypes := #[9] }, _, _, _, _⟩ _; refine VK.mk (y_lenS (by rfl) StrTy.is) ?_)
    | (show YG _ _ _ _ _ _ ⟨_, .call { callee := .builtin .len, args := _, argTypes := #[9] }, _, _, _, _⟩ _; refine YG.mk (fun hb => by (try (have hc := And.left hb; have hb := And.right hb; rw [hc])); (try rw [hb]); exact V.y (y_lenS (by rfl) StrTy.is)) ?_)
    | (show VG _ _ _ _ _ _ ⟨_, .call { callee := .builtin .len, args := _, argTypes := #[9] }, _, _, _, _⟩ _; refine VG.mk (fun hb => by (try (have hc := And.left hb; have hb := And.right hb; rw [hc])); (try rw [hb]); exact y_lenS (by rfl) StrTy.is) ?_)
    | (refine nxN ?_)
    | (show YK _ _ _ _ _ _ _; first | refine YK.mk (y_callA (q1) ⟨rfl, rfl, rfl, rfl⟩) ?_ | refine YK.mk (y_callA (q2) ⟨rfl, rfl, rfl, rfl⟩) ?_)
    | (show YK _ _ _ _ _ _ _; refine YK.ofV vAuto ?_)
    | (show VK _ _ _ _ _ _ _; refine VK.mk vAuto ?_)
    | (show RS _ _ _ _ _ _ _ _; first | (refine nxRS ?_) | (refine nxRS1 fun _ => ?_))
    | (show RM _ _ _ _ _ _ _ _ _ _; first | (refine nxRM ?_) | (refine nxRM1 fun _ => ?_))
    | (show YG _ _ _ _ _ _ _ _; refine YG.mk (fun hb => by (try (have hc := And.left hb; have hb := And.right hb; rw [hc])); (try rw [hb]); first | exact (y_callA (q1) ⟨rfl, rfl, rfl, rfl⟩) | exact (y_callA (q2) ⟨rfl, rfl, rfl, rfl⟩) | exact V.y vAuto) ?_)
    | (show VG _ _ _ _ _ _ _ _; refine VG.mk (fun hb => by (try (have hc := And.left hb; have hb := And.right hb; rw [hc])); (try rw [hb]); exact vAuto) ?_)
    | (refine nxVS ?_)
    | (refine nxGS ?_)
    | (refine G.mixedA 1 [.go 0, .go 1, .go 4, .go 5, .go 2, .go 3, .go 6, .go 7, .go 8] ?_)
    | (refine nxX ?_)
    | (refine G.condN rfl (fun hc => ?_) (fun hc => ?_) <;> (try first | exact False.elim hc | (exfalso; omega))))
  exact X.ret (vs := [_]) rfl ⟨rfl, rfl⟩ rfl (fun w hw => ⟨rfl, hw.ext⟩)
end Go.Proofs.YthilhhegchmjeaaGreatDoor
/- One pixel marked on a new sheet, and its text's rows. -/
set_option linter.unusedVariables false
set_option maxHeartbeats 8000000
namespace Go.Proofs.YthilhhegchmjeaaGreatDoor
open Go.RowKit
theorem tx_sel {m la lo u : Int} {wd b : Nat} {z : Sl} {rs : List Sl} {xt : Nat → List Value} {sel : Nat → Nat → Bool} {cs : Int} (hm : 11 ≤ m ∧ m ≤ 255) (hw : 11 ≤ wd ∧ wd ≤ 121) (hz : NewP wd (b, z, rs, xt)) : ContIn Tryz.prog (TxW b la lo u cs z (pR sel m rs.length 0 (newR wd rs)) wd) 15 [ptS b] (strV (lnsS ((pixL sel m wd (2 * ((wd - 1) / 4) + 1)).map toB))) := by
  have hl : rs.length = 2 * ((wd - 1) / 4) + 1 := hz.len
  have hs := pR_new sel m wd rs
  have q := text_c (b := b) (la := la) (lo := lo) (u := u) (cs := cs) (z := z) (rs := pR sel m rs.length 0 (newR wd rs)) (wd := wd) (fun r hr => by
    have hm' : r.2 ∈ pixL sel m wd rs.length := by rw [← hs]; exact List.mem_map.2 ⟨r, hr, rfl⟩
    exact pixL_mem hm' hm) (by rw [pR_len, List.length_map]; omega) (by omega)
  rw [hs] at q
  rw [← hl]
  exact q
theorem pix_rowsM {m : Int} {sel : Nat → Nat → Bool} {wd h : Nat} (hm : 11 ≤ m ∧ m ≤ 255) : ∀ s ∈ (pixL sel m wd h).map toB, s.length = wd ∧ (10 : UInt8) ∉ s := fun s hs => by
  obtain ⟨l, hl, rfl⟩ := List.mem_map.1 hs
  obtain ⟨h1, h2⟩ := pixL_mem hl hm
  refine ⟨by simp [toB, h1], fun hm => ?_⟩
  obtain ⟨i, hi⟩ := List.getElem?_of_mem hm
  have := toB_get h2 hi
  have := h2 _ (List.mem_of_getElem? this)
  simp at this
theorem rw_sel {m : Int} {sel : Nat → Nat → Bool} {wd : Nat} (hm : 11 ≤ m ∧ m ≤ 255) (hw : 11 ≤ wd ∧ wd ≤ 121) : ContXI Tryz.prog LaidM 14 [strV (lnsS ((pixL sel m wd (2 * ((wd - 1) / 4) + 1)).map toB)), .int .i64 (wd : Int)] (fun _ : Sl => True) (fun z => .tuple [z.v, .bool true].toArray) (fun z => [Hl.nw z.v cS 1 ((pixL sel m wd (2 * ((wd - 1) / 4) + 1)).map toB)]) :=
  rows_c (by omega) (pix_rowsM hm) (by simp [pixL])
/-- A mark on a new sheet: one pixel. -/
theorem mark_new {la lo u pla plo m : Int} {wd b i j : Nat} {z : Sl} {rs : List Sl} {xt : Nat → List Value} (hp : pointB la lo = true) (hla : -4800000 ≤ la ∧ la ≤ 4800000) (hu : 2 ≤ u ∧ u ≤ 100000) (hw : 11 ≤ wd ∧ wd ≤ 121) (hz : NewP wd (b, z, rs, xt)) (hm : 33 ≤ m ∧ m ≤ 126) (hq : pointB pla plo = true) (hx : pixI wd rs.length la lo u (TT.cosE la la).1 pla plo = ((i : Int), (j : Int), 0)) (hi : i < wd) (hj : j < rs.length) :
    ContL Tryz.prog (fun _ => True) (shB b la lo u (TT.cosE la la).1 z.v :: rwS z rs :: rowsH xt (newR wd rs)) 13 [ptS b, ptV pla plo, .int .u8 m] (fun _ : Unit => True) (fun _ => .int .i64 0) (fun _ => shB b la lo u (TT.cosE la la).1 z.v :: rwS z rs :: rowsH xt (pR (sel1 i j) m rs.length 0 (newR wd rs))) := by
  have hok := shok_new hp hla hu hw hz.len hz.ok
  have hrs : rs = rs.take j ++ rs[j] :: rs.drop (j + 1) := by rw [List.getElem_cons_drop, List.take_append_drop]
  have hA : (rs.take j).length = j := by rw [List.length_take]; omega
  simp only [pointB, Bool.and_eq_true, decide_eq_true_eq] at hq
  have q := mark_ok (b := b) (z := z) (xt := xt) (rs := newR wd rs) (A := newR wd (rs.take j)) (B := newR wd (rs.drop (j + 1))) (r := (rs[j], List.replicate wd 46)) (pla := pla) (plo := plo) (m := m) (i := i) (j := j) (by rw [newR_fst]; exact hok) hm (by omega) (by omega) (by rw [newR_fst]; exact hx)
    (by
      have := congrArg (newR wd) hrs
      rw [this]
      simp only [newR, List.map_append, List.map_cons]) (by rw [List.length_map]; exact hA) hi List.length_replicate (hz.ok _ (List.getElem_mem hj))
  rw [newR_fst, pR_one hrs hA] at q
  exact q
end Go.Proofs.YthilhhegchmjeaaGreatDoor
/- PlotPixels: what the reference calls wrapped. -/
set_option linter.unusedVariables false
set_option maxHeartbeats 8000000
namespace Go.Proofs.YthilhhegchmjeaaGreatDoor
open Go.RowKit
section
variable {P : Program} {n : Nat} {L : FL} {w0 : World} {H : List Hl} {d : Option Nat} {ty : TypeId} {pos : String} {af : Array Edge} {g : Option (Nat × Bool)} {x : Operand} {v : Value} {t : TypeId}
/-- Where a field lies that is one cell. -/
def fieldSc (P : Program) (t : TypeId) (f : Nat) : Option Nat :=
  match P.underlying t with
  | some (.struct fs) => match fs[f]? with
    | some fd => if scalarB P fd.type = true then some fd.offset else none
    | none => none
  | _ => none
/-- A field of a struct that lies in a slot: one cell. -/
theorem y_fieldS {vs : Array Value} {fl k : Nat} (hx : evO L x = some (.agg vs)) (hf : fieldSc P t fl = some k) (hv : vs[k]? = some v) : V P n L w0 H ⟨d, .field t x fl, ty, pos, af, g⟩ v := by
  unfold V
  intro a w ha _
  unfold fieldSc at hf
  split at hf
  · rename_i fs hu
    split at hf
    · rename_i fd hfd
      split at hf
      · rename_i hA
        simp only [Option.some.injEq] at hf
        subst hf
        simp [execOp, ha.eval hx, Instr.field, run_underlying hu, hfd, asAgg, part, run_isAgg_false hA, hv]
      · cases hf
    · cases hf
  · cases hf
end
theorem rfloor5_c {n d : Int} (h : (-4611686018427387904 ≤ n ∧ n ≤ 4611686018427387904) ∧ 0 < d) : Cont Tryz.prog 36 [.int .i64 n, .int .i64 d] (.int .i64 (n / d)) := fun w => by
  have e5 := ediv_in (k := 4611686018427387904) h.2 h.1.1 h.1.2
  refine enter0 Tryz.func36 rfl rfl rfl ?_
  repeat' (first
    | (refine nxV ?_)
    | (show RS _ _ _ _ _ _ _ _; first | (refine nxRS ?_) | (refine nxRS1 fun _ => ?_))
    | (show RM _ _ _ _ _ _ _ _ _ _; first | (refine nxRM ?_) | (refine nxRM1 fun _ => ?_))
    | (refine nxG ?_)
    | (refine nxX ?_)
    | (refine G.condN rfl (fun hc => ?_) (fun hc => ?_) <;> (try first | exact False.elim hc | (exfalso; omega))))
  · obtain ⟨g1, g2, g3⟩ := (floor_eq h.2).1 hc
    have g4 := Int.ediv_neg_of_neg_of_pos g3 h.2
    exact X.ret (vs := [_]) rfl ⟨rfl, rfl⟩ rfl (fun w hw => ⟨by rw [IntWalk.i64_in (n.tdiv d) (by omega), IntWalk.i64_in (n.tdiv d - 1) (by omega), g1], hw.ext⟩)
  · obtain ⟨g1, g2⟩ := (floor_eq h.2).2 hc
    exact X.ret (vs := [_]) rfl ⟨rfl, rfl⟩ rfl (fun w hw => ⟨by rw [IntWalk.i64_in (n.tdiv d) (by omega), g1], hw.ext⟩)
theorem east_c {la lo u wd i : Int} {v : Value} (hi : -1000 ≤ i ∧ i ≤ 1000) (hu : 2 ≤ u ∧ u ≤ 100000) (hw : 1 ≤ wd ∧ wd ≤ 1000) : Cont Tryz.prog 37 [rshV la lo u wd v, .int .i64 i] (.int .i64 ((i - (wd - 1) / 2) * u)) := fun w => by
  have hq : (wd - 1).tdiv 2 = (wd - 1) / 2 := Int.tdiv_eq_ediv_of_nonneg (by omega)
  have b1 := TT.abs_mul_le (A := 2000) (u := 100000) (a := i - (wd - 1) / 2) (t := u) (by omega) (by omega)
  refine enter0 Tryz.func37 rfl rfl rfl ?_
  repeat' (first
    | (refine nxN ?_)
    | (refine nxV ?_)
    | (show RS _ _ _ _ _ _ _ _; first | (refine nxRS ?_) | (refine nxRS1 fun _ => ?_))
    | (show RM _ _ _ _ _ _ _ _ _ _; first | (refine nxRM ?_) | (refine nxRM1 fun _ => ?_))
    | (refine nxG ?_)
    | (refine nxX ?_)
    | (refine G.condN rfl (fun hc => ?_) (fun hc => ?_) <;> (try first | exact False.elim hc | (exfalso; omega))))
  exact X.ret (vs := [_]) rfl ⟨rfl, rfl⟩ rfl (fun w hw => ⟨rfl, hw.ext⟩)
/-- The offset of a column, in the circle's units. -/
def offI (wd : Nat) (la u i : Int) : Int := (i - ((wd : Int) - 1) / 2) * u * 1073741824 / (TT.cosE la la).1
theorem wrapped_c {la lo u i : Int} {wd : Nat} (hp : pointB la lo = true) (hla : -4800000 ≤ la ∧ la ≤ 4800000) (hu : 2 ≤ u ∧ u ≤ 100000) (hw : 11 ≤ wd ∧ wd ≤ 121) (ho : wd % 2 = 1) (hi : 0 ≤ i ∧ i < wd) (hc : 1 ≤ (TT.cosE la la).1) :
    Cont Tryz.prog 12 [ptV la lo, .int .i64 u, .int .i64 (wd : Int), .int .i64 i] (.bool (decide (offI wd la u i < -10800000) || decide (offI wd la u i ≥ 10800000))) := fun w => by
  have q1 := rnew_ok hp hla hu hw ho
  have b1 := TT.abs_mul_le (A := 2000) (u := 100000) (a := i - ((wd : Int) - 1) / 2) (t := u) (by omega) (by omega)
  have q2 := fun v => east_c (la := la) (lo := lo) (u := u) (wd := (wd : Int)) (i := i) (v := v) (by omega) hu (by omega)
  have q3 := Cos6_c (lo := la) (hi := la) (by omega) (by omega)
  have q4 := rfloor5_c (n := (i - ((wd : Int) - 1) / 2) * u * 1073741824) (d := (TT.cosE la la).1) (by omega)
  have e4 := ediv_in (a := (i - ((wd : Int) - 1) / 2) * u * 1073741824) (b := (TT.cosE la la).1) (k := 4611686018427387904) (by omega) (by omega) (by omega)
  unfold offI
  generalize (i - ((wd : Int) - 1) / 2) * u = ea at *
  generalize TT.cosE la la = cc at *
  obtain ⟨c1, c2⟩ := cc
  dsimp only at q3 q4 e4 hc ⊢
  refine enter0 Tryz.func12 rfl rfl rfl ?_
  repeat' (first
    | (refine nxN ?_)
    | (show RS _ _ _ _ _ _ _ (⟨some 16, _, _, _, _, _⟩ :: _); refine RS.callX q1 ⟨rfl, rfl, rfl, rfl⟩ ?_; rintro y -; dsimp only [List.nil_append])
    | (show VK _ _ _ _ _ ⟨some 29, _, _, _, _, _⟩ _; refine VK.mk (y_fieldS (k := 0) (by rfl) (by kernel_rfl) (by rfl)) ?_)
    | (show YK _ _ _ _ _ _ _; first | refine YK.mk (y_callA ((q2 _)) ⟨rfl, rfl, rfl⟩) ?_ | refine YK.mk (y_callA (q3) ⟨rfl, rfl⟩) ?_ | refine YK.mk (y_callA (q4) ⟨rfl, rfl, rfl⟩) ?_)
    | (show YK _ _ _ _ _ _ _; refine YK.ofV vAuto ?_)
    | (show VK _ _ _ _ _ _ _; refine VK.mk vAuto ?_)
    | (show RS _ _ _ _ _ _ _ _; first | (refine nxRS ?_) | (refine nxRS1 fun _ => ?_))
    | (show RM _ _ _ _ _ _ _ _ _ _; first | (refine nxRM ?_) | (refine nxRM1 fun _ => ?_))
    | (show YG _ _ _ _ _ _ _ _; refine YG.mk (fun hb => by (try (have hc := And.left hb; have hb := And.right hb; rw [hc])); (try rw [hb]); first | exact (y_callA ((q2 _)) ⟨rfl, rfl, rfl⟩) | exact (y_callA (q3) ⟨rfl, rfl⟩) | exact (y_callA (q4) ⟨rfl, rfl, rfl⟩) | exact V.y vAuto) ?_)
    | (show VG _ _ _ _ _ _ _ _; refine VG.mk (fun hb => by (try (have hc := And.left hb; have hb := And.right hb; rw [hc])); (try rw [hb]); exact vAuto) ?_)
    | (refine G.mixedA 2 [.go 0, .go 1, .go 4, .go 5, .go 6, .go 7, .go 8, .go 2, .go 3, .go 9, .go 10, .go 11, .go 12] ?_)
    | (refine nxX ?_)
    | (refine G.condN rfl (fun hc => ?_) (fun hc => ?_) <;> (try first | exact False.elim hc | (exfalso; omega))))
  exact X.ret (vs := [_]) rfl ⟨rfl, rfl⟩ rfl (fun w hw => ⟨rfl, hw.ext⟩)
end Go.Proofs.YthilhhegchmjeaaGreatDoor
/- The reference's new sheet with its rows; its text. -/
set_option linter.unusedVariables false
set_option maxHeartbeats 8000000
namespace Go.Proofs.YthilhhegchmjeaaGreatDoor
open Go.RowKit
/-- The rows of a reference's sheet: slices of the call's own. -/
abbrev rowsR (rs : List (Sl × List Int)) : List Hl := rs.map fun r => Hl.rw r.1.v 5 cB 1 r.2
theorem rowsR_snoc {wd : Nat} {rs : List Sl} {y : Sl} : rowsR (newR wd (rs ++ [y])) = rowsR (newR wd rs) ++ [Hl.rw y.v 5 cB 1 (List.replicate wd 46)] := by
  unfold rowsR newR
  rw [List.map_append, List.map_append]; rfl
theorem perm_nw {y a b c : Hl} {R HR : List Hl} : (y :: a :: b :: c :: (R ++ HR)).Perm (a :: b :: c :: (R ++ [y] ++ HR)) := by
  classical
  refine List.perm_iff_count.2 fun c => ?_
  simp only [List.count_cons, List.count_append, List.count_nil]
  omega
theorem rnewA_ok {la lo u : Int} {wd : Nat} (hp : pointB la lo = true) (hla : -4800000 ≤ la ∧ la ≤ 4800000) (hu : 2 ≤ u ∧ u ≤ 100000) (hw : 11 ≤ wd ∧ wd ≤ 121) (ho : wd % 2 = 1) :
    ContL Tryz.prog (fun _ => True) [] 29 [ptV la lo, .int .i64 u, .int .i64 (wd : Int)] (fun z : Sl × List Sl => z.2.length = 2 * ((wd - 1) / 4) + 1) (fun z => .tuple [rshV la lo u wd z.1.v, .int .i64 0].toArray) (fun z => rwS z.1 z.2 :: rowsR (newR wd z.2)) := fun w0 HR w _ hs => by
  have q1 := rvpoint_c la lo
  rw [hp] at q1
  have hodd : (wd : Int).tmod 2 = 1 := by rw [Int.tmod_eq_emod_of_nonneg (by omega)]; omega
  have hq : ((wd : Int) - 1).tdiv 4 = ((wd : Int) - 1) / 4 := Int.tdiv_eq_ediv_of_nonneg (by omega)
  refine enterU Tryz.func29 rfl rfl rfl (H := HR) hs ?_
  repeat' (first
    | (refine nxN ?_)
    | (show YK _ _ _ _ _ ⟨some 49, .build _ _, _, _, _, _⟩ _; refine YK.ofV (y_build (parts := [(0, .tmp 46), (1, .tmp 47), (2, .tmp 48)]) (vs := [_, _, _]) ⟨rfl, rfl, rfl, rfl⟩ (built_rsh _ _ _ _)) ?_)
    | (show YK _ _ _ _ _ _ _; first | refine YK.mk (y_callA (q1) ⟨rfl, rfl⟩) ?_)
    | (show YK _ _ _ _ _ _ _; refine YK.ofV vAuto ?_)
    | (show VK _ _ _ _ _ _ _; refine VK.mk vAuto ?_)
    | (show RS _ _ _ _ _ _ _ _; first | (refine nxRS ?_) | (refine nxRS1 fun _ => ?_))
    | (show RM _ _ _ _ _ _ _ _ _ _; first | (refine nxRM ?_) | (refine nxRM1 fun _ => ?_))
    | (show YG _ _ _ _ _ _ _ _; refine YG.mk (fun hb => by (try (have hc := And.left hb; have hb := And.right hb; rw [hc])); (try rw [hb]); first | exact (y_callA (q1) ⟨rfl, rfl⟩) | exact V.y vAuto) ?_)
    | (show VG _ _ _ _ _ _ _ _; refine VG.mk (fun hb => by (try (have hc := And.left hb; have hb := And.right hb; rw [hc])); (try rw [hb]); exact vAuto) ?_)
    | (refine nxX ?_)
    | (refine G.condN rfl (fun hc => ?_) (fun hc => ?_) <;> (try first | exact False.elim hc | (exfalso; omega))))
  rename_i b6 _ b
  refine G.loop (ι := Sl × List Sl) (fun z => [(2, .int .i64 (wd : Int)), (6, ptS b6), (8, ptS b), (9, .int .i64 ((z.2.length : Nat) : Int))]) (fun z => rshB b la lo u wd z.1.v :: rwS z.1 z.2 :: Hl.blk b6 28 [.int .i64 0, .int .i64 0, .int .i64 0, .int .i64 0, .slice none 0 0] :: (rowsR (newR wd z.2) ++ HR)) (fun z => z.2.length ≤ 2 * ((wd - 1) / 4) + 1) (fun z => 2 * ((wd - 1) / 4) + 1 - z.2.length) (⟨none, 0, 0⟩, []) (Nat.zero_le _) ⟨rfl, rfl, rfl, rfl, trivial⟩ (fun w' h => by
    have h2 := (St.nilRow 85 cSl 1 h).perm (List.Perm.swap _ _ _)
    exact h2.sub (by repeat (first | exact List.Sublist.refl _ | apply List.Sublist.cons_cons | apply List.Sublist.cons))) ?_
  rintro ⟨z1, rs⟩ mx g1 hmx
  dsimp only at g1 hmx ⊢
  rcases Nat.lt_or_ge rs.length (2 * ((wd - 1) / 4) + 1) with hj | hj
  · repeat' (first
    | (refine nxN ?_)
    | (refine nxV ?_)
    | (show RS _ _ _ _ _ _ _ _; first | (refine nxRS ?_) | (refine nxRS1 fun _ => ?_))
    | (show RM _ _ _ _ _ _ _ _ _ _; first | (refine nxRM ?_) | (refine nxRM1 fun _ => ?_))
    | (refine nxG ?_)
    | (refine nxX ?_)
    | (refine G.condN rfl (fun hc => ?_) (fun hc => ?_) <;> (try first | exact False.elim hc | (exfalso; omega))))
    refine G.loop (ι := Sl × Nat) (fun z => [(2, .int .i64 (wd : Int)), (6, ptS b6), (8, ptS b), (9, .int .i64 ((rs.length : Nat) : Int)), (10, z.1.v), (11, .int .i64 ((z.2 : Nat) : Int))]) (fun z => Hl.rw z.1.v 5 cB 1 (List.replicate z.2 46) :: rshB b la lo u wd z1.v :: rwS z1 rs :: Hl.blk b6 28 [.int .i64 0, .int .i64 0, .int .i64 0, .int .i64 0, .slice none 0 0] :: (rowsR (newR wd rs) ++ HR)) (fun z => z.2 ≤ wd) (fun z => wd - z.2) (⟨none, 0, 0⟩, 0) (Nat.zero_le _) ⟨rfl, rfl, rfl, rfl, rfl, rfl, trivial⟩ (fun w' h => by
      have h2 := St.nilRow 5 cB 1 h
      exact h2.sub (by repeat (first | exact List.Sublist.refl _ | apply List.Sublist.cons_cons | apply List.Sublist.cons))) ?_
    rintro ⟨y, i⟩ mx2 k1 hmx2
    dsimp only at k1 hmx2 ⊢
    have hrl : (List.replicate i (46 : Int)).length = i := List.length_replicate
    rcases Nat.lt_or_ge i wd with hi | hi
    · repeat' (first
    | (refine nxN ?_)
    | (show RS _ _ _ _ _ _ _ (⟨some 65, .buildSlice _ _ _, _, _, _, _⟩ :: _); refine RS.litG (f := cB) (a := (46 : Int)) ?_ (by rfl) rfl rfl rfl; intro y1)
    | (show RS _ _ _ _ _ _ _ (⟨some 66, _, _, _, _, _⟩ :: _); refine RS.appendA (f := cB) (l := List.replicate i 46) (l' := [(46 : Int)]) ?_ (by rfl) (by rfl) (by intro v'; exact updA) (by exact rdA) (by exact fun _ => rfl) (by (rw [hrl]; simp only [List.length_singleton]; omega)) rfl; intro y2)
    | (refine nxV ?_)
    | (show RS _ _ _ _ _ _ _ _; first | (refine nxRS ?_) | (refine nxRS1 fun _ => ?_))
    | (show RM _ _ _ _ _ _ _ _ _ _; first | (refine nxRM ?_) | (refine nxRM1 fun _ => ?_))
    | (refine nxG ?_)
    | (refine nxX ?_)
    | (refine G.condN rfl (fun hc => ?_) (fun hc => ?_) <;> (try first | exact False.elim hc | (exfalso; omega))))
      refine X.again (y2, i + 1) (by dsimp only; omega) (by dsimp only; omega) ⟨rfl, rfl, rfl, rfl, rfl, rfl, trivial⟩ (fun w' h => ?_)
      dsimp only
      rw [List.replicate_succ']
      exact h.sub (by repeat (first | exact List.Sublist.refl _ | apply List.Sublist.cons_cons | apply List.Sublist.cons))
    · repeat' (first
    | (refine nxN ?_)
    | (show RS _ _ _ _ _ _ _ (⟨some 70, .buildSlice _ _ _, _, _, _, _⟩ :: _); refine RS.litG (f := cSl) (a := y) ?_ (by rfl) rfl rfl rfl; intro y1)
    | (show RS _ _ _ _ _ _ _ (⟨some 71, _, _, _, _, _⟩ :: _); refine RS.appendA (f := cSl) (l := rs) (l' := [y]) ?_ (by rfl) (by rfl) (by intro v'; exact updA) (by exact rdA) (by exact fun _ => rfl) (by (simp only [List.length_singleton]; omega)) rfl; intro y2)
    | (refine nxV ?_)
    | (show RS _ _ _ _ _ _ _ _; first | (refine nxRS ?_) | (refine nxRS1 fun _ => ?_))
    | (show RM _ _ _ _ _ _ _ _ _ _; first | (refine nxRM ?_) | (refine nxRM1 fun _ => ?_))
    | (refine nxG ?_)
    | (refine nxX ?_)
    | (refine G.condN rfl (fun hc => ?_) (fun hc => ?_) <;> (try first | exact False.elim hc | (exfalso; omega))))
      obtain rfl : i = wd := by omega
      refine X.again (y2, rs ++ [y]) (by simp only [List.length_append, List.length_singleton]; omega) (by simp only [List.length_append, List.length_singleton]; omega) ⟨rfl, rfl, rfl, congrArg (fun z => some (Value.int .i64 z)) (by simp only [List.length_append, List.length_singleton]; omega), trivial⟩ (fun w' h => ?_)
      dsimp only
      rw [rowsR_snoc]
      exact (St.sub h (List.Sublist.cons _ (List.Sublist.refl _))).perm perm_nw
  · repeat' (first
    | (refine nxN ?_)
    | (show YK _ _ _ _ _ ⟨some 73, _, _, _, _, _⟩ _; refine YK.ofV (y_loadRow (by rfl) (by exact memA) (by (repeat (first | exact .nil | apply LenIs.cons))) (by decide +kernel)) ?_)
    | (refine nxV ?_)
    | (show RS _ _ _ _ _ _ _ _; first | (refine nxRS ?_) | (refine nxRS1 fun _ => ?_))
    | (show RM _ _ _ _ _ _ _ _ _ _; first | (refine nxRM ?_) | (refine nxRM1 fun _ => ?_))
    | (refine nxG ?_)
    | (refine nxX ?_)
    | (refine G.condN rfl (fun hc => ?_) (fun hc => ?_) <;> (try first | exact False.elim hc | (exfalso; omega))))
    exact X.ret (vs := [_, _]) rfl ⟨⟨_, _, _, _, rfl, (by exact memA), (by (repeat (first | exact .nil | apply LenIs.cons))), by decide +kernel, rfl⟩, rfl, rfl⟩ rfl (fun w hw => ⟨(z1, rs), by dsimp only; omega, rfl, St.sub hw (by repeat (first | exact List.Sublist.refl _ | apply List.Sublist.cons_cons | apply List.Sublist.cons))⟩)
/-- A slice that is only read, known to the world at the start. -/
theorem St.addRo {α : Type} {w0 w : World} {H : List Hl} {v : Value} {s : Nat} {f : α → List Value} {l : List α} (h : St w0 H w) (ro : RO w0 v s l.length (l.flatMap f)) : St w0 (Hl.rd v f s l :: H) w := by
  have h0 : Hl.holds w0.heap.size w0 (Hl.rd v f s l) := ⟨ro, fun g => by cases g⟩
  refine ⟨h.ext, fun x hx => ?_, fun z hz b hb hzb => ⟨rfl, ?_⟩, h.apart⟩
  · rcases List.mem_cons.1 hx with rfl | hx
    · exact ⟨ro.stay h.ext, fun g => by cases g⟩
    · exact h.all x hx
  · cases hx : z.excl with
    | false => rfl
    | true =>
      have h1 := Hl.ge (h.all z hz) hx hzb
      have h2 := Hl.lt h0 hb
      omega
theorem G.addRo {P : Program} {α : Type} {Q : Exit → Act → World → Prop} {n : Nat} {L : FL} {w0 : World} {H : List Hl} {c : Code} {v : Value} {s : Nat} {f : α → List Value} {l : List α} (ro : RO w0 v s l.length (l.flatMap f)) (h : G P Q n L w0 (Hl.rd v f s l :: H) c) : G P Q n L w0 H c := by
  unfold G at *
  exact fun a w ha hw => h a w ha (hw.addRo ro)
theorem nth_at {α : Type} [Inhabited α] {l : List α} {i : Nat} (h : i < l.length) : nth l (i : Int) = l[i] := by
  unfold nth
  rw [Int.toNat_natCast, List.getD_eq_getElem?_getD, List.getElem?_eq_getElem h]; rfl
/-- A reference's sheet that can be read. -/
structure RsW (z : Sl) (rs : List (Sl × List Int)) (w : World) : Prop where
  hd : RO w z.v 1 (rs.map Prod.fst).length ((rs.map Prod.fst).flatMap cSl)
  rows : ∀ r ∈ rs, RO w r.1.v 1 r.2.length (r.2.flatMap cB)
theorem RsW.keep {z : Sl} {rs : List (Sl × List Int)} {w w' : World} (h : RsW z rs w) (hw : Below w.heap.size w w') : RsW z rs w' := ⟨h.hd.stay hw, fun r hr => (h.rows r hr).stay hw⟩
theorem lnsS_snoc (ls : List (List UInt8)) (x : List UInt8) : lnsS (ls ++ [x]) = lnsS ls ++ x ++ [10] := by
  unfold lnsS
  rw [List.flatMap_append]; simp
theorem rtext_c {la lo u wd' : Int} {wd : Nat} {z : Sl} {rs : List (Sl × List Int)} (hl : ∀ r ∈ rs, r.2.length = wd) (hw : 1 ≤ wd ∧ wd ≤ 1000) (hn : rs.length ≤ 1000) : ContIn Tryz.prog (RsW z rs) 22 [rshV la lo u wd' z.v] (strV (txtS (rs.map Prod.snd))) := fun w hs => by
  refine enter Tryz.func22 rfl rfl rfl (Hp := [Hl.rd z.v cSl 1 (rs.map Prod.fst)]) (fun h hm => by
    rcases List.mem_singleton.1 hm with rfl
    exact ⟨⟨hs.hd, fun h => by cases h⟩, rfl⟩) ?_
  repeat' (first
    | (show YK _ _ _ _ _ ⟨_, .call { callee := .builtin .len, args := _, argTypes := #[9] }, _, _, _, _⟩ _; refine YK.ofV (y_lenS (by rfl) StrTy.is) ?_)
    | (show VK _ _ _ _ _ ⟨_, .call { callee := .builtin .len, args := _, argTypes := #[9] }, _, _, _, _⟩ _; refine VK.mk (y_lenS (by rfl) StrTy.is) ?_)
    | (show YG _ _ _ _ _ _ ⟨_, .call { callee := .builtin .len, args := _, argTypes := #[9] }, _, _, _, _⟩ _; refine YG.mk (fun hb => by (try (have hc := And.left hb; have hb := And.right hb; rw [hc])); (try rw [hb]); exact V.y (y_lenS (by rfl) StrTy.is)) ?_)
    | (show VG _ _ _ _ _ _ ⟨_, .call { callee := .builtin .len, args := _, argTypes := #[9] }, _, _, _, _⟩ _; refine VG.mk (fun hb => by (try (have hc := And.left hb; have hb := And.right hb; rw [hc])); (try rw [hb]); exact y_lenS (by rfl) StrTy.is) ?_)
    | (refine nxN ?_)
    | (refine nxV ?_)
    | (show RS _ _ _ _ _ _ _ _; first | (refine nxRS ?_) | (refine nxRS1 fun _ => ?_))
    | (show RM _ _ _ _ _ _ _ _ _ _; first | (refine nxRM ?_) | (refine nxRM1 fun _ => ?_))
    | (refine nxG ?_)
    | (refine nxVS ?_)
    | (refine nxGS ?_)
    | (refine nxX ?_)
    | (refine G.condN rfl (fun hc => ?_) (fun hc => ?_) <;> (try first | exact False.elim hc | (exfalso; omega))))
  rename_i b1
  refine G.loop (ι := Nat) (fun i => [(1, .pointer (some ⟨b1, 0, none⟩)), (3, strV (txtS ((rs.take i).map Prod.snd))), (4, .int .i64 (i : Int))]) (fun _ => [Hl.blk b1 28 [.int .i64 la, .int .i64 lo, .int .i64 u, .int .i64 wd', z.v], Hl.rd z.v cSl 1 (rs.map Prod.fst)]) (fun i => i ≤ rs.length) (fun i => rs.length - i) 0 (Nat.zero_le _) ⟨rfl, rfl, rfl, trivial⟩ (by exact fun w h => h.sub (by repeat (first | exact List.Sublist.refl _ | apply List.Sublist.cons_cons | apply List.Sublist.cons))) ?_
  rintro i mx g1 hmx
  (try dsimp only at g1 hmx ⊢)
  have hml : (rs.map Prod.fst).length = rs.length := List.length_map _
  rcases Nat.lt_or_ge i rs.length with hi | hi
  · have hr := hs.rows rs[i] (List.getElem_mem hi)
    have hwl := hl rs[i] (List.getElem_mem hi)
    have hnth : nth (rs.map Prod.fst) (i : Int) = rs[i].1 := by rw [nth_at (by rw [hml]; exact hi), List.getElem_map]
    have e1 : txtS ((rs.take (i + 1)).map Prod.snd) = txtS ((rs.take i).map Prod.snd) ++ (rs[i].2.map fun n => UInt8.ofNat n.toNat) ++ [10] := by
      unfold txtS
      rw [List.take_add_one, List.getElem?_eq_getElem hi, List.map_append, List.map_append]
      exact lnsS_snoc _ _
    have hb1 : (txtS ((rs.take i).map Prod.snd)).length ≤ 1001000 := by
      unfold txtS
      rw [lnsS_len _ (k := wd) (fun x hx => by
        obtain ⟨y, hy, rfl⟩ := List.mem_map.1 hx
        obtain ⟨r, hr2, rfl⟩ := List.mem_map.1 hy
        have := hl r (List.mem_of_mem_take hr2)
        simp [toB]; omega)]
      have h1 : (((rs.take i).map Prod.snd).map toB).length ≤ 1000 := by simp; omega
      exact Nat.mul_le_mul h1 (show wd + 1 ≤ 1001 by omega)
    generalize txtS ((rs.take i).map Prod.snd) = T at *
    generalize rs[i] = r at *
    have hmpl : (r.2.map fun n => UInt8.ofNat n.toNat).length = wd := by rw [List.length_map, hwl]
    have hne : r.2 ≠ [] := fun h => by rw [h] at hwl; simp at hwl; omega
    refine G.addRo (f := cB) (l := r.2) hr ?_
    repeat' (first
    | (show YK _ _ _ _ _ ⟨_, .call { callee := .builtin .len, args := _, argTypes := #[9] }, _, _, _, _⟩ _; refine YK.ofV (y_lenS (by rfl) StrTy.is) ?_)
    | (show VK _ _ _ _ _ ⟨_, .call { callee := .builtin .len, args := _, argTypes := #[9] }, _, _, _, _⟩ _; refine VK.mk (y_lenS (by rfl) StrTy.is) ?_)
    | (show YG _ _ _ _ _ _ ⟨_, .call { callee := .builtin .len, args := _, argTypes := #[9] }, _, _, _, _⟩ _; refine YG.mk (fun hb => by (try (have hc := And.left hb; have hb := And.right hb; rw [hc])); (try rw [hb]); exact V.y (y_lenS (by rfl) StrTy.is)) ?_)
    | (show VG _ _ _ _ _ _ ⟨_, .call { callee := .builtin .len, args := _, argTypes := #[9] }, _, _, _, _⟩ _; refine VG.mk (fun hb => by (try (have hc := And.left hb; have hb := And.right hb; rw [hc])); (try rw [hb]); exact y_lenS (by rfl) StrTy.is) ?_)
    | (refine nxN ?_)
    | (show YK _ _ _ _ _ ⟨_, .load 85 _, _, _, _, _⟩ _; refine YK.ofV (v := r.1.v) (y_loadEl (inst := inferInstance) (v := z.v) (s := 1) (m := (i : Int)) (i := 0) (f := cSl) (l := rs.map Prod.fst) (by rfl) (by exact rdA) (fun _ => rfl) ⟨by omega, by omega⟩ (by rfl) (by rw [hnth]; rfl) (by decide +kernel)) ?_)
    | (show VK _ _ _ _ _ ⟨_, .load 85 _, _, _, _, _⟩ _; refine VK.mk (v := r.1.v) (y_loadEl (inst := inferInstance) (v := z.v) (s := 1) (m := (i : Int)) (i := 0) (f := cSl) (l := rs.map Prod.fst) (by rfl) (by exact rdA) (fun _ => rfl) ⟨by omega, by omega⟩ (by rfl) (by rw [hnth]; rfl) (by decide +kernel)) ?_)
    | (show VK _ _ _ _ _ ⟨some 18, .convert _ _ _, _, _, _, _⟩ _; refine VK.mk (y_strOf (e := 5) (ls := r.2) (by rfl) (by exact rdA) Tryz.underlying85 Tryz.underlying5 Tryz.underlying9 hne) ?_)
    | (show YK _ _ _ _ _ ⟨some 18, .convert _ _ _, _, _, _, _⟩ _; refine YK.ofV (y_strOf (e := 5) (ls := r.2) (by rfl) (by exact rdA) Tryz.underlying85 Tryz.underlying5 Tryz.underlying9 hne) ?_)
    | (refine nxV ?_)
    | (show RS _ _ _ _ _ _ _ _; first | (refine nxRS ?_) | (refine nxRS1 fun _ => ?_))
    | (show RM _ _ _ _ _ _ _ _ _ _; first | (refine nxRM ?_) | (refine nxRM1 fun _ => ?_))
    | (refine nxG ?_)
    | (refine nxVS ?_)
    | (refine nxGS ?_)
    | (refine nxX ?_)
    | (refine G.condN rfl (fun hc => ?_) (fun hc => ?_) <;> (try first | exact False.elim hc | (exfalso; omega))))
    refine X.again (i + 1) (by omega) (by omega) ⟨rfl, (by rw [e1]; rfl), rfl, trivial⟩ (by exact fun w h => h.sub (by repeat (first | exact List.Sublist.refl _ | apply List.Sublist.cons_cons | apply List.Sublist.cons)))
  · obtain rfl : i = rs.length := by omega
    rw [List.take_length]
    repeat' (first
    | (show YK _ _ _ _ _ ⟨_, .call { callee := .builtin .len, args := _, argTypes := #[9] }, _, _, _, _⟩ _; refine YK.ofV (y_lenS (by rfl) StrTy.is) ?_)
    | (show VK _ _ _ _ _ ⟨_, .call { callee := .builtin .len, args := _, argTypes := #[9] }, _, _, _, _⟩ _; refine VK.mk (y_lenS (by rfl) StrTy.is) ?_)
    | (show YG _ _ _ _ _ _ ⟨_, .call { callee := .builtin .len, args := _, argTypes := #[9] }, _, _, _, _⟩ _; refine YG.mk (fun hb => by (try (have hc := And.left hb; have hb := And.right hb; rw [hc])); (try rw [hb]); exact V.y (y_lenS (by rfl) StrTy.is)) ?_)
    | (show VG _ _ _ _ _ _ ⟨_, .call { callee := .builtin .len, args := _, argTypes := #[9] }, _, _, _, _⟩ _; refine VG.mk (fun hb => by (try (have hc := And.left hb; have hb := And.right hb; rw [hc])); (try rw [hb]); exact y_lenS (by rfl) StrTy.is) ?_)
    | (refine nxN ?_)
    | (refine nxV ?_)
    | (show RS _ _ _ _ _ _ _ _; first | (refine nxRS ?_) | (refine nxRS1 fun _ => ?_))
    | (show RM _ _ _ _ _ _ _ _ _ _; first | (refine nxRM ?_) | (refine nxRM1 fun _ => ?_))
    | (refine nxG ?_)
    | (refine nxVS ?_)
    | (refine nxGS ?_)
    | (refine nxX ?_)
    | (refine G.condN rfl (fun hc => ?_) (fun hc => ?_) <;> (try first | exact False.elim hc | (exfalso; omega))))
    all_goals first | (exfalso; omega) | exact X.ret (vs := [_]) rfl ⟨rfl, rfl⟩ rfl (fun w hw => ⟨rfl, hw.ext⟩)
end Go.Proofs.YthilhhegchmjeaaGreatDoor
/- law 49's made, with the reference's rows. -/
set_option linter.unusedVariables false
set_option maxHeartbeats 8000000
namespace Go.Proofs.YthilhhegchmjeaaGreatDoor
open Go.RowKit
theorem perm_m3a {a b c x y : Hl} {A C HR : List Hl} : (c :: (C ++ (x :: y :: a :: b :: (A ++ HR)))).Perm (x :: y :: a :: b :: c :: (A ++ (C ++ HR))) := by
  classical
  refine List.perm_iff_count.2 fun e => ?_
  simp only [List.count_cons, List.count_append]
  omega
theorem perm_m3b {a b c : Hl} {A C HR : List Hl} : (a :: b :: c :: (A ++ (C ++ HR))).Perm ((a :: b :: (A ++ (c :: C))) ++ HR) := by
  classical
  refine List.perm_iff_count.2 fun e => ?_
  simp only [List.count_cons, List.count_append, List.cons_append]
  omega
theorem madeA_ok {la lo u : Int} {wd : Nat} (hp : pointB la lo = true) (hla : -4800000 ≤ la ∧ la ≤ 4800000) (hu : 2 ≤ u ∧ u ≤ 100000) (hw : 11 ≤ wd ∧ wd ≤ 121) (ho : wd % 2 = 1) :
    ContL Tryz.prog (fun _ => True) [] 8 [ptV la lo, .int .i64 u, .int .i64 (wd : Int)] (fun z : (Nat × Sl × List Sl × (Nat → List Value)) × Sl × List Sl => NewP wd z.1 ∧ z.2.2.length = 2 * ((wd - 1) / 4) + 1) (fun z => .tuple [ptS z.1.1, rshV la lo u wd z.2.1.v, .bool true].toArray) (fun z => shB z.1.1 la lo u (TT.cosE la la).1 z.1.2.1.v :: rwS z.1.2.1 z.1.2.2.1 :: (rowsH z.1.2.2.2 (newR wd z.1.2.2.1) ++ (rwS z.2.1 z.2.2 :: rowsR (newR wd z.2.2)))) := fun w0 HR w _ hs => by
  have q1 := new_ok hp hla hu hw ho
  have q2 := rnewA_ok hp hla hu hw ho
  refine enterU Tryz.func8 rfl rfl rfl (H := HR) hs ?_
  repeat' (first
    | (refine nxN ?_)
    | (show RS _ _ _ _ _ _ _ (⟨some 17, _, _, _, _, _⟩ :: _); refine RS.callL q1 trivial ?_; rintro ⟨b, z, rs, xt⟩ hz; dsimp only [List.cons_append, List.nil_append]; refine RS.permH ?_ perm_n2)
    | (show RS _ _ _ _ _ _ _ (⟨some 24, _, _, _, _, _⟩ :: _); refine RS.callL q2 trivial ?_; rintro ⟨y, rs2⟩ hy; dsimp only [List.cons_append, List.nil_append]; refine RS.permH ?_ perm_m3a)
    | (show YG _ _ _ _ _ _ ⟨some 34, _, _, _, _, _⟩ _; refine YG.mk (fun hb => (y_eqNil1 rfl rfl sh_ptr).y) ?_)
    | (show VG _ _ _ _ _ _ ⟨some 34, _, _, _, _, _⟩ _; refine VG.mk (fun hb => y_eqNil1 rfl rfl sh_ptr) ?_)
    | (refine G.mixedM 3 [.go 0, .go 1, .go 2, .go 3, .go 4, .go 5, .go 6, .go 7, .go 8, .go 9, .go 10, .go 11, .go 12, .go 13, .go 14] [true, false, true, true] ?_; dsimp only [maskH])
    | (refine nxV ?_)
    | (show RS _ _ _ _ _ _ _ _; first | (refine nxRS ?_) | (refine nxRS1 fun _ => ?_))
    | (show RM _ _ _ _ _ _ _ _ _ _; first | (refine nxRM ?_) | (refine nxRM1 fun _ => ?_))
    | (refine nxG ?_)
    | (refine nxX ?_)
    | (refine G.condN rfl (fun hc => ?_) (fun hc => ?_) <;> (try first | exact False.elim hc | (exfalso; omega))))
  refine X.ret (vs := [_, _, _]) rfl ⟨rfl, ⟨_, _, _, _, rfl, (by exact memA), (by (repeat (first | exact .nil | apply LenIs.cons))), by decide +kernel, rfl⟩, rfl, rfl⟩ rfl (fun w hw => ⟨((b, z, rs, xt), y, rs2), ⟨hz, hy⟩, rfl, ?_⟩)
  have h2 := St.sub hw (List.Sublist.cons _ (List.Sublist.cons _ (List.Sublist.cons _ (List.Sublist.refl _))))
  exact h2.perm perm_m3b
end Go.Proofs.YthilhhegchmjeaaGreatDoor
/- The texts of a sheet's scales. -/
set_option linter.unusedVariables false
set_option maxHeartbeats 8000000
namespace Go.Proofs.YthilhhegchmjeaaGreatDoor
open Go.RowKit
section
variable {P : Program} {n : Nat} {L : FL} {w0 : World} {H HS : List Hl} {Q : Exit → Act → World → Prop} {ops : Array Oper} {ord : List Mv} {rest : List Oper} {d : Option Tmp} {ty : TypeId} {pos : String} {af : Array Edge} {g : Option (Nat × Bool)} {t e : TypeId} {x y z : Operand} {dd i bytes : Nat}
/-- Several cells of a block that was there when the call began. -/
theorem y_loadXP {b i k : Nat} {cs : List Value} (hx : evO L x = some (.pointer (some ⟨b, i, none⟩))) (hc : ∀ k v, cs[k]? = some v → w0.cell? ⟨b, k, none⟩ = some v) (hs : rowB P t k = true) (hk : Nat.ble (i + k) cs.length = true) :
    V P n L w0 H ⟨d, .load t x, ty, pos, af, g⟩ (.agg ((cs.drop i).take k).toArray) := by
  unfold V
  intro a w ha hw
  have hk' : i + k ≤ cs.length := Nat.le_of_ble_eq_true hk
  have hlen : ((cs.drop i).take k).length = k := by simp; omega
  have hl := run_loadCells_list (P := P) w ⟨b, i, none⟩ ((cs.drop i).take k) (fun j u hu => by
    have hj : j < k := by
      have := (List.getElem?_eq_some_iff.1 hu).1
      omega
    have e : (⟨b, i, none⟩ : Addr).add j = ⟨b, i + j, none⟩ := by unfold Addr.add; split <;> simp_all
    rw [e]
    have h0 := hc (i + j) u (by rw [← hu, List.getElem?_take_of_lt hj, List.getElem?_drop])
    exact (hw.ext.cell (World.block_lt_of_cell? w0 _ h0)).trans h0)
  rw [hlen] at hl
  simp [execOp, ha.eval hx, Instr.loadAt, Instr.sureAddr, loadVar, run_isAgg_true hs, run_sizeOf_of (info_of_rowB hs), hl]
theorem RM.lit2I {a b : Int} (h : ∀ v' : Sl, RM P ops Q HS n [] ((dd, v'.v) :: L) w0 (Hl.rw v'.v e cI 1 [a, b] :: H) ord) (ho : ops[i]? = some ⟨some dd, .buildSlice t 2 #[(0, x), (1, y)], ty, pos, af, none⟩) (hx : evO L x = some (.int .i64 a)) (hy : evO L y = some (.int .i64 b)) [ht : RowTy P t e 1 bytes] (hd : Nat.blt dd n = true)
    (hs : ∀ (v' : Sl) w, St w0 (Hl.rw v'.v e cI 1 [a, b] :: H) w → St w0 HS w) : RM P ops Q HS n [] L w0 H (.go i :: ord) :=
  RM.actX ho rfl rfl (x_lit (parts := [(0, x), (1, y)]) (vs := [.int .i64 a, .int .i64 b]) (f := cI) (l := [a, b]) ⟨hx, hy, rfl⟩ rfl rfl rfl rfl rfl rfl (rowTy_B ht.is) hd) (.inl hs) fun v' _ => h v'
theorem EX.len {α : Type} {f : α → List Value} {s : Nat} {l : List α} {o : Oper} {dd : Nat} (he : EX P n L w0 H o (fun _ : Sl => True) (fun v' => (dd, v'.v) :: L) (fun v' => Hl.rw v'.v e f s l :: H)) : EX P n L w0 H o (fun v' : Sl => v'.n = l.length) (fun v' => (dd, v'.v) :: L) (fun v' => Hl.rw v'.v e f s l :: H) := fun a w hfr hw K Q hK =>
  he a w hfr hw K Q fun a' w' ⟨v', _, hf, hs⟩ => hK a' w' ⟨v', by
    have h : w'.ownsRow w0.heap.size e s v'.v l.length (l.flatMap f) := hs.all _ List.mem_cons_self
    rcases h.2 with ⟨h', h0⟩ | ⟨g, cap, cur, h', _⟩
    · have : v'.n = 0 := by
        have h3 : Value.slice v'.a v'.n v'.c = .slice none 0 0 := h'
        simp only [Value.slice.injEq] at h3
        exact h3.2.1
      show v'.n = l.length
      rw [this, h0]
    · have h3 : Value.slice v'.a v'.n v'.c = .slice (some ⟨g, 0, none⟩) l.length cap := h'
      simp only [Value.slice.injEq] at h3
      exact h3.2.1, hf, hs⟩
theorem RM.lit2N {a b : Int} (h : ∀ v' : Sl, v'.n = 2 → RM P ops Q HS n [] ((dd, v'.v) :: L) w0 (Hl.rw v'.v e cI 1 [a, b] :: H) ord) (ho : ops[i]? = some ⟨some dd, .buildSlice t 2 #[(0, x), (1, y)], ty, pos, af, none⟩) (hx : evO L x = some (.int .i64 a)) (hy : evO L y = some (.int .i64 b)) [ht : RowTy P t e 1 bytes] (hd : Nat.blt dd n = true)
    (hs : ∀ (v' : Sl) w, St w0 (Hl.rw v'.v e cI 1 [a, b] :: H) w → St w0 HS w) : RM P ops Q HS n [] L w0 H (.go i :: ord) :=
  RM.actX ho rfl rfl (EX.len (x_lit (parts := [(0, x), (1, y)]) (vs := [.int .i64 a, .int .i64 b]) (f := cI) (l := [a, b]) ⟨hx, hy, rfl⟩ rfl rfl rfl rfl rfl rfl (rowTy_B ht.is) hd)) (.inl hs) fun v' hv => h v' hv
theorem RM.lit3S {a b c : List UInt8} (h : ∀ v' : Sl, RM P ops Q HS n [] ((dd, v'.v) :: L) w0 (Hl.rw v'.v e cS 1 [a, b, c] :: H) ord) (ho : ops[i]? = some ⟨some dd, .buildSlice t 3 #[(0, x), (1, y), (2, z)], ty, pos, af, none⟩) (hx : evO L x = some (strV a)) (hy : evO L y = some (strV b)) (hz : evO L z = some (strV c)) [ht : RowTy P t e 1 bytes] (hd : Nat.blt dd n = true)
    (hs : ∀ (v' : Sl) w, St w0 (Hl.rw v'.v e cS 1 [a, b, c] :: H) w → St w0 HS w) : RM P ops Q HS n [] L w0 H (.go i :: ord) :=
  RM.actX ho rfl rfl (x_lit (parts := [(0, x), (1, y), (2, z)]) (vs := [strV a, strV b, strV c]) (f := cS) (l := [a, b, c]) ⟨hx, hy, hz, rfl⟩ rfl rfl rfl rfl rfl rfl (rowTy_B ht.is) hd) (.inl hs) fun v' _ => h v'
end
/-- The three texts. -/
def scaL (la lo u : Int) : List (List UInt8) := [ptL la lo, angL u, angL (2 * u)]
theorem rscale_c {la lo u wd : Int} {v : Value} (hp : pointB la lo = true) (hu : 2 ≤ u ∧ u ≤ 100000) : ContX Tryz.prog [] 21 [rshV la lo u wd v] (fun _ : Sl => True) (fun z => z.v) (fun z => [Hl.nw z.v cS 1 (scaL la lo u)]) := fun w hw0 => by
  have q1 := rptext_c hp
  have q2 := r5text_c (n := u) (by omega)
  have q3 := r5text_c (n := 2 * u) (by omega)
  unfold scaL
  generalize ptL la lo = s1 at *
  generalize angL u = s2 at *
  generalize angL (2 * u) = s3 at *
  refine enter Tryz.func21 rfl rfl rfl hw0 ?_
  repeat' (first
    | (refine nxN ?_)
    | (show RM _ _ _ _ _ _ _ _ _ (.go 10 :: _); refine RM.lit3S (a := s1) (b := s2) (c := s3) ?_ rfl (by rfl) (by rfl) (by rfl) rfl (fun _ _ h => h.sub (by repeat (first | exact List.Sublist.refl _ | apply List.Sublist.cons_cons | apply List.Sublist.cons))); intro y1)
    | (show YK _ _ _ _ _ ⟨some 4, .load 23 _, _, _, _, _⟩ _; refine YK.ofV (y_loadPart (k := 2) (by rfl) (by exact memA) (by decide +kernel) (by rfl)) ?_)
    | (show VK _ _ _ _ _ ⟨some 4, .load 23 _, _, _, _, _⟩ _; refine VK.mk (y_loadPart (k := 2) (by rfl) (by exact memA) (by decide +kernel) (by rfl)) ?_)
    | (show YK _ _ _ _ _ _ _; first | refine YK.mk (y_callA (q1) ⟨rfl, rfl⟩) ?_ | refine YK.mk (y_callA (q2) ⟨rfl, rfl⟩) ?_ | refine YK.mk (y_callA (q3) ⟨rfl, rfl⟩) ?_)
    | (show YK _ _ _ _ _ _ _; refine YK.ofV vAuto ?_)
    | (show VK _ _ _ _ _ _ _; refine VK.mk vAuto ?_)
    | (show RS _ _ _ _ _ _ _ _; first | (refine nxRS ?_) | (refine nxRS1 fun _ => ?_))
    | (show RM _ _ _ _ _ _ _ _ _ _; first | (refine nxRM ?_) | (refine nxRM1 fun _ => ?_))
    | (show YG _ _ _ _ _ _ _ _; refine YG.mk (fun hb => by (try (have hc := And.left hb; have hb := And.right hb; rw [hc])); (try rw [hb]); first | exact (y_callA (q1) ⟨rfl, rfl⟩) | exact (y_callA (q2) ⟨rfl, rfl⟩) | exact (y_callA (q3) ⟨rfl, rfl⟩) | exact V.y vAuto) ?_)
    | (show VG _ _ _ _ _ _ _ _; refine VG.mk (fun hb => by (try (have hc := And.left hb; have hb := And.right hb; rw [hc])); (try rw [hb]); exact vAuto) ?_)
    | (refine G.mixedA 1 [.go 0, .go 1, .go 3, .go 4, .go 6, .go 7, .go 8, .go 2, .go 5, .go 9, .go 10, .go 11] ?_)
    | (refine nxX ?_)
    | (refine G.condN rfl (fun hc => ?_) (fun hc => ?_) <;> (try first | exact False.elim hc | (exfalso; omega))))
  exact X.retN (vs := [_]) y1 rfl ⟨rfl, rfl⟩ rfl trivial rfl (NewIn.rw (by exact memA) NewIn.nil)
theorem pscale_c {b : Nat} {la lo u cs : Int} {z : Sl} {rows : List Sl} {wd : Nat} (hp : pointB la lo = true) (hu : 2 ≤ u ∧ u ≤ 100000) : ContXI Tryz.prog (fun w => LaidC w ∧ ShR b la lo u cs z rows wd w) 20 [ptS b] (fun _ : Sl => True) (fun z => z.v) (fun z => [Hl.nw z.v cS 1 (scaL la lo u)]) := fun w hC => by
  obtain ⟨hI, hs⟩ := hC
  have hcl := hs.cell
  have q1 := ptext_c hp
  have q2 := aText_c (n := u) (by omega)
  have q3 := aText_c (n := 2 * u) (by omega)
  unfold scaL
  generalize ptL la lo = s1 at *
  generalize angL u = s2 at *
  generalize angL (2 * u) = s3 at *
  refine enter Tryz.func20 rfl rfl rfl (Hp := []) (fun h hm => by cases hm) ?_
  repeat' (first
    | (refine nxN ?_)
    | (show G _ _ _ _ _ _ (.loop _); refine G.loopN 3 (GR.step ?_))
    | (show X (Exit.then (Code.rounds _ _ _ _) _) _ _ _ _ .normal; refine X.round (GR.step ?_))
    | (show VK _ _ _ _ _ ⟨_, .load 3 _, _, _, _, _⟩ _; refine VK.mk (y_loadX (by rfl) (hcl _ _ (by rfl)) (by decide +kernel)) ?_)
    | (show YK _ _ _ _ _ ⟨_, .load 3 _, _, _, _, _⟩ _; refine YK.ofV (y_loadX (by rfl) (hcl _ _ (by rfl)) (by decide +kernel)) ?_)
    | (show VG _ _ _ _ _ _ ⟨_, .load 3 _, _, _, _, _⟩ _; refine VG.mk (fun hb => by (try (have hc := And.left hb; have hb := And.right hb; rw [hc])); (try rw [hb]); exact y_loadX (by rfl) (hcl _ _ (by rfl)) (by decide +kernel)) ?_)
    | (show YG _ _ _ _ _ _ ⟨_, .load 3 _, _, _, _, _⟩ _; refine YG.mk (fun hb => by (try (have hc := And.left hb; have hb := And.right hb; rw [hc])); (try rw [hb]); exact V.y (y_loadX (by rfl) (hcl _ _ (by rfl)) (by decide +kernel))) ?_)
    | (show YK _ _ _ _ _ ⟨_, .binOp .eql _ _ (.const (.pointer none)) _, _, _, _, _⟩ _; refine YK.ofV (y_eqNil1 rfl rfl sh_ptr) ?_)
    | (show YK _ _ _ _ _ ⟨some 16, .load _ _, _, _, _, _⟩ _; refine YK.ofV (y_loadXP (i := 0) (k := 2) (by rfl) hcl (by decide +kernel) (by rfl)) ?_)
    | (show RS _ _ _ _ _ _ _ (⟨some 24, .buildSlice _ _ _, _, _, _, _⟩ :: _); refine RS.litG (f := cS) (a := s1) ?_ (by rfl) rfl rfl rfl; intro y1)
    | (show RM _ _ _ _ _ _ _ _ _ (.go 9 :: _); refine RM.lit2N ?_ rfl (by rfl) (by rfl) rfl (fun _ _ h => h.sub (by repeat (first | exact List.Sublist.refl _ | apply List.Sublist.cons_cons | apply List.Sublist.cons))); intro y2 hy2)
    | (show VK _ _ _ _ _ ⟨_, .call { callee := .builtin .len, args := _, argTypes := #[95] }, _, _, _, _⟩ _; refine VK.mk (y_lenV (by rfl) (by decide +kernel)) ?_)
    | (show YK _ _ _ _ _ ⟨_, .call { callee := .builtin .len, args := _, argTypes := #[95] }, _, _, _, _⟩ _; refine YK.ofV (y_lenV (by rfl) (by decide +kernel)) ?_)
    | (show VG _ _ _ _ _ _ ⟨_, .call { callee := .builtin .len, args := _, argTypes := #[95] }, _, _, _, _⟩ _; refine VG.mk (fun hb => by (try (have hc := And.left hb; have hb := And.right hb; rw [hc])); (try rw [hb]); exact y_lenV (by rfl) (by decide +kernel)) ?_)
    | (show YG _ _ _ _ _ _ ⟨_, .call { callee := .builtin .len, args := _, argTypes := #[95] }, _, _, _, _⟩ _; refine YG.mk (fun hb => by (try (have hc := And.left hb; have hb := And.right hb; rw [hc])); (try rw [hb]); exact V.y (y_lenV (by rfl) (by decide +kernel))) ?_)
    | (show RS _ _ _ _ _ _ _ (⟨some 50, .buildSlice _ _ _, _, _, _, _⟩ :: _); first | (refine RS.litG (f := cS) (a := s2) ?_ (by rfl) rfl rfl rfl; intro y3) | (refine RS.litG (f := cS) (a := s3) ?_ (by rfl) rfl rfl rfl; intro y3))
    | (show YK _ _ _ _ _ _ _; first | refine YK.mk (y_callIn (q1) (fun _ hw => hI.keep hw.ext) ⟨rfl, rfl⟩ (by decide +kernel)) ?_ | refine YK.mk (y_callIn (q2) (fun _ hw => hI.keep hw.ext) ⟨rfl, rfl⟩ (by decide +kernel)) ?_ | refine YK.mk (y_callIn (q3) (fun _ hw => hI.keep hw.ext) ⟨rfl, rfl⟩ (by decide +kernel)) ?_)
    | (show YK _ _ _ _ _ _ _; refine YK.ofV vAuto ?_)
    | (show VK _ _ _ _ _ _ _; refine VK.mk vAuto ?_)
    | (show RS _ _ _ _ _ _ _ _; first | (refine nxRS ?_) | (refine nxRS1 fun _ => ?_))
    | (show RM _ _ _ _ _ _ _ _ _ _; first | (refine nxRM ?_) | (refine nxRM1 fun _ => ?_))
    | (show YG _ _ _ _ _ _ _ _; refine YG.mk (fun hb => by (try (have hc := And.left hb; have hb := And.right hb; rw [hc])); (try rw [hb]); first | exact (y_callIn (q1) (fun _ hw => hI.keep hw.ext) ⟨rfl, rfl⟩ (by decide +kernel)) | exact (y_callIn (q2) (fun _ hw => hI.keep hw.ext) ⟨rfl, rfl⟩ (by decide +kernel)) | exact (y_callIn (q3) (fun _ hw => hI.keep hw.ext) ⟨rfl, rfl⟩ (by decide +kernel)) | exact V.y vAuto) ?_)
    | (show VG _ _ _ _ _ _ _ _; refine VG.mk (fun hb => by (try (have hc := And.left hb; have hb := And.right hb; rw [hc])); (try rw [hb]); exact vAuto) ?_)
    | (refine G.mixedA 7 [.go 0, .go 1, .go 2, .go 3, .go 4, .go 5, .go 6, .go 7, .go 8, .go 11, .go 9, .go 10] ?_)
    | (refine nxX ?_)
    | (refine G.condN rfl (fun hc => ?_) (fun hc => ?_) <;> (try first | exact False.elim hc | (exfalso; omega))))
  all_goals first | (exfalso; omega) | exact X.retN (vs := [_]) _ rfl ⟨rfl, rfl⟩ rfl trivial rfl (NewIn.rw (f := cS) (s := 1) (l := [s1, s2, s3]) (by exact memA) NewIn.nil)
end Go.Proofs.YthilhhegchmjeaaGreatDoor
/- The reference's Pixel and Point. -/
set_option linter.unusedVariables false
set_option maxHeartbeats 8000000
namespace Go.Proofs.YthilhhegchmjeaaGreatDoor
open Go.RowKit
theorem rwrap5_c {n : Int} (h : -4611686018427387904 ≤ n ∧ n ≤ 4611686018427387904) : Cont Tryz.prog 82 [.int .i64 n] (.int .i64 (TT.turnI n)) := fun w => by
  have ht := tmod_turn n
  have hb : -21600000 < n.tmod 21600000 ∧ n.tmod 21600000 < 21600000 := by omega
  refine enter0 Tryz.func82 rfl rfl rfl ?_
  repeat' (first
    | (refine nxV ?_)
    | (show RS _ _ _ _ _ _ _ _; first | (refine nxRS ?_) | (refine nxRS1 fun _ => ?_))
    | (show RM _ _ _ _ _ _ _ _ _ _; first | (refine nxRM ?_) | (refine nxRM1 fun _ => ?_))
    | (refine nxG ?_)
    | (refine nxX ?_)
    | (refine G.condN rfl (fun hc => ?_) (fun hc => ?_) <;> (try first | exact False.elim hc | (exfalso; omega))))
  all_goals refine X.ret (vs := [_]) rfl ⟨rfl, rfl⟩ rfl (fun w hw => ⟨congrArg Ending.returned (congrArg (Value.int .i64) ?_), hw.ext⟩)
  all_goals (unfold TT.turnI; omega)
theorem rsigned5_c {n : Int} (h : -4611686018427387904 ≤ n ∧ n ≤ 4611686018427387904) : Cont Tryz.prog 47 [.int .i64 n] (.int .i64 (signI n)) := fun w => by
  have q1 := rwrap5_c h
  have hb := TT.turnI_bd n
  unfold signI
  generalize TT.turnI n = m at *
  by_cases hc : m ≥ 10800000
  · rw [if_pos hc]
    refine enter0 Tryz.func47 rfl rfl rfl ?_
    repeat' (first
    | (show YK _ _ _ _ _ _ _; first | refine YK.mk (y_callA (q1) ⟨rfl, rfl⟩) ?_)
    | (show YK _ _ _ _ _ _ _; refine YK.ofV vAuto ?_)
    | (show VK _ _ _ _ _ _ _; refine VK.mk vAuto ?_)
    | (show RS _ _ _ _ _ _ _ _; first | (refine nxRS ?_) | (refine nxRS1 fun _ => ?_))
    | (show RM _ _ _ _ _ _ _ _ _ _; first | (refine nxRM ?_) | (refine nxRM1 fun _ => ?_))
    | (show YG _ _ _ _ _ _ _ _; refine YG.mk (fun hb => by (try (have hc := And.left hb; have hb := And.right hb; rw [hc])); (try rw [hb]); first | exact (y_callA (q1) ⟨rfl, rfl⟩) | exact V.y vAuto) ?_)
    | (show VG _ _ _ _ _ _ _ _; refine VG.mk (fun hb => by (try (have hc := And.left hb; have hb := And.right hb; rw [hc])); (try rw [hb]); exact vAuto) ?_)
    | (refine nxX ?_)
    | (refine G.condN rfl (fun hc => ?_) (fun hc => ?_) <;> (try first | exact False.elim hc | (exfalso; omega))))
    all_goals first | (exfalso; omega) | exact X.ret (vs := [_]) rfl ⟨rfl, rfl⟩ rfl (fun w hw => ⟨rfl, hw.ext⟩)
  · rw [if_neg hc]
    refine enter0 Tryz.func47 rfl rfl rfl ?_
    repeat' (first
    | (show YK _ _ _ _ _ _ _; first | refine YK.mk (y_callA (q1) ⟨rfl, rfl⟩) ?_)
    | (show YK _ _ _ _ _ _ _; refine YK.ofV vAuto ?_)
    | (show VK _ _ _ _ _ _ _; refine VK.mk vAuto ?_)
    | (show RS _ _ _ _ _ _ _ _; first | (refine nxRS ?_) | (refine nxRS1 fun _ => ?_))
    | (show RM _ _ _ _ _ _ _ _ _ _; first | (refine nxRM ?_) | (refine nxRM1 fun _ => ?_))
    | (show YG _ _ _ _ _ _ _ _; refine YG.mk (fun hb => by (try (have hc := And.left hb; have hb := And.right hb; rw [hc])); (try rw [hb]); first | exact (y_callA (q1) ⟨rfl, rfl⟩) | exact V.y vAuto) ?_)
    | (show VG _ _ _ _ _ _ _ _; refine VG.mk (fun hb => by (try (have hc := And.left hb; have hb := And.right hb; rw [hc])); (try rw [hb]); exact vAuto) ?_)
    | (refine nxX ?_)
    | (refine G.condN rfl (fun hc => ?_) (fun hc => ?_) <;> (try first | exact False.elim hc | (exfalso; omega))))
    all_goals first | (exfalso; omega) | exact X.ret (vs := [_]) rfl ⟨rfl, rfl⟩ rfl (fun w hw => ⟨rfl, hw.ext⟩)
theorem rcosine_c {la lo u wd : Int} {v : Value} (h : -5400000 ≤ la ∧ la ≤ 5400000) : Cont Tryz.prog 48 [rshV la lo u wd v] (.int .i64 (TT.cosE la la).1) := fun w => by
  have q3 := Cos6_c (lo := la) (hi := la) (by omega) (by omega)
  generalize TT.cosE la la = cc at *
  obtain ⟨c1, c2⟩ := cc
  dsimp only at q3 ⊢
  refine enter0 Tryz.func48 rfl rfl rfl ?_
  repeat' (first
    | (refine nxN ?_)
    | (show VK _ _ _ _ _ ⟨some 11, _, _, _, _, _⟩ _; refine VK.mk (y_fieldS (k := 0) (by rfl) (by kernel_rfl) (by rfl)) ?_)
    | (show YK _ _ _ _ _ ⟨some 11, _, _, _, _, _⟩ _; refine YK.ofV (y_fieldS (k := 0) (by rfl) (by kernel_rfl) (by rfl)) ?_)
    | (show YK _ _ _ _ _ _ _; first | refine YK.mk (y_callA (q3) ⟨rfl, rfl⟩) ?_)
    | (show YK _ _ _ _ _ _ _; refine YK.ofV vAuto ?_)
    | (show VK _ _ _ _ _ _ _; refine VK.mk vAuto ?_)
    | (show RS _ _ _ _ _ _ _ _; first | (refine nxRS ?_) | (refine nxRS1 fun _ => ?_))
    | (show RM _ _ _ _ _ _ _ _ _ _; first | (refine nxRM ?_) | (refine nxRM1 fun _ => ?_))
    | (show YG _ _ _ _ _ _ _ _; refine YG.mk (fun hb => by (try (have hc := And.left hb; have hb := And.right hb; rw [hc])); (try rw [hb]); first | exact (y_callA (q3) ⟨rfl, rfl⟩) | exact V.y vAuto) ?_)
    | (show VG _ _ _ _ _ _ _ _; refine VG.mk (fun hb => by (try (have hc := And.left hb; have hb := And.right hb; rw [hc])); (try rw [hb]); exact vAuto) ?_)
    | (refine nxX ?_)
    | (refine G.condN rfl (fun hc => ?_) (fun hc => ?_) <;> (try first | exact False.elim hc | (exfalso; omega))))
  exact X.ret (vs := [_]) rfl ⟨rfl, rfl⟩ rfl (fun w hw => ⟨rfl, hw.ext⟩)
theorem north_c {la lo u wd j : Int} {v : Value} (hj : -1000 ≤ j ∧ j ≤ 1000) (hu : 2 ≤ u ∧ u ≤ 100000) (hw : 1 ≤ wd ∧ wd ≤ 1000) : Cont Tryz.prog 49 [rshV la lo u wd v, .int .i64 j] (.int .i64 (((wd - 1) / 4 - j) * 2 * u)) := fun w => by
  have b2 := TT.abs_mul_le (A := 4000) (u := 100000) (a := ((wd - 1) / 4 - j) * 2) (t := u) (by omega) (by omega)
  refine enter0 Tryz.func49 rfl rfl rfl ?_
  repeat' (first
    | (refine nxN ?_)
    | (refine nxV ?_)
    | (show RS _ _ _ _ _ _ _ _; first | (refine nxRS ?_) | (refine nxRS1 fun _ => ?_))
    | (show RM _ _ _ _ _ _ _ _ _ _; first | (refine nxRM ?_) | (refine nxRM1 fun _ => ?_))
    | (refine nxG ?_)
    | (refine nxX ?_)
    | (refine G.condN rfl (fun hc => ?_) (fun hc => ?_) <;> (try first | exact False.elim hc | (exfalso; omega))))
  exact X.ret (vs := [_]) rfl ⟨rfl, rfl⟩ rfl (fun w hw => ⟨rfl, hw.ext⟩)
theorem rpixel_c {la lo u pla plo : Int} {wd h : Nat} {z : Sl} (hla : -4800000 ≤ la ∧ la ≤ 4800000) (hlo : -10800000 ≤ lo ∧ lo < 10800000) (hu : 2 ≤ u ∧ u ≤ 100000) (hw : 11 ≤ wd ∧ wd ≤ 121) (hh : h = 2 * ((wd - 1) / 4) + 1) (hz : z.n = h) (h1 : -9223372036854775808 ≤ pla ∧ pla ≤ 9223372036854775807) (h2 : -9223372036854775808 ≤ plo ∧ plo ≤ 9223372036854775807) :
    Cont Tryz.prog 17 [rshV la lo u (wd : Int) z.v, ptV pla plo] (.tuple [.int .i64 (pixI wd h la lo u (TT.cosE la la).1 pla plo).1, .int .i64 (pixI wd h la lo u (TT.cosE la la).1 pla plo).2.1, .int .i64 (pixI wd h la lo u (TT.cosE la la).1 pla plo).2.2].toArray) := fun w => by
  have q0 := rvpoint_c pla plo
  have hcl := cos_lo hla
  unfold pixI
  cases hp : pointB pla plo with
  | false =>
    rw [if_neg (by decide)]
    rw [hp] at q0
    refine enter0 Tryz.func17 rfl rfl rfl ?_
    repeat' (first
    | (refine nxN ?_)
    | (show YK _ _ _ _ _ _ _; first | refine YK.mk (y_callA (q0) ⟨rfl, rfl⟩) ?_)
    | (show YK _ _ _ _ _ _ _; refine YK.ofV vAuto ?_)
    | (show VK _ _ _ _ _ _ _; refine VK.mk vAuto ?_)
    | (show RS _ _ _ _ _ _ _ _; first | (refine nxRS ?_) | (refine nxRS1 fun _ => ?_))
    | (show RM _ _ _ _ _ _ _ _ _ _; first | (refine nxRM ?_) | (refine nxRM1 fun _ => ?_))
    | (show YG _ _ _ _ _ _ _ _; refine YG.mk (fun hb => by (try (have hc := And.left hb; have hb := And.right hb; rw [hc])); (try rw [hb]); first | exact (y_callA (q0) ⟨rfl, rfl⟩) | exact V.y vAuto) ?_)
    | (show VG _ _ _ _ _ _ _ _; refine VG.mk (fun hb => by (try (have hc := And.left hb; have hb := And.right hb; rw [hc])); (try rw [hb]); exact vAuto) ?_)
    | (refine G.mixedA 4 [.go 0, .go 1, .go 2, .go 3, .go 4, .go 5, .go 6, .go 9, .go 10, .go 11, .go 13, .go 14, .go 15, .go 16, .go 7, .go 8, .go 12, .go 17, .go 18, .go 19] ?_)
    | (refine G.mixedA 5 [.go 0, .go 1, .go 2, .go 3, .go 4, .go 5, .go 6, .go 7, .go 8, .go 9, .go 10, .go 11, .go 12, .go 13, .go 14, .go 15, .go 16, .go 17, .go 18] ?_)
    | (refine nxX ?_)
    | (refine G.condN rfl (fun hc => ?_) (fun hc => ?_) <;> (try first | exact False.elim hc | (exfalso; omega))))
    all_goals first | (exfalso; simp at hc; done) | exact X.ret (vs := [_, _, _]) rfl ⟨rfl, rfl, rfl, rfl⟩ rfl (fun w hw => ⟨rfl, hw.ext⟩)
  | true =>
    rw [if_pos rfl]
    rw [hp] at q0
    simp only [pointB, Bool.and_eq_true, decide_eq_true_eq] at hp
    have q1 := rcosine_c (la := la) (lo := lo) (u := u) (wd := (wd : Int)) (v := z.v) (by omega)
    generalize (TT.cosE la la).1 = cs at *
    have q2 := rsigned5_c (n := plo - lo) (by omega)
    have hsg := signI_bd (plo - lo)
    have b1 := TT.abs_mul_le (A := 21600000) (u := 1073741824) (a := 2 * signI (plo - lo)) (t := cs) (by omega) (by omega)
    have q3 := rfloor5_c (n := 2 * signI (plo - lo) * cs + u * 1073741824) (d := 2 * u * 1073741824) (by omega)
    have q4 := rfloor5_c (n := pla - la + u) (d := 2 * u) (by omega)
    have e3 := ediv_in (a := 2 * signI (plo - lo) * cs + u * 1073741824) (b := 2 * u * 1073741824) (k := 4611686018427387904) (by omega) (by omega) (by omega)
    have e4 := ediv_in (a := pla - la + u) (b := 2 * u) (k := 4611686018427387904) (by omega) (by omega) (by omega)
    have ec : colI wd lo u cs plo = ((wd : Int) - 1) / 2 + (2 * signI (plo - lo) * cs + u * 1073741824) / (2 * u * 1073741824) := rfl
    have er : rowI h la u pla = ((wd : Int) - 1) / 4 - (pla - la + u) / (2 * u) := by
      unfold rowI
      rw [hh, show (((2 * ((wd - 1) / 4) + 1 : Nat) : Int) - 1) / 2 = ((wd : Int) - 1) / 4 by omega]
    rw [ec, er]
    generalize signI (plo - lo) = sg at *
    generalize (2 * sg * cs + u * 1073741824) / (2 * u * 1073741824) = d1 at *
    generalize (pla - la + u) / (2 * u) = d2 at *
    refine enter0 Tryz.func17 rfl rfl rfl ?_
    repeat' (first
    | (refine nxN ?_)
    | (show VK _ _ _ _ _ ⟨_, .call { callee := .builtin .len, args := _, argTypes := #[26] }, _, _, _, _⟩ _; refine VK.mk (y_lenV (by rfl) (by decide +kernel)) ?_)
    | (show YK _ _ _ _ _ ⟨_, .call { callee := .builtin .len, args := _, argTypes := #[26] }, _, _, _, _⟩ _; refine YK.ofV (y_lenV (by rfl) (by decide +kernel)) ?_)
    | (show VG _ _ _ _ _ _ ⟨_, .call { callee := .builtin .len, args := _, argTypes := #[26] }, _, _, _, _⟩ _; refine VG.mk (fun hb => by (try (have hc := And.left hb; have hb := And.right hb; rw [hc])); (try rw [hb]); exact y_lenV (by rfl) (by decide +kernel)) ?_)
    | (show YG _ _ _ _ _ _ ⟨_, .call { callee := .builtin .len, args := _, argTypes := #[26] }, _, _, _, _⟩ _; refine YG.mk (fun hb => by (try (have hc := And.left hb; have hb := And.right hb; rw [hc])); (try rw [hb]); exact V.y (y_lenV (by rfl) (by decide +kernel))) ?_)
    | (show YK _ _ _ _ _ _ _; first | refine YK.mk (y_callA (q0) ⟨rfl, rfl⟩) ?_ | refine YK.mk (y_callA (q1) ⟨rfl, rfl⟩) ?_ | refine YK.mk (y_callA (q2) ⟨rfl, rfl⟩) ?_ | refine YK.mk (y_callA (q3) ⟨rfl, rfl, rfl⟩) ?_ | refine YK.mk (y_callA (q4) ⟨rfl, rfl, rfl⟩) ?_)
    | (show YK _ _ _ _ _ _ _; refine YK.ofV vAuto ?_)
    | (show VK _ _ _ _ _ _ _; refine VK.mk vAuto ?_)
    | (show RS _ _ _ _ _ _ _ _; first | (refine nxRS ?_) | (refine nxRS1 fun _ => ?_))
    | (show RM _ _ _ _ _ _ _ _ _ _; first | (refine nxRM ?_) | (refine nxRM1 fun _ => ?_))
    | (show YG _ _ _ _ _ _ _ _; refine YG.mk (fun hb => by (try (have hc := And.left hb; have hb := And.right hb; rw [hc])); (try rw [hb]); first | exact (y_callA (q0) ⟨rfl, rfl⟩) | exact (y_callA (q1) ⟨rfl, rfl⟩) | exact (y_callA (q2) ⟨rfl, rfl⟩) | exact (y_callA (q3) ⟨rfl, rfl, rfl⟩) | exact (y_callA (q4) ⟨rfl, rfl, rfl⟩) | exact V.y vAuto) ?_)
    | (show VG _ _ _ _ _ _ _ _; refine VG.mk (fun hb => by (try (have hc := And.left hb; have hb := And.right hb; rw [hc])); (try rw [hb]); exact vAuto) ?_)
    | (refine G.mixedA 4 [.go 0, .go 1, .go 2, .go 3, .go 4, .go 5, .go 6, .go 9, .go 10, .go 11, .go 13, .go 14, .go 15, .go 16, .go 7, .go 8, .go 12, .go 17, .go 18, .go 19] ?_)
    | (refine G.mixedA 5 [.go 0, .go 1, .go 2, .go 3, .go 4, .go 5, .go 6, .go 7, .go 8, .go 9, .go 10, .go 11, .go 12, .go 13, .go 14, .go 15, .go 16, .go 17, .go 18] ?_)
    | (refine nxX ?_)
    | (refine G.condN rfl (fun hc => ?_) (fun hc => ?_) <;> (try first | exact False.elim hc | (exfalso; omega))))
    all_goals first | (exfalso; simp at hc; done) | skip
    · exact X.ret (vs := [_, _, _]) rfl ⟨rfl, rfl, rfl, rfl⟩ rfl (fun w hw => ⟨by rw [if_neg (by simp only [hasI, Bool.and_eq_true, decide_eq_true_eq]; omega)], hw.ext⟩)
    · exact X.ret (vs := [_, _, _]) rfl ⟨rfl, rfl, rfl, rfl⟩ rfl (fun w hw => ⟨by rw [if_pos (by simp only [hasI, Bool.and_eq_true, decide_eq_true_eq]; omega)], hw.ext⟩)
theorem rpoint_c {la lo u i j : Int} {wd h : Nat} {z : Sl} (hla : -4800000 ≤ la ∧ la ≤ 4800000) (hlo : -10800000 ≤ lo ∧ lo < 10800000) (hu : 2 ≤ u ∧ u ≤ 100000) (hw : 11 ≤ wd ∧ wd ≤ 121) (hh : h = 2 * ((wd - 1) / 4) + 1) (hz : z.n = h) (h1 : -9223372036854775808 ≤ i ∧ i ≤ 9223372036854775807) (h2 : -9223372036854775808 ≤ j ∧ j ≤ 9223372036854775807) :
    Cont Tryz.prog 18 [rshV la lo u (wd : Int) z.v, .int .i64 i, .int .i64 j] (.tuple [ptV (pntI wd h la lo u (TT.cosE la la).1 i j).1 (pntI wd h la lo u (TT.cosE la la).1 i j).2.1, .int .i64 (pntI wd h la lo u (TT.cosE la la).1 i j).2.2].toArray) := fun w => by
  have hcl := cos_lo hla
  unfold pntI
  cases hh1 : hasI wd h i j with
  | false =>
    rw [if_neg (by decide)]
    have hno : ¬ (0 ≤ j ∧ j < h ∧ 0 ≤ i ∧ i < wd) := fun g => by
      have : hasI wd h i j = true := by simp only [hasI, Bool.and_eq_true, decide_eq_true_eq]; omega
      rw [hh1] at this; cases this
    refine enter0 Tryz.func18 rfl rfl rfl ?_
    repeat' (first
    | (refine nxN ?_)
    | (show VK _ _ _ _ _ ⟨_, .call { callee := .builtin .len, args := _, argTypes := #[26] }, _, _, _, _⟩ _; refine VK.mk (y_lenV (by rfl) (by decide +kernel)) ?_)
    | (show YK _ _ _ _ _ ⟨_, .call { callee := .builtin .len, args := _, argTypes := #[26] }, _, _, _, _⟩ _; refine YK.ofV (y_lenV (by rfl) (by decide +kernel)) ?_)
    | (show VG _ _ _ _ _ _ ⟨_, .call { callee := .builtin .len, args := _, argTypes := #[26] }, _, _, _, _⟩ _; refine VG.mk (fun hb => by (try (have hc := And.left hb; have hb := And.right hb; rw [hc])); (try rw [hb]); exact y_lenV (by rfl) (by decide +kernel)) ?_)
    | (show YG _ _ _ _ _ _ ⟨_, .call { callee := .builtin .len, args := _, argTypes := #[26] }, _, _, _, _⟩ _; refine YG.mk (fun hb => by (try (have hc := And.left hb; have hb := And.right hb; rw [hc])); (try rw [hb]); exact V.y (y_lenV (by rfl) (by decide +kernel))) ?_)
    | (refine nxV ?_)
    | (show RS _ _ _ _ _ _ _ _; first | (refine nxRS ?_) | (refine nxRS1 fun _ => ?_))
    | (show RM _ _ _ _ _ _ _ _ _ _; first | (refine nxRM ?_) | (refine nxRM1 fun _ => ?_))
    | (refine nxG ?_)
    | (refine G.mixedA 3 [.go 0, .go 1, .go 2, .go 3, .go 4, .go 5, .go 6, .go 7] ?_)
    | (refine G.mixedA 6 [.go 0, .go 1, .go 4, .go 2, .go 3, .go 5, .go 6, .go 7] ?_)
    | (refine nxX ?_)
    | (refine G.condN rfl (fun hc => ?_) (fun hc => ?_) <;> (try first | exact False.elim hc | (exfalso; omega))))
    all_goals first | (exfalso; omega) | exact X.ret (vs := [_, _]) rfl ⟨⟨_, _, _, _, rfl, (by exact memA), (by (repeat (first | exact .nil | apply LenIs.cons))), by decide +kernel, rfl⟩, rfl, rfl⟩ rfl (fun w hw => ⟨rfl, hw.ext⟩)
  | true =>
    rw [if_pos rfl]
    simp only [hasI, Bool.and_eq_true, decide_eq_true_eq] at hh1
    have q1 := rcosine_c (la := la) (lo := lo) (u := u) (wd := (wd : Int)) (v := z.v) (by omega)
    have q2 := north_c (la := la) (lo := lo) (u := u) (wd := (wd : Int)) (v := z.v) (j := j) (by omega) hu (by omega)
    have q3 := east_c (la := la) (lo := lo) (u := u) (wd := (wd : Int)) (v := z.v) (i := i) (by omega) hu (by omega)
    have b1 := TT.abs_mul_le (A := 2000) (u := 100000) (a := i - ((wd : Int) - 1) / 2) (t := u) (by omega) (by omega)
    have b2 := TT.abs_mul_le (A := 4000) (u := 100000) (a := (((wd : Int) - 1) / 4 - j) * 2) (t := u) (by omega) (by omega)
    have el : latI h la u j = la + (((wd : Int) - 1) / 4 - j) * 2 * u := by
      unfold latI
      rw [hh, show (((2 * ((wd - 1) / 4) + 1 : Nat) : Int) - 1) / 2 = ((wd : Int) - 1) / 4 by omega]
    have eo : lonI wd lo u (TT.cosE la la).1 i = signI (lo + (i - ((wd : Int) - 1) / 2) * u * 1073741824 / (TT.cosE la la).1) := rfl
    have hsg := signI_bd (lo + (i - ((wd : Int) - 1) / 2) * u * 1073741824 / (TT.cosE la la).1)
    have hpb : pointB (la + (((wd : Int) - 1) / 4 - j) * 2 * u) (signI (lo + (i - ((wd : Int) - 1) / 2) * u * 1073741824 / (TT.cosE la la).1)) = true ↔ -5400000 ≤ la + (((wd : Int) - 1) / 4 - j) * 2 * u ∧ la + (((wd : Int) - 1) / 4 - j) * 2 * u ≤ 5400000 := by
      simp only [pointB, Bool.and_eq_true, decide_eq_true_eq]; omega
    rw [el, eo]
    generalize pointB (la + (((wd : Int) - 1) / 4 - j) * 2 * u) (signI (lo + (i - ((wd : Int) - 1) / 2) * u * 1073741824 / (TT.cosE la la).1)) = pb at *
    generalize (((wd : Int) - 1) / 4 - j) * 2 * u = nn at *
    generalize (i - ((wd : Int) - 1) / 2) * u = ea at *
    generalize (TT.cosE la la).1 = cs at *
    have q4 := rfloor5_c (n := ea * 1073741824) (d := cs) (by omega)
    have e4 := ediv_in (a := ea * 1073741824) (b := cs) (k := 4611686018427387904 / 2) (by omega) (by omega) (by omega)
    have q5 := rsigned5_c (n := lo + ea * 1073741824 / cs) (by omega)
    generalize ea * 1073741824 / cs = dd at *
    generalize signI (lo + dd) = sg at *
    refine enter0 Tryz.func18 rfl rfl rfl ?_
    repeat' (first
    | (refine nxN ?_)
    | (show VK _ _ _ _ _ ⟨_, .call { callee := .builtin .len, args := _, argTypes := #[26] }, _, _, _, _⟩ _; refine VK.mk (y_lenV (by rfl) (by decide +kernel)) ?_)
    | (show YK _ _ _ _ _ ⟨_, .call { callee := .builtin .len, args := _, argTypes := #[26] }, _, _, _, _⟩ _; refine YK.ofV (y_lenV (by rfl) (by decide +kernel)) ?_)
    | (show VG _ _ _ _ _ _ ⟨_, .call { callee := .builtin .len, args := _, argTypes := #[26] }, _, _, _, _⟩ _; refine VG.mk (fun hb => by (try (have hc := And.left hb; have hb := And.right hb; rw [hc])); (try rw [hb]); exact y_lenV (by rfl) (by decide +kernel)) ?_)
    | (show YG _ _ _ _ _ _ ⟨_, .call { callee := .builtin .len, args := _, argTypes := #[26] }, _, _, _, _⟩ _; refine YG.mk (fun hb => by (try (have hc := And.left hb; have hb := And.right hb; rw [hc])); (try rw [hb]); exact V.y (y_lenV (by rfl) (by decide +kernel))) ?_)
    | (show YK _ _ _ _ _ _ _; first | refine YK.mk (y_callA (q1) ⟨rfl, rfl⟩) ?_ | refine YK.mk (y_callA (q2) ⟨rfl, rfl, rfl⟩) ?_ | refine YK.mk (y_callA (q3) ⟨rfl, rfl, rfl⟩) ?_ | refine YK.mk (y_callA (q4) ⟨rfl, rfl, rfl⟩) ?_ | refine YK.mk (y_callA (q5) ⟨rfl, rfl⟩) ?_)
    | (show YK _ _ _ _ _ _ _; refine YK.ofV vAuto ?_)
    | (show VK _ _ _ _ _ _ _; refine VK.mk vAuto ?_)
    | (show RS _ _ _ _ _ _ _ _; first | (refine nxRS ?_) | (refine nxRS1 fun _ => ?_))
    | (show RM _ _ _ _ _ _ _ _ _ _; first | (refine nxRM ?_) | (refine nxRM1 fun _ => ?_))
    | (show YG _ _ _ _ _ _ _ _; refine YG.mk (fun hb => by (try (have hc := And.left hb; have hb := And.right hb; rw [hc])); (try rw [hb]); first | exact (y_callA (q1) ⟨rfl, rfl⟩) | exact (y_callA (q2) ⟨rfl, rfl, rfl⟩) | exact (y_callA (q3) ⟨rfl, rfl, rfl⟩) | exact (y_callA (q4) ⟨rfl, rfl, rfl⟩) | exact (y_callA (q5) ⟨rfl, rfl⟩) | exact V.y vAuto) ?_)
    | (show VG _ _ _ _ _ _ _ _; refine VG.mk (fun hb => by (try (have hc := And.left hb; have hb := And.right hb; rw [hc])); (try rw [hb]); exact vAuto) ?_)
    | (refine G.mixedA 3 [.go 0, .go 1, .go 2, .go 3, .go 4, .go 5, .go 6, .go 7] ?_)
    | (refine G.mixedA 6 [.go 0, .go 1, .go 4, .go 2, .go 3, .go 5, .go 6, .go 7] ?_)
    | (refine nxX ?_)
    | (refine G.condN rfl (fun hc => ?_) (fun hc => ?_) <;> (try first | exact False.elim hc | (exfalso; omega))))
    all_goals first | (exfalso; omega) | skip
    · exact X.ret (vs := [_, _]) rfl ⟨⟨_, _, _, _, rfl, (by exact memA), (by (repeat (first | exact .nil | apply LenIs.cons))), by decide +kernel, rfl⟩, rfl, rfl⟩ rfl (fun w hw => ⟨by rw [if_neg (by rw [hpb]; omega)], hw.ext⟩)
    · exact X.ret (vs := [_, _]) rfl ⟨⟨_, _, _, _, rfl, (by exact memA), (by (repeat (first | exact .nil | apply LenIs.cons))), by decide +kernel, rfl⟩, rfl, rfl⟩ rfl (fun w hw => ⟨by rw [if_pos (by rw [hpb]; omega)], hw.ext⟩)
end Go.Proofs.YthilhhegchmjeaaGreatDoor
/- PlotForms: the walk of the law. -/
set_option linter.unusedVariables false
set_option maxHeartbeats 8000000
namespace Go.Proofs.YthilhhegchmjeaaGreatDoor
open Go.RowKit
theorem eqS_c (v u : Value) (a : List (List UInt8)) (ha : a.length ≤ 1000000) : ContR Tryz.prog [Hl.rd v cS 1 a, Hl.rd u cS 1 a] 19 [v, u] (.bool true) := fun w hw0 => by
  refine enter Tryz.func19 rfl rfl rfl hw0 ?_
  repeat' (first
    | (show YK _ _ _ _ _ ⟨_, .call { callee := .builtin .len, args := _, argTypes := #[9] }, _, _, _, _⟩ _; refine YK.ofV (y_lenS (by rfl) StrTy.is) ?_)
    | (show VK _ _ _ _ _ ⟨_, .call { callee := .builtin .len, args := _, argTypes := #[9] }, _, _, _, _⟩ _; refine VK.mk (y_lenS (by rfl) StrTy.is) ?_)
    | (show YG _ _ _ _ _ _ ⟨_, .call { callee := .builtin .len, args := _, argTypes := #[9] }, _, _, _, _⟩ _; refine YG.mk (fun hb => by (try (have hc := And.left hb; have hb := And.right hb; rw [hc])); (try rw [hb]); exact V.y (y_lenS (by rfl) StrTy.is)) ?_)
    | (show VG _ _ _ _ _ _ ⟨_, .call { callee := .builtin .len, args := _, argTypes := #[9] }, _, _, _, _⟩ _; refine VG.mk (fun hb => by (try (have hc := And.left hb; have hb := And.right hb; rw [hc])); (try rw [hb]); exact y_lenS (by rfl) StrTy.is) ?_)
    | (refine nxN ?_)
    | (refine nxV ?_)
    | (show RS _ _ _ _ _ _ _ _; first | (refine nxRS ?_) | (refine nxRS1 fun _ => ?_))
    | (show RM _ _ _ _ _ _ _ _ _ _; first | (refine nxRM ?_) | (refine nxRM1 fun _ => ?_))
    | (refine nxG ?_)
    | (refine nxVS ?_)
    | (refine nxGS ?_)
    | (refine G.mixedA 6 [.go 0, .go 1, .go 2, .go 3, .go 4, .go 5, .go 6, .go 7, .go 8] ?_)
    | (refine nxX ?_)
    | (refine G.condN rfl (fun hc => ?_) (fun hc => ?_) <;> (try first | exact False.elim hc | (exfalso; omega))))
  all_goals first | (exfalso; omega) | skip
  refine G.loop (ι := Nat) (fun i => [(0, v), (1, u), (12, .int .i64 a.length), (13, .int .i64 (i : Int))]) (fun _ => [Hl.rd v cS 1 a, Hl.rd u cS 1 a]) (fun i => i ≤ a.length) (fun i => a.length - i) 0 (Nat.zero_le _) ⟨rfl, rfl, rfl, rfl, trivial⟩ (by exact fun w h => h.sub (by repeat (first | exact List.Sublist.refl _ | apply List.Sublist.cons_cons | apply List.Sublist.cons))) ?_
  rintro i mx g1 hmx
  (try dsimp only at g1 hmx ⊢)
  rcases Nat.lt_or_ge i a.length with hi | hi
  · repeat' (first
    | (show YK _ _ _ _ _ ⟨_, .call { callee := .builtin .len, args := _, argTypes := #[9] }, _, _, _, _⟩ _; refine YK.ofV (y_lenS (by rfl) StrTy.is) ?_)
    | (show VK _ _ _ _ _ ⟨_, .call { callee := .builtin .len, args := _, argTypes := #[9] }, _, _, _, _⟩ _; refine VK.mk (y_lenS (by rfl) StrTy.is) ?_)
    | (show YG _ _ _ _ _ _ ⟨_, .call { callee := .builtin .len, args := _, argTypes := #[9] }, _, _, _, _⟩ _; refine YG.mk (fun hb => by (try (have hc := And.left hb; have hb := And.right hb; rw [hc])); (try rw [hb]); exact V.y (y_lenS (by rfl) StrTy.is)) ?_)
    | (show VG _ _ _ _ _ _ ⟨_, .call { callee := .builtin .len, args := _, argTypes := #[9] }, _, _, _, _⟩ _; refine VG.mk (fun hb => by (try (have hc := And.left hb; have hb := And.right hb; rw [hc])); (try rw [hb]); exact y_lenS (by rfl) StrTy.is) ?_)
    | (refine nxN ?_)
    | (refine nxV ?_)
    | (show RS _ _ _ _ _ _ _ _; first | (refine nxRS ?_) | (refine nxRS1 fun _ => ?_))
    | (show RM _ _ _ _ _ _ _ _ _ _; first | (refine nxRM ?_) | (refine nxRM1 fun _ => ?_))
    | (refine nxG ?_)
    | (refine nxVS ?_)
    | (refine nxGS ?_)
    | (refine G.mixedA 6 [.go 0, .go 1, .go 2, .go 3, .go 4, .go 5, .go 6, .go 7, .go 8] ?_)
    | (refine nxX ?_)
    | (refine G.condN rfl (fun hc => ?_) (fun hc => ?_) <;> (try first | exact False.elim hc | (exfalso; omega))))
    all_goals first | (exfalso; simp at hc; done) | exact X.again (i + 1) (by omega) (by omega) ⟨rfl, rfl, rfl, rfl, trivial⟩ (by exact fun w h => h.sub (by repeat (first | exact List.Sublist.refl _ | apply List.Sublist.cons_cons | apply List.Sublist.cons)))
  · repeat' (first
    | (show YK _ _ _ _ _ ⟨_, .call { callee := .builtin .len, args := _, argTypes := #[9] }, _, _, _, _⟩ _; refine YK.ofV (y_lenS (by rfl) StrTy.is) ?_)
    | (show VK _ _ _ _ _ ⟨_, .call { callee := .builtin .len, args := _, argTypes := #[9] }, _, _, _, _⟩ _; refine VK.mk (y_lenS (by rfl) StrTy.is) ?_)
    | (show YG _ _ _ _ _ _ ⟨_, .call { callee := .builtin .len, args := _, argTypes := #[9] }, _, _, _, _⟩ _; refine YG.mk (fun hb => by (try (have hc := And.left hb; have hb := And.right hb; rw [hc])); (try rw [hb]); exact V.y (y_lenS (by rfl) StrTy.is)) ?_)
    | (show VG _ _ _ _ _ _ ⟨_, .call { callee := .builtin .len, args := _, argTypes := #[9] }, _, _, _, _⟩ _; refine VG.mk (fun hb => by (try (have hc := And.left hb; have hb := And.right hb; rw [hc])); (try rw [hb]); exact y_lenS (by rfl) StrTy.is) ?_)
    | (refine nxN ?_)
    | (refine nxV ?_)
    | (show RS _ _ _ _ _ _ _ _; first | (refine nxRS ?_) | (refine nxRS1 fun _ => ?_))
    | (show RM _ _ _ _ _ _ _ _ _ _; first | (refine nxRM ?_) | (refine nxRM1 fun _ => ?_))
    | (refine nxG ?_)
    | (refine nxVS ?_)
    | (refine nxGS ?_)
    | (refine G.mixedA 6 [.go 0, .go 1, .go 2, .go 3, .go 4, .go 5, .go 6, .go 7, .go 8] ?_)
    | (refine nxX ?_)
    | (refine G.condN rfl (fun hc => ?_) (fun hc => ?_) <;> (try first | exact False.elim hc | (exfalso; omega))))
    all_goals first | (exfalso; omega) | exact X.ret (vs := [_]) rfl ⟨rfl, rfl⟩ rfl (fun w hw => ⟨rfl, hw.ext⟩)
theorem RS.fact {P : Program} {ops : Array Oper} {Q : Exit → Act → World → Prop} {n : Nat} {L : FL} {w0 : World} {H : List Hl} {rest : List Oper} {p : Prop} (hp : ∀ w, St w0 H w → p) (h : p → RS P ops Q n L w0 H rest) : RS P ops Q n L w0 H rest := by
  unfold RS at *
  exact fun a w ha hw => h (hp w hw) a w ha hw
theorem rw_len {α : Type} {f : α → List Value} {w0 w : World} {H : List Hl} {y : Sl} {e : TypeId} {s : Nat} {l : List α} (hm : Hl.rw y.v e f s l ∈ H) (hw : St w0 H w) : y.n = l.length := by
  have h : w.ownsRow w0.heap.size e s y.v l.length (l.flatMap f) := hw.all _ hm
  rcases h.2 with ⟨h', h0⟩ | ⟨g, cap, cur, h', _⟩
  · have h3 : Value.slice y.a y.n y.c = .slice none 0 0 := h'
    simp only [Value.slice.injEq] at h3
    rw [h3.2.1, h0]
  · have h3 : Value.slice y.a y.n y.c = .slice (some ⟨g, 0, none⟩) l.length cap := h'
    simp only [Value.slice.injEq] at h3
    exact h3.2.1
theorem RsW.ofSt {w0 w : World} {H : List Hl} {y : Sl} {rs : List (Sl × List Int)} (hw : St w0 H w) (h1 : rwS y (rs.map Prod.fst) ∈ H) (h2 : ∀ h ∈ rowsR rs, h ∈ H) : RsW y rs w :=
  ⟨RO.of_row (hw.all _ h1), fun r hr => RO.of_row (hw.all _ (h2 _ (List.mem_map.2 ⟨r, hr, rfl⟩)))⟩
theorem fo_ref {la lo u wd pla plo i j e : Int} (he : newE la lo u wd = e) (h0 : e = 1 ∨ e = 2) : Cont Tryz.prog 4 [ptV la lo, .int .i64 u, .int .i64 wd, ptV pla plo, .int .i64 i, .int .i64 j] (.bool true) := fun w => by
  have q1 := made_no he h0
  refine enter0 Tryz.func4 rfl rfl rfl ?_
  repeat' (first
    | (refine nxN ?_)
    | (show YK _ _ _ _ _ ⟨some 40, _, _, _, _, _⟩ _; refine YK.ofV (y_eqNil0 rfl rfl sh_ptr) ?_)
    | (show YG _ _ _ _ _ _ ⟨some 40, _, _, _, _, _⟩ _; refine YG.mk (fun hb => (y_eqNil0 rfl rfl sh_ptr).y) ?_)
    | (show VG _ _ _ _ _ _ ⟨some 40, _, _, _, _, _⟩ _; refine VG.mk (fun hb => y_eqNil0 rfl rfl sh_ptr) ?_)
    | (show YK _ _ _ _ _ _ _; first | refine YK.mk (y_callA (awake49_c) rfl) ?_ | refine YK.mk (y_callA (q1) ⟨rfl, rfl, rfl, rfl⟩) ?_)
    | (show YK _ _ _ _ _ _ _; refine YK.ofV vAuto ?_)
    | (show VK _ _ _ _ _ _ _; refine VK.mk vAuto ?_)
    | (show RS _ _ _ _ _ _ _ _; first | (refine nxRS ?_) | (refine nxRS1 fun _ => ?_))
    | (show RM _ _ _ _ _ _ _ _ _ _; first | (refine nxRM ?_) | (refine nxRM1 fun _ => ?_))
    | (show YG _ _ _ _ _ _ _ _; refine YG.mk (fun hb => by (try (have hc := And.left hb; have hb := And.right hb; rw [hc])); (try rw [hb]); first | exact (y_callA (awake49_c) rfl) | exact (y_callA (q1) ⟨rfl, rfl, rfl, rfl⟩) | exact V.y vAuto) ?_)
    | (show VG _ _ _ _ _ _ _ _; refine VG.mk (fun hb => by (try (have hc := And.left hb; have hb := And.right hb; rw [hc])); (try rw [hb]); exact vAuto) ?_)
    | (refine G.mixedA 10 [.go 0, .go 1, .go 2, .go 3, .go 4, .go 5, .go 6, .go 7, .go 8, .go 9, .go 10, .go 11, .go 12, .go 13, .go 14, .go 15, .go 16, .go 17, .go 18, .go 19, .go 20, .go 21, .go 22, .go 23, .go 24, .go 26, .go 25, .go 27, .go 28, .go 29, .go 30, .go 31, .go 33, .go 32, .go 34, .go 35, .go 36, .go 37] ?_)
    | (refine nxX ?_)
    | (refine G.condN rfl (fun hc => ?_) (fun hc => ?_) <;> (try first | exact False.elim hc | (exfalso; omega))))
  all_goals first | (exfalso; omega) | exact X.ret (vs := [_]) rfl ⟨rfl, rfl⟩ rfl (fun w hw => ⟨rfl, hw.ext⟩)
/-- A new sheet's text. -/
theorem tx_newF {la lo u cs : Int} {wd b : Nat} {z : Sl} {rs : List Sl} {xt : Nat → List Value} (hw : 11 ≤ wd ∧ wd ≤ 121) (hz : NewP wd (b, z, rs, xt)) : ContIn Tryz.prog (TxW b la lo u cs z (newR wd rs) wd) 15 [ptS b] (strV (txtS (List.replicate (2 * ((wd - 1) / 4) + 1) (List.replicate wd 46)))) := by
  have hl : rs.length = 2 * ((wd - 1) / 4) + 1 := hz.len
  have e : (newR wd rs).map Prod.snd = List.replicate (2 * ((wd - 1) / 4) + 1) (List.replicate wd 46) := by
    rw [← hl]
    unfold newR
    rw [List.map_map]
    exact List.map_const' ..
  have q := text_c (b := b) (la := la) (lo := lo) (u := u) (cs := cs) (z := z) (rs := newR wd rs) (wd := wd) (fun r hr => by
    obtain ⟨s, _, rfl⟩ := List.mem_map.1 hr
    refine ⟨List.length_replicate, fun n hn => ?_⟩
    obtain rfl := List.eq_of_mem_replicate hn
    omega) (by rw [List.length_map]; omega) (by omega)
  rw [e] at q
  exact q
theorem RM.callTI {C : World → Prop} {P : Program} {ops : Array Oper} {Q : Exit → Act → World → Prop} {HS : List Hl} {n : Nat} {L : FL} {w0 : World} {H : List Hl} {ord : List Mv} {i j : Nat} {g dd : Tmp} {ι : Type} {f : FuncId} {xs : List Operand} {vs : List Value} {tys : Array TypeId} {ty : TypeId} {pos : String} {af : Array Edge} {post : ι → Prop} {v : ι → Value} {Hn : ι → List Hl} (ho : ops[i]? = some ⟨some dd, .call { callee := .value (.func f), args := xs.toArray, argTypes := tys }, ty, pos, af, some (j, true)⟩) (hj : (ops[j]?).bind (·.dst) = some g) (hg : lk L g = some (.bool true)) (hc : ContXI P C f vs post v Hn) (ha : AE L xs vs) (hC : ∀ w, St w0 H w → C w) (hs : List.Sublist HS H) (h : ∀ z, post z → RM P ops Q HS n [] ((dd, v z) :: L) w0 (Hn z ++ H) ord) (hi : isGo P f = true := by decide +kernel) (hd : Nat.blt dd n = true := by rfl) : RM P ops Q HS n [] L w0 H (.go i :: ord) :=
  RM.actXT ho rfl hj hg rfl (x_callI hc ha hC hi hd) (.inl fun x w hw => hw.sub (hs.trans (List.sublist_append_right _ _))) h
theorem RM.callTX {Hp : List Hl} {P : Program} {ops : Array Oper} {Q : Exit → Act → World → Prop} {HS : List Hl} {n : Nat} {L : FL} {w0 : World} {H : List Hl} {ord : List Mv} {i j : Nat} {g dd : Tmp} {ι : Type} {f : FuncId} {xs : List Operand} {vs : List Value} {tys : Array TypeId} {ty : TypeId} {pos : String} {af : Array Edge} {post : ι → Prop} {v : ι → Value} {Hn : ι → List Hl} (ho : ops[i]? = some ⟨some dd, .call { callee := .value (.func f), args := xs.toArray, argTypes := tys }, ty, pos, af, some (j, true)⟩) (hj : (ops[j]?).bind (·.dst) = some g) (hg : lk L g = some (.bool true)) (hc : ContX P Hp f vs post v Hn) (ha : AE L xs vs) (hr : RdAll H Hp) (hs : List.Sublist HS H) (h : ∀ z, post z → RM P ops Q HS n [] ((dd, v z) :: L) w0 (Hn z ++ H) ord) (hi : isGo P f = true := by decide +kernel) (hd : Nat.blt dd n = true := by rfl) : RM P ops Q HS n [] L w0 H (.go i :: ord) :=
  RM.actXT ho rfl hj hg rfl (x_call hc ha hr hi hd) (.inl fun x w hw => hw.sub (hs.trans (List.sublist_append_right _ _))) h
theorem perm_fo {a b c x1 x2 : Hl} {A C : List Hl} : (a :: b :: ((A ++ (c :: C)) ++ [x1, x2])).Perm (x1 :: x2 :: a :: b :: c :: (A ++ C)) := by
  classical
  refine List.perm_iff_count.2 fun e => ?_
  simp only [List.count_cons, List.count_append, List.count_nil]
  omega
theorem fo_ok {la lo u pla plo i j : Int} {wd : Nat} (hp : pointB la lo = true) (hla : -4800000 ≤ la ∧ la ≤ 4800000) (hu : 2 ≤ u ∧ u ≤ 100000) (hw : 11 ≤ wd ∧ wd ≤ 121) (ho : wd % 2 = 1) (h1 : -9223372036854775808 ≤ pla ∧ pla ≤ 9223372036854775807) (h2 : -9223372036854775808 ≤ plo ∧ plo ≤ 9223372036854775807) (hi : -9223372036854775808 ≤ i ∧ i ≤ 9223372036854775807) (hj : -9223372036854775808 ≤ j ∧ j ≤ 9223372036854775807) : ContIn Tryz.prog LaidC 4 [ptV la lo, .int .i64 u, .int .i64 (wd : Int), ptV pla plo, .int .i64 i, .int .i64 j] (.bool true) := fun w hI => by
  have qm := madeA_ok hp hla hu hw ho
  have hpp := hp
  simp only [pointB, Bool.and_eq_true, decide_eq_true_eq] at hpp
  have q1 := fun (b : Nat) (z : Sl) (rs : List Sl) (xt : Nat → List Value) (hz : NewP wd (b, z, rs, xt)) => pixel_c (b := b) (z := z) (shok_new hp hla hu hw hz.len hz.ok) h1 h2
  have q2 := fun (b : Nat) (z : Sl) (rs : List Sl) (xt : Nat → List Value) (hz : NewP wd (b, z, rs, xt)) => point_c (b := b) (z := z) (shok_new hp hla hu hw hz.len hz.ok) hi hj
  have q3 := fun (y : Sl) (hy : y.n = 2 * ((wd - 1) / 4) + 1) => rpixel_c (z := y) (lo := lo) hla (by omega) hu hw rfl hy h1 h2
  have q4 := fun (y : Sl) (hy : y.n = 2 * ((wd - 1) / 4) + 1) => rpoint_c (z := y) (lo := lo) hla (by omega) hu hw rfl hy hi hj
  have q5 := fun (b : Nat) (z : Sl) (rs : List Sl) => pscale_c (b := b) (cs := (TT.cosE la la).1) (z := z) (rows := rs) (wd := wd) hp hu
  have q6 := fun (v : Value) => rscale_c (wd := (wd : Int)) (v := v) hp hu
  have q8 := fun (v u2 : Value) => eqS_c v u2 (scaL la lo u) (by simp [scaL])
  have hT := fun (y : Sl) (rs : List Sl) (hr : rs.length = 2 * ((wd - 1) / 4) + 1) => rtext_c (la := la) (lo := lo) (u := u) (wd' := (wd : Int)) (wd := wd) (z := y) (rs := newR wd rs) (fun r hr2 => by
    obtain ⟨s, _, rfl⟩ := List.mem_map.1 hr2
    exact List.length_replicate) (by omega) (by rw [List.length_map]; omega)
  have hTe : ∀ rs : List Sl, rs.length = 2 * ((wd - 1) / 4) + 1 → (newR wd rs).map Prod.snd = List.replicate (2 * ((wd - 1) / 4) + 1) (List.replicate wd 46) := fun rs hr => by
    rw [← hr]
    unfold newR
    rw [List.map_map]
    exact List.map_const' ..
  refine enter0 Tryz.func4 rfl rfl rfl ?_
  have hh : (wd - 1) / 4 = (wd - 1) / 4 := rfl
  repeat' (first
    | (show YK _ _ _ _ _ ⟨_, .call { callee := .builtin .len, args := _, argTypes := #[9] }, _, _, _, _⟩ _; refine YK.ofV (y_lenS (by rfl) StrTy.is) ?_)
    | (show VK _ _ _ _ _ ⟨_, .call { callee := .builtin .len, args := _, argTypes := #[9] }, _, _, _, _⟩ _; refine VK.mk (y_lenS (by rfl) StrTy.is) ?_)
    | (show YG _ _ _ _ _ _ ⟨_, .call { callee := .builtin .len, args := _, argTypes := #[9] }, _, _, _, _⟩ _; refine YG.mk (fun hb => by (try (have hc := And.left hb; have hb := And.right hb; rw [hc])); (try rw [hb]); exact V.y (y_lenS (by rfl) StrTy.is)) ?_)
    | (show VG _ _ _ _ _ _ ⟨_, .call { callee := .builtin .len, args := _, argTypes := #[9] }, _, _, _, _⟩ _; refine VG.mk (fun hb => by (try (have hc := And.left hb; have hb := And.right hb; rw [hc])); (try rw [hb]); exact y_lenS (by rfl) StrTy.is) ?_)
    | (refine nxN ?_)
    | (show RS _ _ _ _ _ _ _ (⟨some 32, _, _, _, _, _⟩ :: _); refine RS.callL qm trivial ?_ ⟨rfl, rfl, rfl, rfl⟩; rintro ⟨⟨b, z, rs, xt⟩, y, rs2⟩ ⟨ha, hy⟩; dsimp only [List.cons_append, List.nil_append]; refine RS.permH ?_ perm_fo; refine RS.fact (fun w' hw' => rw_len (y := y) (l := rs2) (by exact memA) hw') (fun hyn => ?_); replace q1 := q1 b z rs xt ha; replace q2 := q2 b z rs xt ha; have hyn2 := hyn.trans hy; replace q3 := q3 y hyn2; replace q4 := q4 y hyn2; replace q5 := q5 b z rs; replace q6 := q6 y.v; replace hT := hT y rs2 hy; rw [hTe rs2 hy] at hT; have q9 := tx_newF (la := la) (lo := lo) (u := u) (cs := (TT.cosE la la).1) hw ha; rw [show rs.length = 2 * ((wd - 1) / 4) + 1 from ha.len] at q1 q2; generalize pixI wd (2 * ((wd - 1) / 4) + 1) la lo u (TT.cosE la la).1 pla plo = tp at q1 q3; generalize pntI wd (2 * ((wd - 1) / 4) + 1) la lo u (TT.cosE la la).1 i j = tq at q2 q4; obtain ⟨tp1, tp2, tp3⟩ := tp; obtain ⟨tq1, tq2, tq3⟩ := tq; dsimp only at q1 q2 q3 q4)
    | (show YK _ _ _ _ _ ⟨some 46, .call { callee := .value (.func 9), args := _, argTypes := _ }, _, _, _, _⟩ _; refine YK.mk (y_callIn (q1) (fun w' hw' => ShR.ofSt hw' (by exact memA) (by exact memA)) ⟨rfl, rfl, rfl⟩ (by decide +kernel)) ?_)
    | (show YG _ _ _ _ _ _ ⟨some 46, .call { callee := .value (.func 9), args := _, argTypes := _ }, _, _, _, _⟩ _; refine YG.mk (fun hb => by (try (have hc := And.left hb; have hb := And.right hb; rw [hc])); (try rw [hb]); exact y_callIn (q1) (fun w' hw' => ShR.ofSt hw' (by exact memA) (by exact memA)) ⟨rfl, rfl, rfl⟩ (by decide +kernel)) ?_)
    | (show YK _ _ _ _ _ ⟨some 61, .call { callee := .value (.func 10), args := _, argTypes := _ }, _, _, _, _⟩ _; refine YK.mk (y_callIn (q2) (fun w' hw' => ShR.ofSt hw' (by exact memA) (by exact memA)) ⟨rfl, rfl, rfl, rfl⟩ (by decide +kernel)) ?_)
    | (show YG _ _ _ _ _ _ ⟨some 61, .call { callee := .value (.func 10), args := _, argTypes := _ }, _, _, _, _⟩ _; refine YG.mk (fun hb => by (try (have hc := And.left hb; have hb := And.right hb; rw [hc])); (try rw [hb]); exact y_callIn (q2) (fun w' hw' => ShR.ofSt hw' (by exact memA) (by exact memA)) ⟨rfl, rfl, rfl, rfl⟩ (by decide +kernel)) ?_)
    | (show YK _ _ _ _ _ ⟨some 40, _, _, _, _, _⟩ _; refine YK.ofV (y_eqNil1 rfl rfl sh_ptr) ?_)
    | (show YG _ _ _ _ _ _ ⟨some 40, _, _, _, _, _⟩ _; refine YG.mk (fun hb => (y_eqNil1 rfl rfl sh_ptr).y) ?_)
    | (show VG _ _ _ _ _ _ ⟨some 40, _, _, _, _, _⟩ _; refine VG.mk (fun hb => y_eqNil1 rfl rfl sh_ptr) ?_)
    | (show RM _ _ _ _ _ _ _ _ _ (.go 26 :: _); simp only [eq_self, decide_true, eqCells, vEq, Bool.and_self, cond_true])
    | (show RM _ _ _ _ _ _ _ _ _ (.go 25 :: _); refine RM.callTI rfl rfl (by rfl) q5 ⟨rfl, rfl⟩ (fun w' hw' => ⟨hI.keep hw'.ext, ShR.ofSt hw' (by exact memA) (by exact memA)⟩) (List.Sublist.refl _) ?_; rintro s5 _; dsimp only [List.cons_append, List.nil_append])
    | (show RM _ _ _ _ _ _ _ _ _ (.go 27 :: _); refine RM.callTX rfl rfl (by rfl) q6 ⟨rfl, rfl⟩ RdAll.nil (List.Sublist.cons _ (List.Sublist.refl _)) ?_; rintro s6 _; dsimp only [List.cons_append, List.nil_append])
    | (show YK _ _ _ _ _ ⟨some 99, _, _, _, _, _⟩ _; refine YK.mk (by exact y_callRA (q8 _ _) ⟨rfl, rfl, rfl⟩) ?_)
    | (show YK _ _ _ _ _ ⟨some 103, _, _, _, _, _⟩ _; refine YK.mk (by exact y_callIn q9 (fun w' hw' => TxW.ofSt (xt := xt) hw' (by exact memA) (by (rw [newR_fst]; exact memA)) (fun h hm => .tail _ (.tail _ (.tail _ (.tail _ (.tail _ (.tail _ (.tail _ (.tail _ (.tail _ (.tail _ (List.mem_append_left _ hm))))))))))) (newR_ok ha.ok) (by rw [List.length_map, show rs.length = 2 * ((wd - 1) / 4) + 1 from ha.len]; omega)) ⟨rfl, rfl⟩ (by decide +kernel)) ?_)
    | (show YK _ _ _ _ _ ⟨some 105, _, _, _, _, _⟩ _; refine YK.mk (by exact y_callIn hT (fun w' hw' => RsW.ofSt hw' (by (rw [newR_fst]; exact memA)) (fun h hm => .tail _ (.tail _ (.tail _ (.tail _ (.tail _ (.tail _ (.tail _ (.tail _ (.tail _ (.tail _ (List.mem_append_right _ hm)))))))))))) ⟨rfl, rfl⟩ (by decide +kernel)) ?_)
    | (show YK _ _ _ _ _ _ _; first | refine YK.mk (y_callA (awake49_c) rfl) ?_ | refine YK.mk (y_callA (q3) ⟨rfl, rfl, rfl⟩) ?_ | refine YK.mk (y_callA (q4) ⟨rfl, rfl, rfl, rfl⟩) ?_)
    | (show YK _ _ _ _ _ _ _; refine YK.ofV vAuto ?_)
    | (show VK _ _ _ _ _ _ _; refine VK.mk vAuto ?_)
    | (show RS _ _ _ _ _ _ _ _; first | (refine nxRS ?_) | (refine nxRS1 fun _ => ?_))
    | (show RM _ _ _ _ _ _ _ _ _ _; first | (refine nxRM ?_) | (refine nxRM1 fun _ => ?_))
    | (show YG _ _ _ _ _ _ _ _; refine YG.mk (fun hb => by (try (have hc := And.left hb; have hb := And.right hb; rw [hc])); (try rw [hb]); first | exact (y_callA (awake49_c) rfl) | exact (y_callA (q3) ⟨rfl, rfl, rfl⟩) | exact (y_callA (q4) ⟨rfl, rfl, rfl, rfl⟩) | exact V.y vAuto) ?_)
    | (show VG _ _ _ _ _ _ _ _; refine VG.mk (fun hb => by (try (have hc := And.left hb; have hb := And.right hb; rw [hc])); (try rw [hb]); exact vAuto) ?_)
    | (refine nxVS ?_)
    | (refine nxGS ?_)
    | (refine G.mixedA 10 [.go 0, .go 1, .go 2, .go 3, .go 4, .go 5, .go 6, .go 7, .go 8, .go 9, .go 10, .go 11, .go 12, .go 13, .go 14, .go 15, .go 16, .go 17, .go 18, .go 19, .go 20, .go 21, .go 22, .go 23, .go 24, .go 26, .go 25, .go 27, .go 28, .go 29, .go 30, .go 31, .go 33, .go 32, .go 34, .go 35, .go 36, .go 37] ?_)
    | (refine nxX ?_)
    | (refine G.condN rfl (fun hc => ?_) (fun hc => ?_) <;> (try first | exact False.elim hc | (exfalso; omega))))
  all_goals first | (exfalso; omega) | exact X.ret (vs := [_]) rfl ⟨rfl, rfl⟩ rfl (fun w hw => ⟨ret_bool (by simp), hw.ext⟩)
theorem forms_law {la lo u wd pla plo i j : Int} (h1 : -9223372036854775808 ≤ pla ∧ pla ≤ 9223372036854775807) (h2 : -9223372036854775808 ≤ plo ∧ plo ≤ 9223372036854775807) (hi : -9223372036854775808 ≤ i ∧ i ≤ 9223372036854775807) (hj : -9223372036854775808 ≤ j ∧ j ≤ 9223372036854775807) : ContIn Tryz.prog LaidC 4 [ptV la lo, .int .i64 u, .int .i64 wd, ptV pla plo, .int .i64 i, .int .i64 j] (.bool true) := by
  by_cases he : newE la lo u wd = 0
  · unfold newE at he
    split at he
    · rename_i hb
      split at he
      · rename_i hg
        simp only [Bool.and_eq_true, decide_eq_true_eq] at hb
        obtain ⟨wn, rfl⟩ := Int.eq_ofNat_of_zero_le (show 0 ≤ wd by omega)
        exact fo_ok hb.1.1 (by omega) (by omega) (by omega) (by omega) h1 h2 hi hj
      · exact absurd he (by decide)
    · exact absurd he (by decide)
  · refine (fo_ref rfl ?_).in_
    unfold newE at he ⊢
    split
    · split
      · rename_i h1 h2
        rw [if_pos h1, if_pos h2] at he
        exact absurd rfl he
      · exact .inr rfl
    · exact .inl rfl
end Go.Proofs.YthilhhegchmjeaaGreatDoor
