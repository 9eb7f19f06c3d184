/- Joined texts: PTx, RTx, RTy, Awk13, Lrg, SmP, RfV, RfW. -/
import Derived.Test.YtpekkcahehhkmaaGreatDoorWc
import Derived.Test.YtpekkcahehhkmaaGreatDoorWb
import Derived.Test.YtpekkcahehhkmaaGreatDoorWa
/- Pages: Text. -/
set_option linter.unusedVariables false
set_option maxHeartbeats 4000000
namespace Go.Proofs.YtpekkcahehhkmaaGreatDoor
open Go.RowKit

theorem Laid.c {w : World} (h : Laid w) : LaidC w := ⟨h.tab, h.max⟩
theorem cpadded_c {n k : Int} (h : (-9223372036854775808 ≤ n ∧ n ≤ 9223372036854775807) ∧ 0 ≤ k ∧ k ≤ 10) : ContIn Tryz.prog LaidC 114 [.int .i64 n, .int .i64 k] (strV (padL n k)) := fun w hI => by
  have hl := itoa_len h.1
  have h1 := itoaC_c h.1
  have hr : (Lib.repeatL [48] (max 0 (k - (Lib.itoa n).length)).toNat).length ≤ 10 := by rw [Lib.repeatL_length]; simp; omega
  refine enter0 Tryz.func114 rfl rfl rfl ?_
  repeat' (first
    | (show YK _ _ _ _ _ ⟨_, .call { callee := .builtin .len, args := _, argTypes := #[9] }, _, _, _, _⟩ _; refine YK.ofV (y_lenS (by rfl) StrTy.is) ?_)
    | (show VK _ _ _ _ _ ⟨_, .call { callee := .builtin .len, args := _, argTypes := #[9] }, _, _, _, _⟩ _; refine VK.mk (y_lenS (by rfl) StrTy.is) ?_)
    | (show YG _ _ _ _ _ _ ⟨_, .call { callee := .builtin .len, args := _, argTypes := #[9] }, _, _, _, _⟩ _; refine YG.mk (fun hb => by (try (have hc := And.left hb; have hb := And.right hb; rw [hc])); (try rw [hb]); exact V.y (y_lenS (by rfl) StrTy.is)) ?_)
    | (show VG _ _ _ _ _ _ ⟨_, .call { callee := .builtin .len, args := _, argTypes := #[9] }, _, _, _, _⟩ _; refine VG.mk (fun hb => by (try (have hc := And.left hb; have hb := And.right hb; rw [hc])); (try rw [hb]); exact y_lenS (by rfl) StrTy.is) ?_)
    | (show YK _ _ _ _ _ _ _; first | refine YK.mk (y_callIn (h1) (fun _ hw => hI.keep hw.ext) ⟨rfl, rfl⟩ (by decide +kernel)) ?_ | refine YK.mk (y_callA (repeat_c [48] (m := max 0 (k - (Lib.itoa n).length)) (by omega) (by decide)) ⟨rfl, rfl, rfl⟩) ?_)
    | (show YK _ _ _ _ _ _ _; refine YK.ofV vAuto ?_)
    | (show VK _ _ _ _ _ _ _; refine VK.mk vAuto ?_)
    | (show RS _ _ _ _ _ _ _ _; first | (refine nxRS ?_) | (refine nxRS1 fun _ => ?_))
    | (show RM _ _ _ _ _ _ _ _ _ _; first | (refine nxRM ?_) | (refine nxRM1 fun _ => ?_))
    | (show YG _ _ _ _ _ _ _ _; refine YG.mk (fun hb => by (try (have hc := And.left hb; have hb := And.right hb; rw [hc])); (try rw [hb]); first | exact (y_callIn (h1) (fun _ hw => hI.keep hw.ext) ⟨rfl, rfl⟩ (by decide +kernel)) | exact (y_callA (repeat_c [48] (m := max 0 (k - (Lib.itoa n).length)) (by omega) (by decide)) ⟨rfl, rfl, rfl⟩) | exact V.y vAuto) ?_)
    | (show VG _ _ _ _ _ _ _ _; refine VG.mk (fun hb => by (try (have hc := And.left hb; have hb := And.right hb; rw [hc])); (try rw [hb]); exact vAuto) ?_)
    | (refine nxVS ?_)
    | (refine nxGS ?_)
    | (refine nxX ?_)
    | (refine G.condN rfl (fun hc => ?_) (fun hc => ?_) <;> (try first | exact False.elim hc | (exfalso; omega))))
  exact X.ret (vs := [_]) rfl ⟨rfl, rfl⟩ rfl (fun w hw => ⟨rfl, hw.ext⟩)
def dateL (y m d : Int) : List UInt8 := padL y 4 ++ [45] ++ padL m 2 ++ [45] ++ padL d 2
theorem ctext_c {y m d : Int} (h : (-9223372036854775808 ≤ y ∧ y ≤ 9223372036854775807) ∧ (-9223372036854775808 ≤ m ∧ m ≤ 9223372036854775807) ∧ -9223372036854775808 ≤ d ∧ d ≤ 9223372036854775807) : ContIn Tryz.prog LaidC 79 [dateV y m d] (strV (dateL y m d)) := fun w hI => by
  have l1 := pad_len (k := 4) h.1 (by decide)
  have l2 := pad_len (k := 2) h.2.1 (by decide)
  have l3 := pad_len (k := 2) h.2.2 (by decide)
  have p1 := cpadded_c (n := y) (k := 4) ⟨h.1, by decide⟩
  have p2 := cpadded_c (n := m) (k := 2) ⟨h.2.1, by decide⟩
  have p3 := cpadded_c (n := d) (k := 2) ⟨h.2.2, by decide⟩
  refine enter0 Tryz.func79 rfl rfl rfl ?_
  repeat' (first
    | (show YK _ _ _ _ _ ⟨_, .call { callee := .builtin .len, args := _, argTypes := #[9] }, _, _, _, _⟩ _; refine YK.ofV (y_lenS (by rfl) StrTy.is) ?_)
    | (show VK _ _ _ _ _ ⟨_, .call { callee := .builtin .len, args := _, argTypes := #[9] }, _, _, _, _⟩ _; refine VK.mk (y_lenS (by rfl) StrTy.is) ?_)
    | (show YG _ _ _ _ _ _ ⟨_, .call { callee := .builtin .len, args := _, argTypes := #[9] }, _, _, _, _⟩ _; refine YG.mk (fun hb => by (try (have hc := And.left hb; have hb := And.right hb; rw [hc])); (try rw [hb]); exact V.y (y_lenS (by rfl) StrTy.is)) ?_)
    | (show VG _ _ _ _ _ _ ⟨_, .call { callee := .builtin .len, args := _, argTypes := #[9] }, _, _, _, _⟩ _; refine VG.mk (fun hb => by (try (have hc := And.left hb; have hb := And.right hb; rw [hc])); (try rw [hb]); exact y_lenS (by rfl) StrTy.is) ?_)
    | (show YK _ _ _ _ _ _ _; first | refine YK.mk (y_callIn (p1) (fun _ hw => hI.keep hw.ext) ⟨rfl, rfl, rfl⟩ (by decide +kernel)) ?_ | refine YK.mk (y_callIn (p2) (fun _ hw => hI.keep hw.ext) ⟨rfl, rfl, rfl⟩ (by decide +kernel)) ?_ | refine YK.mk (y_callIn (p3) (fun _ hw => hI.keep hw.ext) ⟨rfl, rfl, rfl⟩ (by decide +kernel)) ?_)
    | (show YK _ _ _ _ _ _ _; refine YK.ofV vAuto ?_)
    | (show VK _ _ _ _ _ _ _; refine VK.mk vAuto ?_)
    | (show RS _ _ _ _ _ _ _ _; first | (refine nxRS ?_) | (refine nxRS1 fun _ => ?_))
    | (show RM _ _ _ _ _ _ _ _ _ _; first | (refine nxRM ?_) | (refine nxRM1 fun _ => ?_))
    | (show YG _ _ _ _ _ _ _ _; refine YG.mk (fun hb => by (try (have hc := And.left hb; have hb := And.right hb; rw [hc])); (try rw [hb]); first | exact (y_callIn (p1) (fun _ hw => hI.keep hw.ext) ⟨rfl, rfl, rfl⟩ (by decide +kernel)) | exact (y_callIn (p2) (fun _ hw => hI.keep hw.ext) ⟨rfl, rfl, rfl⟩ (by decide +kernel)) | exact (y_callIn (p3) (fun _ hw => hI.keep hw.ext) ⟨rfl, rfl, rfl⟩ (by decide +kernel)) | exact V.y vAuto) ?_)
    | (show VG _ _ _ _ _ _ _ _; refine VG.mk (fun hb => by (try (have hc := And.left hb; have hb := And.right hb; rw [hc])); (try rw [hb]); exact vAuto) ?_)
    | (refine nxVS ?_)
    | (refine nxGS ?_)
    | (refine G.mixedA 1 [.go 0, .go 1, .go 4, .go 5, .go 9, .go 10, .go 2, .go 3, .go 6, .go 7, .go 8, .go 11, .go 12, .go 13] ?_)
    | (refine nxX ?_)
    | (refine G.condN rfl (fun hc => ?_) (fun hc => ?_) <;> (try first | exact False.elim hc | (exfalso; omega))))
  exact X.ret (vs := [_]) rfl ⟨rfl, rfl⟩ rfl (fun w hw => ⟨rfl, hw.ext⟩)
theorem cText_t {y m d : Int} (hv : validB y m d = true) : ContIn Tryz.prog LaidC 51 [dateV y m d] (.tuple [strV (dateL y m d), .int .i64 0].toArray) := fun w hI => by
  obtain ⟨hy, hm, hd⟩ := valid_of hv
  have hdm := dim_bd y m
  have h1 := ctext_c (y := y) (m := m) (d := d) (by omega)
  refine enter0 Tryz.func51 rfl rfl rfl ?_
  repeat' (first
    | (show YK _ _ _ _ _ ⟨_, .call { callee := .builtin .len, args := _, argTypes := #[9] }, _, _, _, _⟩ _; refine YK.ofV (y_lenS (by rfl) StrTy.is) ?_)
    | (show VK _ _ _ _ _ ⟨_, .call { callee := .builtin .len, args := _, argTypes := #[9] }, _, _, _, _⟩ _; refine VK.mk (y_lenS (by rfl) StrTy.is) ?_)
    | (show YG _ _ _ _ _ _ ⟨_, .call { callee := .builtin .len, args := _, argTypes := #[9] }, _, _, _, _⟩ _; refine YG.mk (fun hb => by (try (have hc := And.left hb; have hb := And.right hb; rw [hc])); (try rw [hb]); exact V.y (y_lenS (by rfl) StrTy.is)) ?_)
    | (show VG _ _ _ _ _ _ ⟨_, .call { callee := .builtin .len, args := _, argTypes := #[9] }, _, _, _, _⟩ _; refine VG.mk (fun hb => by (try (have hc := And.left hb; have hb := And.right hb; rw [hc])); (try rw [hb]); exact y_lenS (by rfl) StrTy.is) ?_)
    | (show YK _ _ _ _ _ _ _; first | refine YK.mk (y_callA (valid_t hv) ⟨rfl, rfl⟩) ?_ | refine YK.mk (y_callIn (h1) (fun _ hw => hI.keep hw.ext) ⟨rfl, rfl⟩ (by decide +kernel)) ?_)
    | (show YK _ _ _ _ _ _ _; refine YK.ofV vAuto ?_)
    | (show VK _ _ _ _ _ _ _; refine VK.mk vAuto ?_)
    | (show RS _ _ _ _ _ _ _ _; first | (refine nxRS ?_) | (refine nxRS1 fun _ => ?_))
    | (show RM _ _ _ _ _ _ _ _ _ _; first | (refine nxRM ?_) | (refine nxRM1 fun _ => ?_))
    | (show YG _ _ _ _ _ _ _ _; refine YG.mk (fun hb => by (try (have hc := And.left hb; have hb := And.right hb; rw [hc])); (try rw [hb]); first | exact (y_callA (valid_t hv) ⟨rfl, rfl⟩) | exact (y_callIn (h1) (fun _ hw => hI.keep hw.ext) ⟨rfl, rfl⟩ (by decide +kernel)) | exact V.y vAuto) ?_)
    | (show VG _ _ _ _ _ _ _ _; refine VG.mk (fun hb => by (try (have hc := And.left hb; have hb := And.right hb; rw [hc])); (try rw [hb]); exact vAuto) ?_)
    | (refine nxVS ?_)
    | (refine nxGS ?_)
    | (refine nxX ?_)
    | (refine G.condN rfl (fun hc => ?_) (fun hc => ?_) <;> (try first | exact False.elim hc | (exfalso; omega))))
  exact X.ret (vs := [_, _]) rfl ⟨rfl, rfl, rfl⟩ rfl (fun w hw => ⟨rfl, hw.ext⟩)
theorem dateL_len {y m d : Int} (hv : validB y m d = true) : (dateL y m d).length ≤ 100 := by
  obtain ⟨hy, hm, hd⟩ := valid_of hv
  have hdm := dim_bd y m
  have l1 := pad_len (n := y) (k := 4) (by omega) (by decide)
  have l2 := pad_len (n := m) (k := 2) (by omega) (by decide)
  have l3 := pad_len (n := d) (k := 2) (by omega) (by decide)
  simp only [dateL, List.length_append, List.length_singleton]; omega
theorem tenths_c {n : Int} (h : 0 ≤ n ∧ n ≤ 9999) : Cont Tryz.prog 52 [.int .i64 n] (strV (tenL n)) := fun w => by
  have q1 := Format_c (n := n) (by omega)
  rw [decL_ten h] at q1
  generalize tenL n = l at q1
  refine enter0 Tryz.func52 rfl rfl rfl ?_
  repeat' (first
    | (show YK _ _ _ _ _ ⟨_, .call { callee := .builtin .len, args := _, argTypes := #[9] }, _, _, _, _⟩ _; refine YK.ofV (y_lenS (by rfl) StrTy.is) ?_)
    | (show VK _ _ _ _ _ ⟨_, .call { callee := .builtin .len, args := _, argTypes := #[9] }, _, _, _, _⟩ _; refine VK.mk (y_lenS (by rfl) StrTy.is) ?_)
    | (show YG _ _ _ _ _ _ ⟨_, .call { callee := .builtin .len, args := _, argTypes := #[9] }, _, _, _, _⟩ _; refine YG.mk (fun hb => by (try (have hc := And.left hb; have hb := And.right hb; rw [hc])); (try rw [hb]); exact V.y (y_lenS (by rfl) StrTy.is)) ?_)
    | (show VG _ _ _ _ _ _ ⟨_, .call { callee := .builtin .len, args := _, argTypes := #[9] }, _, _, _, _⟩ _; refine VG.mk (fun hb => by (try (have hc := And.left hb; have hb := And.right hb; rw [hc])); (try rw [hb]); exact y_lenS (by rfl) StrTy.is) ?_)
    | (show YK _ _ _ _ _ _ _; first | refine YK.mk (y_callA (q1) ⟨rfl, rfl, rfl⟩) ?_)
    | (show YK _ _ _ _ _ _ _; refine YK.ofV vAuto ?_)
    | (show VK _ _ _ _ _ _ _; refine VK.mk vAuto ?_)
    | (show RS _ _ _ _ _ _ _ _; first | (refine nxRS ?_) | (refine nxRS1 fun _ => ?_))
    | (show RM _ _ _ _ _ _ _ _ _ _; first | (refine nxRM ?_) | (refine nxRM1 fun _ => ?_))
    | (show YG _ _ _ _ _ _ _ _; refine YG.mk (fun hb => by (try (have hc := And.left hb; have hb := And.right hb; rw [hc])); (try rw [hb]); first | exact (y_callA (q1) ⟨rfl, rfl, rfl⟩) | exact V.y vAuto) ?_)
    | (show VG _ _ _ _ _ _ _ _; refine VG.mk (fun hb => by (try (have hc := And.left hb; have hb := And.right hb; rw [hc])); (try rw [hb]); exact vAuto) ?_)
    | (refine nxVS ?_)
    | (refine nxGS ?_)
    | (refine nxX ?_)
    | (refine G.condN rfl (fun hc => ?_) (fun hc => ?_) <;> (try first | exact False.elim hc | (exfalso; omega))))
  exact X.ret (vs := [_]) rfl ⟨rfl, rfl⟩ rfl (fun w hw => ⟨rfl, hw.ext⟩)
theorem angL_T {n : Int} (h : 0 ≤ n) : angL (100 * n) = angT n := by
  unfold angL angHead angRest angT
  rw [if_neg (by omega), if_pos (by omega), show 100 * n / 60000 = n / 600 by omega, show 100 * n % 60000 / 1000 = n % 600 / 10 by omega, show 100 * n % 1000 / 100 = n % 600 % 10 by omega]
  simp
theorem degrees_c {n : Int} (h : 0 ≤ n ∧ n ≤ 1000000) : ContIn Tryz.prog LaidC 54 [.int .i64 n] (strV (angT n)) := fun w hI => by
  have q1 := aText_c (n := 100 * n) (by omega)
  rw [angL_T h.1] at q1
  generalize angT n = l at q1
  refine enter0 Tryz.func54 rfl rfl rfl ?_
  repeat' (first
    | (show YK _ _ _ _ _ ⟨_, .call { callee := .builtin .len, args := _, argTypes := #[9] }, _, _, _, _⟩ _; refine YK.ofV (y_lenS (by rfl) StrTy.is) ?_)
    | (show VK _ _ _ _ _ ⟨_, .call { callee := .builtin .len, args := _, argTypes := #[9] }, _, _, _, _⟩ _; refine VK.mk (y_lenS (by rfl) StrTy.is) ?_)
    | (show YG _ _ _ _ _ _ ⟨_, .call { callee := .builtin .len, args := _, argTypes := #[9] }, _, _, _, _⟩ _; refine YG.mk (fun hb => by (try (have hc := And.left hb; have hb := And.right hb; rw [hc])); (try rw [hb]); exact V.y (y_lenS (by rfl) StrTy.is)) ?_)
    | (show VG _ _ _ _ _ _ ⟨_, .call { callee := .builtin .len, args := _, argTypes := #[9] }, _, _, _, _⟩ _; refine VG.mk (fun hb => by (try (have hc := And.left hb; have hb := And.right hb; rw [hc])); (try rw [hb]); exact y_lenS (by rfl) StrTy.is) ?_)
    | (show YK _ _ _ _ _ _ _; first | refine YK.mk (y_callIn (q1) (fun _ hw => hI.keep hw.ext) ⟨rfl, rfl⟩ (by decide +kernel)) ?_)
    | (show YK _ _ _ _ _ _ _; refine YK.ofV vAuto ?_)
    | (show VK _ _ _ _ _ _ _; refine VK.mk vAuto ?_)
    | (show RS _ _ _ _ _ _ _ _; first | (refine nxRS ?_) | (refine nxRS1 fun _ => ?_))
    | (show RM _ _ _ _ _ _ _ _ _ _; first | (refine nxRM ?_) | (refine nxRM1 fun _ => ?_))
    | (show YG _ _ _ _ _ _ _ _; refine YG.mk (fun hb => by (try (have hc := And.left hb; have hb := And.right hb; rw [hc])); (try rw [hb]); first | exact (y_callIn (q1) (fun _ hw => hI.keep hw.ext) ⟨rfl, rfl⟩ (by decide +kernel)) | exact V.y vAuto) ?_)
    | (show VG _ _ _ _ _ _ _ _; refine VG.mk (fun hb => by (try (have hc := And.left hb; have hb := And.right hb; rw [hc])); (try rw [hb]); exact vAuto) ?_)
    | (refine nxVS ?_)
    | (refine nxGS ?_)
    | (refine nxX ?_)
    | (refine G.condN rfl (fun hc => ?_) (fun hc => ?_) <;> (try first | exact False.elim hc | (exfalso; omega))))
  exact X.ret (vs := [_]) rfl ⟨rfl, rfl⟩ rfl (fun w hw => ⟨rfl, hw.ext⟩)
theorem tenL_len {n : Int} (h : 0 ≤ n ∧ n ≤ 1000000) : (tenL n).length ≤ 41 := by
  have l1 := itoa_len (n := n / 10) (by omega)
  have l2 := itoa_len (n := n % 10) (by omega)
  simp only [tenL, List.length_append, List.length_cons]; omega
theorem angT_len {n : Int} (h : 0 ≤ n ∧ n ≤ 1000000) : (angT n).length ≤ 72 := by
  have l1 := itoa_len (n := n / 600) (by omega)
  have l2 := pad_len (n := n % 600 / 10) (k := 2) (by omega) (by decide)
  have l3 := itoa_len (n := n % 600 % 10) (by omega)
  simp only [angT, List.length_append, List.length_cons]; omega
def bodyW (nm a b c : List UInt8) : List UInt8 := [98, 111, 100, 121, 32] ++ nm ++ [32, 115, 101, 109, 105, 32] ++ a ++ [32, 112, 97, 114, 32] ++ b ++ [32, 98, 101, 110, 100, 32] ++ c ++ [10]
def entW (h g sd d : List UInt8) : List UInt8 := h ++ [32] ++ g ++ sd ++ d ++ [10]
def entT (t : TrkT) (h : Nat) : List UInt8 := entW (Lib.itoa (h : Int)) (angT (nth t.gl (h : Int))) (if nth t.dl (h : Int) < 0 then [32, 83, 32] else [32, 78, 32]) (angT (max (nth t.dl (h : Int)) (-(nth t.dl (h : Int)))))
def trkT (t : TrkT) : Nat → List UInt8
  | 0 => bodyW t.nm (tenL t.se) (tenL t.pa) (tenL t.be)
  | h + 1 => trkT t h ++ entT t h
def dateW (y m d : Int) : List UInt8 := [112, 97, 103, 101, 32] ++ dateL y m d ++ [10]
def pgT (y m d : Int) (l : List TrkT) : Nat → List UInt8
  | 0 => dateW y m d
  | k + 1 => pgT y m d l k ++ trkT (nth l (k : Int)) 25
theorem writeL_c (b : Nat) (p : Value) (hp : p = .pointer none ∨ p = pB b) (x : Sl) (l l' : List UInt8) (hb : l.length + l'.length ≤ 140737488355328) : ContL Tryz.prog (fun _ => True) [bldR x l, bldB b p x] 26 [pB b, strV l'] (fun _ : Sl => True) (fun _ => .tuple [.int .i64 l'.length, .nilIface].toArray) (fun z => [bldB b (pB b) z, bldR z (l ++ l')]) := fun w0 HR w _ hw => writeS_c b p hp x l l' hb w0 HR w hw
theorem ptext_t {y m d : Int} {v : Value} {l : List TrkT} (hf : fitT l) (hb : pageB y m d l = true) : ContIn Tryz.prog (fun w => Laid w ∧ PgP v l w) 22 [pgV y m d v] (.tuple [strV (pgT y m d l l.length), .int .i64 0].toArray) := fun w hw0 => by
  have hI := hw0.1.c
  have hP := hw0.2
  have hl : l.length ≤ 12 := by unfold pageB at hb; simp at hb; omega
  have hdt : validB y m d = true := by unfold pageB dateOk at hb; simp at hb; exact hb.1.1.1
  have pv := pvalid_c (y := y) (m := m) (d := d) (v := v) (l := l) (fun _ => hf)
  rw [hb] at pv
  have qd := cText_t hdt
  have ld := dateL_len hdt
  have w1 := fun b => writeS_c b (.pointer none) (.inl rfl) ⟨none, 0, 0⟩ [] (dateW y m d) (by simp only [dateW, List.length_nil, List.length_append, List.length_cons]; omega)
  have hd0 : (dateW y m d).length ≤ 200 := by simp only [dateW, List.length_nil, List.length_append, List.length_cons]; omega
  have hd1 : (pgT y m d l 0).length ≤ 200 := hd0
  unfold dateW at w1
  refine enter Tryz.func22 rfl rfl rfl (Hp := [Hl.rd v cT 6 l]) (fun h hm => by
    rcases List.mem_singleton.1 hm with rfl
    exact ⟨⟨hP.1, fun h => by cases h⟩, rfl⟩) ?_
  repeat' (first
    | (show YK _ _ _ _ _ ⟨_, .call { callee := .builtin .len, args := _, argTypes := #[9] }, _, _, _, _⟩ _; refine YK.ofV (y_lenS (by rfl) StrTy.is) ?_)
    | (show VK _ _ _ _ _ ⟨_, .call { callee := .builtin .len, args := _, argTypes := #[9] }, _, _, _, _⟩ _; refine VK.mk (y_lenS (by rfl) StrTy.is) ?_)
    | (show YG _ _ _ _ _ _ ⟨_, .call { callee := .builtin .len, args := _, argTypes := #[9] }, _, _, _, _⟩ _; refine YG.mk (fun hb => by (try (have hc := And.left hb; have hb := And.right hb; rw [hc])); (try rw [hb]); exact V.y (y_lenS (by rfl) StrTy.is)) ?_)
    | (show VG _ _ _ _ _ _ ⟨_, .call { callee := .builtin .len, args := _, argTypes := #[9] }, _, _, _, _⟩ _; refine VG.mk (fun hb => by (try (have hc := And.left hb; have hb := And.right hb; rw [hc])); (try rw [hb]); exact y_lenS (by rfl) StrTy.is) ?_)
    | (show YK _ _ _ _ _ ⟨_, .load 23 _, _, _, _, _⟩ _; refine YK.ofV (y_loadPart (k := 3) (by rfl) (by exact memA) (by decide +kernel) (by rfl)) ?_)
    | (refine YK.mk (y_callIn pv (fun w hw => hP.keep hw.ext) ⟨rfl, rfl⟩ (by decide +kernel)) ?_)
    | (refine RS.callW0 (w1 _) ⟨rfl, rfl, rfl⟩ ?_; rintro z1 -; dsimp only [List.cons_append, List.nil_append])
    | (show YK _ _ _ _ _ _ _; first | refine YK.mk (y_callIn (qd) (fun _ hw => hI.keep hw.ext) ⟨rfl, rfl⟩ (by decide +kernel)) ?_)
    | (show YK _ _ _ _ _ _ _; refine YK.ofV vAuto ?_)
    | (show VK _ _ _ _ _ _ _; refine VK.mk vAuto ?_)
    | (show RS _ _ _ _ _ _ _ _; first | (refine nxRS ?_) | (refine nxRS1 fun _ => ?_))
    | (show RM _ _ _ _ _ _ _ _ _ _; first | (refine nxRM ?_) | (refine nxRM1 fun _ => ?_))
    | (show YG _ _ _ _ _ _ _ _; refine YG.mk (fun hb => by (try (have hc := And.left hb; have hb := And.right hb; rw [hc])); (try rw [hb]); first | exact (y_callIn (qd) (fun _ hw => hI.keep hw.ext) ⟨rfl, rfl⟩ (by decide +kernel)) | exact V.y vAuto) ?_)
    | (show VG _ _ _ _ _ _ _ _; refine VG.mk (fun hb => by (try (have hc := And.left hb; have hb := And.right hb; rw [hc])); (try rw [hb]); exact vAuto) ?_)
    | (refine nxVS ?_)
    | (refine nxGS ?_)
    | (refine G.mixedA 11 [.go 0, .go 1, .go 2, .go 3, .go 4, .go 5, .go 9, .go 10, .go 14, .go 15, .go 6, .go 7, .go 8, .go 11, .go 12, .go 13, .go 16, .go 17, .go 18, .go 19] ?_)
    | (refine G.mixedA 15 [.go 0, .go 1, .go 2, .go 3, .go 4, .go 5, .go 6] ?_)
    | (refine G.mixedA 18 [.go 0, .go 3, .go 4, .go 5, .go 6, .go 7, .go 10, .go 12, .go 1, .go 2, .go 8, .go 9, .go 11, .go 13, .go 14, .go 15, .go 16] ?_)
    | (refine nxX ?_)
    | (refine G.condN rfl (fun hc => ?_) (fun hc => ?_) <;> (try first | exact False.elim hc | (exfalso; omega))))
  rename_i b1 b6
  refine G.loop (ι := Nat × Sl) (fun x => [(6, pB b6), (29, v), (30, .int .i64 l.length), (31, .int .i64 (x.1 : Int))]) (fun x => [bldB b6 (pB b6) x.2, bldR x.2 (pgT y m d l x.1), Hl.rd v cT 6 l]) (fun x => x.1 ≤ l.length ∧ (pgT y m d l x.1).length ≤ 200 + 5500 * x.1) (fun x => l.length - x.1) (0, z1) ⟨Nat.zero_le _, by simpa using hd1⟩ ⟨rfl, rfl, rfl, rfl, trivial⟩ (fun w h => h.sub (by repeat (first | exact List.Sublist.refl _ | apply List.Sublist.cons_cons | apply List.Sublist.cons))) ?_
  rintro ⟨k, z⟩ mx ⟨g1, g2⟩ hmx
  dsimp only at g1 g2 hmx ⊢
  rcases Nat.lt_or_ge k l.length with hk | hk
  · have ho := (page_tr hb hk).2
    obtain ⟨o1, o2, o3, o4, o5, o6, o7, o8⟩ := okT_parts ho
    have on := (hf.at hk).1
    have qa := tenths_c (n := (nth l (k : Int)).se) (by omega)
    have qb := tenths_c (n := (nth l (k : Int)).pa) (by omega)
    have qc := tenths_c (n := (nth l (k : Int)).be) (by omega)
    have la := tenL_len (n := (nth l (k : Int)).se) (by omega)
    have lb := tenL_len (n := (nth l (k : Int)).pa) (by omega)
    have lc := tenL_len (n := (nth l (k : Int)).be) (by omega)
    have hT0 : (trkT (nth l (k : Int)) 0).length ≤ 300 := by simp only [trkT, bodyW, List.length_nil, List.length_append, List.length_cons]; omega
    have qw := writeL_c b6 (pB b6) (.inr rfl) z (pgT y m d l k) (trkT (nth l (k : Int)) 0) (by omega)
    have eT : ∀ h, trkT (nth l (k : Int)) (h + 1) = trkT (nth l (k : Int)) h ++ entT (nth l (k : Int)) h := fun _ => rfl
    have eP : pgT y m d l (k + 1) = pgT y m d l k ++ trkT (nth l (k : Int)) 25 := rfl
    have hr : trkT (nth l (k : Int)) 0 = bodyW (nth l (k : Int)).nm (tenL (nth l (k : Int)).se) (tenL (nth l (k : Int)).pa) (tenL (nth l (k : Int)).be) := rfl
    unfold bodyW at hr
    rw [hr] at qw
    refine G.bring (hP.2.at hk).1 (G.bring (hP.2.at hk).2 ?_)
    repeat' (first
    | (show YK _ _ _ _ _ ⟨_, .call { callee := .builtin .len, args := _, argTypes := #[9] }, _, _, _, _⟩ _; refine YK.ofV (y_lenS (by rfl) StrTy.is) ?_)
    | (show VK _ _ _ _ _ ⟨_, .call { callee := .builtin .len, args := _, argTypes := #[9] }, _, _, _, _⟩ _; refine VK.mk (y_lenS (by rfl) StrTy.is) ?_)
    | (show YG _ _ _ _ _ _ ⟨_, .call { callee := .builtin .len, args := _, argTypes := #[9] }, _, _, _, _⟩ _; refine YG.mk (fun hb => by (try (have hc := And.left hb; have hb := And.right hb; rw [hc])); (try rw [hb]); exact V.y (y_lenS (by rfl) StrTy.is)) ?_)
    | (show VG _ _ _ _ _ _ ⟨_, .call { callee := .builtin .len, args := _, argTypes := #[9] }, _, _, _, _⟩ _; refine VG.mk (fun hb => by (try (have hc := And.left hb; have hb := And.right hb; rw [hc])); (try rw [hb]); exact y_lenS (by rfl) StrTy.is) ?_)
    | (show RM _ _ _ _ _ _ _ _ _ (.go 19 :: _); refine RM.callL (qw) trivial ?_; rintro z1 -; dsimp only [List.cons_append, List.nil_append])
    | (refine G.mixedM 11 [.go 0, .go 1, .go 2, .go 3, .go 4, .go 5, .go 9, .go 10, .go 14, .go 15, .go 6, .go 7, .go 8, .go 11, .go 12, .go 13, .go 16, .go 17, .go 18, .go 19] [true, true, true, false, false] ?_; dsimp only [maskH])
    | (show YK _ _ _ _ _ _ _; first | refine YK.mk (y_callA (qa) ⟨rfl, rfl⟩) ?_ | refine YK.mk (y_callA (qb) ⟨rfl, rfl⟩) ?_ | refine YK.mk (y_callA (qc) ⟨rfl, rfl⟩) ?_)
    | (show YK _ _ _ _ _ _ _; refine YK.ofV vAuto ?_)
    | (show VK _ _ _ _ _ _ _; refine VK.mk vAuto ?_)
    | (show RS _ _ _ _ _ _ _ _; first | (refine nxRS ?_) | (refine nxRS1 fun _ => ?_))
    | (show RM _ _ _ _ _ _ _ _ _ _; first | (refine nxRM ?_) | (refine nxRM1 fun _ => ?_))
    | (show YG _ _ _ _ _ _ _ _; refine YG.mk (fun hb => by (try (have hc := And.left hb; have hb := And.right hb; rw [hc])); (try rw [hb]); first | exact (y_callA (qa) ⟨rfl, rfl⟩) | exact (y_callA (qb) ⟨rfl, rfl⟩) | exact (y_callA (qc) ⟨rfl, rfl⟩) | exact V.y vAuto) ?_)
    | (show VG _ _ _ _ _ _ _ _; refine VG.mk (fun hb => by (try (have hc := And.left hb; have hb := And.right hb; rw [hc])); (try rw [hb]); exact vAuto) ?_)
    | (refine nxVS ?_)
    | (refine nxGS ?_)
    | (refine G.mixedA 15 [.go 0, .go 1, .go 2, .go 3, .go 4, .go 5, .go 6] ?_)
    | (refine G.mixedA 18 [.go 0, .go 3, .go 4, .go 5, .go 6, .go 7, .go 10, .go 12, .go 1, .go 2, .go 8, .go 9, .go 11, .go 13, .go 14, .go 15, .go 16] ?_)
    | (refine nxX ?_)
    | (refine G.condN rfl (fun hc => ?_) (fun hc => ?_) <;> (try first | exact False.elim hc | (exfalso; omega))))
    rename_i b8
    refine G.loop (ι := Nat × Sl) (fun x => [(6, pB b6), (8, pB b8), (29, v), (30, .int .i64 l.length), (31, .int .i64 (k : Int)), (55, .int .i64 (x.1 : Int))]) (fun x => [bldB b6 (pB b6) x.2, bldR x.2 (pgT y m d l k ++ trkT (nth l (k : Int)) x.1), Hl.blk b8 42 (cT (nth l (k : Int))), Hl.rd (nth l (k : Int)).dv.v cI 1 (nth l (k : Int)).dl, Hl.rd (nth l (k : Int)).gv.v cI 1 (nth l (k : Int)).gl, Hl.rd v cT 6 l]) (fun x => x.1 ≤ 25 ∧ (trkT (nth l (k : Int)) x.1).length ≤ 300 + 200 * x.1) (fun x => 25 - x.1) (0, z1) ⟨Nat.zero_le _, by simpa using hT0⟩ ⟨rfl, rfl, rfl, rfl, rfl, rfl, trivial⟩ (fun w h => h.sub (by repeat (first | exact List.Sublist.refl _ | apply List.Sublist.cons_cons | apply List.Sublist.cons))) ?_
    rintro ⟨h, z⟩ my ⟨f1, f2⟩ hmy
    dsimp only at f1 f2 hmy ⊢
    rcases Nat.lt_or_ge h 25 with hh | hh
    · have b1 := inB_nth o4 (i := (h : Int)) (by omega)
      have b2 := inB_nth o5 (i := (h : Int)) (by omega)
      have qi := itoaC_c (n := (h : Int)) (by omega)
      have qg := degrees_c (n := nth (nth l (k : Int)).gl (h : Int)) (by omega)
      have li := itoa_len (n := (h : Int)) (by omega)
      have lg := angT_len (n := nth (nth l (k : Int)).gl (h : Int)) (by omega)
      have ld := angT_len (n := max (nth (nth l (k : Int)).dl (h : Int)) (-(nth (nth l (k : Int)).dl (h : Int)))) (by omega)
      have hE : (entT (nth l (k : Int)) h).length ≤ 200 := by
        unfold entT entW
        simp only [List.length_append, List.length_singleton]
        split <;> simp only [List.length_cons, List.length_nil] <;> omega
      have hn : (trkT (nth l (k : Int)) (h + 1)).length ≤ 300 + 200 * (h + 1) := by rw [eT, List.length_append]; omega
      have qw2 := writeL_c b6 (pB b6) (.inr rfl) z (pgT y m d l k ++ trkT (nth l (k : Int)) h) (entT (nth l (k : Int)) h) (by rw [List.length_append]; omega)
      rw [List.append_assoc, ← eT] at qw2
      unfold entT entW at qw2
      by_cases hs : nth (nth l (k : Int)).dl (h : Int) < 0
      · have qs := degrees_c (n := -(nth (nth l (k : Int)).dl (h : Int))) (by omega)
        have ld2 := angT_len (n := -(nth (nth l (k : Int)).dl (h : Int))) (by omega)
        rw [if_pos hs, show max (nth (nth l (k : Int)).dl (h : Int)) (-(nth (nth l (k : Int)).dl (h : Int))) = -(nth (nth l (k : Int)).dl (h : Int)) by omega] at qw2
        repeat' (first
    | (show YK _ _ _ _ _ ⟨_, .call { callee := .builtin .len, args := _, argTypes := #[9] }, _, _, _, _⟩ _; refine YK.ofV (y_lenS (by rfl) StrTy.is) ?_)
    | (show VK _ _ _ _ _ ⟨_, .call { callee := .builtin .len, args := _, argTypes := #[9] }, _, _, _, _⟩ _; refine VK.mk (y_lenS (by rfl) StrTy.is) ?_)
    | (show YG _ _ _ _ _ _ ⟨_, .call { callee := .builtin .len, args := _, argTypes := #[9] }, _, _, _, _⟩ _; refine YG.mk (fun hb => by (try (have hc := And.left hb; have hb := And.right hb; rw [hc])); (try rw [hb]); exact V.y (y_lenS (by rfl) StrTy.is)) ?_)
    | (show VG _ _ _ _ _ _ ⟨_, .call { callee := .builtin .len, args := _, argTypes := #[9] }, _, _, _, _⟩ _; refine VG.mk (fun hb => by (try (have hc := And.left hb; have hb := And.right hb; rw [hc])); (try rw [hb]); exact y_lenS (by rfl) StrTy.is) ?_)
    | (show RM _ _ _ _ _ _ _ _ _ (.go 16 :: _); refine RM.callL (qw2) trivial ?_; rintro z2 -; dsimp only [List.cons_append, List.nil_append])
    | (refine G.mixedM 18 [.go 0, .go 3, .go 4, .go 5, .go 6, .go 7, .go 10, .go 12, .go 1, .go 2, .go 8, .go 9, .go 11, .go 13, .go 14, .go 15, .go 16] [false, false] ?_; dsimp only [maskH])
    | (show YK _ _ _ _ _ _ _; first | refine YK.mk (y_callIn (qi) (fun _ hw => hI.keep hw.ext) ⟨rfl, rfl⟩ (by decide +kernel)) ?_ | refine YK.mk (y_callIn (qg) (fun _ hw => hI.keep hw.ext) ⟨rfl, rfl⟩ (by decide +kernel)) ?_ | refine YK.mk (y_callIn (qs) (fun _ hw => hI.keep hw.ext) ⟨rfl, rfl⟩ (by decide +kernel)) ?_)
    | (show YK _ _ _ _ _ _ _; refine YK.ofV vAuto ?_)
    | (show VK _ _ _ _ _ _ _; refine VK.mk vAuto ?_)
    | (show RS _ _ _ _ _ _ _ _; first | (refine nxRS ?_) | (refine nxRS1 fun _ => ?_))
    | (show RM _ _ _ _ _ _ _ _ _ _; first | (refine nxRM ?_) | (refine nxRM1 fun _ => ?_))
    | (show YG _ _ _ _ _ _ _ _; refine YG.mk (fun hb => by (try (have hc := And.left hb; have hb := And.right hb; rw [hc])); (try rw [hb]); first | exact (y_callIn (qi) (fun _ hw => hI.keep hw.ext) ⟨rfl, rfl⟩ (by decide +kernel)) | exact (y_callIn (qg) (fun _ hw => hI.keep hw.ext) ⟨rfl, rfl⟩ (by decide +kernel)) | exact (y_callIn (qs) (fun _ hw => hI.keep hw.ext) ⟨rfl, rfl⟩ (by decide +kernel)) | exact V.y vAuto) ?_)
    | (show VG _ _ _ _ _ _ _ _; refine VG.mk (fun hb => by (try (have hc := And.left hb; have hb := And.right hb; rw [hc])); (try rw [hb]); exact vAuto) ?_)
    | (refine nxVS ?_)
    | (refine nxGS ?_)
    | (refine G.mixedA 11 [.go 0, .go 1, .go 2, .go 3, .go 4, .go 5, .go 9, .go 10, .go 14, .go 15, .go 6, .go 7, .go 8, .go 11, .go 12, .go 13, .go 16, .go 17, .go 18, .go 19] ?_)
    | (refine G.mixedA 15 [.go 0, .go 1, .go 2, .go 3, .go 4, .go 5, .go 6] ?_)
    | (refine nxX ?_)
    | (refine G.condN rfl (fun hc => ?_) (fun hc => ?_) <;> (try first | exact False.elim hc | (exfalso; omega))))
        exact X.again (h + 1, z2) ⟨by dsimp only; omega, hn⟩ (by dsimp only; omega) ⟨rfl, rfl, rfl, rfl, rfl, rfl, trivial⟩ (fun w h => h.sub (by repeat (first | exact List.Sublist.refl _ | apply List.Sublist.cons_cons | apply List.Sublist.cons)))
      · have qs := degrees_c (n := nth (nth l (k : Int)).dl (h : Int)) (by omega)
        have ld2 := angT_len (n := nth (nth l (k : Int)).dl (h : Int)) (by omega)
        rw [if_neg hs, show max (nth (nth l (k : Int)).dl (h : Int)) (-(nth (nth l (k : Int)).dl (h : Int))) = nth (nth l (k : Int)).dl (h : Int) by omega] at qw2
        repeat' (first
    | (show YK _ _ _ _ _ ⟨_, .call { callee := .builtin .len, args := _, argTypes := #[9] }, _, _, _, _⟩ _; refine YK.ofV (y_lenS (by rfl) StrTy.is) ?_)
    | (show VK _ _ _ _ _ ⟨_, .call { callee := .builtin .len, args := _, argTypes := #[9] }, _, _, _, _⟩ _; refine VK.mk (y_lenS (by rfl) StrTy.is) ?_)
    | (show YG _ _ _ _ _ _ ⟨_, .call { callee := .builtin .len, args := _, argTypes := #[9] }, _, _, _, _⟩ _; refine YG.mk (fun hb => by (try (have hc := And.left hb; have hb := And.right hb; rw [hc])); (try rw [hb]); exact V.y (y_lenS (by rfl) StrTy.is)) ?_)
    | (show VG _ _ _ _ _ _ ⟨_, .call { callee := .builtin .len, args := _, argTypes := #[9] }, _, _, _, _⟩ _; refine VG.mk (fun hb => by (try (have hc := And.left hb; have hb := And.right hb; rw [hc])); (try rw [hb]); exact y_lenS (by rfl) StrTy.is) ?_)
    | (show RM _ _ _ _ _ _ _ _ _ (.go 16 :: _); refine RM.callL (qw2) trivial ?_; rintro z2 -; dsimp only [List.cons_append, List.nil_append])
    | (refine G.mixedM 18 [.go 0, .go 3, .go 4, .go 5, .go 6, .go 7, .go 10, .go 12, .go 1, .go 2, .go 8, .go 9, .go 11, .go 13, .go 14, .go 15, .go 16] [false, false] ?_; dsimp only [maskH])
    | (show YK _ _ _ _ _ _ _; first | refine YK.mk (y_callIn (qi) (fun _ hw => hI.keep hw.ext) ⟨rfl, rfl⟩ (by decide +kernel)) ?_ | refine YK.mk (y_callIn (qg) (fun _ hw => hI.keep hw.ext) ⟨rfl, rfl⟩ (by decide +kernel)) ?_ | refine YK.mk (y_callIn (qs) (fun _ hw => hI.keep hw.ext) ⟨rfl, rfl⟩ (by decide +kernel)) ?_)
    | (show YK _ _ _ _ _ _ _; refine YK.ofV vAuto ?_)
    | (show VK _ _ _ _ _ _ _; refine VK.mk vAuto ?_)
    | (show RS _ _ _ _ _ _ _ _; first | (refine nxRS ?_) | (refine nxRS1 fun _ => ?_))
    | (show RM _ _ _ _ _ _ _ _ _ _; first | (refine nxRM ?_) | (refine nxRM1 fun _ => ?_))
    | (show YG _ _ _ _ _ _ _ _; refine YG.mk (fun hb => by (try (have hc := And.left hb; have hb := And.right hb; rw [hc])); (try rw [hb]); first | exact (y_callIn (qi) (fun _ hw => hI.keep hw.ext) ⟨rfl, rfl⟩ (by decide +kernel)) | exact (y_callIn (qg) (fun _ hw => hI.keep hw.ext) ⟨rfl, rfl⟩ (by decide +kernel)) | exact (y_callIn (qs) (fun _ hw => hI.keep hw.ext) ⟨rfl, rfl⟩ (by decide +kernel)) | exact V.y vAuto) ?_)
    | (show VG _ _ _ _ _ _ _ _; refine VG.mk (fun hb => by (try (have hc := And.left hb; have hb := And.right hb; rw [hc])); (try rw [hb]); exact vAuto) ?_)
    | (refine nxVS ?_)
    | (refine nxGS ?_)
    | (refine G.mixedA 11 [.go 0, .go 1, .go 2, .go 3, .go 4, .go 5, .go 9, .go 10, .go 14, .go 15, .go 6, .go 7, .go 8, .go 11, .go 12, .go 13, .go 16, .go 17, .go 18, .go 19] ?_)
    | (refine G.mixedA 15 [.go 0, .go 1, .go 2, .go 3, .go 4, .go 5, .go 6] ?_)
    | (refine nxX ?_)
    | (refine G.condN rfl (fun hc => ?_) (fun hc => ?_) <;> (try first | exact False.elim hc | (exfalso; omega))))
        exact X.again (h + 1, z2) ⟨by dsimp only; omega, hn⟩ (by dsimp only; omega) ⟨rfl, rfl, rfl, rfl, rfl, rfl, trivial⟩ (fun w h => h.sub (by repeat (first | exact List.Sublist.refl _ | apply List.Sublist.cons_cons | apply List.Sublist.cons)))
    · obtain rfl : h = 25 := by omega
      rw [← eP]
      repeat' (first
    | (refine nxV ?_)
    | (show RS _ _ _ _ _ _ _ _; first | (refine nxRS ?_) | (refine nxRS1 fun _ => ?_))
    | (show RM _ _ _ _ _ _ _ _ _ _; first | (refine nxRM ?_) | (refine nxRM1 fun _ => ?_))
    | (refine nxG ?_)
    | (refine G.mixedA 11 [.go 0, .go 1, .go 2, .go 3, .go 4, .go 5, .go 9, .go 10, .go 14, .go 15, .go 6, .go 7, .go 8, .go 11, .go 12, .go 13, .go 16, .go 17, .go 18, .go 19] ?_)
    | (refine G.mixedA 15 [.go 0, .go 1, .go 2, .go 3, .go 4, .go 5, .go 6] ?_)
    | (refine G.mixedA 18 [.go 0, .go 3, .go 4, .go 5, .go 6, .go 7, .go 10, .go 12, .go 1, .go 2, .go 8, .go 9, .go 11, .go 13, .go 14, .go 15, .go 16] ?_)
    | (refine nxX ?_)
    | (refine G.condN rfl (fun hc => ?_) (fun hc => ?_) <;> (try first | exact False.elim hc | (exfalso; omega))))
      exact X.again (k + 1, z) ⟨by dsimp only; omega, by rw [eP, List.length_append]; omega⟩ (by dsimp only; omega) ⟨rfl, rfl, rfl, rfl, trivial⟩ (fun w h => h.sub (by repeat (first | exact List.Sublist.refl _ | apply List.Sublist.cons_cons | apply List.Sublist.cons)))
  · obtain rfl : k = l.length := by omega
    repeat' (first
    | (refine RS.string ?_ (.inr rfl) (List.Mem.head _) (List.Mem.tail _ (List.Mem.head _)) ⟨rfl, rfl⟩)
    | (refine nxV ?_)
    | (show RS _ _ _ _ _ _ _ _; first | (refine nxRS ?_) | (refine nxRS1 fun _ => ?_))
    | (show RM _ _ _ _ _ _ _ _ _ _; first | (refine nxRM ?_) | (refine nxRM1 fun _ => ?_))
    | (refine nxG ?_)
    | (refine G.mixedA 11 [.go 0, .go 1, .go 2, .go 3, .go 4, .go 5, .go 9, .go 10, .go 14, .go 15, .go 6, .go 7, .go 8, .go 11, .go 12, .go 13, .go 16, .go 17, .go 18, .go 19] ?_)
    | (refine G.mixedA 15 [.go 0, .go 1, .go 2, .go 3, .go 4, .go 5, .go 6] ?_)
    | (refine G.mixedA 18 [.go 0, .go 3, .go 4, .go 5, .go 6, .go 7, .go 10, .go 12, .go 1, .go 2, .go 8, .go 9, .go 11, .go 13, .go 14, .go 15, .go 16] ?_)
    | (refine nxX ?_)
    | (refine G.condN rfl (fun hc => ?_) (fun hc => ?_) <;> (try first | exact False.elim hc | (exfalso; omega))))
    exact X.ret (vs := [_, _]) rfl ⟨rfl, rfl, rfl⟩ rfl (fun w hw => ⟨rfl, hw.ext⟩)
theorem ptext_f {y m d : Int} {v : Value} {l : List TrkT} (hf : l.length ≤ 12 → fitT l) (hb : pageB y m d l = false) : ContIn Tryz.prog (PgP v l) 22 [pgV y m d v] (.tuple [strV [], .int .i64 1].toArray) := fun w hP => by
  have pv := pvalid_c (y := y) (m := m) (d := d) (v := v) (l := l) hf
  rw [hb] at pv
  refine enter Tryz.func22 rfl rfl rfl (Hp := [Hl.rd v cT 6 l]) (fun h hm => by
    rcases List.mem_singleton.1 hm with rfl
    exact ⟨⟨hP.1, fun h => by cases h⟩, rfl⟩) ?_
  repeat' (first
    | (show YK _ _ _ _ _ ⟨_, .call { callee := .builtin .len, args := _, argTypes := #[9] }, _, _, _, _⟩ _; refine YK.ofV (y_lenS (by rfl) StrTy.is) ?_)
    | (show VK _ _ _ _ _ ⟨_, .call { callee := .builtin .len, args := _, argTypes := #[9] }, _, _, _, _⟩ _; refine VK.mk (y_lenS (by rfl) StrTy.is) ?_)
    | (show YG _ _ _ _ _ _ ⟨_, .call { callee := .builtin .len, args := _, argTypes := #[9] }, _, _, _, _⟩ _; refine YG.mk (fun hb => by (try (have hc := And.left hb; have hb := And.right hb; rw [hc])); (try rw [hb]); exact V.y (y_lenS (by rfl) StrTy.is)) ?_)
    | (show VG _ _ _ _ _ _ ⟨_, .call { callee := .builtin .len, args := _, argTypes := #[9] }, _, _, _, _⟩ _; refine VG.mk (fun hb => by (try (have hc := And.left hb; have hb := And.right hb; rw [hc])); (try rw [hb]); exact y_lenS (by rfl) StrTy.is) ?_)
    | (refine YK.mk (y_callIn pv (fun w hw => hP.keep hw.ext) ⟨rfl, rfl⟩ (by decide +kernel)) ?_)
    | (refine nxV ?_)
    | (show RS _ _ _ _ _ _ _ _; first | (refine nxRS ?_) | (refine nxRS1 fun _ => ?_))
    | (show RM _ _ _ _ _ _ _ _ _ _; first | (refine nxRM ?_) | (refine nxRM1 fun _ => ?_))
    | (refine nxG ?_)
    | (refine nxVS ?_)
    | (refine nxGS ?_)
    | (refine G.mixedA 11 [.go 0, .go 1, .go 2, .go 3, .go 4, .go 5, .go 9, .go 10, .go 14, .go 15, .go 6, .go 7, .go 8, .go 11, .go 12, .go 13, .go 16, .go 17, .go 18, .go 19] ?_)
    | (refine G.mixedA 15 [.go 0, .go 1, .go 2, .go 3, .go 4, .go 5, .go 6] ?_)
    | (refine G.mixedA 18 [.go 0, .go 3, .go 4, .go 5, .go 6, .go 7, .go 10, .go 12, .go 1, .go 2, .go 8, .go 9, .go 11, .go 13, .go 14, .go 15, .go 16] ?_)
    | (refine nxX ?_)
    | (refine G.condN rfl (fun hc => ?_) (fun hc => ?_) <;> (try first | exact False.elim hc | (exfalso; omega))))
  exact X.ret (vs := [_, _]) rfl ⟨rfl, rfl, rfl⟩ rfl (fun w hw => ⟨rfl, hw.ext⟩)
/-! ### The text is its lines -/
def lnsT (ls : List (List UInt8)) : List UInt8 := ls.flatMap fun x => x ++ [10]
theorem body_eq (nm : List UInt8) (a b c : Int) : bodyW nm (tenL a) (tenL b) (tenL c) = bodyLn nm a b c ++ [10] := by
  unfold bodyW bodyLn
  simp
theorem ent_eq (t : TrkT) (h : Nat) : entT t h = entLn (h : Int) (nth t.gl (h : Int)) (nth t.dl (h : Int)) ++ [10] := by
  unfold entT entW entLn
  split <;> simp
theorem trkT_eq (t : TrkT) : ∀ h : Nat, trkT t h = lnsT (bodyLn t.nm t.se t.pa t.be :: entLns t.gl t.dl h)
  | 0 => by
    unfold trkT lnsT entLns
    rw [body_eq]; simp
  | h + 1 => by
    have ih := trkT_eq t h
    show trkT t h ++ entT t h = _
    rw [ih, ent_eq]
    unfold lnsT entLns
    rw [List.range_succ, List.map_append]
    simp
theorem pgT_eq (y m d : Int) (l : List TrkT) : ∀ k : Nat, k ≤ l.length → pgT y m d l k = lnsT (dateLn y m d :: ((l.take k).map trkP).flatMap trkLns)
  | 0, _ => by
    show dateW y m d = _
    unfold dateW lnsT dateLn dateL
    simp
  | k + 1, h => by
    have ih := pgT_eq y m d l k (by omega)
    show pgT y m d l k ++ trkT (nth l (k : Int)) 25 = _
    have e := nth_some (l := l) (m := (k : Int)) (by omega) (by omega)
    rw [Int.toNat_natCast] at e
    rw [ih, trkT_eq, List.take_add_one, e]
    unfold lnsT
    simp [trkLns, trkP]
theorem pgT_all (y m d : Int) (l : List TrkT) : pgT y m d l l.length = lnsT (pageLns y m d (l.map trkP)) := by
  rw [pgT_eq y m d l l.length (Nat.le_refl _), List.take_length]
  rfl
end Go.Proofs.YtpekkcahehhkmaaGreatDoor
/- The reference of chapter 13: texts. -/
set_option linter.unusedVariables false
set_option maxHeartbeats 4000000
namespace Go.Proofs.YtpekkcahehhkmaaGreatDoor
open Go.RowKit

theorem RS.lit1B {P : Program} {ops : Array Oper} {Q : Exit → Act → World → Prop} {n : Nat} {L : FL} {w0 : World} {H : List Hl} {dd : Tmp} {ty : TypeId} {pos : String} {af : Array Edge} {t e : TypeId} {bytes : Nat} {x : Operand} {b : Int} {rest : List Oper} (h : ∀ v' : Sl, RS P ops Q n ((dd, v'.v) :: L) w0 (Hl.rw v'.v e cB 1 [b] :: H) rest) (hx : evO L x = some (.int .u8 b) := by rfl) [ht : RowTy P t e 1 bytes] (hd : Nat.blt dd n = true := by rfl) :
    RS P ops Q n L w0 H (⟨some dd, .buildSlice t 1 #[(0, x)], ty, pos, af, none⟩ :: rest) := RS.actX rfl (x_lit (parts := [(0, x)]) (vs := [.int .u8 b]) (f := cB) (l := [b]) (k := 1) ⟨hx, rfl⟩ rfl rfl rfl rfl rfl rfl (rowTy_B ht.is) hd) fun v' _ => h v'
theorem y_strOf1 {P : Program} {n : Nat} {L : FL} {w0 : World} {H : List Hl} {d : Option Tmp} {ty : TypeId} {pos : String} {af : Array Edge} {g : Option (Nat × Bool)} {x : Operand} {t t' e : TypeId} {v : Value} {b : Int} {c : UInt8} (hx : evO L x = some v) (h : RdT H v cB 1 [b]) (h1 : P.underlying t = some (.slice e)) (h2 : P.underlying e = some (.int .u8)) (h3 : P.underlying t' = some .string) (hb : UInt8.ofNat b.toNat = c) : V P n L w0 H ⟨d, .convert t t' x, ty, pos, af, g⟩ (strV [c]) := by
  subst hb
  exact y_strOf hx h h1 h2 h3 (by simp)
/-- The digits of a number, at least so many. -/
def rD (n l : Nat) : List UInt8 := if h : n = 0 ∧ l = 0 then [] else rD (n / 10) (l - 1) ++ [dgt (n % 10)]
termination_by n + l
decreasing_by omega
theorem rD_zero : rD 0 0 = [] := by unfold rD; rfl
theorem rD_step {n l : Nat} (h : ¬ (n = 0 ∧ l = 0)) : rD n l = rD (n / 10) (l - 1) ++ [dgt (n % 10)] := by
  conv => lhs; unfold rD
  rw [dif_neg h]
theorem rdigits_c {n l : Nat} (h : n ≤ 1000000000 ∧ l ≤ 20) : Cont Tryz.prog 91 [.int .i64 (n : Int), .int .i64 (l : Int)] (strV (rD n l)) := fun w => by
  refine enter0 Tryz.func91 rfl rfl rfl ?_
  repeat' (first
    | (show YK _ _ _ _ _ ⟨_, .call { callee := .builtin .len, args := _, argTypes := #[9] }, _, _, _, _⟩ _; refine YK.ofV (y_lenS (by rfl) StrTy.is) ?_)
    | (show VK _ _ _ _ _ ⟨_, .call { callee := .builtin .len, args := _, argTypes := #[9] }, _, _, _, _⟩ _; refine VK.mk (y_lenS (by rfl) StrTy.is) ?_)
    | (show YG _ _ _ _ _ _ ⟨_, .call { callee := .builtin .len, args := _, argTypes := #[9] }, _, _, _, _⟩ _; refine YG.mk (fun hb => by (try (have hc := And.left hb; have hb := And.right hb; rw [hc])); (try rw [hb]); exact V.y (y_lenS (by rfl) StrTy.is)) ?_)
    | (show VG _ _ _ _ _ _ ⟨_, .call { callee := .builtin .len, args := _, argTypes := #[9] }, _, _, _, _⟩ _; refine VG.mk (fun hb => by (try (have hc := And.left hb; have hb := And.right hb; rw [hc])); (try rw [hb]); exact y_lenS (by rfl) StrTy.is) ?_)
    | (refine nxV ?_)
    | (show RS _ _ _ _ _ _ _ _; first | (refine nxRS ?_) | (refine nxRS1 fun _ => ?_))
    | (show RM _ _ _ _ _ _ _ _ _ _; first | (refine nxRM ?_) | (refine nxRM1 fun _ => ?_))
    | (refine nxG ?_)
    | (refine nxVS ?_)
    | (refine nxGS ?_)
    | (refine nxX ?_)
    | (refine G.condN rfl (fun hc => ?_) (fun hc => ?_) <;> (try first | exact False.elim hc | (exfalso; omega))))
  refine G.loop (ι := Nat × Int × List UInt8) (fun x => [(0, .int .i64 (x.1 : Int)), (1, .int .i64 x.2.1), (5, strV x.2.2)]) (fun _ => []) (fun x => (-1000000000 + (x.1 : Int) ≤ x.2.1 ∧ x.2.1 ≤ 20) ∧ x.1 ≤ 1000000000 ∧ x.2.2.length + x.1 + x.2.1.toNat ≤ 1000000020 ∧ rD x.1 x.2.1.toNat ++ x.2.2 = rD n l) (fun x => x.1 + x.2.1.toNat) (n, (l : Int), []) ⟨by dsimp only; omega, by dsimp only; omega, by dsimp only [List.length_nil]; omega, by simp⟩ ⟨rfl, rfl, rfl, trivial⟩ (fun w h => h) ?_
  rintro ⟨a, b, s⟩ mx ⟨g1, g2, g3, g4⟩ hmx
  dsimp only at g1 g2 g3 g4 hmx ⊢
  by_cases hz : (a : Int) ≤ 0 ∧ b ≤ 0
  · have e : rD n l = s := by rw [← g4, show a = 0 by omega, show b.toNat = 0 by omega, rD_zero, List.nil_append]
    repeat' (first
    | (show YK _ _ _ _ _ ⟨_, .call { callee := .builtin .len, args := _, argTypes := #[9] }, _, _, _, _⟩ _; refine YK.ofV (y_lenS (by rfl) StrTy.is) ?_)
    | (show VK _ _ _ _ _ ⟨_, .call { callee := .builtin .len, args := _, argTypes := #[9] }, _, _, _, _⟩ _; refine VK.mk (y_lenS (by rfl) StrTy.is) ?_)
    | (show YG _ _ _ _ _ _ ⟨_, .call { callee := .builtin .len, args := _, argTypes := #[9] }, _, _, _, _⟩ _; refine YG.mk (fun hb => by (try (have hc := And.left hb; have hb := And.right hb; rw [hc])); (try rw [hb]); exact V.y (y_lenS (by rfl) StrTy.is)) ?_)
    | (show VG _ _ _ _ _ _ ⟨_, .call { callee := .builtin .len, args := _, argTypes := #[9] }, _, _, _, _⟩ _; refine VG.mk (fun hb => by (try (have hc := And.left hb; have hb := And.right hb; rw [hc])); (try rw [hb]); exact y_lenS (by rfl) StrTy.is) ?_)
    | (refine nxV ?_)
    | (show RS _ _ _ _ _ _ _ _; first | (refine nxRS ?_) | (refine nxRS1 fun _ => ?_))
    | (show RM _ _ _ _ _ _ _ _ _ _; first | (refine nxRM ?_) | (refine nxRM1 fun _ => ?_))
    | (refine nxG ?_)
    | (refine nxVS ?_)
    | (refine nxGS ?_)
    | (refine nxX ?_)
    | (refine G.condN rfl (fun hc => ?_) (fun hc => ?_) <;> (try first | exact False.elim hc | (exfalso; omega))))
    exact X.ret (vs := [_]) rfl ⟨rfl, rfl⟩ rfl (fun w hw => ⟨by rw [e], hw.ext⟩)
  · have hb : (UInt8.ofNat (48 + (a : Int) % 10).toNat) = dgt (a % 10) := by unfold dgt; congr 1 <;> omega
    rw [rD_step (by omega), List.append_assoc] at g4
    have hc1 : 0 ≤ 48 + (a : Int) % 10 ∧ 48 + (a : Int) % 10 ≤ 255 := by omega
    repeat' (first
    | (show YK _ _ _ _ _ ⟨_, .call { callee := .builtin .len, args := _, argTypes := #[9] }, _, _, _, _⟩ _; refine YK.ofV (y_lenS (by rfl) StrTy.is) ?_)
    | (show VK _ _ _ _ _ ⟨_, .call { callee := .builtin .len, args := _, argTypes := #[9] }, _, _, _, _⟩ _; refine VK.mk (y_lenS (by rfl) StrTy.is) ?_)
    | (show YG _ _ _ _ _ _ ⟨_, .call { callee := .builtin .len, args := _, argTypes := #[9] }, _, _, _, _⟩ _; refine YG.mk (fun hb => by (try (have hc := And.left hb; have hb := And.right hb; rw [hc])); (try rw [hb]); exact V.y (y_lenS (by rfl) StrTy.is)) ?_)
    | (show VG _ _ _ _ _ _ ⟨_, .call { callee := .builtin .len, args := _, argTypes := #[9] }, _, _, _, _⟩ _; refine VG.mk (fun hb => by (try (have hc := And.left hb; have hb := And.right hb; rw [hc])); (try rw [hb]); exact y_lenS (by rfl) StrTy.is) ?_)
    | (show RS _ _ _ _ _ _ _ (⟨some _, .buildSlice _ _ _, _, _, _, _⟩ :: _); refine RS.lit1B (fun v' => ?_))
    | (show YK _ _ _ _ _ ⟨_, .convert 56 _ _, _, _, _, _⟩ _; refine YK.ofV (y_strOf1 (e := 5) (b := 48 + (a : Int) % 10) (by rfl) (by exact rdA) (by kernel_rfl) (by kernel_rfl) (by kernel_rfl) hb) ?_)
    | (refine nxV ?_)
    | (show RS _ _ _ _ _ _ _ _; first | (refine nxRS ?_) | (refine nxRS1 fun _ => ?_))
    | (show RM _ _ _ _ _ _ _ _ _ _; first | (refine nxRM ?_) | (refine nxRM1 fun _ => ?_))
    | (refine nxG ?_)
    | (refine nxVS ?_)
    | (refine nxGS ?_)
    | (refine nxX ?_)
    | (refine G.condN rfl (fun hc => ?_) (fun hc => ?_) <;> (try first | exact False.elim hc | (exfalso; omega))))
    refine X.again (a / 10, b - 1, dgt (a % 10) :: s) ⟨by dsimp only; omega, by dsimp only; omega, by dsimp only [List.length_cons]; omega, by dsimp only; rw [show (b - 1).toNat = b.toNat - 1 by omega]; exact g4⟩ (by dsimp only; omega) ⟨rfl, rfl, rfl, trivial⟩ ?_
    exact fun w h => h.sub (by repeat (first | exact List.Sublist.refl _ | apply List.Sublist.cons_cons | apply List.Sublist.cons))
theorem r5digits_c {n l : Nat} (h : n ≤ 1000000000 ∧ l ≤ 20) : Cont Tryz.prog 93 [.int .i64 (n : Int), .int .i64 (l : Int)] (strV (rD n l)) := fun w => by
  refine enter0 Tryz.func93 rfl rfl rfl ?_
  repeat' (first
    | (show YK _ _ _ _ _ ⟨_, .call { callee := .builtin .len, args := _, argTypes := #[9] }, _, _, _, _⟩ _; refine YK.ofV (y_lenS (by rfl) StrTy.is) ?_)
    | (show VK _ _ _ _ _ ⟨_, .call { callee := .builtin .len, args := _, argTypes := #[9] }, _, _, _, _⟩ _; refine VK.mk (y_lenS (by rfl) StrTy.is) ?_)
    | (show YG _ _ _ _ _ _ ⟨_, .call { callee := .builtin .len, args := _, argTypes := #[9] }, _, _, _, _⟩ _; refine YG.mk (fun hb => by (try (have hc := And.left hb; have hb := And.right hb; rw [hc])); (try rw [hb]); exact V.y (y_lenS (by rfl) StrTy.is)) ?_)
    | (show VG _ _ _ _ _ _ ⟨_, .call { callee := .builtin .len, args := _, argTypes := #[9] }, _, _, _, _⟩ _; refine VG.mk (fun hb => by (try (have hc := And.left hb; have hb := And.right hb; rw [hc])); (try rw [hb]); exact y_lenS (by rfl) StrTy.is) ?_)
    | (refine nxV ?_)
    | (show RS _ _ _ _ _ _ _ _; first | (refine nxRS ?_) | (refine nxRS1 fun _ => ?_))
    | (show RM _ _ _ _ _ _ _ _ _ _; first | (refine nxRM ?_) | (refine nxRM1 fun _ => ?_))
    | (refine nxG ?_)
    | (refine nxVS ?_)
    | (refine nxGS ?_)
    | (refine nxX ?_)
    | (refine G.condN rfl (fun hc => ?_) (fun hc => ?_) <;> (try first | exact False.elim hc | (exfalso; omega))))
  refine G.loop (ι := Nat × Int × List UInt8) (fun x => [(0, .int .i64 (x.1 : Int)), (1, .int .i64 x.2.1), (5, strV x.2.2)]) (fun _ => []) (fun x => (-1000000000 + (x.1 : Int) ≤ x.2.1 ∧ x.2.1 ≤ 20) ∧ x.1 ≤ 1000000000 ∧ x.2.2.length + x.1 + x.2.1.toNat ≤ 1000000020 ∧ rD x.1 x.2.1.toNat ++ x.2.2 = rD n l) (fun x => x.1 + x.2.1.toNat) (n, (l : Int), []) ⟨by dsimp only; omega, by dsimp only; omega, by dsimp only [List.length_nil]; omega, by simp⟩ ⟨rfl, rfl, rfl, trivial⟩ (fun w h => h) ?_
  rintro ⟨a, b, s⟩ mx ⟨g1, g2, g3, g4⟩ hmx
  dsimp only at g1 g2 g3 g4 hmx ⊢
  by_cases hz : (a : Int) ≤ 0 ∧ b ≤ 0
  · have e : rD n l = s := by rw [← g4, show a = 0 by omega, show b.toNat = 0 by omega, rD_zero, List.nil_append]
    repeat' (first
    | (show YK _ _ _ _ _ ⟨_, .call { callee := .builtin .len, args := _, argTypes := #[9] }, _, _, _, _⟩ _; refine YK.ofV (y_lenS (by rfl) StrTy.is) ?_)
    | (show VK _ _ _ _ _ ⟨_, .call { callee := .builtin .len, args := _, argTypes := #[9] }, _, _, _, _⟩ _; refine VK.mk (y_lenS (by rfl) StrTy.is) ?_)
    | (show YG _ _ _ _ _ _ ⟨_, .call { callee := .builtin .len, args := _, argTypes := #[9] }, _, _, _, _⟩ _; refine YG.mk (fun hb => by (try (have hc := And.left hb; have hb := And.right hb; rw [hc])); (try rw [hb]); exact V.y (y_lenS (by rfl) StrTy.is)) ?_)
    | (show VG _ _ _ _ _ _ ⟨_, .call { callee := .builtin .len, args := _, argTypes := #[9] }, _, _, _, _⟩ _; refine VG.mk (fun hb => by (try (have hc := And.left hb; have hb := And.right hb; rw [hc])); (try rw [hb]); exact y_lenS (by rfl) StrTy.is) ?_)
    | (refine nxV ?_)
    | (show RS _ _ _ _ _ _ _ _; first | (refine nxRS ?_) | (refine nxRS1 fun _ => ?_))
    | (show RM _ _ _ _ _ _ _ _ _ _; first | (refine nxRM ?_) | (refine nxRM1 fun _ => ?_))
    | (refine nxG ?_)
    | (refine nxVS ?_)
    | (refine nxGS ?_)
    | (refine nxX ?_)
    | (refine G.condN rfl (fun hc => ?_) (fun hc => ?_) <;> (try first | exact False.elim hc | (exfalso; omega))))
    exact X.ret (vs := [_]) rfl ⟨rfl, rfl⟩ rfl (fun w hw => ⟨by rw [e], hw.ext⟩)
  · have hb : (UInt8.ofNat (48 + (a : Int) % 10).toNat) = dgt (a % 10) := by unfold dgt; congr 1 <;> omega
    rw [rD_step (by omega), List.append_assoc] at g4
    have hc1 : 0 ≤ 48 + (a : Int) % 10 ∧ 48 + (a : Int) % 10 ≤ 255 := by omega
    repeat' (first
    | (show YK _ _ _ _ _ ⟨_, .call { callee := .builtin .len, args := _, argTypes := #[9] }, _, _, _, _⟩ _; refine YK.ofV (y_lenS (by rfl) StrTy.is) ?_)
    | (show VK _ _ _ _ _ ⟨_, .call { callee := .builtin .len, args := _, argTypes := #[9] }, _, _, _, _⟩ _; refine VK.mk (y_lenS (by rfl) StrTy.is) ?_)
    | (show YG _ _ _ _ _ _ ⟨_, .call { callee := .builtin .len, args := _, argTypes := #[9] }, _, _, _, _⟩ _; refine YG.mk (fun hb => by (try (have hc := And.left hb; have hb := And.right hb; rw [hc])); (try rw [hb]); exact V.y (y_lenS (by rfl) StrTy.is)) ?_)
    | (show VG _ _ _ _ _ _ ⟨_, .call { callee := .builtin .len, args := _, argTypes := #[9] }, _, _, _, _⟩ _; refine VG.mk (fun hb => by (try (have hc := And.left hb; have hb := And.right hb; rw [hc])); (try rw [hb]); exact y_lenS (by rfl) StrTy.is) ?_)
    | (show RS _ _ _ _ _ _ _ (⟨some _, .buildSlice _ _ _, _, _, _, _⟩ :: _); refine RS.lit1B (fun v' => ?_))
    | (show YK _ _ _ _ _ ⟨_, .convert 56 _ _, _, _, _, _⟩ _; refine YK.ofV (y_strOf1 (e := 5) (b := 48 + (a : Int) % 10) (by rfl) (by exact rdA) (by kernel_rfl) (by kernel_rfl) (by kernel_rfl) hb) ?_)
    | (refine nxV ?_)
    | (show RS _ _ _ _ _ _ _ _; first | (refine nxRS ?_) | (refine nxRS1 fun _ => ?_))
    | (show RM _ _ _ _ _ _ _ _ _ _; first | (refine nxRM ?_) | (refine nxRM1 fun _ => ?_))
    | (refine nxG ?_)
    | (refine nxVS ?_)
    | (refine nxGS ?_)
    | (refine nxX ?_)
    | (refine G.condN rfl (fun hc => ?_) (fun hc => ?_) <;> (try first | exact False.elim hc | (exfalso; omega))))
    refine X.again (a / 10, b - 1, dgt (a % 10) :: s) ⟨by dsimp only; omega, by dsimp only; omega, by dsimp only [List.length_cons]; omega, by dsimp only; rw [show (b - 1).toNat = b.toNat - 1 by omega]; exact g4⟩ (by dsimp only; omega) ⟨rfl, rfl, rfl, trivial⟩ ?_
    exact fun w h => h.sub (by repeat (first | exact List.Sublist.refl _ | apply List.Sublist.cons_cons | apply List.Sublist.cons))
theorem rD_small : ∀ (k n : Nat), n ≤ k → 0 < n → rD n 0 = Lib.decDigits n
  | 0, n, h, h0 => by omega
  | k + 1, n, h, h0 => by
    rw [rD_step (by omega)]
    by_cases hn : n < 10
    · rw [show n / 10 = 0 by omega, rD_zero, deci_lt hn, show n % 10 = n by omega]; rfl
    · rw [deci_ge (by omega), rD_small k (n / 10) (by omega) (by omega)]
theorem rD_one (n : Nat) : rD n 1 = Lib.decDigits n := by
  rw [rD_step (by omega)]
  by_cases hn : n < 10
  · rw [show n / 10 = 0 by omega, rD_zero, deci_lt hn, show n % 10 = n by omega]; rfl
  · rw [deci_ge (by omega), rD_small (n / 10) (n / 10) (Nat.le_refl _) (by omega)]
theorem rpower_c : Cont Tryz.prog 92 [.int .i64 0] (.int .i64 1) := fun w => by
  refine enter0 Tryz.func92 rfl rfl rfl ?_
  repeat' (first
    | (refine nxV ?_)
    | (show RS _ _ _ _ _ _ _ _; first | (refine nxRS ?_) | (refine nxRS1 fun _ => ?_))
    | (show RM _ _ _ _ _ _ _ _ _ _; first | (refine nxRM ?_) | (refine nxRM1 fun _ => ?_))
    | (refine nxG ?_)
    | (refine nxX ?_)
    | (refine G.condN rfl (fun hc => ?_) (fun hc => ?_) <;> (try first | exact False.elim hc | (exfalso; omega))))
  refine G.loop (ι := Unit) (fun _ => [(0, .int .i64 0), (3, .int .i64 1), (4, .int .i64 0)]) (fun _ => []) (fun _ => True) (fun _ => 0) () trivial ⟨rfl, rfl, rfl, trivial⟩ (fun w h => h) ?_
  rintro ⟨⟩ mx - -
  repeat' (first
    | (refine nxV ?_)
    | (show RS _ _ _ _ _ _ _ _; first | (refine nxRS ?_) | (refine nxRS1 fun _ => ?_))
    | (show RM _ _ _ _ _ _ _ _ _ _; first | (refine nxRM ?_) | (refine nxRM1 fun _ => ?_))
    | (refine nxG ?_)
    | (refine nxX ?_)
    | (refine G.condN rfl (fun hc => ?_) (fun hc => ?_) <;> (try first | exact False.elim hc | (exfalso; omega))))
  exact X.ret (vs := [_]) rfl ⟨rfl, rfl⟩ rfl (fun w hw => ⟨rfl, hw.ext⟩)
theorem rformat_c {n : Nat} (h : n ≤ 1000000000) : Cont Tryz.prog 59 [.int .i64 (n : Int), .int .i64 0] (strV (Lib.itoa (n : Int))) := fun w => by
  have h1 := rdigits_c (n := n) (l := 1) (by omega)
  rw [rD_one, ← itoa_of_nat] at h1
  have h1' : Cont Tryz.prog 91 [.int .i64 ((n : Int) / 1), .int .i64 1] (strV (Lib.itoa (n : Int))) := by rw [Int.ediv_one]; exact h1
  have hb : (Lib.itoa (n : Int)).length ≤ 100 := by
    have := pad_len (n := (n : Int)) (k := 0) (by omega) (by decide)
    unfold padL at this
    rw [List.length_append] at this
    omega
  refine enter0 Tryz.func59 rfl rfl rfl ?_
  repeat' (first
    | (show YK _ _ _ _ _ ⟨_, .call { callee := .builtin .len, args := _, argTypes := #[9] }, _, _, _, _⟩ _; refine YK.ofV (y_lenS (by rfl) StrTy.is) ?_)
    | (show VK _ _ _ _ _ ⟨_, .call { callee := .builtin .len, args := _, argTypes := #[9] }, _, _, _, _⟩ _; refine VK.mk (y_lenS (by rfl) StrTy.is) ?_)
    | (show YG _ _ _ _ _ _ ⟨_, .call { callee := .builtin .len, args := _, argTypes := #[9] }, _, _, _, _⟩ _; refine YG.mk (fun hb => by (try (have hc := And.left hb; have hb := And.right hb; rw [hc])); (try rw [hb]); exact V.y (y_lenS (by rfl) StrTy.is)) ?_)
    | (show VG _ _ _ _ _ _ ⟨_, .call { callee := .builtin .len, args := _, argTypes := #[9] }, _, _, _, _⟩ _; refine VG.mk (fun hb => by (try (have hc := And.left hb; have hb := And.right hb; rw [hc])); (try rw [hb]); exact y_lenS (by rfl) StrTy.is) ?_)
    | (show YK _ _ _ _ _ _ _; first | refine YK.mk (y_callA (rpower_c) ⟨rfl, rfl⟩) ?_ | refine YK.mk (y_callA (h1') ⟨rfl, rfl, rfl⟩) ?_)
    | (show YK _ _ _ _ _ _ _; refine YK.ofV vAuto ?_)
    | (show VK _ _ _ _ _ _ _; refine VK.mk vAuto ?_)
    | (show RS _ _ _ _ _ _ _ _; first | (refine nxRS ?_) | (refine nxRS1 fun _ => ?_))
    | (show RM _ _ _ _ _ _ _ _ _ _; first | (refine nxRM ?_) | (refine nxRM1 fun _ => ?_))
    | (show YG _ _ _ _ _ _ _ _; refine YG.mk (fun hb => by (try (have hc := And.left hb; have hb := And.right hb; rw [hc])); (try rw [hb]); first | exact (y_callA (rpower_c) ⟨rfl, rfl⟩) | exact (y_callA (h1') ⟨rfl, rfl, rfl⟩) | exact V.y vAuto) ?_)
    | (show VG _ _ _ _ _ _ _ _; refine VG.mk (fun hb => by (try (have hc := And.left hb; have hb := And.right hb; rw [hc])); (try rw [hb]); exact vAuto) ?_)
    | (refine nxVS ?_)
    | (refine nxGS ?_)
    | (refine nxX ?_)
    | (refine G.condN rfl (fun hc => ?_) (fun hc => ?_) <;> (try first | exact False.elim hc | (exfalso; omega))))
  exact X.ret (vs := [_]) rfl ⟨rfl, rfl⟩ rfl (fun w hw => ⟨rfl, hw.ext⟩)
theorem repeat_one (c : UInt8) : ∀ j : Nat, Lib.repeatL [c] j = List.replicate j c
  | 0 => by unfold Lib.repeatL; rfl
  | j + 1 => by
    show [c] ++ Lib.repeatL [c] j = _
    rw [repeat_one c j]; rfl
theorem rpadded_c {n : Nat} {k : Int} (h : n ≤ 1000000000) (hk : 0 ≤ k ∧ k ≤ 10) : Cont Tryz.prog 90 [.int .i64 (n : Int), .int .i64 k] (strV (padL (n : Int) k)) := fun w => by
  have h1 := rformat_c h
  have hb : (Lib.itoa (n : Int)).length ≤ 100 := by
    have := pad_len (n := (n : Int)) (k := 0) (by omega) (by decide)
    unfold padL at this
    rw [List.length_append] at this
    omega
  unfold padL
  rw [repeat_one]
  obtain ⟨s0, hs⟩ : ∃ s0, Lib.itoa (n : Int) = s0 := ⟨_, rfl⟩
  rw [hs] at h1 hb ⊢
  refine enter0 Tryz.func90 rfl rfl rfl ?_
  repeat' (first
    | (show YK _ _ _ _ _ _ _; first | refine YK.mk (y_callA (h1) ⟨rfl, rfl, rfl⟩) ?_)
    | (show YK _ _ _ _ _ _ _; refine YK.ofV vAuto ?_)
    | (show VK _ _ _ _ _ _ _; refine VK.mk vAuto ?_)
    | (show RS _ _ _ _ _ _ _ _; first | (refine nxRS ?_) | (refine nxRS1 fun _ => ?_))
    | (show RM _ _ _ _ _ _ _ _ _ _; first | (refine nxRM ?_) | (refine nxRM1 fun _ => ?_))
    | (show YG _ _ _ _ _ _ _ _; refine YG.mk (fun hb => by (try (have hc := And.left hb; have hb := And.right hb; rw [hc])); (try rw [hb]); first | exact (y_callA (h1) ⟨rfl, rfl, rfl⟩) | exact V.y vAuto) ?_)
    | (show VG _ _ _ _ _ _ _ _; refine VG.mk (fun hb => by (try (have hc := And.left hb; have hb := And.right hb; rw [hc])); (try rw [hb]); exact vAuto) ?_)
    | (refine nxX ?_)
    | (refine G.condN rfl (fun hc => ?_) (fun hc => ?_) <;> (try first | exact False.elim hc | (exfalso; omega))))
  refine G.loop (ι := Nat) (fun j => [(1, .int .i64 k), (5, strV (List.replicate j 48 ++ s0))]) (fun _ => []) (fun j => j = 0 ∨ (j : Int) + s0.length ≤ k) (fun j => 20 - j) 0 (.inl rfl) ⟨rfl, rfl, trivial⟩ (fun w h => h) ?_
  rintro j mx g1 hmx
  have hl : (List.replicate j (48 : UInt8) ++ s0).length = j + s0.length := by simp
  by_cases hj : (j : Int) + s0.length < k
  · repeat' (first
    | (show YK _ _ _ _ _ ⟨_, .call { callee := .builtin .len, args := _, argTypes := #[9] }, _, _, _, _⟩ _; refine YK.ofV (y_lenS (by rfl) StrTy.is) ?_)
    | (show VK _ _ _ _ _ ⟨_, .call { callee := .builtin .len, args := _, argTypes := #[9] }, _, _, _, _⟩ _; refine VK.mk (y_lenS (by rfl) StrTy.is) ?_)
    | (show YG _ _ _ _ _ _ ⟨_, .call { callee := .builtin .len, args := _, argTypes := #[9] }, _, _, _, _⟩ _; refine YG.mk (fun hb => by (try (have hc := And.left hb; have hb := And.right hb; rw [hc])); (try rw [hb]); exact V.y (y_lenS (by rfl) StrTy.is)) ?_)
    | (show VG _ _ _ _ _ _ ⟨_, .call { callee := .builtin .len, args := _, argTypes := #[9] }, _, _, _, _⟩ _; refine VG.mk (fun hb => by (try (have hc := And.left hb; have hb := And.right hb; rw [hc])); (try rw [hb]); exact y_lenS (by rfl) StrTy.is) ?_)
    | (refine nxV ?_)
    | (show RS _ _ _ _ _ _ _ _; first | (refine nxRS ?_) | (refine nxRS1 fun _ => ?_))
    | (show RM _ _ _ _ _ _ _ _ _ _; first | (refine nxRM ?_) | (refine nxRM1 fun _ => ?_))
    | (refine nxG ?_)
    | (refine nxVS ?_)
    | (refine nxGS ?_)
    | (refine nxX ?_)
    | (refine G.condN rfl (fun hc => ?_) (fun hc => ?_) <;> (try first | exact False.elim hc | (exfalso; omega))))
    refine X.again (j + 1) (.inr (by omega)) (by omega) ⟨rfl, rfl, trivial⟩ ?_
    exact fun w h => h.sub (by repeat (first | exact List.Sublist.refl _ | apply List.Sublist.cons_cons | apply List.Sublist.cons))
  · have e : (max 0 (k - (s0.length : Int))).toNat = j := by omega
    repeat' (first
    | (show YK _ _ _ _ _ ⟨_, .call { callee := .builtin .len, args := _, argTypes := #[9] }, _, _, _, _⟩ _; refine YK.ofV (y_lenS (by rfl) StrTy.is) ?_)
    | (show VK _ _ _ _ _ ⟨_, .call { callee := .builtin .len, args := _, argTypes := #[9] }, _, _, _, _⟩ _; refine VK.mk (y_lenS (by rfl) StrTy.is) ?_)
    | (show YG _ _ _ _ _ _ ⟨_, .call { callee := .builtin .len, args := _, argTypes := #[9] }, _, _, _, _⟩ _; refine YG.mk (fun hb => by (try (have hc := And.left hb; have hb := And.right hb; rw [hc])); (try rw [hb]); exact V.y (y_lenS (by rfl) StrTy.is)) ?_)
    | (show VG _ _ _ _ _ _ ⟨_, .call { callee := .builtin .len, args := _, argTypes := #[9] }, _, _, _, _⟩ _; refine VG.mk (fun hb => by (try (have hc := And.left hb; have hb := And.right hb; rw [hc])); (try rw [hb]); exact y_lenS (by rfl) StrTy.is) ?_)
    | (refine nxV ?_)
    | (show RS _ _ _ _ _ _ _ _; first | (refine nxRS ?_) | (refine nxRS1 fun _ => ?_))
    | (show RM _ _ _ _ _ _ _ _ _ _; first | (refine nxRM ?_) | (refine nxRM1 fun _ => ?_))
    | (refine nxG ?_)
    | (refine nxVS ?_)
    | (refine nxGS ?_)
    | (refine nxX ?_)
    | (refine G.condN rfl (fun hc => ?_) (fun hc => ?_) <;> (try first | exact False.elim hc | (exfalso; omega))))
    exact X.ret (vs := [_]) rfl ⟨rfl, rfl⟩ rfl (fun w hw => ⟨by rw [e], hw.ext⟩)
theorem rtext_c {y m d : Int} (hv : validB y m d = true) : Cont Tryz.prog 58 [dateV y m d] (strV (dateL y m d)) := fun w => by
  obtain ⟨hy, hm, hd⟩ := valid_of hv
  have hdm := dim_bd y m
  obtain ⟨Y, rfl⟩ := Int.eq_ofNat_of_zero_le (show 0 ≤ y by omega)
  obtain ⟨M, rfl⟩ := Int.eq_ofNat_of_zero_le (show 0 ≤ m by omega)
  obtain ⟨D, rfl⟩ := Int.eq_ofNat_of_zero_le (show 0 ≤ d by omega)
  have h1 := rpadded_c (n := Y) (k := 4) (by omega) (by decide)
  have h2 := rpadded_c (n := M) (k := 2) (by omega) (by decide)
  have h3 := rpadded_c (n := D) (k := 2) (by omega) (by decide)
  have l1 := pad_len (n := (Y : Int)) (k := 4) (by omega) (by decide)
  have l2 := pad_len (n := (M : Int)) (k := 2) (by omega) (by decide)
  have l3 := pad_len (n := (D : Int)) (k := 2) (by omega) (by decide)
  refine enter0 Tryz.func58 rfl rfl rfl ?_
  repeat' (first
    | (show YK _ _ _ _ _ ⟨_, .call { callee := .builtin .len, args := _, argTypes := #[9] }, _, _, _, _⟩ _; refine YK.ofV (y_lenS (by rfl) StrTy.is) ?_)
    | (show VK _ _ _ _ _ ⟨_, .call { callee := .builtin .len, args := _, argTypes := #[9] }, _, _, _, _⟩ _; refine VK.mk (y_lenS (by rfl) StrTy.is) ?_)
    | (show YG _ _ _ _ _ _ ⟨_, .call { callee := .builtin .len, args := _, argTypes := #[9] }, _, _, _, _⟩ _; refine YG.mk (fun hb => by (try (have hc := And.left hb; have hb := And.right hb; rw [hc])); (try rw [hb]); exact V.y (y_lenS (by rfl) StrTy.is)) ?_)
    | (show VG _ _ _ _ _ _ ⟨_, .call { callee := .builtin .len, args := _, argTypes := #[9] }, _, _, _, _⟩ _; refine VG.mk (fun hb => by (try (have hc := And.left hb; have hb := And.right hb; rw [hc])); (try rw [hb]); exact y_lenS (by rfl) StrTy.is) ?_)
    | (show YK _ _ _ _ _ _ _; first | refine YK.mk (y_callA (h1) ⟨rfl, rfl, rfl⟩) ?_ | refine YK.mk (y_callA (h2) ⟨rfl, rfl, rfl⟩) ?_ | refine YK.mk (y_callA (h3) ⟨rfl, rfl, rfl⟩) ?_)
    | (show YK _ _ _ _ _ _ _; refine YK.ofV vAuto ?_)
    | (show VK _ _ _ _ _ _ _; refine VK.mk vAuto ?_)
    | (show RS _ _ _ _ _ _ _ _; first | (refine nxRS ?_) | (refine nxRS1 fun _ => ?_))
    | (show RM _ _ _ _ _ _ _ _ _ _; first | (refine nxRM ?_) | (refine nxRM1 fun _ => ?_))
    | (show YG _ _ _ _ _ _ _ _; refine YG.mk (fun hb => by (try (have hc := And.left hb; have hb := And.right hb; rw [hc])); (try rw [hb]); first | exact (y_callA (h1) ⟨rfl, rfl, rfl⟩) | exact (y_callA (h2) ⟨rfl, rfl, rfl⟩) | exact (y_callA (h3) ⟨rfl, rfl, rfl⟩) | exact V.y vAuto) ?_)
    | (show VG _ _ _ _ _ _ _ _; refine VG.mk (fun hb => by (try (have hc := And.left hb; have hb := And.right hb; rw [hc])); (try rw [hb]); exact vAuto) ?_)
    | (refine nxVS ?_)
    | (refine nxGS ?_)
    | (refine G.mixedA 1 [.go 0, .go 1, .go 4, .go 5, .go 9, .go 10, .go 2, .go 3, .go 6, .go 7, .go 8, .go 11, .go 12, .go 13] ?_)
    | (refine nxX ?_)
    | (refine G.condN rfl (fun hc => ?_) (fun hc => ?_) <;> (try first | exact False.elim hc | (exfalso; omega))))
  exact X.ret (vs := [_]) rfl ⟨rfl, rfl⟩ rfl (fun w hw => ⟨rfl, hw.ext⟩)
theorem rpower1_c : Cont Tryz.prog 92 [.int .i64 1] (.int .i64 10) := fun w => by
  refine enter0 Tryz.func92 rfl rfl rfl ?_
  repeat' (first
    | (refine nxV ?_)
    | (show RS _ _ _ _ _ _ _ _; first | (refine nxRS ?_) | (refine nxRS1 fun _ => ?_))
    | (show RM _ _ _ _ _ _ _ _ _ _; first | (refine nxRM ?_) | (refine nxRM1 fun _ => ?_))
    | (refine nxG ?_)
    | (refine nxX ?_)
    | (refine G.condN rfl (fun hc => ?_) (fun hc => ?_) <;> (try first | exact False.elim hc | (exfalso; omega))))
  refine G.loop (ι := Bool) (fun b => [(0, .int .i64 1), (3, .int .i64 (if b then 10 else 1)), (4, .int .i64 (if b then 1 else 0))]) (fun _ => []) (fun _ => True) (fun b => if b then 0 else 1) false trivial ⟨rfl, rfl, rfl, trivial⟩ (fun w h => h) ?_
  rintro b mx - hmx
  cases b with
  | false =>
    repeat' (first
    | (refine nxV ?_)
    | (show RS _ _ _ _ _ _ _ _; first | (refine nxRS ?_) | (refine nxRS1 fun _ => ?_))
    | (show RM _ _ _ _ _ _ _ _ _ _; first | (refine nxRM ?_) | (refine nxRM1 fun _ => ?_))
    | (refine nxG ?_)
    | (refine nxX ?_)
    | (refine G.condN rfl (fun hc => ?_) (fun hc => ?_) <;> (try first | exact False.elim hc | (exfalso; omega))))
    · exact X.again true trivial (by subst hmx; decide) ⟨rfl, rfl, rfl, trivial⟩ (fun w h => h)
    · exfalso; simp at hc
  | true =>
    repeat' (first
    | (refine nxV ?_)
    | (show RS _ _ _ _ _ _ _ _; first | (refine nxRS ?_) | (refine nxRS1 fun _ => ?_))
    | (show RM _ _ _ _ _ _ _ _ _ _; first | (refine nxRM ?_) | (refine nxRM1 fun _ => ?_))
    | (refine nxG ?_)
    | (refine nxX ?_)
    | (refine G.condN rfl (fun hc => ?_) (fun hc => ?_) <;> (try first | exact False.elim hc | (exfalso; omega))))
    · exfalso; simp at hc
    · exact X.ret (vs := [_]) rfl ⟨rfl, rfl⟩ rfl (fun w hw => ⟨rfl, hw.ext⟩)
theorem rformat1_c {n : Int} (h : 0 ≤ n ∧ n ≤ 1000000000) : Cont Tryz.prog 59 [.int .i64 n, .int .i64 1] (strV (tenL n)) := fun w => by
  obtain ⟨u, rfl⟩ := Int.eq_ofNat_of_zero_le h.1
  have h1 : Cont Tryz.prog 91 [.int .i64 ((u / 10 : Nat) : Int), .int .i64 1] (strV (rD (u / 10) 1)) := rdigits_c (n := u / 10) (l := 1) (by omega)
  have h2 : Cont Tryz.prog 91 [.int .i64 ((u % 10 : Nat) : Int), .int .i64 1] (strV (rD (u % 10) 1)) := rdigits_c (n := u % 10) (l := 1) (by omega)
  rw [rD_one, ← itoa_of_nat] at h1 h2
  have l1 := itoa_len (n := ((u / 10 : Nat) : Int)) (by omega)
  have l2 := itoa_len (n := ((u % 10 : Nat) : Int)) (by omega)
  have e : tenL (u : Int) = Lib.itoa ((u / 10 : Nat) : Int) ++ [46] ++ Lib.itoa ((u % 10 : Nat) : Int) := by
    unfold tenL
    rw [show (u : Int) / 10 = ((u / 10 : Nat) : Int) by omega, show (u : Int) % 10 = ((u % 10 : Nat) : Int) by omega]; simp
  rw [show ((u / 10 : Nat) : Int) = (u : Int) / 10 by omega] at h1 l1 e
  rw [show ((u % 10 : Nat) : Int) = (u : Int) % 10 by omega] at h2 l2 e
  rw [e]
  refine enter0 Tryz.func59 rfl rfl rfl ?_
  repeat' (first
    | (show YK _ _ _ _ _ ⟨_, .call { callee := .builtin .len, args := _, argTypes := #[9] }, _, _, _, _⟩ _; refine YK.ofV (y_lenS (by rfl) StrTy.is) ?_)
    | (show VK _ _ _ _ _ ⟨_, .call { callee := .builtin .len, args := _, argTypes := #[9] }, _, _, _, _⟩ _; refine VK.mk (y_lenS (by rfl) StrTy.is) ?_)
    | (show YG _ _ _ _ _ _ ⟨_, .call { callee := .builtin .len, args := _, argTypes := #[9] }, _, _, _, _⟩ _; refine YG.mk (fun hb => by (try (have hc := And.left hb; have hb := And.right hb; rw [hc])); (try rw [hb]); exact V.y (y_lenS (by rfl) StrTy.is)) ?_)
    | (show VG _ _ _ _ _ _ ⟨_, .call { callee := .builtin .len, args := _, argTypes := #[9] }, _, _, _, _⟩ _; refine VG.mk (fun hb => by (try (have hc := And.left hb; have hb := And.right hb; rw [hc])); (try rw [hb]); exact y_lenS (by rfl) StrTy.is) ?_)
    | (show YK _ _ _ _ _ _ _; first | refine YK.mk (y_callA (rpower1_c) ⟨rfl, rfl⟩) ?_ | refine YK.mk (y_callA (h1) ⟨rfl, rfl, rfl⟩) ?_ | refine YK.mk (y_callA (h2) ⟨rfl, rfl, rfl⟩) ?_)
    | (show YK _ _ _ _ _ _ _; refine YK.ofV vAuto ?_)
    | (show VK _ _ _ _ _ _ _; refine VK.mk vAuto ?_)
    | (show RS _ _ _ _ _ _ _ _; first | (refine nxRS ?_) | (refine nxRS1 fun _ => ?_))
    | (show RM _ _ _ _ _ _ _ _ _ _; first | (refine nxRM ?_) | (refine nxRM1 fun _ => ?_))
    | (show YG _ _ _ _ _ _ _ _; refine YG.mk (fun hb => by (try (have hc := And.left hb; have hb := And.right hb; rw [hc])); (try rw [hb]); first | exact (y_callA (rpower1_c) ⟨rfl, rfl⟩) | exact (y_callA (h1) ⟨rfl, rfl, rfl⟩) | exact (y_callA (h2) ⟨rfl, rfl, rfl⟩) | exact V.y vAuto) ?_)
    | (show VG _ _ _ _ _ _ _ _; refine VG.mk (fun hb => by (try (have hc := And.left hb; have hb := And.right hb; rw [hc])); (try rw [hb]); exact vAuto) ?_)
    | (refine nxVS ?_)
    | (refine nxGS ?_)
    | (refine nxX ?_)
    | (refine G.condN rfl (fun hc => ?_) (fun hc => ?_) <;> (try first | exact False.elim hc | (exfalso; omega))))
  exact X.ret (vs := [_]) rfl ⟨rfl, rfl⟩ rfl (fun w hw => ⟨rfl, hw.ext⟩)
theorem rD_two {n : Nat} (h : n < 100) : rD n 2 = padL (n : Int) 2 := by
  rw [rD_step (by omega), rD_step (by omega), show n / 10 / 10 = 0 by omega, rD_zero, padd2 h, Nat.mod_eq_of_lt (show n / 10 < 10 by omega)]; rfl
theorem r5text_c {n : Int} (h : 0 ≤ n ∧ n ≤ 1000000) : Cont Tryz.prog 60 [.int .i64 (100 * n)] (strV (angT n)) := fun w => by
  obtain ⟨u, rfl⟩ := Int.eq_ofNat_of_zero_le h.1
  have h1 : Cont Tryz.prog 93 [.int .i64 ((u / 600 : Nat) : Int), .int .i64 1] (strV (rD (u / 600) 1)) := r5digits_c (n := u / 600) (l := 1) (by omega)
  have h2 : Cont Tryz.prog 93 [.int .i64 ((u % 600 / 10 : Nat) : Int), .int .i64 2] (strV (rD (u % 600 / 10) 2)) := r5digits_c (n := u % 600 / 10) (l := 2) (by omega)
  have h3 : Cont Tryz.prog 93 [.int .i64 ((u % 600 % 10 : Nat) : Int), .int .i64 1] (strV (rD (u % 600 % 10) 1)) := r5digits_c (n := u % 600 % 10) (l := 1) (by omega)
  rw [rD_one, ← itoa_of_nat] at h1 h3
  rw [rD_two (by omega)] at h2
  have l1 := itoa_len (n := ((u / 600 : Nat) : Int)) (by omega)
  have l2 := pad_len (n := ((u % 600 / 10 : Nat) : Int)) (k := 2) (by omega) (by decide)
  have l3 := itoa_len (n := ((u % 600 % 10 : Nat) : Int)) (by omega)
  have e : angT (u : Int) = Lib.itoa ((u / 600 : Nat) : Int) ++ [45] ++ padL ((u % 600 / 10 : Nat) : Int) 2 ++ [46] ++ Lib.itoa ((u % 600 % 10 : Nat) : Int) := by
    unfold angT
    rw [show (u : Int) / 600 = ((u / 600 : Nat) : Int) by omega, show (u : Int) % 600 / 10 = ((u % 600 / 10 : Nat) : Int) by omega, show (u : Int) % 600 % 10 = ((u % 600 % 10 : Nat) : Int) by omega]; simp
  rw [show ((u / 600 : Nat) : Int) = 100 * (u : Int) / 60000 by omega] at h1 l1 e
  rw [show ((u % 600 / 10 : Nat) : Int) = 100 * (u : Int) % 60000 / 1000 by omega] at h2 l2 e
  rw [show ((u % 600 % 10 : Nat) : Int) = 100 * (u : Int) % 1000 / 100 by omega] at h3 l3 e
  rw [e]
  refine enter0 Tryz.func60 rfl rfl rfl ?_
  have hz : 100 * (u : Int) % 1000 % 100 = 0 := by omega
  repeat' (first
    | (show YK _ _ _ _ _ ⟨_, .call { callee := .builtin .len, args := _, argTypes := #[9] }, _, _, _, _⟩ _; refine YK.ofV (y_lenS (by rfl) StrTy.is) ?_)
    | (show VK _ _ _ _ _ ⟨_, .call { callee := .builtin .len, args := _, argTypes := #[9] }, _, _, _, _⟩ _; refine VK.mk (y_lenS (by rfl) StrTy.is) ?_)
    | (show YG _ _ _ _ _ _ ⟨_, .call { callee := .builtin .len, args := _, argTypes := #[9] }, _, _, _, _⟩ _; refine YG.mk (fun hb => by (try (have hc := And.left hb; have hb := And.right hb; rw [hc])); (try rw [hb]); exact V.y (y_lenS (by rfl) StrTy.is)) ?_)
    | (show VG _ _ _ _ _ _ ⟨_, .call { callee := .builtin .len, args := _, argTypes := #[9] }, _, _, _, _⟩ _; refine VG.mk (fun hb => by (try (have hc := And.left hb; have hb := And.right hb; rw [hc])); (try rw [hb]); exact y_lenS (by rfl) StrTy.is) ?_)
    | (show YK _ _ _ _ _ _ _; first | refine YK.mk (y_callA (h1) ⟨rfl, rfl, rfl⟩) ?_ | refine YK.mk (y_callA (h2) ⟨rfl, rfl, rfl⟩) ?_ | refine YK.mk (y_callA (h3) ⟨rfl, rfl, rfl⟩) ?_)
    | (show YK _ _ _ _ _ _ _; refine YK.ofV vAuto ?_)
    | (show VK _ _ _ _ _ _ _; refine VK.mk vAuto ?_)
    | (show RS _ _ _ _ _ _ _ _; first | (refine nxRS ?_) | (refine nxRS1 fun _ => ?_))
    | (show RM _ _ _ _ _ _ _ _ _ _; first | (refine nxRM ?_) | (refine nxRM1 fun _ => ?_))
    | (show YG _ _ _ _ _ _ _ _; refine YG.mk (fun hb => by (try (have hc := And.left hb; have hb := And.right hb; rw [hc])); (try rw [hb]); first | exact (y_callA (h1) ⟨rfl, rfl, rfl⟩) | exact (y_callA (h2) ⟨rfl, rfl, rfl⟩) | exact (y_callA (h3) ⟨rfl, rfl, rfl⟩) | exact V.y vAuto) ?_)
    | (show VG _ _ _ _ _ _ _ _; refine VG.mk (fun hb => by (try (have hc := And.left hb; have hb := And.right hb; rw [hc])); (try rw [hb]); exact vAuto) ?_)
    | (refine nxVS ?_)
    | (refine nxGS ?_)
    | (refine nxX ?_)
    | (refine G.condN rfl (fun hc => ?_) (fun hc => ?_) <;> (try first | exact False.elim hc | (exfalso; omega))))
  exact X.ret (vs := [_]) rfl ⟨rfl, rfl⟩ rfl (fun w hw => ⟨rfl, hw.ext⟩)
end Go.Proofs.YtpekkcahehhkmaaGreatDoor
/- The reference of chapter 13: Text. -/
set_option linter.unusedVariables false
set_option maxHeartbeats 4000000
namespace Go.Proofs.YtpekkcahehhkmaaGreatDoor
open Go.RowKit

theorem rtextP_c {y m d : Int} {v : Value} {l : List TrkT} (hf : fitT l) (hb : pageB y m d l = true) : ContIn Tryz.prog (PgP v l) 24 [pgV y m d v] (strV (pgT y m d l l.length)) := fun w hP => by
  have hl : l.length ≤ 12 := by unfold pageB at hb; simp at hb; omega
  have hdt : validB y m d = true := by unfold pageB dateOk at hb; simp at hb; exact hb.1.1.1
  have qd := rtext_c hdt
  have ld := dateL_len hdt
  have hd1 : (pgT y m d l 0).length ≤ 200 := by simp only [pgT, dateW, List.length_nil, List.length_append, List.length_cons]; omega
  refine enter Tryz.func24 rfl rfl rfl (Hp := [Hl.rd v cT 6 l]) (fun h hm => by
    rcases List.mem_singleton.1 hm with rfl
    exact ⟨⟨hP.1, fun h => by cases h⟩, rfl⟩) ?_
  repeat' (first
    | (show YK _ _ _ _ _ ⟨_, .call { callee := .builtin .len, args := _, argTypes := #[9] }, _, _, _, _⟩ _; refine YK.ofV (y_lenS (by rfl) StrTy.is) ?_)
    | (show VK _ _ _ _ _ ⟨_, .call { callee := .builtin .len, args := _, argTypes := #[9] }, _, _, _, _⟩ _; refine VK.mk (y_lenS (by rfl) StrTy.is) ?_)
    | (show YG _ _ _ _ _ _ ⟨_, .call { callee := .builtin .len, args := _, argTypes := #[9] }, _, _, _, _⟩ _; refine YG.mk (fun hb => by (try (have hc := And.left hb; have hb := And.right hb; rw [hc])); (try rw [hb]); exact V.y (y_lenS (by rfl) StrTy.is)) ?_)
    | (show VG _ _ _ _ _ _ ⟨_, .call { callee := .builtin .len, args := _, argTypes := #[9] }, _, _, _, _⟩ _; refine VG.mk (fun hb => by (try (have hc := And.left hb; have hb := And.right hb; rw [hc])); (try rw [hb]); exact y_lenS (by rfl) StrTy.is) ?_)
    | (show YK _ _ _ _ _ ⟨_, .load 23 _, _, _, _, _⟩ _; refine YK.ofV (y_loadPart (k := 3) (by rfl) (by exact memA) (by decide +kernel) (by rfl)) ?_)
    | (show YK _ _ _ _ _ _ _; first | refine YK.mk (y_callA (qd) ⟨rfl, rfl⟩) ?_)
    | (show YK _ _ _ _ _ _ _; refine YK.ofV vAuto ?_)
    | (show VK _ _ _ _ _ _ _; refine VK.mk vAuto ?_)
    | (show RS _ _ _ _ _ _ _ _; first | (refine nxRS ?_) | (refine nxRS1 fun _ => ?_))
    | (show RM _ _ _ _ _ _ _ _ _ _; first | (refine nxRM ?_) | (refine nxRM1 fun _ => ?_))
    | (show YG _ _ _ _ _ _ _ _; refine YG.mk (fun hb => by (try (have hc := And.left hb; have hb := And.right hb; rw [hc])); (try rw [hb]); first | exact (y_callA (qd) ⟨rfl, rfl⟩) | exact V.y vAuto) ?_)
    | (show VG _ _ _ _ _ _ _ _; refine VG.mk (fun hb => by (try (have hc := And.left hb; have hb := And.right hb; rw [hc])); (try rw [hb]); exact vAuto) ?_)
    | (refine nxVS ?_)
    | (refine nxGS ?_)
    | (refine G.mixedA 6 [.go 0, .go 1, .go 2, .go 3, .go 4, .go 5, .go 6, .go 7, .go 11, .go 12, .go 16, .go 17, .go 8, .go 9, .go 10, .go 13, .go 14, .go 15, .go 18, .go 19, .go 20, .go 21] ?_)
    | (refine G.mixedA 10 [.go 0, .go 1, .go 2, .go 3, .go 4, .go 5, .go 6] ?_)
    | (refine G.mixedA 13 [.go 0, .go 1, .go 5, .go 6, .go 7, .go 8, .go 9, .go 10, .go 13, .go 15, .go 16, .go 2, .go 3, .go 4, .go 11, .go 12, .go 14, .go 17, .go 18, .go 19, .go 20] ?_)
    | (refine nxX ?_)
    | (refine G.condN rfl (fun hc => ?_) (fun hc => ?_) <;> (try first | exact False.elim hc | (exfalso; omega))))
  rename_i b1
  refine G.loop (ι := Nat) (fun x => [(1, .pointer (some ⟨b1, 0, none⟩)), (3, strV (pgT y m d l x)), (4, .int .i64 (x : Int))]) (fun x => [Hl.blk b1 26 [.int .i64 y, .int .i64 m, .int .i64 d, v], Hl.rd v cT 6 l]) (fun x => x ≤ l.length ∧ (pgT y m d l x).length ≤ 200 + 5500 * x) (fun x => l.length - x) 0 ⟨Nat.zero_le _, by simpa using hd1⟩ ⟨rfl, rfl, rfl, trivial⟩ (fun w h => h) ?_
  rintro k mx ⟨g1, g2⟩ hmx
  rcases Nat.lt_or_ge k l.length with hk | hk
  · have ho := (page_tr hb hk).2
    obtain ⟨o1, o2, o3, o4, o5, o6, o7, o8⟩ := okT_parts ho
    have on := (hf.at hk).1
    have qa := rformat1_c (n := (nth l (k : Int)).se) (by omega)
    have qb := rformat1_c (n := (nth l (k : Int)).pa) (by omega)
    have qc := rformat1_c (n := (nth l (k : Int)).be) (by omega)
    have la := tenL_len (n := (nth l (k : Int)).se) (by omega)
    have lb := tenL_len (n := (nth l (k : Int)).pa) (by omega)
    have lc := tenL_len (n := (nth l (k : Int)).be) (by omega)
    have hT0 : (trkT (nth l (k : Int)) 0).length ≤ 300 := by simp only [trkT, bodyW, List.length_nil, List.length_append, List.length_cons]; omega
    have eT : ∀ h, trkT (nth l (k : Int)) (h + 1) = trkT (nth l (k : Int)) h ++ entT (nth l (k : Int)) h := fun _ => rfl
    have eP : pgT y m d l (k + 1) = pgT y m d l k ++ trkT (nth l (k : Int)) 25 := rfl
    have hA : pgT y m d l k ++ trkT (nth l (k : Int)) 0 = pgT y m d l k ++ [98, 111, 100, 121, 32] ++ (nth l (k : Int)).nm ++ [32, 115, 101, 109, 105, 32] ++ tenL (nth l (k : Int)).se ++ [32, 112, 97, 114, 32] ++ tenL (nth l (k : Int)).pa ++ [32, 98, 101, 110, 100, 32] ++ tenL (nth l (k : Int)).be ++ [10] := by
      simp only [trkT, bodyW, List.append_assoc]
    refine G.bring (hP.2.at hk).1 (G.bring (hP.2.at hk).2 ?_)
    repeat' (first
    | (show YK _ _ _ _ _ ⟨_, .call { callee := .builtin .len, args := _, argTypes := #[9] }, _, _, _, _⟩ _; refine YK.ofV (y_lenS (by rfl) StrTy.is) ?_)
    | (show VK _ _ _ _ _ ⟨_, .call { callee := .builtin .len, args := _, argTypes := #[9] }, _, _, _, _⟩ _; refine VK.mk (y_lenS (by rfl) StrTy.is) ?_)
    | (show YG _ _ _ _ _ _ ⟨_, .call { callee := .builtin .len, args := _, argTypes := #[9] }, _, _, _, _⟩ _; refine YG.mk (fun hb => by (try (have hc := And.left hb; have hb := And.right hb; rw [hc])); (try rw [hb]); exact V.y (y_lenS (by rfl) StrTy.is)) ?_)
    | (show VG _ _ _ _ _ _ ⟨_, .call { callee := .builtin .len, args := _, argTypes := #[9] }, _, _, _, _⟩ _; refine VG.mk (fun hb => by (try (have hc := And.left hb; have hb := And.right hb; rw [hc])); (try rw [hb]); exact y_lenS (by rfl) StrTy.is) ?_)
    | (show YK _ _ _ _ _ _ _; first | refine YK.mk (y_callA (qa) ⟨rfl, rfl, rfl⟩) ?_ | refine YK.mk (y_callA (qb) ⟨rfl, rfl, rfl⟩) ?_ | refine YK.mk (y_callA (qc) ⟨rfl, rfl, rfl⟩) ?_)
    | (show YK _ _ _ _ _ _ _; refine YK.ofV vAuto ?_)
    | (show VK _ _ _ _ _ _ _; refine VK.mk vAuto ?_)
    | (show RS _ _ _ _ _ _ _ _; first | (refine nxRS ?_) | (refine nxRS1 fun _ => ?_))
    | (show RM _ _ _ _ _ _ _ _ _ _; first | (refine nxRM ?_) | (refine nxRM1 fun _ => ?_))
    | (show YG _ _ _ _ _ _ _ _; refine YG.mk (fun hb => by (try (have hc := And.left hb; have hb := And.right hb; rw [hc])); (try rw [hb]); first | exact (y_callA (qa) ⟨rfl, rfl, rfl⟩) | exact (y_callA (qb) ⟨rfl, rfl, rfl⟩) | exact (y_callA (qc) ⟨rfl, rfl, rfl⟩) | exact V.y vAuto) ?_)
    | (show VG _ _ _ _ _ _ _ _; refine VG.mk (fun hb => by (try (have hc := And.left hb; have hb := And.right hb; rw [hc])); (try rw [hb]); exact vAuto) ?_)
    | (refine nxVS ?_)
    | (refine nxGS ?_)
    | (refine G.mixedA 6 [.go 0, .go 1, .go 2, .go 3, .go 4, .go 5, .go 6, .go 7, .go 11, .go 12, .go 16, .go 17, .go 8, .go 9, .go 10, .go 13, .go 14, .go 15, .go 18, .go 19, .go 20, .go 21] ?_)
    | (refine G.mixedA 10 [.go 0, .go 1, .go 2, .go 3, .go 4, .go 5, .go 6] ?_)
    | (refine G.mixedA 13 [.go 0, .go 1, .go 5, .go 6, .go 7, .go 8, .go 9, .go 10, .go 13, .go 15, .go 16, .go 2, .go 3, .go 4, .go 11, .go 12, .go 14, .go 17, .go 18, .go 19, .go 20] ?_)
    | (refine nxX ?_)
    | (refine G.condN rfl (fun hc => ?_) (fun hc => ?_) <;> (try first | exact False.elim hc | (exfalso; omega))))
    rename_i b5
    refine G.loop (ι := Nat) (fun x => [(1, .pointer (some ⟨b1, 0, none⟩)), (3, strV (pgT y m d l k ++ trkT (nth l (k : Int)) x)), (4, .int .i64 (k : Int)), (5, .pointer (some ⟨b5, 0, none⟩)), (6, .int .i64 (x : Int))]) (fun x => [Hl.blk b5 42 (cT (nth l (k : Int))), Hl.rd (nth l (k : Int)).dv.v cI 1 (nth l (k : Int)).dl, Hl.rd (nth l (k : Int)).gv.v cI 1 (nth l (k : Int)).gl, Hl.blk b1 26 [.int .i64 y, .int .i64 m, .int .i64 d, v], Hl.rd v cT 6 l]) (fun x => x ≤ 25 ∧ (trkT (nth l (k : Int)) x).length ≤ 300 + 200 * x) (fun x => 25 - x) 0 ⟨Nat.zero_le _, by simpa using hT0⟩ ⟨rfl, by rw [hA]; rfl, rfl, rfl, rfl, trivial⟩ (fun w h => h) ?_
    rintro h my ⟨f1, f2⟩ hmy
    rcases Nat.lt_or_ge h 25 with hh | hh
    · have b1 := inB_nth o4 (i := (h : Int)) (by omega)
      have b2 := inB_nth o5 (i := (h : Int)) (by omega)
      have qi : Cont Tryz.prog 59 [.int .i64 (h : Int), .int .i64 0] (strV (Lib.itoa (h : Int))) := rformat_c (n := h) (by omega)
      have qg := r5text_c (n := nth (nth l (k : Int)).gl (h : Int)) (by omega)
      have li := itoa_len (n := (h : Int)) (by omega)
      have lg := angT_len (n := nth (nth l (k : Int)).gl (h : Int)) (by omega)
      have ld := angT_len (n := max (nth (nth l (k : Int)).dl (h : Int)) (-(nth (nth l (k : Int)).dl (h : Int)))) (by omega)
      have hE : (entT (nth l (k : Int)) h).length ≤ 200 := by
        unfold entT entW
        simp only [List.length_append, List.length_singleton]
        split <;> simp only [List.length_cons, List.length_nil] <;> omega
      have hn : (trkT (nth l (k : Int)) (h + 1)).length ≤ 300 + 200 * (h + 1) := by rw [eT, List.length_append]; omega
      have hps : (pgT y m d l k ++ trkT (nth l (k : Int)) h).length ≤ 100000 := by rw [List.length_append]; omega
      by_cases hs : nth (nth l (k : Int)).dl (h : Int) < 0
      · have qs := r5text_c (n := 0 - nth (nth l (k : Int)).dl (h : Int)) (by omega)
        have ld2 := angT_len (n := 0 - nth (nth l (k : Int)).dl (h : Int)) (by omega)
        have hB : pgT y m d l k ++ trkT (nth l (k : Int)) (h + 1) = pgT y m d l k ++ trkT (nth l (k : Int)) h ++ Lib.itoa (h : Int) ++ [32] ++ angT (nth (nth l (k : Int)).gl (h : Int)) ++ [32, 83, 32] ++ angT (0 - nth (nth l (k : Int)).dl (h : Int)) ++ [10] := by
          rw [eT]
          unfold entT entW
          rw [if_pos hs, show max (nth (nth l (k : Int)).dl (h : Int)) (-(nth (nth l (k : Int)).dl (h : Int))) = 0 - nth (nth l (k : Int)).dl (h : Int) by omega]
          simp only [List.append_assoc]
        generalize pgT y m d l k ++ trkT (nth l (k : Int)) h = S at hB hps
        repeat' (first
    | (show YK _ _ _ _ _ ⟨_, .call { callee := .builtin .len, args := _, argTypes := #[9] }, _, _, _, _⟩ _; refine YK.ofV (y_lenS (by rfl) StrTy.is) ?_)
    | (show VK _ _ _ _ _ ⟨_, .call { callee := .builtin .len, args := _, argTypes := #[9] }, _, _, _, _⟩ _; refine VK.mk (y_lenS (by rfl) StrTy.is) ?_)
    | (show YG _ _ _ _ _ _ ⟨_, .call { callee := .builtin .len, args := _, argTypes := #[9] }, _, _, _, _⟩ _; refine YG.mk (fun hb => by (try (have hc := And.left hb; have hb := And.right hb; rw [hc])); (try rw [hb]); exact V.y (y_lenS (by rfl) StrTy.is)) ?_)
    | (show VG _ _ _ _ _ _ ⟨_, .call { callee := .builtin .len, args := _, argTypes := #[9] }, _, _, _, _⟩ _; refine VG.mk (fun hb => by (try (have hc := And.left hb; have hb := And.right hb; rw [hc])); (try rw [hb]); exact y_lenS (by rfl) StrTy.is) ?_)
    | (show YK _ _ _ _ _ _ _; first | refine YK.mk (y_callA (qi) ⟨rfl, rfl, rfl⟩) ?_ | refine YK.mk (y_callA (qg) ⟨rfl, rfl⟩) ?_ | refine YK.mk (y_callA (qs) ⟨rfl, rfl⟩) ?_)
    | (show YK _ _ _ _ _ _ _; refine YK.ofV vAuto ?_)
    | (show VK _ _ _ _ _ _ _; refine VK.mk vAuto ?_)
    | (show RS _ _ _ _ _ _ _ _; first | (refine nxRS ?_) | (refine nxRS1 fun _ => ?_))
    | (show RM _ _ _ _ _ _ _ _ _ _; first | (refine nxRM ?_) | (refine nxRM1 fun _ => ?_))
    | (show YG _ _ _ _ _ _ _ _; refine YG.mk (fun hb => by (try (have hc := And.left hb; have hb := And.right hb; rw [hc])); (try rw [hb]); first | exact (y_callA (qi) ⟨rfl, rfl, rfl⟩) | exact (y_callA (qg) ⟨rfl, rfl⟩) | exact (y_callA (qs) ⟨rfl, rfl⟩) | exact V.y vAuto) ?_)
    | (show VG _ _ _ _ _ _ _ _; refine VG.mk (fun hb => by (try (have hc := And.left hb; have hb := And.right hb; rw [hc])); (try rw [hb]); exact vAuto) ?_)
    | (refine nxVS ?_)
    | (refine nxGS ?_)
    | (refine G.mixedA 6 [.go 0, .go 1, .go 2, .go 3, .go 4, .go 5, .go 6, .go 7, .go 11, .go 12, .go 16, .go 17, .go 8, .go 9, .go 10, .go 13, .go 14, .go 15, .go 18, .go 19, .go 20, .go 21] ?_)
    | (refine G.mixedA 10 [.go 0, .go 1, .go 2, .go 3, .go 4, .go 5, .go 6] ?_)
    | (refine G.mixedA 13 [.go 0, .go 1, .go 5, .go 6, .go 7, .go 8, .go 9, .go 10, .go 13, .go 15, .go 16, .go 2, .go 3, .go 4, .go 11, .go 12, .go 14, .go 17, .go 18, .go 19, .go 20] ?_)
    | (refine nxX ?_)
    | (refine G.condN rfl (fun hc => ?_) (fun hc => ?_) <;> (try first | exact False.elim hc | (exfalso; omega))))
        exact X.again (h + 1) ⟨by omega, hn⟩ (by omega) ⟨rfl, by rw [hB]; rfl, rfl, rfl, rfl, trivial⟩ (fun w h => h)
      · have qs := r5text_c (n := nth (nth l (k : Int)).dl (h : Int)) (by omega)
        have ld2 := angT_len (n := nth (nth l (k : Int)).dl (h : Int)) (by omega)
        have hB : pgT y m d l k ++ trkT (nth l (k : Int)) (h + 1) = pgT y m d l k ++ trkT (nth l (k : Int)) h ++ Lib.itoa (h : Int) ++ [32] ++ angT (nth (nth l (k : Int)).gl (h : Int)) ++ [32, 78, 32] ++ angT (nth (nth l (k : Int)).dl (h : Int)) ++ [10] := by
          rw [eT]
          unfold entT entW
          rw [if_neg hs, show max (nth (nth l (k : Int)).dl (h : Int)) (-(nth (nth l (k : Int)).dl (h : Int))) = nth (nth l (k : Int)).dl (h : Int) by omega]
          simp only [List.append_assoc]
        generalize pgT y m d l k ++ trkT (nth l (k : Int)) h = S at hB hps
        repeat' (first
    | (show YK _ _ _ _ _ ⟨_, .call { callee := .builtin .len, args := _, argTypes := #[9] }, _, _, _, _⟩ _; refine YK.ofV (y_lenS (by rfl) StrTy.is) ?_)
    | (show VK _ _ _ _ _ ⟨_, .call { callee := .builtin .len, args := _, argTypes := #[9] }, _, _, _, _⟩ _; refine VK.mk (y_lenS (by rfl) StrTy.is) ?_)
    | (show YG _ _ _ _ _ _ ⟨_, .call { callee := .builtin .len, args := _, argTypes := #[9] }, _, _, _, _⟩ _; refine YG.mk (fun hb => by (try (have hc := And.left hb; have hb := And.right hb; rw [hc])); (try rw [hb]); exact V.y (y_lenS (by rfl) StrTy.is)) ?_)
    | (show VG _ _ _ _ _ _ ⟨_, .call { callee := .builtin .len, args := _, argTypes := #[9] }, _, _, _, _⟩ _; refine VG.mk (fun hb => by (try (have hc := And.left hb; have hb := And.right hb; rw [hc])); (try rw [hb]); exact y_lenS (by rfl) StrTy.is) ?_)
    | (show YK _ _ _ _ _ _ _; first | refine YK.mk (y_callA (qi) ⟨rfl, rfl, rfl⟩) ?_ | refine YK.mk (y_callA (qg) ⟨rfl, rfl⟩) ?_ | refine YK.mk (y_callA (qs) ⟨rfl, rfl⟩) ?_)
    | (show YK _ _ _ _ _ _ _; refine YK.ofV vAuto ?_)
    | (show VK _ _ _ _ _ _ _; refine VK.mk vAuto ?_)
    | (show RS _ _ _ _ _ _ _ _; first | (refine nxRS ?_) | (refine nxRS1 fun _ => ?_))
    | (show RM _ _ _ _ _ _ _ _ _ _; first | (refine nxRM ?_) | (refine nxRM1 fun _ => ?_))
    | (show YG _ _ _ _ _ _ _ _; refine YG.mk (fun hb => by (try (have hc := And.left hb; have hb := And.right hb; rw [hc])); (try rw [hb]); first | exact (y_callA (qi) ⟨rfl, rfl, rfl⟩) | exact (y_callA (qg) ⟨rfl, rfl⟩) | exact (y_callA (qs) ⟨rfl, rfl⟩) | exact V.y vAuto) ?_)
    | (show VG _ _ _ _ _ _ _ _; refine VG.mk (fun hb => by (try (have hc := And.left hb; have hb := And.right hb; rw [hc])); (try rw [hb]); exact vAuto) ?_)
    | (refine nxVS ?_)
    | (refine nxGS ?_)
    | (refine G.mixedA 6 [.go 0, .go 1, .go 2, .go 3, .go 4, .go 5, .go 6, .go 7, .go 11, .go 12, .go 16, .go 17, .go 8, .go 9, .go 10, .go 13, .go 14, .go 15, .go 18, .go 19, .go 20, .go 21] ?_)
    | (refine G.mixedA 10 [.go 0, .go 1, .go 2, .go 3, .go 4, .go 5, .go 6] ?_)
    | (refine G.mixedA 13 [.go 0, .go 1, .go 5, .go 6, .go 7, .go 8, .go 9, .go 10, .go 13, .go 15, .go 16, .go 2, .go 3, .go 4, .go 11, .go 12, .go 14, .go 17, .go 18, .go 19, .go 20] ?_)
    | (refine nxX ?_)
    | (refine G.condN rfl (fun hc => ?_) (fun hc => ?_) <;> (try first | exact False.elim hc | (exfalso; omega))))
        exact X.again (h + 1) ⟨by omega, hn⟩ (by omega) ⟨rfl, by rw [hB]; rfl, rfl, rfl, rfl, trivial⟩ (fun w h => h)
    · obtain rfl : h = 25 := by omega
      rw [← eP]
      repeat' (first
    | (refine nxV ?_)
    | (show RS _ _ _ _ _ _ _ _; first | (refine nxRS ?_) | (refine nxRS1 fun _ => ?_))
    | (show RM _ _ _ _ _ _ _ _ _ _; first | (refine nxRM ?_) | (refine nxRM1 fun _ => ?_))
    | (refine nxG ?_)
    | (refine G.mixedA 6 [.go 0, .go 1, .go 2, .go 3, .go 4, .go 5, .go 6, .go 7, .go 11, .go 12, .go 16, .go 17, .go 8, .go 9, .go 10, .go 13, .go 14, .go 15, .go 18, .go 19, .go 20, .go 21] ?_)
    | (refine G.mixedA 10 [.go 0, .go 1, .go 2, .go 3, .go 4, .go 5, .go 6] ?_)
    | (refine G.mixedA 13 [.go 0, .go 1, .go 5, .go 6, .go 7, .go 8, .go 9, .go 10, .go 13, .go 15, .go 16, .go 2, .go 3, .go 4, .go 11, .go 12, .go 14, .go 17, .go 18, .go 19, .go 20] ?_)
    | (refine nxX ?_)
    | (refine G.condN rfl (fun hc => ?_) (fun hc => ?_) <;> (try first | exact False.elim hc | (exfalso; omega))))
      exact X.again (k + 1) ⟨by omega, by rw [eP, List.length_append]; omega⟩ (by omega) ⟨rfl, rfl, rfl, trivial⟩ (fun w h => h.sub (by repeat (first | exact List.Sublist.refl _ | apply List.Sublist.cons_cons | apply List.Sublist.cons)))
  · obtain rfl : k = l.length := by omega
    repeat' (first
    | (refine nxV ?_)
    | (show RS _ _ _ _ _ _ _ _; first | (refine nxRS ?_) | (refine nxRS1 fun _ => ?_))
    | (show RM _ _ _ _ _ _ _ _ _ _; first | (refine nxRM ?_) | (refine nxRM1 fun _ => ?_))
    | (refine nxG ?_)
    | (refine G.mixedA 6 [.go 0, .go 1, .go 2, .go 3, .go 4, .go 5, .go 6, .go 7, .go 11, .go 12, .go 16, .go 17, .go 8, .go 9, .go 10, .go 13, .go 14, .go 15, .go 18, .go 19, .go 20, .go 21] ?_)
    | (refine G.mixedA 10 [.go 0, .go 1, .go 2, .go 3, .go 4, .go 5, .go 6] ?_)
    | (refine G.mixedA 13 [.go 0, .go 1, .go 5, .go 6, .go 7, .go 8, .go 9, .go 10, .go 13, .go 15, .go 16, .go 2, .go 3, .go 4, .go 11, .go 12, .go 14, .go 17, .go 18, .go 19, .go 20] ?_)
    | (refine nxX ?_)
    | (refine G.condN rfl (fun hc => ?_) (fun hc => ?_) <;> (try first | exact False.elim hc | (exfalso; omega))))
    exact X.ret (vs := [_]) rfl ⟨rfl, rfl⟩ rfl (fun w hw => ⟨rfl, hw.ext⟩)
end Go.Proofs.YtpekkcahehhkmaaGreatDoor
/- awake of law 13. -/
set_option linter.unusedVariables false
set_option maxHeartbeats 4000000
set_option maxRecDepth 100000
namespace Go.Proofs.YtpekkcahehhkmaaGreatDoor
open Go.RowKit

abbrev sunL : List UInt8 := [83, 117, 110]
abbrev sunT (g d : Sl) : TrkT := ⟨sunL, g, List.replicate 25 106065, d, List.replicate 25 (-4682), 162, 1, 3⟩
theorem sun_ok (g d : Sl) : okT (sunT g d) = true := by
  show (nameB sunL && decide (((List.replicate 25 (106065 : Int)).length : Int) = 25) && decide (((List.replicate 25 (-4682 : Int)).length : Int) = 25) && inB (List.replicate 25 106065) 0 215999 && inB (List.replicate 25 (-4682)) (-54000) 54000 && inB [162] 0 200 && inB [1] 0 620 && inB [3] 0 1000) = true
  decide +kernel
theorem sun_page (g d : Sl) : pageB 2024 2 29 [sunT g d] = true := by
  have h1 : dateOk 2024 2 29 = true := by decide +kernel
  have h2 : tracksOk [sunT g d] = true := by
    unfold tracksOk trkOk
    show ((List.range 1).all fun i => okT (nth [sunT g d] (i : Int)) && !decide ((nth [sunT g d] (i : Int)).nm ∈ nmsL [sunT g d] i)) = true
    rw [show List.range 1 = [0] from rfl, List.all_cons, List.all_nil, show nth [sunT g d] ((0 : Nat) : Int) = sunT g d from rfl, sun_ok]
    rfl
  unfold pageB
  rw [h1, h2]; rfl
theorem sun_fit (g d : Sl) : fitT [sunT g d] := fun t ht => by
  rcases List.mem_singleton.1 ht with rfl
  exact ⟨(by decide : 3 ≤ 100), (by decide : (List.replicate 25 (106065 : Int)).length ≤ 40), (by decide : (List.replicate 25 (-4682 : Int)).length ≤ 40)⟩
theorem sun_idx (g d : Sl) : idxT [sunT g d] sunL = 0 := rfl
abbrev sunP : TrkP := (sunL, List.replicate 25 106065, List.replicate 25 (-4682), 162, 1, 3)
abbrev preL : List UInt8 := [112, 97, 103, 101, 32, 50, 48, 50, 52, 45, 48, 50, 45, 50, 57, 10, 98, 111, 100, 121, 32, 83, 117, 110, 32, 115, 101, 109, 105, 32, 49, 54, 46, 50, 32, 112, 97, 114, 32, 48, 46, 49, 32, 98, 101, 110, 100, 32, 48, 46, 51, 10, 48, 32, 49, 55, 54, 45, 52, 54, 46, 53, 32, 83, 32, 55, 45, 52, 56, 46, 50, 10, 49, 32]
theorem sun_text (g d : Sl) : Lib.hasPrefix (pgT 2024 2 29 [sunT g d] 1) preL = true := by
  have e := pgT_all 2024 2 29 [sunT g d]
  rw [show [sunT g d].length = 1 from rfl, show [sunT g d].map trkP = [sunP] from rfl] at e
  rw [e]
  decide +kernel
abbrev noteL : List UInt8 := [112, 97, 103, 101, 32, 50, 48, 50, 52, 45, 48, 50, 45, 50, 57, 32, 35, 32, 97, 32, 110, 111, 116, 101, 10, 10]
abbrev noteE : List TkE := [(1, [112, 97, 103, 101]), (2, [50, 48, 50, 52]), (3, [45]), (2, [48, 50]), (3, [45]), (2, [50, 57]), (4, []), (4, []), (5, [])]
theorem note_lx : Lx noteL noteE := by
  unfold Lx
  decide +kernel
theorem note_page : pageP 1 noteE = some ((2024, 2, 29), []) := by kernel_rfl
theorem note_none (l : List TrkT) (h : l.map trkP = []) : fitT l ∧ pageB 2024 2 29 l = true := by
  obtain rfl := List.map_eq_nil_iff.1 h
  exact ⟨fun t ht => (by cases ht), (by decide +kernel)⟩
theorem built_page (y m d : Int) (A : Option Addr) (k c : Nat) : Tryz.prog.built 26 [(0, .agg [.int .i64 y, .int .i64 m, .int .i64 d].toArray), (1, .slice A k c)] = some [.int .i64 y, .int .i64 m, .int .i64 d, .slice A k c].toArray := by kernel_rfl
theorem RS.lit1T {P : Program} {ops : Array Oper} {Q : Exit → Act → World → Prop} {n : Nat} {L : FL} {w0 : World} {H : List Hl} {dd : Tmp} {ty : TypeId} {pos : String} {af : Array Edge} {t e : TypeId} {bytes : Nat} {x : Operand} {a : TrkT} {rest : List Oper} (h : ∀ v' : Sl, RS P ops Q n ((dd, v'.v) :: L) w0 (Hl.rw v'.v e cT 6 [a] :: H) rest) (hx : evO L x = some (trV a)) [ht : RowTy P t e 6 bytes] (hd : Nat.blt dd n = true) :
    RS P ops Q n L w0 H (⟨some dd, .buildSlice t 1 #[(0, x)], ty, pos, af, none⟩ :: rest) := RS.actX rfl (x_litS (parts := [(0, x)]) (vs := [trV a]) (cs := cT a) (f := cT) (l := [a]) ⟨hx, rfl⟩ rfl rfl rfl rfl (fun zs hz => by
      match zs, hz with
      | [_, _, _, _, _, _], _ => rfl) rfl rfl rfl (rowTy_B ht.is) hd) fun v' _ => h v'
theorem hasPre_c (l p : List UInt8) {b : Bool} (h : Lib.hasPrefix l p = b) : Cont Tryz.prog 31 [strV l, strV p] (.bool b) := fun w => (Tryz.strings_HasPrefix ⟨l.toArray⟩ ⟨p.toArray⟩ w).mono fun e w' ⟨he, hw⟩ => ⟨by rw [he]; exact congrArg (fun x => Ending.returned (.bool x)) h, by subst hw; exact Below.refl _ _⟩
theorem sun_entry (v : Value) (g d : Sl) : ContIn Tryz.prog (PgP v [sunT g d]) 16 [pgV 2024 2 29 v, strV sunL, .int .i64 0] (entV 10606450 10606550 (-468250) (-468150) 0) := by
  have q0 := pFind_c (y := 2024) (m := 2) (d := 29) (v := v) (l := [sunT g d]) sunL (fun _ => sun_fit g d)
  rw [sun_page, sun_idx] at q0
  have := pent_t (hour := 0) (k := 0) q0 (show 1 ≤ 12 by decide) (show 0 < 1 by decide) (sun_ok g d) (by decide)
  exact this
theorem pg1_of {w0 w : World} {H : List Hl} {v : Value} {e : TypeId} {t : TrkT} (hw : St w0 H w) (h1 : Hl.rw v e cT 6 [t] ∈ H) (h2 : Hl.nw t.gv.v cI 1 t.gl ∈ H) (h3 : Hl.nw t.dv.v cI 1 t.dl ∈ H) : PgP v [t] w :=
  ⟨RO.of_row (hw.all _ h1), fun u hu => by
    rcases List.mem_singleton.1 hu with rfl
    exact ⟨(hw.all _ h2).1, (hw.all _ h3).1⟩⟩
theorem awake13_c : ContIn Tryz.prog Laid 8 [] (.bool true) := fun w hI => by
  have q1 := fun u => repeat1_c u 106065 25 (by decide)
  have q2 := fun u => repeat1_c u (-4682) 25 (by decide)
  have q3 := fun (v : Value) (g d : Sl) => sun_entry v g d
  have q4 := fun (v : Value) (g d : Sl) => ptext_t (y := 2024) (m := 2) (d := 29) (v := v) (sun_fit g d) (sun_page g d)
  have q5 := fun (g d : Sl) => hasPre_c _ _ (sun_text g d)
  have q6 := parse_c (by decide) note_lx note_page (by decide) note_none
  refine enter0 Tryz.func8 rfl rfl rfl ?_
  repeat' (first
    | (show YK _ _ _ _ _ ⟨_, .call { callee := .builtin .len, args := _, argTypes := #[9] }, _, _, _, _⟩ _; refine YK.ofV (y_lenS (by rfl) StrTy.is) ?_)
    | (show VK _ _ _ _ _ ⟨_, .call { callee := .builtin .len, args := _, argTypes := #[9] }, _, _, _, _⟩ _; refine VK.mk (y_lenS (by rfl) StrTy.is) ?_)
    | (show YG _ _ _ _ _ _ ⟨_, .call { callee := .builtin .len, args := _, argTypes := #[9] }, _, _, _, _⟩ _; refine YG.mk (fun hb => by (try (have hc := And.left hb; have hb := And.right hb; rw [hc])); (try rw [hb]); exact V.y (y_lenS (by rfl) StrTy.is)) ?_)
    | (show VG _ _ _ _ _ _ ⟨_, .call { callee := .builtin .len, args := _, argTypes := #[9] }, _, _, _, _⟩ _; refine VG.mk (fun hb => by (try (have hc := And.left hb; have hb := And.right hb; rw [hc])); (try rw [hb]); exact y_lenS (by rfl) StrTy.is) ?_)
    | (show RS _ _ _ _ _ _ _ (⟨some 18, .buildSlice _ _ _, _, _, _, _⟩ :: _); refine RS.lit1T (a := sunT zg zd) ?_ rfl rfl; intro zl)
    | (show YK _ _ _ _ _ ⟨_, .build 26 _, _, _, _, _⟩ _; refine YK.ofV (y_build (parts := [(0, .tmp 16), (1, .tmp 18)]) (vs := [_, _]) ⟨rfl, rfl, rfl⟩ (built_page _ _ _ _ _ _)) ?_)
    | (show YK _ _ _ _ _ ⟨some 22, .call { callee := .value (.func _), args := _, argTypes := _ }, _, _, _, _⟩ _; refine YK.mk (y_callIn (q3 zl.v zg zd) (fun w hw => pg1_of (e := 42) hw (by exact memA) (by exact memA) (by exact memA)) ⟨rfl, rfl, rfl, rfl⟩ (by decide +kernel)) ?_)
    | (show YK _ _ _ _ _ ⟨some 28, .call { callee := .value (.func _), args := _, argTypes := _ }, _, _, _, _⟩ _; refine YK.mk (y_callIn (q4 zl.v zg zd) (fun w hw => ⟨hI.keep hw.ext, pg1_of (e := 42) hw (by exact memA) (by exact memA) (by exact memA)⟩) ⟨rfl, rfl⟩ (by decide +kernel)) ?_)
    | (show RS _ _ _ _ _ _ _ (⟨some 32, _, _, _, _, _⟩ :: _); refine RS.callI q6 ⟨rfl, rfl⟩ (fun w hw => hI.keep hw.ext) ?_; rintro ⟨l, sl⟩ hz; obtain rfl := List.map_eq_nil_iff.1 hz; dsimp only [List.cons_append, List.nil_append, inn, List.reverse_nil])
    | (show YK _ _ _ _ _ _ _; first | refine YK.mk (y_callA (q5 _ _) ⟨rfl, rfl, rfl⟩) ?_)
    | (show YK _ _ _ _ _ _ _; refine YK.ofV vAuto ?_)
    | (show VK _ _ _ _ _ _ _; refine VK.mk vAuto ?_)
    | (show RS _ _ _ _ _ _ _ _; first | (refine RS.callX (q2 _) ⟨rfl, rfl, rfl⟩ ?_; rintro zd -) | (refine RS.callXG (fun _ : True => q2 _) ⟨rfl, rfl, rfl⟩ ?_; rintro zd -) | (refine RS.callX (q1 _) ⟨rfl, rfl, rfl⟩ ?_; rintro zg -) | (refine RS.callXG (fun _ : True => q1 _) ⟨rfl, rfl, rfl⟩ ?_; rintro zg -) | (refine nxRS ?_) | (refine nxRS1 fun _ => ?_))
    | (show RM _ _ _ _ _ _ _ _ _ _; first | (refine RM.callX (q2 _) ?_; rintro zd -) | (refine RM.callXG (fun _ : True => q2 _) ?_; rintro zd -) | (refine RM.callX (q1 _) ?_; rintro zg -) | (refine RM.callXG (fun _ : True => q1 _) ?_; rintro zg -) | (refine nxRM ?_) | (refine nxRM1 fun _ => ?_))
    | (show YG _ _ _ _ _ _ _ _; refine YG.mk (fun hb => by (try (have hc := And.left hb; have hb := And.right hb; rw [hc])); (try rw [hb]); first | exact (y_callA (q5 _ _) ⟨rfl, rfl, rfl⟩) | exact V.y vAuto) ?_)
    | (show VG _ _ _ _ _ _ _ _; refine VG.mk (fun hb => by (try (have hc := And.left hb; have hb := And.right hb; rw [hc])); (try rw [hb]); exact vAuto) ?_)
    | (refine nxVS ?_)
    | (refine nxGS ?_)
    | (refine nxX ?_)
    | (refine G.condN rfl (fun hc => ?_) (fun hc => ?_) <;> (try first | exact False.elim hc | (exfalso; omega))))
  exact X.ret (vs := [_]) rfl ⟨rfl, rfl⟩ rfl (fun w hw => ⟨ret_bool (by first | rfl | simp [eqCells, vEq]), hw.ext⟩)
end Go.Proofs.YtpekkcahehhkmaaGreatDoor
/- Law 13: large. -/
set_option linter.unusedVariables false
set_option maxHeartbeats 4000000
namespace Go.Proofs.YtpekkcahehhkmaaGreatDoor
open Go.RowKit

def bigB (t : TrkT) : Bool := decide ((100 : Int) < t.nm.length) || decide ((40 : Int) < t.gl.length) || decide ((40 : Int) < t.dl.length)
def anyB (l : List TrkT) : Bool := (List.range l.length).any fun i : Nat => bigB (nth l (i : Int))
def largeB (l : List TrkT) : Bool := decide ((14 : Int) < l.length) || anyB l
theorem large_no {l : List TrkT} (h : largeB l = false) : l.length ≤ 14 ∧ fitT l := by
  unfold largeB at h
  rw [Bool.or_eq_false_iff] at h
  obtain ⟨h1, h2⟩ := h
  refine ⟨by simp at h1; omega, fun t ht => ?_⟩
  obtain ⟨i, hi, rfl⟩ := List.getElem_of_mem ht
  have e := nth_some (l := l) (m := (i : Int)) (by omega) (by omega)
  rw [Int.toNat_natCast, List.getElem?_eq_getElem hi] at e
  unfold anyB at h2
  rw [List.any_eq_false] at h2
  have := h2 i (List.mem_range.2 hi)
  rw [← Option.some.inj e] at this
  unfold bigB at this
  simp at this
  omega
theorem large1_c (t : TrkT) : ContIn Tryz.prog (fun w => In1 w t) 33 ([trV t] ++ (#[] : Array Value).toList) (.bool (bigB t)) := fun w hw0 => by
  unfold bigB
  refine enter Tryz.func33 rfl rfl rfl (Hp := [Hl.rd t.gv.v cI 1 t.gl, Hl.rd t.dv.v cI 1 t.dl]) (fun h hm => by
    rcases List.mem_cons.1 hm with rfl | hm
    · exact ⟨⟨hw0.1, fun h => by cases h⟩, rfl⟩
    rcases List.mem_singleton.1 hm with rfl
    exact ⟨⟨hw0.2, fun h => by cases h⟩, rfl⟩) ?_
  repeat' (first
    | (show YK _ _ _ _ _ ⟨_, .call { callee := .builtin .len, args := _, argTypes := #[9] }, _, _, _, _⟩ _; refine YK.ofV (y_lenS (by rfl) StrTy.is) ?_)
    | (show VK _ _ _ _ _ ⟨_, .call { callee := .builtin .len, args := _, argTypes := #[9] }, _, _, _, _⟩ _; refine VK.mk (y_lenS (by rfl) StrTy.is) ?_)
    | (show YG _ _ _ _ _ _ ⟨_, .call { callee := .builtin .len, args := _, argTypes := #[9] }, _, _, _, _⟩ _; refine YG.mk (fun hb => by (try (have hc := And.left hb; have hb := And.right hb; rw [hc])); (try rw [hb]); exact V.y (y_lenS (by rfl) StrTy.is)) ?_)
    | (show VG _ _ _ _ _ _ ⟨_, .call { callee := .builtin .len, args := _, argTypes := #[9] }, _, _, _, _⟩ _; refine VG.mk (fun hb => by (try (have hc := And.left hb; have hb := And.right hb; rw [hc])); (try rw [hb]); exact y_lenS (by rfl) StrTy.is) ?_)
    | (refine nxV ?_)
    | (show RS _ _ _ _ _ _ _ _; first | (refine nxRS ?_) | (refine nxRS1 fun _ => ?_))
    | (show RM _ _ _ _ _ _ _ _ _ _; first | (refine nxRM ?_) | (refine nxRM1 fun _ => ?_))
    | (refine nxG ?_)
    | (refine nxVS ?_)
    | (refine nxGS ?_)
    | (refine nxX ?_)
    | (refine G.condN rfl (fun hc => ?_) (fun hc => ?_) <;> (try first | exact False.elim hc | (exfalso; omega))))
  exact X.ret (vs := [_]) rfl ⟨rfl, rfl⟩ rfl (fun w hw => ⟨ret_bool (by first | rfl | simp), hw.ext⟩)
theorem indexL_c (v : Value) (l : List TrkT) (hl : l.length ≤ 1000000) (r : Int) (hr : r = match (List.range l.length).find? (fun i : Nat => bigB (nth l (i : Int))) with
      | some k => (k : Int)
      | none => -1) :
    ContIn Tryz.prog (PgP v l) 66 [v, .func (.func 33) #[] #[]] (.int .i64 r) := fun w hw0 => by
  refine enter Tryz.func66 rfl rfl rfl (Hp := [Hl.rd v cT 6 l]) (fun h hm => by
    rcases List.mem_singleton.1 hm with rfl
    exact ⟨⟨hw0.1, fun h => by cases h⟩, rfl⟩) ?_
  repeat' (first
    | (refine nxV ?_)
    | (show RS _ _ _ _ _ _ _ _; first | (refine nxRS ?_) | (refine nxRS1 fun _ => ?_))
    | (show RM _ _ _ _ _ _ _ _ _ _; first | (refine nxRM ?_) | (refine nxRM1 fun _ => ?_))
    | (refine nxG ?_)
    | (refine nxX ?_)
    | (refine G.condN rfl (fun hc => ?_) (fun hc => ?_) <;> (try first | exact False.elim hc | (exfalso; omega))))
  refine G.loop (ι := Nat) (fun i => [(0, v), (1, .func (.func 33) #[] #[]), (7, .int .i64 l.length), (8, .int .i64 (i : Int))]) (fun _ => [Hl.rd v cT 6 l]) (fun i => i ≤ l.length ∧ ∀ k : Nat, k < i → bigB (nth l (k : Int)) = false) (fun i => l.length - i) 0 ⟨by omega, fun k hk => by omega⟩ ⟨rfl, rfl, rfl, rfl, trivial⟩ (fun w h => h) ?_
  rintro i mx ⟨g1, g2⟩ hmx
  rcases Nat.lt_or_ge i l.length with hi | hi
  · have q1 := large1_c (nth l (i : Int))
    have i1 := hw0.2.at hi
    cases hb : bigB (nth l (i : Int)) with
    | true =>
      rw [hb] at q1
      repeat' (first
    | (show YK _ _ _ _ _ ⟨_, .call { callee := .value (.tmp _), args := _, argTypes := _ }, _, _, _, _⟩ _; refine YK.mk (y_callV (f := 33) (by rfl) q1 (fun w hw => i1.keep hw.ext) ⟨rfl, rfl⟩ (by decide +kernel)) ?_)
    | (refine nxV ?_)
    | (show RS _ _ _ _ _ _ _ _; first | (refine nxRS ?_) | (refine nxRS1 fun _ => ?_))
    | (show RM _ _ _ _ _ _ _ _ _ _; first | (refine nxRM ?_) | (refine nxRM1 fun _ => ?_))
    | (refine nxG ?_)
    | (refine nxX ?_)
    | (refine G.condN rfl (fun hc => ?_) (fun hc => ?_) <;> (try first | exact False.elim hc | (exfalso; omega))))
      rw [findr_some hi g2 hb] at hr
      exact X.ret (vs := [_]) rfl ⟨rfl, rfl⟩ rfl (fun w hw => ⟨ret_int hr.symm, hw.ext⟩)
    | false =>
      rw [hb] at q1
      repeat' (first
    | (show YK _ _ _ _ _ ⟨_, .call { callee := .value (.tmp _), args := _, argTypes := _ }, _, _, _, _⟩ _; refine YK.mk (y_callV (f := 33) (by rfl) q1 (fun w hw => i1.keep hw.ext) ⟨rfl, rfl⟩ (by decide +kernel)) ?_)
    | (refine nxV ?_)
    | (show RS _ _ _ _ _ _ _ _; first | (refine nxRS ?_) | (refine nxRS1 fun _ => ?_))
    | (show RM _ _ _ _ _ _ _ _ _ _; first | (refine nxRM ?_) | (refine nxRM1 fun _ => ?_))
    | (refine nxG ?_)
    | (refine nxX ?_)
    | (refine G.condN rfl (fun hc => ?_) (fun hc => ?_) <;> (try first | exact False.elim hc | (exfalso; omega))))
      refine X.again (i + 1) ⟨by omega, fun k hk => ?_⟩ (by omega) ⟨rfl, rfl, rfl, rfl, trivial⟩ (by exact fun w h => h.sub (by repeat (first | exact List.Sublist.refl _ | apply List.Sublist.cons_cons | apply List.Sublist.cons)))
      rcases Nat.lt_or_ge k i with h | h
      · exact g2 k h
      · rw [show k = i by omega]; exact hb
  · repeat' (first
    | (refine nxV ?_)
    | (show RS _ _ _ _ _ _ _ _; first | (refine nxRS ?_) | (refine nxRS1 fun _ => ?_))
    | (show RM _ _ _ _ _ _ _ _ _ _; first | (refine nxRM ?_) | (refine nxRM1 fun _ => ?_))
    | (refine nxG ?_)
    | (refine nxX ?_)
    | (refine G.condN rfl (fun hc => ?_) (fun hc => ?_) <;> (try first | exact False.elim hc | (exfalso; omega))))
    rw [findr_none (fun k hk => g2 k (by omega))] at hr
    exact X.ret (vs := [_]) rfl ⟨rfl, rfl⟩ rfl (fun w hw => ⟨ret_int hr.symm, hw.ext⟩)
theorem contL_c (v : Value) (l : List TrkT) (hl : l.length ≤ 1000000) : ContIn Tryz.prog (PgP v l) 32 [v, .func (.func 33) #[] #[]] (.bool (anyB l)) := fun w hw0 => by
  have hx := indexL_c v l hl _ rfl
  cases hf : (List.range l.length).find? (fun i : Nat => bigB (nth l (i : Int))) with
  | none =>
    have e : anyB l = false := by
      unfold anyB
      rw [List.any_eq_false]
      intro i hi
      have := List.find?_eq_none.1 hf i hi
      simpa using this
    rw [hf] at hx
    rw [e]
    dsimp only at hx
    refine enter Tryz.func32 rfl rfl rfl (Hp := []) (fun h hm => by cases hm) ?_
    repeat' (first
    | (refine YK.mk (y_callIn hx (fun w hw => hw0.keep hw.ext) ⟨rfl, rfl, rfl⟩ (by decide +kernel)) ?_)
    | (refine nxV ?_)
    | (show RS _ _ _ _ _ _ _ _; first | (refine nxRS ?_) | (refine nxRS1 fun _ => ?_))
    | (show RM _ _ _ _ _ _ _ _ _ _; first | (refine nxRM ?_) | (refine nxRM1 fun _ => ?_))
    | (refine nxG ?_)
    | (refine nxX ?_)
    | (refine G.condN rfl (fun hc => ?_) (fun hc => ?_) <;> (try first | exact False.elim hc | (exfalso; omega))))
    exact X.ret (vs := [_]) rfl ⟨rfl, rfl⟩ rfl (fun w hw => ⟨rfl, hw.ext⟩)
  | some k =>
    have e : anyB l = true := by
      unfold anyB
      rw [List.any_eq_true]
      exact ⟨k, List.mem_of_find?_eq_some hf, List.find?_some (p := fun i : Nat => bigB (nth l (i : Int))) hf⟩
    rw [hf] at hx
    rw [e]
    dsimp only at hx
    refine enter Tryz.func32 rfl rfl rfl (Hp := []) (fun h hm => by cases hm) ?_
    repeat' (first
    | (refine YK.mk (y_callIn hx (fun w hw => hw0.keep hw.ext) ⟨rfl, rfl, rfl⟩ (by decide +kernel)) ?_)
    | (refine nxV ?_)
    | (show RS _ _ _ _ _ _ _ _; first | (refine nxRS ?_) | (refine nxRS1 fun _ => ?_))
    | (show RM _ _ _ _ _ _ _ _ _ _; first | (refine nxRM ?_) | (refine nxRM1 fun _ => ?_))
    | (refine nxG ?_)
    | (refine nxX ?_)
    | (refine G.condN rfl (fun hc => ?_) (fun hc => ?_) <;> (try first | exact False.elim hc | (exfalso; omega))))
    exact X.ret (vs := [_]) rfl ⟨rfl, rfl⟩ rfl (fun w hw => ⟨ret_bool (by simp), hw.ext⟩)
theorem large_c {y m d : Int} (v : Value) (l : List TrkT) : ContIn Tryz.prog (PgP v l) 9 [pgV y m d v] (.bool (largeB l)) := fun w hw0 => by
  unfold largeB
  by_cases hl : 14 < l.length
  · rw [decide_eq_true (by omega), Bool.true_or]
    refine enter Tryz.func9 rfl rfl rfl (Hp := [Hl.rd v cT 6 l]) (fun h hm => by
      rcases List.mem_singleton.1 hm with rfl
      exact ⟨⟨hw0.1, fun h => by cases h⟩, rfl⟩) ?_
    repeat' (first
    | (show YG _ _ _ _ _ _ ⟨_, .call { callee := .value (.func _), args := _, argTypes := _ }, _, _, _, _⟩ _; refine YG.mk (v := .bool false) (fun hb => by exfalso; simp only [decide_eq_false_iff_not] at hb; omega) ?_)
    | (refine nxV ?_)
    | (show RS _ _ _ _ _ _ _ _; first | (refine nxRS ?_) | (refine nxRS1 fun _ => ?_))
    | (show RM _ _ _ _ _ _ _ _ _ _; first | (refine nxRM ?_) | (refine nxRM1 fun _ => ?_))
    | (refine nxG ?_)
    | (refine nxX ?_)
    | (refine G.condN rfl (fun hc => ?_) (fun hc => ?_) <;> (try first | exact False.elim hc | (exfalso; omega))))
    exact X.ret (vs := [_]) rfl ⟨rfl, rfl⟩ rfl (fun w hw => ⟨ret_bool (by simp; omega), hw.ext⟩)
  · have q1 := contL_c v l (by omega)
    generalize anyB l = c1 at q1
    refine enter Tryz.func9 rfl rfl rfl (Hp := [Hl.rd v cT 6 l]) (fun h hm => by
      rcases List.mem_singleton.1 hm with rfl
      exact ⟨⟨hw0.1, fun h => by cases h⟩, rfl⟩) ?_
    repeat' (first
    | (show YG _ _ _ _ _ _ ⟨_, .call { callee := .value (.func _), args := _, argTypes := _ }, _, _, _, _⟩ _; refine YG.mk (fun hb => by rw [hb]; exact y_callIn q1 (fun w hw => hw0.keep hw.ext) ⟨rfl, rfl, rfl⟩ (by decide +kernel)) ?_)
    | (refine nxV ?_)
    | (show RS _ _ _ _ _ _ _ _; first | (refine nxRS ?_) | (refine nxRS1 fun _ => ?_))
    | (show RM _ _ _ _ _ _ _ _ _ _; first | (refine nxRM ?_) | (refine nxRM1 fun _ => ?_))
    | (refine nxG ?_)
    | (refine nxX ?_)
    | (refine G.condN rfl (fun hc => ?_) (fun hc => ?_) <;> (try first | exact False.elim hc | (exfalso; omega))))
    exact X.ret (vs := [_]) rfl ⟨rfl, rfl⟩ rfl (fun w hw => ⟨rfl, hw.ext⟩)
end Go.Proofs.YtpekkcahehhkmaaGreatDoor
/- Pages: Same, the program's and the reference's; slices.Equal at ints. -/
set_option linter.unusedVariables false
set_option maxHeartbeats 4000000
namespace Go.Proofs.YtpekkcahehhkmaaGreatDoor
open Go.RowKit

theorem nth_ext {α : Type} [Inhabited α] {l l' : List α} (h : l.length = l'.length) (h2 : ∀ k : Nat, k < l.length → nth l (k : Int) = nth l' (k : Int)) : l = l' := by
  apply List.ext_getElem h
  intro i hi hi'
  have e := nth_some (l := l) (m := (i : Int)) (by omega) (by omega)
  have e' := nth_some (l := l') (m := (i : Int)) (by omega) (by omega)
  rw [Int.toNat_natCast, List.getElem?_eq_getElem (by omega)] at e e'
  rw [Option.some.inj e, Option.some.inj e']
  exact h2 i hi
theorem eqG_c (v u : Value) (l l' : List Int) (hl : l.length ≤ 1000000) (hl' : l'.length ≤ 1000000) : ContR Tryz.prog [Hl.rd v cI 1 l, Hl.rd u cI 1 l'] 43 [v, u] (.bool (decide (l = l'))) := fun w hw0 => by
  by_cases he : l.length = l'.length
  · refine enter Tryz.func43 rfl rfl rfl hw0 ?_
    repeat' (first
    | (refine nxV ?_)
    | (show RS _ _ _ _ _ _ _ _; first | (refine nxRS ?_) | (refine nxRS1 fun _ => ?_))
    | (show RM _ _ _ _ _ _ _ _ _ _; first | (refine nxRM ?_) | (refine nxRM1 fun _ => ?_))
    | (refine nxG ?_)
    | (refine G.mixedA 6 [.go 0, .go 1, .go 2, .go 3, .go 4, .go 5, .go 6, .go 7, .go 8] ?_)
    | (refine nxX ?_)
    | (refine G.condN rfl (fun hc => ?_) (fun hc => ?_) <;> (try first | exact False.elim hc | (exfalso; omega))))
    refine G.loop (ι := Nat) (fun i => [(0, v), (1, u), (11, v), (12, .int .i64 l.length), (13, .int .i64 (i : Int))]) (fun _ => [Hl.rd v cI 1 l, Hl.rd u cI 1 l']) (fun i => i ≤ l.length ∧ ∀ k : Nat, k < i → nth l (k : Int) = nth l' (k : Int)) (fun i => l.length - i) 0 ⟨by omega, fun k hk => by omega⟩ ⟨rfl, rfl, rfl, rfl, rfl, trivial⟩ (fun w h => h) ?_
    rintro i mx ⟨g1, g2⟩ hmx
    rcases Nat.lt_or_ge i l.length with hi | hi
    · by_cases hx : nth l (i : Int) = nth l' (i : Int)
      · repeat' (first
    | (refine nxV ?_)
    | (show RS _ _ _ _ _ _ _ _; first | (refine nxRS ?_) | (refine nxRS1 fun _ => ?_))
    | (show RM _ _ _ _ _ _ _ _ _ _; first | (refine nxRM ?_) | (refine nxRM1 fun _ => ?_))
    | (refine nxG ?_)
    | (refine G.mixedA 6 [.go 0, .go 1, .go 2, .go 3, .go 4, .go 5, .go 6, .go 7, .go 8] ?_)
    | (refine nxX ?_)
    | (refine G.condN rfl (fun hc => ?_) (fun hc => ?_) <;> (try first | exact False.elim hc | (exfalso; omega))))
        refine X.again (i + 1) ⟨by omega, fun k hk => ?_⟩ (by omega) ⟨rfl, rfl, rfl, rfl, rfl, trivial⟩ (by exact fun w h => h.sub (by repeat (first | exact List.Sublist.refl _ | apply List.Sublist.cons_cons | apply List.Sublist.cons)))
        rcases Nat.lt_or_ge k i with h | h
        · exact g2 k h
        · rw [show k = i by omega]; exact hx
      · repeat' (first
    | (refine nxV ?_)
    | (show RS _ _ _ _ _ _ _ _; first | (refine nxRS ?_) | (refine nxRS1 fun _ => ?_))
    | (show RM _ _ _ _ _ _ _ _ _ _; first | (refine nxRM ?_) | (refine nxRM1 fun _ => ?_))
    | (refine nxG ?_)
    | (refine G.mixedA 6 [.go 0, .go 1, .go 2, .go 3, .go 4, .go 5, .go 6, .go 7, .go 8] ?_)
    | (refine nxX ?_)
    | (refine G.condN rfl (fun hc => ?_) (fun hc => ?_) <;> (try first | exact False.elim hc | (exfalso; omega))))
        exact X.ret (vs := [_]) rfl ⟨rfl, rfl⟩ rfl (fun w hw => ⟨ret_bool (by rw [decide_eq_false (fun e => hx (by rw [e]))]), hw.ext⟩)
    · repeat' (first
    | (refine nxV ?_)
    | (show RS _ _ _ _ _ _ _ _; first | (refine nxRS ?_) | (refine nxRS1 fun _ => ?_))
    | (show RM _ _ _ _ _ _ _ _ _ _; first | (refine nxRM ?_) | (refine nxRM1 fun _ => ?_))
    | (refine nxG ?_)
    | (refine G.mixedA 6 [.go 0, .go 1, .go 2, .go 3, .go 4, .go 5, .go 6, .go 7, .go 8] ?_)
    | (refine nxX ?_)
    | (refine G.condN rfl (fun hc => ?_) (fun hc => ?_) <;> (try first | exact False.elim hc | (exfalso; omega))))
      exact X.ret (vs := [_]) rfl ⟨rfl, rfl⟩ rfl (fun w hw => ⟨ret_bool (by rw [decide_eq_true (nth_ext he fun k hk => g2 k (by omega))]), hw.ext⟩)
  · refine enter Tryz.func43 rfl rfl rfl hw0 ?_
    repeat' (first
    | (refine nxV ?_)
    | (show RS _ _ _ _ _ _ _ _; first | (refine nxRS ?_) | (refine nxRS1 fun _ => ?_))
    | (show RM _ _ _ _ _ _ _ _ _ _; first | (refine nxRM ?_) | (refine nxRM1 fun _ => ?_))
    | (refine nxG ?_)
    | (refine G.mixedA 6 [.go 0, .go 1, .go 2, .go 3, .go 4, .go 5, .go 6, .go 7, .go 8] ?_)
    | (refine nxX ?_)
    | (refine G.condN rfl (fun hc => ?_) (fun hc => ?_) <;> (try first | exact False.elim hc | (exfalso; omega))))
    exact X.ret (vs := [_]) rfl ⟨rfl, rfl⟩ rfl (fun w hw => ⟨ret_bool (by rw [decide_eq_false (fun e => he (by rw [e]))]), hw.ext⟩)
theorem reqG_c (v u : Value) (l l' : List Int) (hl : l.length ≤ 1000000) (hl' : l'.length ≤ 1000000) : ContR Tryz.prog [Hl.rd v cI 1 l, Hl.rd u cI 1 l'] 44 [v, u] (.bool (decide (l = l'))) := fun w hw0 => by
  by_cases he : l.length = l'.length
  · refine enter Tryz.func44 rfl rfl rfl hw0 ?_
    repeat' (first
    | (refine nxV ?_)
    | (show RS _ _ _ _ _ _ _ _; first | (refine nxRS ?_) | (refine nxRS1 fun _ => ?_))
    | (show RM _ _ _ _ _ _ _ _ _ _; first | (refine nxRM ?_) | (refine nxRM1 fun _ => ?_))
    | (refine nxG ?_)
    | (refine G.mixedA 6 [.go 0, .go 1, .go 2, .go 3, .go 4, .go 5, .go 6, .go 7, .go 8] ?_)
    | (refine nxX ?_)
    | (refine G.condN rfl (fun hc => ?_) (fun hc => ?_) <;> (try first | exact False.elim hc | (exfalso; omega))))
    refine G.loop (ι := Nat) (fun i => [(0, v), (1, u), (5, .int .i64 (i : Int))]) (fun _ => [Hl.rd v cI 1 l, Hl.rd u cI 1 l']) (fun i => i ≤ l.length ∧ ∀ k : Nat, k < i → nth l (k : Int) = nth l' (k : Int)) (fun i => l.length - i) 0 ⟨by omega, fun k hk => by omega⟩ ⟨rfl, rfl, rfl, trivial⟩ (fun w h => h) ?_
    rintro i mx ⟨g1, g2⟩ hmx
    rcases Nat.lt_or_ge i l.length with hi | hi
    · by_cases hx : nth l (i : Int) = nth l' (i : Int)
      · repeat' (first
    | (refine nxV ?_)
    | (show RS _ _ _ _ _ _ _ _; first | (refine nxRS ?_) | (refine nxRS1 fun _ => ?_))
    | (show RM _ _ _ _ _ _ _ _ _ _; first | (refine nxRM ?_) | (refine nxRM1 fun _ => ?_))
    | (refine nxG ?_)
    | (refine G.mixedA 6 [.go 0, .go 1, .go 2, .go 3, .go 4, .go 5, .go 6, .go 7, .go 8] ?_)
    | (refine nxX ?_)
    | (refine G.condN rfl (fun hc => ?_) (fun hc => ?_) <;> (try first | exact False.elim hc | (exfalso; omega))))
        refine X.again (i + 1) ⟨by omega, fun k hk => ?_⟩ (by omega) ⟨rfl, rfl, rfl, trivial⟩ (by exact fun w h => h.sub (by repeat (first | exact List.Sublist.refl _ | apply List.Sublist.cons_cons | apply List.Sublist.cons)))
        rcases Nat.lt_or_ge k i with h | h
        · exact g2 k h
        · rw [show k = i by omega]; exact hx
      · repeat' (first
    | (refine nxV ?_)
    | (show RS _ _ _ _ _ _ _ _; first | (refine nxRS ?_) | (refine nxRS1 fun _ => ?_))
    | (show RM _ _ _ _ _ _ _ _ _ _; first | (refine nxRM ?_) | (refine nxRM1 fun _ => ?_))
    | (refine nxG ?_)
    | (refine G.mixedA 6 [.go 0, .go 1, .go 2, .go 3, .go 4, .go 5, .go 6, .go 7, .go 8] ?_)
    | (refine nxX ?_)
    | (refine G.condN rfl (fun hc => ?_) (fun hc => ?_) <;> (try first | exact False.elim hc | (exfalso; omega))))
        exact X.ret (vs := [_]) rfl ⟨rfl, rfl⟩ rfl (fun w hw => ⟨ret_bool (by rw [decide_eq_false (fun e => hx (by rw [e]))]), hw.ext⟩)
    · repeat' (first
    | (refine nxV ?_)
    | (show RS _ _ _ _ _ _ _ _; first | (refine nxRS ?_) | (refine nxRS1 fun _ => ?_))
    | (show RM _ _ _ _ _ _ _ _ _ _; first | (refine nxRM ?_) | (refine nxRM1 fun _ => ?_))
    | (refine nxG ?_)
    | (refine G.mixedA 6 [.go 0, .go 1, .go 2, .go 3, .go 4, .go 5, .go 6, .go 7, .go 8] ?_)
    | (refine nxX ?_)
    | (refine G.condN rfl (fun hc => ?_) (fun hc => ?_) <;> (try first | exact False.elim hc | (exfalso; omega))))
      exact X.ret (vs := [_]) rfl ⟨rfl, rfl⟩ rfl (fun w hw => ⟨ret_bool (by rw [decide_eq_true (nth_ext he fun k hk => g2 k (by omega))]), hw.ext⟩)
  · refine enter Tryz.func44 rfl rfl rfl hw0 ?_
    repeat' (first
    | (refine nxV ?_)
    | (show RS _ _ _ _ _ _ _ _; first | (refine nxRS ?_) | (refine nxRS1 fun _ => ?_))
    | (show RM _ _ _ _ _ _ _ _ _ _; first | (refine nxRM ?_) | (refine nxRM1 fun _ => ?_))
    | (refine nxG ?_)
    | (refine G.mixedA 6 [.go 0, .go 1, .go 2, .go 3, .go 4, .go 5, .go 6, .go 7, .go 8] ?_)
    | (refine nxX ?_)
    | (refine G.condN rfl (fun hc => ?_) (fun hc => ?_) <;> (try first | exact False.elim hc | (exfalso; omega))))
    exact X.ret (vs := [_]) rfl ⟨rfl, rfl⟩ rfl (fun w hw => ⟨ret_bool (by rw [decide_eq_false (fun e => he (by rw [e]))]), hw.ext⟩)
def sameT (s t : TrkT) : Bool := decide (s.nm = t.nm) && decide (s.gl = t.gl) && decide (s.dl = t.dl) && decide (s.se = t.se) && decide (s.pa = t.pa) && decide (s.be = t.be)
def sameL (l l' : List TrkT) : Bool := decide (l.length = l'.length) && (List.range l.length).all fun i : Nat => sameT (nth l (i : Int)) (nth l' (i : Int))
theorem sameL_f {l l' : List TrkT} {i : Nat} (hi : i < l.length) (h : sameT (nth l (i : Int)) (nth l' (i : Int)) = false) : sameL l l' = false := by
  unfold sameL
  rw [Bool.and_eq_false_iff]
  right
  rw [List.all_eq_false]
  exact ⟨i, List.mem_range.2 hi, by rw [h]; decide⟩
theorem sameL_t {l l' : List TrkT} (he : l.length = l'.length) (h : ∀ k : Nat, k < l.length → sameT (nth l (k : Int)) (nth l' (k : Int)) = true) : sameL l l' = true := by
  unfold sameL
  rw [decide_eq_true he, Bool.true_and, List.all_eq_true]
  exact fun k hk => h k (List.mem_range.1 hk)
theorem sameL_n {l l' : List TrkT} (he : ¬ l.length = l'.length) : sameL l l' = false := by
  unfold sameL
  rw [decide_eq_false he, Bool.false_and]
def dateQ (y m d y' m' d' : Int) : Bool := decide (y = y') && (decide (m = m') && decide (d = d'))
theorem same1_c (s t : TrkT) (h1 : s.gl.length ≤ 1000000 ∧ s.dl.length ≤ 1000000) (h2 : t.gl.length ≤ 1000000 ∧ t.dl.length ≤ 1000000) : ContIn Tryz.prog (fun w => In1 w s ∧ In1 w t) 42 ([trV s, trV t] ++ (#[] : Array Value).toList) (.bool (sameT s t)) := fun w hw0 => by
  have q1 := eqG_c s.gv.v t.gv.v s.gl t.gl h1.1 h2.1
  have q2 := eqG_c s.dv.v t.dv.v s.dl t.dl h1.2 h2.2
  unfold sameT
  generalize decide (s.gl = t.gl) = c1 at q1
  generalize decide (s.dl = t.dl) = c2 at q2
  refine enter Tryz.func42 rfl rfl rfl (Hp := [Hl.rd s.gv.v cI 1 s.gl, Hl.rd s.dv.v cI 1 s.dl, Hl.rd t.gv.v cI 1 t.gl, Hl.rd t.dv.v cI 1 t.dl]) (fun h hm => by
    rcases List.mem_cons.1 hm with rfl | hm
    · exact ⟨⟨hw0.1.1, fun h => by cases h⟩, rfl⟩
    rcases List.mem_cons.1 hm with rfl | hm
    · exact ⟨⟨hw0.1.2, fun h => by cases h⟩, rfl⟩
    rcases List.mem_cons.1 hm with rfl | hm
    · exact ⟨⟨hw0.2.1, fun h => by cases h⟩, rfl⟩
    rcases List.mem_singleton.1 hm with rfl
    exact ⟨⟨hw0.2.2, fun h => by cases h⟩, rfl⟩) ?_
  repeat' (first
    | (show YK _ _ _ _ _ ⟨_, .call { callee := .builtin .len, args := _, argTypes := #[9] }, _, _, _, _⟩ _; refine YK.ofV (y_lenS (by rfl) StrTy.is) ?_)
    | (show VK _ _ _ _ _ ⟨_, .call { callee := .builtin .len, args := _, argTypes := #[9] }, _, _, _, _⟩ _; refine VK.mk (y_lenS (by rfl) StrTy.is) ?_)
    | (show YG _ _ _ _ _ _ ⟨_, .call { callee := .builtin .len, args := _, argTypes := #[9] }, _, _, _, _⟩ _; refine YG.mk (fun hb => by (try (have hc := And.left hb; have hb := And.right hb; rw [hc])); (try rw [hb]); exact V.y (y_lenS (by rfl) StrTy.is)) ?_)
    | (show VG _ _ _ _ _ _ ⟨_, .call { callee := .builtin .len, args := _, argTypes := #[9] }, _, _, _, _⟩ _; refine VG.mk (fun hb => by (try (have hc := And.left hb; have hb := And.right hb; rw [hc])); (try rw [hb]); exact y_lenS (by rfl) StrTy.is) ?_)
    | (show YK _ _ _ _ _ _ _; first | refine YK.mk (y_callRA (q1) ⟨rfl, rfl, rfl⟩) ?_ | refine YK.mk (y_callRA (q2) ⟨rfl, rfl, rfl⟩) ?_)
    | (show YK _ _ _ _ _ _ _; refine YK.ofV vAuto ?_)
    | (show VK _ _ _ _ _ _ _; refine VK.mk vAuto ?_)
    | (show RS _ _ _ _ _ _ _ _; first | (refine nxRS ?_) | (refine nxRS1 fun _ => ?_))
    | (show RM _ _ _ _ _ _ _ _ _ _; first | (refine nxRM ?_) | (refine nxRM1 fun _ => ?_))
    | (show YG _ _ _ _ _ _ _ _; refine YG.mk (fun hb => by (try (have hc := And.left hb; have hb := And.right hb; rw [hc])); (try rw [hb]); first | exact (y_callRA (q1) ⟨rfl, rfl, rfl⟩) | exact (y_callRA (q2) ⟨rfl, rfl, rfl⟩) | exact V.y vAuto) ?_)
    | (show VG _ _ _ _ _ _ _ _; refine VG.mk (fun hb => by (try (have hc := And.left hb; have hb := And.right hb; rw [hc])); (try rw [hb]); exact vAuto) ?_)
    | (refine nxVS ?_)
    | (refine nxGS ?_)
    | (refine nxX ?_)
    | (refine G.condN rfl (fun hc => ?_) (fun hc => ?_) <;> (try first | exact False.elim hc | (exfalso; omega))))
  exact X.ret (vs := [_]) rfl ⟨rfl, rfl⟩ rfl (fun w hw => ⟨ret_bool (by first | rfl | simp [Bool.and_assoc]), hw.ext⟩)
/-- The lists of these tracks are of a size that Same bears. -/
def bigT (l : List TrkT) : Prop := l.length ≤ 1000000 ∧ ∀ t ∈ l, t.gl.length ≤ 1000000 ∧ t.dl.length ≤ 1000000
theorem bigT.at {l : List TrkT} (h : bigT l) {i : Nat} (hi : i < l.length) : (nth l (i : Int)).gl.length ≤ 1000000 ∧ (nth l (i : Int)).dl.length ≤ 1000000 := by
  have e := nth_some (l := l) (m := (i : Int)) (by omega) (by omega)
  rw [Int.toNat_natCast] at e
  exact h.2 _ (List.mem_of_getElem? e)
theorem equalF_c (v u : Value) (l l' : List TrkT) (hl : bigT l) (hl' : bigT l') : ContIn Tryz.prog (fun w => PgP v l w ∧ PgP u l' w) 41 [v, u, .func (.func 42) #[] #[]] (.bool (sameL l l')) := fun w hw0 => by
  have hl0 := hl.1
  have hl1 := hl'.1
  refine enter Tryz.func41 rfl rfl rfl (Hp := [Hl.rd v cT 6 l, Hl.rd u cT 6 l']) (fun h hm => by
    rcases List.mem_cons.1 hm with rfl | hm
    · exact ⟨⟨hw0.1.1, fun h => by cases h⟩, rfl⟩
    rcases List.mem_singleton.1 hm with rfl
    exact ⟨⟨hw0.2.1, fun h => by cases h⟩, rfl⟩) ?_
  by_cases he : l.length = l'.length
  · repeat' (first
    | (refine nxV ?_)
    | (show RS _ _ _ _ _ _ _ _; first | (refine nxRS ?_) | (refine nxRS1 fun _ => ?_))
    | (show RM _ _ _ _ _ _ _ _ _ _; first | (refine nxRM ?_) | (refine nxRM1 fun _ => ?_))
    | (refine nxG ?_)
    | (refine nxX ?_)
    | (refine G.condN rfl (fun hc => ?_) (fun hc => ?_) <;> (try first | exact False.elim hc | (exfalso; omega))))
    refine G.loop (ι := Nat) (fun i => [(0, v), (1, u), (2, .func (.func 42) #[] #[]), (15, v), (16, .int .i64 l.length), (17, .int .i64 (i : Int))]) (fun _ => [Hl.rd v cT 6 l, Hl.rd u cT 6 l']) (fun i => i ≤ l.length ∧ ∀ k : Nat, k < i → sameT (nth l (k : Int)) (nth l' (k : Int)) = true) (fun i => l.length - i) 0 ⟨by omega, fun k hk => by omega⟩ ⟨rfl, rfl, rfl, rfl, rfl, rfl, trivial⟩ (fun w h => h) ?_
    rintro i mx ⟨g1, g2⟩ hmx
    rcases Nat.lt_or_ge i l.length with hi | hi
    · have q1 := same1_c (nth l (i : Int)) (nth l' (i : Int)) (hl.at hi) (hl'.at (by omega))
      have i1 := hw0.1.2.at hi
      have i2 := hw0.2.2.at (show i < l'.length by omega)
      cases hb : sameT (nth l (i : Int)) (nth l' (i : Int)) with
      | true =>
        rw [hb] at q1
        repeat' (first
    | (show YK _ _ _ _ _ ⟨_, .call { callee := .value (.tmp 26), args := _, argTypes := _ }, _, _, _, _⟩ _; refine YK.mk (y_callV (f := 42) (by rfl) q1 (fun w hw => ⟨i1.keep hw.ext, i2.keep hw.ext⟩) ⟨rfl, rfl, rfl⟩ (by decide +kernel)) ?_)
    | (refine nxV ?_)
    | (show RS _ _ _ _ _ _ _ _; first | (refine nxRS ?_) | (refine nxRS1 fun _ => ?_))
    | (show RM _ _ _ _ _ _ _ _ _ _; first | (refine nxRM ?_) | (refine nxRM1 fun _ => ?_))
    | (refine nxG ?_)
    | (refine nxX ?_)
    | (refine G.condN rfl (fun hc => ?_) (fun hc => ?_) <;> (try first | exact False.elim hc | (exfalso; omega))))
        refine X.again (i + 1) ⟨by omega, fun k hk => ?_⟩ (by omega) ⟨rfl, rfl, rfl, rfl, rfl, rfl, trivial⟩ (by exact fun w h => h.sub (by repeat (first | exact List.Sublist.refl _ | apply List.Sublist.cons_cons | apply List.Sublist.cons)))
        rcases Nat.lt_or_ge k i with h | h
        · exact g2 k h
        · rw [show k = i by omega]; exact hb
      | false =>
        rw [hb] at q1
        repeat' (first
    | (show YK _ _ _ _ _ ⟨_, .call { callee := .value (.tmp 26), args := _, argTypes := _ }, _, _, _, _⟩ _; refine YK.mk (y_callV (f := 42) (by rfl) q1 (fun w hw => ⟨i1.keep hw.ext, i2.keep hw.ext⟩) ⟨rfl, rfl, rfl⟩ (by decide +kernel)) ?_)
    | (refine nxV ?_)
    | (show RS _ _ _ _ _ _ _ _; first | (refine nxRS ?_) | (refine nxRS1 fun _ => ?_))
    | (show RM _ _ _ _ _ _ _ _ _ _; first | (refine nxRM ?_) | (refine nxRM1 fun _ => ?_))
    | (refine nxG ?_)
    | (refine nxX ?_)
    | (refine G.condN rfl (fun hc => ?_) (fun hc => ?_) <;> (try first | exact False.elim hc | (exfalso; omega))))
        exact X.ret (vs := [_]) rfl ⟨rfl, rfl⟩ rfl (fun w hw => ⟨ret_bool (sameL_f hi hb).symm, hw.ext⟩)
    · repeat' (first
    | (refine nxV ?_)
    | (show RS _ _ _ _ _ _ _ _; first | (refine nxRS ?_) | (refine nxRS1 fun _ => ?_))
    | (show RM _ _ _ _ _ _ _ _ _ _; first | (refine nxRM ?_) | (refine nxRM1 fun _ => ?_))
    | (refine nxG ?_)
    | (refine nxX ?_)
    | (refine G.condN rfl (fun hc => ?_) (fun hc => ?_) <;> (try first | exact False.elim hc | (exfalso; omega))))
      exact X.ret (vs := [_]) rfl ⟨rfl, rfl⟩ rfl (fun w hw => ⟨ret_bool (sameL_t he fun k hk => g2 k (by omega)).symm, hw.ext⟩)
  · repeat' (first
    | (refine nxV ?_)
    | (show RS _ _ _ _ _ _ _ _; first | (refine nxRS ?_) | (refine nxRS1 fun _ => ?_))
    | (show RM _ _ _ _ _ _ _ _ _ _; first | (refine nxRM ?_) | (refine nxRM1 fun _ => ?_))
    | (refine nxG ?_)
    | (refine nxX ?_)
    | (refine G.condN rfl (fun hc => ?_) (fun hc => ?_) <;> (try first | exact False.elim hc | (exfalso; omega))))
    exact X.ret (vs := [_]) rfl ⟨rfl, rfl⟩ rfl (fun w hw => ⟨ret_bool (sameL_n he).symm, hw.ext⟩)
theorem psame_c {y m d y' m' d' : Int} {v u : Value} {l l' : List TrkT} (hl : bigT l) (hl' : bigT l') : ContIn Tryz.prog (fun w => PgP v l w ∧ PgP u l' w) 13 [pgV y m d v, pgV y' m' d' u] (.bool (dateQ y m d y' m' d' && sameL l l')) := fun w hw0 => by
  have q1 := equalF_c v u l l' hl hl'
  unfold dateQ
  generalize sameL l l' = c1 at q1
  refine enter Tryz.func13 rfl rfl rfl (Hp := []) (fun h hm => by cases hm) ?_
  repeat' (first
    | (show YK _ _ _ _ _ ⟨_, .load 23 _, _, _, _, _⟩ _; refine YK.ofV (y_loadPart (k := 3) (by rfl) (by exact memA) (by decide +kernel) (by rfl)) ?_)
    | (show YG _ _ _ _ _ _ ⟨_, .call { callee := .value (.func 41), args := _, argTypes := _ }, _, _, _, _⟩ _; refine YG.mk (fun hb => by rw [hb]; exact y_callIn q1 (fun w hw => ⟨hw0.1.keep hw.ext, hw0.2.keep hw.ext⟩) ⟨rfl, rfl, rfl, rfl⟩ (by decide +kernel)) ?_)
    | (refine nxV ?_)
    | (show RS _ _ _ _ _ _ _ _; first | (refine nxRS ?_) | (refine nxRS1 fun _ => ?_))
    | (show RM _ _ _ _ _ _ _ _ _ _; first | (refine nxRM ?_) | (refine nxRM1 fun _ => ?_))
    | (refine nxG ?_)
    | (refine nxX ?_)
    | (refine G.condN rfl (fun hc => ?_) (fun hc => ?_) <;> (try first | exact False.elim hc | (exfalso; omega))))
  exact X.ret (vs := [_]) rfl ⟨rfl, rfl⟩ rfl (fun w hw => ⟨ret_bool (by first | rfl | simp [eqCells, vEq]), hw.ext⟩)
theorem rsame_c {y m d y' m' d' : Int} {v u : Value} {l l' : List TrkT} (hl : bigT l) (hl' : bigT l') : ContIn Tryz.prog (fun w => PgP v l w ∧ PgP u l' w) 14 [pgV y m d v, pgV y' m' d' u] (.bool (dateQ y m d y' m' d' && sameL l l')) := fun w hw0 => by
  have hl0 := hl.1
  have hl1 := hl'.1
  refine enter Tryz.func14 rfl rfl rfl (Hp := [Hl.rd v cT 6 l, Hl.rd u cT 6 l']) (fun h hm => by
    rcases List.mem_cons.1 hm with rfl | hm
    · exact ⟨⟨hw0.1.1, fun h => by cases h⟩, rfl⟩
    rcases List.mem_singleton.1 hm with rfl
    exact ⟨⟨hw0.2.1, fun h => by cases h⟩, rfl⟩) ?_
  repeat' (first
    | (show YK _ _ _ _ _ ⟨_, .load 23 _, _, _, _, _⟩ _; refine YK.ofV (y_loadPart (k := 3) (by rfl) (by exact memA) (by decide +kernel) (by rfl)) ?_)
    | (refine nxV ?_)
    | (show RS _ _ _ _ _ _ _ _; first | (refine nxRS ?_) | (refine nxRS1 fun _ => ?_))
    | (show RM _ _ _ _ _ _ _ _ _ _; first | (refine nxRM ?_) | (refine nxRM1 fun _ => ?_))
    | (refine nxG ?_)
    | (refine G.mixedA 6 [.go 0, .go 1, .go 2, .go 3, .go 4, .go 5, .go 6, .go 7, .go 8, .go 9, .pend 10, .pend 11, .done, .done, .go 12, .go 13] ?_)
    | (refine nxX ?_)
    | (refine G.condN rfl (fun hc => ?_) (fun hc => ?_) <;> (try first | exact False.elim hc | (exfalso; omega))))
  · have e0 : (dateQ y m d y' m' d' && sameL l l') = false := by
      rcases hc with h | h
      · rw [show dateQ y m d y' m' d' = false from h, Bool.false_and]
      · rw [sameL_n (by omega), Bool.and_false]
    rw [e0]
    exact X.ret (vs := [_]) rfl ⟨rfl, rfl⟩ rfl (fun w hw => ⟨rfl, hw.ext⟩)
  · rename_i b2 b3
    have e0 : dateQ y m d y' m' d' = true := hc.1
    have he : l.length = l'.length := by have := hc.2; omega
    rw [e0, Bool.true_and]
    clear hc
    refine G.loop (ι := Nat) (fun i => [(2, .pointer (some ⟨b2, 0, none⟩)), (3, .pointer (some ⟨b3, 0, none⟩)), (5, .int .i64 (i : Int))]) (fun _ => [Hl.blk b3 26 [.int .i64 y', .int .i64 m', .int .i64 d', u], Hl.blk b2 26 [.int .i64 y, .int .i64 m, .int .i64 d, v], Hl.rd v cT 6 l, Hl.rd u cT 6 l']) (fun i => i ≤ l.length ∧ ∀ k : Nat, k < i → sameT (nth l (k : Int)) (nth l' (k : Int)) = true) (fun i => l.length - i) 0 ⟨by omega, fun k hk => by omega⟩ ⟨rfl, rfl, rfl, trivial⟩ (fun w h => h) ?_
    rintro i mx ⟨g1, g2⟩ hmx
    rcases Nat.lt_or_ge i l.length with hi | hi
    · have a1 := hl.at hi
      have a2 := hl'.at (show i < l'.length by omega)
      have q1 := reqG_c (nth l (i : Int)).gv.v (nth l' (i : Int)).gv.v (nth l (i : Int)).gl (nth l' (i : Int)).gl a1.1 a2.1
      have q2 := reqG_c (nth l (i : Int)).dv.v (nth l' (i : Int)).dv.v (nth l (i : Int)).dl (nth l' (i : Int)).dl a1.2 a2.2
      have i1 := hw0.1.2.at hi
      have i2 := hw0.2.2.at (show i < l'.length by omega)
      have hs : sameT (nth l (i : Int)) (nth l' (i : Int)) = (decide ((nth l (i : Int)).nm = (nth l' (i : Int)).nm) && decide ((nth l (i : Int)).gl = (nth l' (i : Int)).gl) && decide ((nth l (i : Int)).dl = (nth l' (i : Int)).dl) && decide ((nth l (i : Int)).se = (nth l' (i : Int)).se) && decide ((nth l (i : Int)).pa = (nth l' (i : Int)).pa) && decide ((nth l (i : Int)).be = (nth l' (i : Int)).be)) := rfl
      generalize decide ((nth l (i : Int)).gl = (nth l' (i : Int)).gl) = c1 at q1 hs
      generalize decide ((nth l (i : Int)).dl = (nth l' (i : Int)).dl) = c2 at q2 hs
      refine G.bring i1.1 (G.bring i1.2 (G.bring i2.1 (G.bring i2.2 ?_)))
      repeat' (first
    | (show YK _ _ _ _ _ ⟨_, .call { callee := .builtin .len, args := _, argTypes := #[9] }, _, _, _, _⟩ _; refine YK.ofV (y_lenS (by rfl) StrTy.is) ?_)
    | (show VK _ _ _ _ _ ⟨_, .call { callee := .builtin .len, args := _, argTypes := #[9] }, _, _, _, _⟩ _; refine VK.mk (y_lenS (by rfl) StrTy.is) ?_)
    | (show YG _ _ _ _ _ _ ⟨_, .call { callee := .builtin .len, args := _, argTypes := #[9] }, _, _, _, _⟩ _; refine YG.mk (fun hb => by (try (have hc := And.left hb; have hb := And.right hb; rw [hc])); (try rw [hb]); exact V.y (y_lenS (by rfl) StrTy.is)) ?_)
    | (show VG _ _ _ _ _ _ ⟨_, .call { callee := .builtin .len, args := _, argTypes := #[9] }, _, _, _, _⟩ _; refine VG.mk (fun hb => by (try (have hc := And.left hb; have hb := And.right hb; rw [hc])); (try rw [hb]); exact y_lenS (by rfl) StrTy.is) ?_)
    | (show YK _ _ _ _ _ _ _; first | refine YK.mk (y_callRA (q1) ⟨rfl, rfl, rfl⟩) ?_ | refine YK.mk (y_callRA (q2) ⟨rfl, rfl, rfl⟩) ?_)
    | (show YK _ _ _ _ _ _ _; refine YK.ofV vAuto ?_)
    | (show VK _ _ _ _ _ _ _; refine VK.mk vAuto ?_)
    | (show RS _ _ _ _ _ _ _ _; first | (refine nxRS ?_) | (refine nxRS1 fun _ => ?_))
    | (show RM _ _ _ _ _ _ _ _ _ _; first | (refine nxRM ?_) | (refine nxRM1 fun _ => ?_))
    | (show YG _ _ _ _ _ _ _ _; refine YG.mk (fun hb => by (try (have hc := And.left hb; have hb := And.right hb; rw [hc])); (try rw [hb]); first | exact (y_callRA (q1) ⟨rfl, rfl, rfl⟩) | exact (y_callRA (q2) ⟨rfl, rfl, rfl⟩) | exact V.y vAuto) ?_)
    | (show VG _ _ _ _ _ _ _ _; refine VG.mk (fun hb => by (try (have hc := And.left hb; have hb := And.right hb; rw [hc])); (try rw [hb]); exact vAuto) ?_)
    | (refine nxVS ?_)
    | (refine nxGS ?_)
    | (refine G.mixedA 6 [.go 0, .go 1, .go 2, .go 3, .go 4, .go 5, .go 6, .go 7, .go 8, .go 9, .pend 10, .pend 11, .done, .done, .go 12, .go 13] ?_)
    | (refine nxX ?_)
    | (refine G.condN rfl (fun hc => ?_) (fun hc => ?_) <;> (try first | exact False.elim hc | (exfalso; omega))))
      · have hx : sameT (nth l (i : Int)) (nth l' (i : Int)) = false := by
          rw [hs]
          rcases hc with ((((h | h) | h) | h) | h) | h <;> simp [h]
        exact X.ret (vs := [_]) rfl ⟨rfl, rfl⟩ rfl (fun w hw => ⟨ret_bool (sameL_f hi hx).symm, hw.ext⟩)
      · have hx : sameT (nth l (i : Int)) (nth l' (i : Int)) = true := by rw [hs]; simp_all
        refine X.again (i + 1) ⟨by omega, fun k hk => ?_⟩ (by omega) ⟨rfl, rfl, rfl, trivial⟩ (by exact fun w h => h.sub (by repeat (first | exact List.Sublist.refl _ | apply List.Sublist.cons_cons | apply List.Sublist.cons)))
        rcases Nat.lt_or_ge k i with h | h
        · exact g2 k h
        · rw [show k = i by omega]; exact hx
    · repeat' (first
    | (refine nxV ?_)
    | (show RS _ _ _ _ _ _ _ _; first | (refine nxRS ?_) | (refine nxRS1 fun _ => ?_))
    | (show RM _ _ _ _ _ _ _ _ _ _; first | (refine nxRM ?_) | (refine nxRM1 fun _ => ?_))
    | (refine nxG ?_)
    | (refine G.mixedA 6 [.go 0, .go 1, .go 2, .go 3, .go 4, .go 5, .go 6, .go 7, .go 8, .go 9, .pend 10, .pend 11, .done, .done, .go 12, .go 13] ?_)
    | (refine nxX ?_)
    | (refine G.condN rfl (fun hc => ?_) (fun hc => ?_) <;> (try first | exact False.elim hc | (exfalso; omega))))
      exact X.ret (vs := [_]) rfl ⟨rfl, rfl⟩ rfl (fun w hw => ⟨ret_bool (sameL_t he fun k hk => g2 k (by omega)).symm, hw.ext⟩)
end Go.Proofs.YtpekkcahehhkmaaGreatDoor
/- The reference of chapter 13: numbers in a range, tracks, validity. -/
set_option linter.unusedVariables false
set_option maxHeartbeats 4000000
namespace Go.Proofs.YtpekkcahehhkmaaGreatDoor
open Go.RowKit

section
variable {P : Program} {Q : Exit → Act → World → Prop} {n : Nat} {L : FL} {w0 : World} {H : List Hl}
theorem RS.lit1IF {ops : Array Oper} {rest : List Oper} {dd j g : Nat} {ty t e : TypeId} {bytes : Nat} {pos : String} {af : Array Edge} {x : Operand} {m : Int} (h : ∀ v' : Sl, RS P ops Q n ((dd, v'.v) :: L) w0 (Hl.rw v'.v e cI 1 [m] :: H) rest) (hx : evO L x = some (.int .i64 m) := by rfl) (hj : (ops[j]?).bind (·.dst) = some g := by rfl) (hg : lk L g = some (.bool false) := by rfl) [ht : RowTy P t e 1 bytes] (hd : Nat.blt dd n = true := by rfl) :
    RS P ops Q n L w0 H (⟨some dd, .buildSlice t 1 #[(0, x)], ty, pos, af, some (j, false)⟩ :: rest) := RS.actXT hj hg rfl (x_litS (parts := [(0, x)]) (vs := [.int .i64 m]) (cs := cI m) (f := cI) (l := [m]) ⟨hx, rfl⟩ rfl rfl rfl rfl (fun zs hz => by
      match zs, hz with
      | [_], _ => rfl) rfl rfl rfl (rowTy_B ht.is) hd) fun v' _ => h v'
end
theorem rletter_c (b : Int) : Cont Tryz.prog 112 [.int .u8 b] (.bool (letterB b)) := fun w => by
  refine enter0 Tryz.func112 rfl rfl rfl ?_
  repeat' (first
    | (refine nxV ?_)
    | (show RS _ _ _ _ _ _ _ _; first | (refine nxRS ?_) | (refine nxRS1 fun _ => ?_))
    | (show RM _ _ _ _ _ _ _ _ _ _; first | (refine nxRM ?_) | (refine nxRM1 fun _ => ?_))
    | (refine nxG ?_)
    | (refine nxX ?_)
    | (refine G.condN rfl (fun hc => ?_) (fun hc => ?_) <;> (try first | exact False.elim hc | (exfalso; omega))))
  refine X.ret (vs := [_]) rfl ⟨rfl, rfl⟩ rfl (fun w hw => ⟨ret_bool ?_, hw.ext⟩)
  unfold letterB
  simp
theorem rdigit_c (b : Int) : Cont Tryz.prog 113 [.int .u8 b] (.bool (digitB b)) := fun w => by
  refine enter0 Tryz.func113 rfl rfl rfl ?_
  repeat' (first
    | (refine nxV ?_)
    | (show RS _ _ _ _ _ _ _ _; first | (refine nxRS ?_) | (refine nxRS1 fun _ => ?_))
    | (show RM _ _ _ _ _ _ _ _ _ _; first | (refine nxRM ?_) | (refine nxRM1 fun _ => ?_))
    | (refine nxG ?_)
    | (refine nxX ?_)
    | (refine G.condN rfl (fun hc => ?_) (fun hc => ?_) <;> (try first | exact False.elim hc | (exfalso; omega))))
  refine X.ret (vs := [_]) rfl ⟨rfl, rfl⟩ rfl (fun w hw => ⟨ret_bool ?_, hw.ext⟩)
  unfold digitB
  simp
theorem rname_no {l : List UInt8} (h : l.length = 0 ∨ 20 < l.length ∨ letterB (nth l 0).toNat = false) : nameB l = false := by
  unfold nameB
  rcases h with h | h | h
  · rw [List.eq_nil_of_length_eq_zero h]; rfl
  · rw [decide_eq_false (by omega)]; rfl
  · rw [h]; simp
theorem rname_c (l : List UInt8) (hl : l.length ≤ 1000000) : Cont Tryz.prog 75 [strV l] (.bool (nameB l)) := fun w => by
  by_cases h0 : l.length = 0 ∨ 20 < l.length
  · have e := rname_no (l := l) (by rcases h0 with h | h; exact .inl h; exact .inr (.inl h))
    refine enter0 Tryz.func75 rfl rfl rfl ?_
    repeat' (first
    | (show YK _ _ _ _ _ ⟨_, .call { callee := .builtin .len, args := _, argTypes := #[9] }, _, _, _, _⟩ _; refine YK.ofV (y_lenS (by rfl) StrTy.is) ?_)
    | (show VK _ _ _ _ _ ⟨_, .call { callee := .builtin .len, args := _, argTypes := #[9] }, _, _, _, _⟩ _; refine VK.mk (y_lenS (by rfl) StrTy.is) ?_)
    | (show YG _ _ _ _ _ _ ⟨_, .call { callee := .builtin .len, args := _, argTypes := #[9] }, _, _, _, _⟩ _; refine YG.mk (fun hb => by (try (have hc := And.left hb; have hb := And.right hb; rw [hc])); (try rw [hb]); exact V.y (y_lenS (by rfl) StrTy.is)) ?_)
    | (show VG _ _ _ _ _ _ ⟨_, .call { callee := .builtin .len, args := _, argTypes := #[9] }, _, _, _, _⟩ _; refine VG.mk (fun hb => by (try (have hc := And.left hb; have hb := And.right hb; rw [hc])); (try rw [hb]); exact y_lenS (by rfl) StrTy.is) ?_)
    | (show YG _ _ _ _ _ _ ⟨_, .call { callee := .value _, args := _, argTypes := _ }, _, _, _, _⟩ _; refine YG.mk (v := .bool false) (fun hb => by exfalso; simp only [Bool.or_eq_false_iff, decide_eq_false_iff_not] at hb; omega) ?_)
    | (show YG _ _ _ _ _ _ ⟨_, .index _ _ _, _, _, _, _⟩ _; refine YG.mk (v := .int .u8 0) (fun hb => by exfalso; simp only [Bool.or_eq_false_iff, decide_eq_false_iff_not] at hb; omega) ?_)
    | (refine nxV ?_)
    | (show RS _ _ _ _ _ _ _ _; first | (refine nxRS ?_) | (refine nxRS1 fun _ => ?_))
    | (show RM _ _ _ _ _ _ _ _ _ _; first | (refine nxRM ?_) | (refine nxRM1 fun _ => ?_))
    | (refine nxG ?_)
    | (refine nxVS ?_)
    | (refine nxGS ?_)
    | (refine nxX ?_)
    | (refine G.condN rfl (fun hc => ?_) (fun hc => ?_) <;> (try first | exact False.elim hc | (exfalso; omega))))
    all_goals exact X.ret (vs := [_]) rfl ⟨rfl, rfl⟩ rfl (fun w hw => ⟨ret_bool e.symm, hw.ext⟩)
  · have q0 := rletter_c ((nth l 0).toNat : Int)
    cases hb0 : letterB (nth l 0).toNat with
    | false =>
      have e := rname_no (l := l) (.inr (.inr hb0))
      rw [hb0] at q0
      refine enter0 Tryz.func75 rfl rfl rfl ?_
      repeat' (first
    | (show YK _ _ _ _ _ ⟨_, .call { callee := .builtin .len, args := _, argTypes := #[9] }, _, _, _, _⟩ _; refine YK.ofV (y_lenS (by rfl) StrTy.is) ?_)
    | (show VK _ _ _ _ _ ⟨_, .call { callee := .builtin .len, args := _, argTypes := #[9] }, _, _, _, _⟩ _; refine VK.mk (y_lenS (by rfl) StrTy.is) ?_)
    | (show YG _ _ _ _ _ _ ⟨_, .call { callee := .builtin .len, args := _, argTypes := #[9] }, _, _, _, _⟩ _; refine YG.mk (fun hb => by (try (have hc := And.left hb; have hb := And.right hb; rw [hc])); (try rw [hb]); exact V.y (y_lenS (by rfl) StrTy.is)) ?_)
    | (show VG _ _ _ _ _ _ ⟨_, .call { callee := .builtin .len, args := _, argTypes := #[9] }, _, _, _, _⟩ _; refine VG.mk (fun hb => by (try (have hc := And.left hb; have hb := And.right hb; rw [hc])); (try rw [hb]); exact y_lenS (by rfl) StrTy.is) ?_)
    | (show YK _ _ _ _ _ _ _; first | refine YK.mk (y_callA (q0) ⟨rfl, rfl⟩) ?_)
    | (show YK _ _ _ _ _ _ _; refine YK.ofV vAuto ?_)
    | (show VK _ _ _ _ _ _ _; refine VK.mk vAuto ?_)
    | (show RS _ _ _ _ _ _ _ _; first | (refine nxRS ?_) | (refine nxRS1 fun _ => ?_))
    | (show RM _ _ _ _ _ _ _ _ _ _; first | (refine nxRM ?_) | (refine nxRM1 fun _ => ?_))
    | (show YG _ _ _ _ _ _ _ _; refine YG.mk (fun hb => by (try (have hc := And.left hb; have hb := And.right hb; rw [hc])); (try rw [hb]); first | exact (y_callA (q0) ⟨rfl, rfl⟩) | exact V.y vAuto) ?_)
    | (show VG _ _ _ _ _ _ _ _; refine VG.mk (fun hb => by (try (have hc := And.left hb; have hb := And.right hb; rw [hc])); (try rw [hb]); exact vAuto) ?_)
    | (refine nxVS ?_)
    | (refine nxGS ?_)
    | (refine nxX ?_)
    | (refine G.condN rfl (fun hc => ?_) (fun hc => ?_) <;> (try first | exact False.elim hc | (exfalso; omega))))
      all_goals first
        | exact X.ret (vs := [_]) rfl ⟨rfl, rfl⟩ rfl (fun w hw => ⟨ret_bool e.symm, hw.ext⟩)
        | (exfalso; simp at hc; done)
    | true =>
      rw [hb0] at q0
      refine enter0 Tryz.func75 rfl rfl rfl ?_
      repeat' (first
    | (show YK _ _ _ _ _ ⟨_, .call { callee := .builtin .len, args := _, argTypes := #[9] }, _, _, _, _⟩ _; refine YK.ofV (y_lenS (by rfl) StrTy.is) ?_)
    | (show VK _ _ _ _ _ ⟨_, .call { callee := .builtin .len, args := _, argTypes := #[9] }, _, _, _, _⟩ _; refine VK.mk (y_lenS (by rfl) StrTy.is) ?_)
    | (show YG _ _ _ _ _ _ ⟨_, .call { callee := .builtin .len, args := _, argTypes := #[9] }, _, _, _, _⟩ _; refine YG.mk (fun hb => by (try (have hc := And.left hb; have hb := And.right hb; rw [hc])); (try rw [hb]); exact V.y (y_lenS (by rfl) StrTy.is)) ?_)
    | (show VG _ _ _ _ _ _ ⟨_, .call { callee := .builtin .len, args := _, argTypes := #[9] }, _, _, _, _⟩ _; refine VG.mk (fun hb => by (try (have hc := And.left hb; have hb := And.right hb; rw [hc])); (try rw [hb]); exact y_lenS (by rfl) StrTy.is) ?_)
    | (show YK _ _ _ _ _ _ _; first | refine YK.mk (y_callA (q0) ⟨rfl, rfl⟩) ?_)
    | (show YK _ _ _ _ _ _ _; refine YK.ofV vAuto ?_)
    | (show VK _ _ _ _ _ _ _; refine VK.mk vAuto ?_)
    | (show RS _ _ _ _ _ _ _ _; first | (refine nxRS ?_) | (refine nxRS1 fun _ => ?_))
    | (show RM _ _ _ _ _ _ _ _ _ _; first | (refine nxRM ?_) | (refine nxRM1 fun _ => ?_))
    | (show YG _ _ _ _ _ _ _ _; refine YG.mk (fun hb => by (try (have hc := And.left hb; have hb := And.right hb; rw [hc])); (try rw [hb]); first | exact (y_callA (q0) ⟨rfl, rfl⟩) | exact V.y vAuto) ?_)
    | (show VG _ _ _ _ _ _ _ _; refine VG.mk (fun hb => by (try (have hc := And.left hb; have hb := And.right hb; rw [hc])); (try rw [hb]); exact vAuto) ?_)
    | (refine nxVS ?_)
    | (refine nxGS ?_)
    | (refine nxX ?_)
    | (refine G.condN rfl (fun hc => ?_) (fun hc => ?_) <;> (try first | exact False.elim hc | (exfalso; omega))))
      refine G.loop (ι := Nat) (fun i => [(0, strV l), (3, .int .i64 (i : Int))]) (fun _ => []) (fun i => i ≤ l.length ∧ ∀ k : Nat, k < i → wordB (nth l (k : Int)).toNat = true) (fun i => l.length - i) 0 ⟨Nat.zero_le _, fun k hk => by omega⟩ ⟨rfl, rfl, trivial⟩ (fun w h => h) ?_
      rintro i mx ⟨g1, g2⟩ hmx
      rcases Nat.lt_or_ge i l.length with hi | hi
      · have q1 := rletter_c ((nth l (i : Int)).toNat : Int)
        have q2 := rdigit_c ((nth l (i : Int)).toNat : Int)
        have hw : wordB (nth l (i : Int)).toNat = (letterB (nth l (i : Int)).toNat || digitB (nth l (i : Int)).toNat || decide (((nth l (i : Int)).toNat : Int) = 95)) := rfl
        generalize letterB (nth l (i : Int)).toNat = b1 at q1 hw
        generalize digitB (nth l (i : Int)).toNat = b2 at q2 hw
        repeat' (first
    | (show YK _ _ _ _ _ ⟨_, .call { callee := .builtin .len, args := _, argTypes := #[9] }, _, _, _, _⟩ _; refine YK.ofV (y_lenS (by rfl) StrTy.is) ?_)
    | (show VK _ _ _ _ _ ⟨_, .call { callee := .builtin .len, args := _, argTypes := #[9] }, _, _, _, _⟩ _; refine VK.mk (y_lenS (by rfl) StrTy.is) ?_)
    | (show YG _ _ _ _ _ _ ⟨_, .call { callee := .builtin .len, args := _, argTypes := #[9] }, _, _, _, _⟩ _; refine YG.mk (fun hb => by (try (have hc := And.left hb; have hb := And.right hb; rw [hc])); (try rw [hb]); exact V.y (y_lenS (by rfl) StrTy.is)) ?_)
    | (show VG _ _ _ _ _ _ ⟨_, .call { callee := .builtin .len, args := _, argTypes := #[9] }, _, _, _, _⟩ _; refine VG.mk (fun hb => by (try (have hc := And.left hb; have hb := And.right hb; rw [hc])); (try rw [hb]); exact y_lenS (by rfl) StrTy.is) ?_)
    | (show YK _ _ _ _ _ _ _; first | refine YK.mk (y_callA (q1) ⟨rfl, rfl⟩) ?_ | refine YK.mk (y_callA (q2) ⟨rfl, rfl⟩) ?_)
    | (show YK _ _ _ _ _ _ _; refine YK.ofV vAuto ?_)
    | (show VK _ _ _ _ _ _ _; refine VK.mk vAuto ?_)
    | (show RS _ _ _ _ _ _ _ _; first | (refine nxRS ?_) | (refine nxRS1 fun _ => ?_))
    | (show RM _ _ _ _ _ _ _ _ _ _; first | (refine nxRM ?_) | (refine nxRM1 fun _ => ?_))
    | (show YG _ _ _ _ _ _ _ _; refine YG.mk (fun hb => by (try (have hc := And.left hb; have hb := And.right hb; rw [hc])); (try rw [hb]); first | exact (y_callA (q1) ⟨rfl, rfl⟩) | exact (y_callA (q2) ⟨rfl, rfl⟩) | exact V.y vAuto) ?_)
    | (show VG _ _ _ _ _ _ _ _; refine VG.mk (fun hb => by (try (have hc := And.left hb; have hb := And.right hb; rw [hc])); (try rw [hb]); exact vAuto) ?_)
    | (refine nxVS ?_)
    | (refine nxGS ?_)
    | (refine nxX ?_)
    | (refine G.condN rfl (fun hc => ?_) (fun hc => ?_) <;> (try first | exact False.elim hc | (exfalso; omega))))
        · have e : nameB l = false := by
            unfold nameB
            rw [allP_f hi (by rw [hw]; cases b1 <;> cases b2 <;> simp_all)]
            simp
          exact X.ret (vs := [_]) rfl ⟨rfl, rfl⟩ rfl (fun w hw => ⟨ret_bool e.symm, hw.ext⟩)
        · refine X.again (i + 1) ⟨by omega, fun k hk => ?_⟩ (by omega) ⟨rfl, rfl, trivial⟩ (fun w h => h)
          rcases Nat.lt_or_ge k i with h | h
          · exact g2 k h
          · rw [show k = i by omega, hw]; cases b1 <;> cases b2 <;> simp_all
      · repeat' (first
    | (show YK _ _ _ _ _ ⟨_, .call { callee := .builtin .len, args := _, argTypes := #[9] }, _, _, _, _⟩ _; refine YK.ofV (y_lenS (by rfl) StrTy.is) ?_)
    | (show VK _ _ _ _ _ ⟨_, .call { callee := .builtin .len, args := _, argTypes := #[9] }, _, _, _, _⟩ _; refine VK.mk (y_lenS (by rfl) StrTy.is) ?_)
    | (show YG _ _ _ _ _ _ ⟨_, .call { callee := .builtin .len, args := _, argTypes := #[9] }, _, _, _, _⟩ _; refine YG.mk (fun hb => by (try (have hc := And.left hb; have hb := And.right hb; rw [hc])); (try rw [hb]); exact V.y (y_lenS (by rfl) StrTy.is)) ?_)
    | (show VG _ _ _ _ _ _ ⟨_, .call { callee := .builtin .len, args := _, argTypes := #[9] }, _, _, _, _⟩ _; refine VG.mk (fun hb => by (try (have hc := And.left hb; have hb := And.right hb; rw [hc])); (try rw [hb]); exact y_lenS (by rfl) StrTy.is) ?_)
    | (refine nxV ?_)
    | (show RS _ _ _ _ _ _ _ _; first | (refine nxRS ?_) | (refine nxRS1 fun _ => ?_))
    | (show RM _ _ _ _ _ _ _ _ _ _; first | (refine nxRM ?_) | (refine nxRM1 fun _ => ?_))
    | (refine nxG ?_)
    | (refine nxVS ?_)
    | (refine nxGS ?_)
    | (refine nxX ?_)
    | (refine G.condN rfl (fun hc => ?_) (fun hc => ?_) <;> (try first | exact False.elim hc | (exfalso; omega))))
        have e : nameB l = true := by
          unfold nameB
          rw [allP_t (fun k hk => g2 k (by omega)), decide_eq_true (by omega), hb0, decide_eq_true (by intro g; rw [g] at h0; exact h0 (.inl rfl))]; rfl
        exact X.ret (vs := [_]) rfl ⟨rfl, rfl⟩ rfl (fun w hw => ⟨ret_bool e.symm, hw.ext⟩)
theorem rin_c (v : Value) (l : List Int) (lo up : Int) (hl : l.length ≤ 1000000) : ContR Tryz.prog [Hl.rd v cI 1 l] 38 [v, .int .i64 lo, .int .i64 up] (.bool (inB l lo up)) := fun w hw0 => by
  refine enter Tryz.func38 rfl rfl rfl hw0 ?_
  repeat' (first
    | (refine nxV ?_)
    | (show RS _ _ _ _ _ _ _ _; first | (refine nxRS ?_) | (refine nxRS1 fun _ => ?_))
    | (show RM _ _ _ _ _ _ _ _ _ _; first | (refine nxRM ?_) | (refine nxRM1 fun _ => ?_))
    | (refine nxG ?_)
    | (refine nxX ?_)
    | (refine G.condN rfl (fun hc => ?_) (fun hc => ?_) <;> (try first | exact False.elim hc | (exfalso; omega))))
  refine G.loop (ι := Nat) (fun i => [(0, v), (1, .int .i64 lo), (2, .int .i64 up), (7, .int .i64 (i : Int))]) (fun _ => [Hl.rd v cI 1 l]) (fun i => i ≤ l.length ∧ ∀ k : Nat, k < i → badI lo up (nth l (k : Int)) = false) (fun i => l.length - i) 0 ⟨by omega, fun k hk => by omega⟩ ⟨rfl, rfl, rfl, rfl, trivial⟩ (fun w h => h) ?_
  rintro i mx ⟨g1, g2⟩ hmx
  rw [← find_in]
  rcases Nat.lt_or_ge i l.length with hi | hi
  · repeat' (first
    | (refine nxV ?_)
    | (show RS _ _ _ _ _ _ _ _; first | (refine nxRS ?_) | (refine nxRS1 fun _ => ?_))
    | (show RM _ _ _ _ _ _ _ _ _ _; first | (refine nxRM ?_) | (refine nxRM1 fun _ => ?_))
    | (refine nxG ?_)
    | (refine nxX ?_)
    | (refine G.condN rfl (fun hc => ?_) (fun hc => ?_) <;> (try first | exact False.elim hc | (exfalso; omega))))
    · have hb : badI lo up (nth l (i : Int)) = true := by unfold badI; simp; omega
      rw [findr_some hi g2 hb]
      exact X.ret (vs := [_]) rfl ⟨rfl, rfl⟩ rfl (fun w hw => ⟨rfl, hw.ext⟩)
    · have hb : badI lo up (nth l (i : Int)) = false := by unfold badI; simp; omega
      refine X.again (i + 1) ⟨by omega, fun k hk => ?_⟩ (by omega) ⟨rfl, rfl, rfl, rfl, trivial⟩ (by exact fun w h => h.sub (by repeat (first | exact List.Sublist.refl _ | apply List.Sublist.cons_cons | apply List.Sublist.cons)))
      rcases Nat.lt_or_ge k i with h | h
      · exact g2 k h
      · rw [show k = i by omega]; exact hb
  · repeat' (first
    | (refine nxV ?_)
    | (show RS _ _ _ _ _ _ _ _; first | (refine nxRS ?_) | (refine nxRS1 fun _ => ?_))
    | (show RM _ _ _ _ _ _ _ _ _ _; first | (refine nxRM ?_) | (refine nxRM1 fun _ => ?_))
    | (refine nxG ?_)
    | (refine nxX ?_)
    | (refine G.condN rfl (fun hc => ?_) (fun hc => ?_) <;> (try first | exact False.elim hc | (exfalso; omega))))
    rw [findr_none (fun k hk => g2 k (by omega))]
    exact X.ret (vs := [_]) rfl ⟨rfl, rfl⟩ rfl (fun w hw => ⟨rfl, hw.ext⟩)
theorem rvalidT_c (t : TrkT) (hn : t.nm.length ≤ 1000000) (hg : t.gl.length ≤ 1000000) (hd : t.dl.length ≤ 1000000) : ContR Tryz.prog [Hl.rd t.gv.v cI 1 t.gl, Hl.rd t.dv.v cI 1 t.dl] 40 [trV t] (.bool (okT t)) := fun w hw0 => by
  have q0 := rname_c t.nm hn
  have q1 := rin_c t.gv.v t.gl 0 215999 hg
  have q2 := rin_c t.dv.v t.dl (-54000) 54000 hd
  have q3 := fun v => rin_c v [t.se] 0 200 (by simp)
  have q4 := fun v => rin_c v [t.pa] 0 620 (by simp)
  have q5 := fun v => rin_c v [t.be] 0 1000 (by simp)
  unfold okT
  generalize nameB t.nm = c0 at q0
  generalize inB t.gl 0 215999 = c1 at q1
  generalize inB t.dl (-54000) 54000 = c2 at q2
  generalize inB [t.se] 0 200 = c3 at q3
  generalize inB [t.pa] 0 620 = c4 at q4
  generalize inB [t.be] 0 1000 = c5 at q5
  refine enter Tryz.func40 rfl rfl rfl hw0 ?_
  repeat' (first
    | (show YK _ _ _ _ _ ⟨_, .call { callee := .builtin .len, args := _, argTypes := #[9] }, _, _, _, _⟩ _; refine YK.ofV (y_lenS (by rfl) StrTy.is) ?_)
    | (show VK _ _ _ _ _ ⟨_, .call { callee := .builtin .len, args := _, argTypes := #[9] }, _, _, _, _⟩ _; refine VK.mk (y_lenS (by rfl) StrTy.is) ?_)
    | (show YG _ _ _ _ _ _ ⟨_, .call { callee := .builtin .len, args := _, argTypes := #[9] }, _, _, _, _⟩ _; refine YG.mk (fun hb => by (try (have hc := And.left hb; have hb := And.right hb; rw [hc])); (try rw [hb]); exact V.y (y_lenS (by rfl) StrTy.is)) ?_)
    | (show VG _ _ _ _ _ _ ⟨_, .call { callee := .builtin .len, args := _, argTypes := #[9] }, _, _, _, _⟩ _; refine VG.mk (fun hb => by (try (have hc := And.left hb; have hb := And.right hb; rw [hc])); (try rw [hb]); exact y_lenS (by rfl) StrTy.is) ?_)
    | (show RS _ _ _ _ ((28, .bool (_ && _)) :: _) _ _ _; refine RS.splB 28 rfl (fun hq => ?_) (fun hq => ?_))
    | (show RS _ _ _ _ ((34, .bool c3) :: _) _ _ _; refine RS.splB 34 rfl (fun hq => ?_) (fun hq => ?_))
    | (show RS _ _ _ _ ((40, .bool c4) :: _) _ _ _; refine RS.splB 40 rfl (fun hq => ?_) (fun hq => ?_))
    | (refine RS.lit1IT (fun v' => ?_))
    | (show YK _ _ _ _ _ _ _; first | refine YK.mk (y_callA (q0) ⟨rfl, rfl⟩) ?_ | refine YK.mk (y_callRA (q1) ⟨rfl, rfl, rfl, rfl⟩) ?_ | refine YK.mk (y_callRA (q2) ⟨rfl, rfl, rfl, rfl⟩) ?_ | refine YK.mk (y_callRA (q3 _) ⟨rfl, rfl, rfl, rfl⟩) ?_ | refine YK.mk (y_callRA (q4 _) ⟨rfl, rfl, rfl, rfl⟩) ?_ | refine YK.mk (y_callRA (q5 _) ⟨rfl, rfl, rfl, rfl⟩) ?_)
    | (show YK _ _ _ _ _ _ _; refine YK.ofV vAuto ?_)
    | (show VK _ _ _ _ _ _ _; refine VK.mk vAuto ?_)
    | (show RS _ _ _ _ _ _ _ _; first | (refine nxRS ?_) | (refine nxRS1 fun _ => ?_))
    | (show RM _ _ _ _ _ _ _ _ _ _; first | (refine nxRM ?_) | (refine nxRM1 fun _ => ?_))
    | (show YG _ _ _ _ _ _ _ _; refine YG.mk (fun hb => by (try (have hc := And.left hb; have hb := And.right hb; rw [hc])); (try rw [hb]); first | exact (y_callA (q0) ⟨rfl, rfl⟩) | exact (y_callRA (q1) ⟨rfl, rfl, rfl, rfl⟩) | exact (y_callRA (q2) ⟨rfl, rfl, rfl, rfl⟩) | exact (y_callRA (q3 _) ⟨rfl, rfl, rfl, rfl⟩) | exact (y_callRA (q4 _) ⟨rfl, rfl, rfl, rfl⟩) | exact (y_callRA (q5 _) ⟨rfl, rfl, rfl, rfl⟩) | exact V.y vAuto) ?_)
    | (show VG _ _ _ _ _ _ _ _; refine VG.mk (fun hb => by (try (have hc := And.left hb; have hb := And.right hb; rw [hc])); (try rw [hb]); exact vAuto) ?_)
    | (refine nxVS ?_)
    | (refine nxGS ?_)
    | (refine nxX ?_)
    | (refine G.condN rfl (fun hc => ?_) (fun hc => ?_) <;> (try first | exact False.elim hc | (exfalso; omega))))
  all_goals exact X.ret (vs := [_]) rfl ⟨rfl, rfl⟩ rfl (fun w hw => ⟨ret_bool (by simp_all), hw.ext⟩)
end Go.Proofs.YtpekkcahehhkmaaGreatDoor
/- The reference of chapter 13: Valid. -/
set_option linter.unusedVariables false
set_option maxHeartbeats 4000000
namespace Go.Proofs.YtpekkcahehhkmaaGreatDoor
open Go.RowKit

theorem idx_self {l : List TrkT} {i : Nat} (hi : i < l.length) : idxT l (nth l (i : Int)).nm = (i : Int) ↔ (nth l (i : Int)).nm ∉ nmsL l i := by
  have hmem : ∀ x, x ∈ nmsL l i ↔ ∃ k : Nat, k < i ∧ (nth l (k : Int)).nm = x := fun x => by
    unfold nmsL
    rw [List.mem_reverse, List.mem_map]
    constructor
    · rintro ⟨t, ht, rfl⟩
      obtain ⟨k, hk, rfl⟩ := List.getElem_of_mem ht
      rw [List.length_take] at hk
      have e := nth_some (l := l) (m := (k : Int)) (by omega) (by omega)
      rw [Int.toNat_natCast, List.getElem?_eq_getElem (by omega)] at e
      exact ⟨k, by omega, by rw [← Option.some.inj e, List.getElem_take]⟩
    · rintro ⟨k, hk, rfl⟩
      have e := nth_some (l := l) (m := (k : Int)) (by omega) (by omega)
      rw [Int.toNat_natCast] at e
      exact ⟨_, List.mem_of_getElem? (i := k) (by rw [List.getElem?_take, if_pos hk]; exact e), rfl⟩
  rw [hmem]
  constructor
  · rintro h ⟨k, hk, e⟩
    unfold idxT at h
    cases hf : (List.range l.length).find? (fun j : Nat => decide ((nth l (j : Int)).nm = (nth l (i : Int)).nm)) with
    | none => rw [hf] at h; dsimp only at h; omega
    | some j =>
      rw [hf] at h
      dsimp only at h
      have := (List.find?_range_eq_some.1 hf).2.2 k (by omega)
      simp [e] at this
  · intro h
    unfold idxT
    rw [findr_some hi (fun k hk => decide_eq_false fun e => h ⟨k, hk, e⟩) (decide_eq_true rfl)]
theorem rvalidP_d {y m d : Int} {v : Value} {l : List TrkT} (hd : dateOk y m d = false) : ContIn Tryz.prog (PgP v l) 12 [pgV y m d v] (.bool false) := fun w hw0 => by
  refine enter Tryz.func12 rfl rfl rfl (Hp := [Hl.rd v cT 6 l]) (fun h hm => by
    rcases List.mem_singleton.1 hm with rfl
    exact ⟨⟨hw0.1, fun h => by cases h⟩, rfl⟩) ?_
  cases hv : validB y m d with
  | false =>
    have q0 := rvalid_f hv
    repeat' (first
    | (show YK _ _ _ _ _ ⟨_, .load 23 _, _, _, _, _⟩ _; refine YK.ofV (y_loadPart (k := 3) (by rfl) (by exact memA) (by decide +kernel) (by rfl)) ?_)
    | (show YK _ _ _ _ _ _ _; first | refine YK.mk (y_callA (q0) ⟨rfl, rfl⟩) ?_)
    | (show YK _ _ _ _ _ _ _; refine YK.ofV vAuto ?_)
    | (show VK _ _ _ _ _ _ _; refine VK.mk vAuto ?_)
    | (show RS _ _ _ _ _ _ _ _; first | (refine nxRS ?_) | (refine nxRS1 fun _ => ?_))
    | (show RM _ _ _ _ _ _ _ _ _ _; first | (refine nxRM ?_) | (refine nxRM1 fun _ => ?_))
    | (show YG _ _ _ _ _ _ _ _; refine YG.mk (fun hb => by (try (have hc := And.left hb; have hb := And.right hb; rw [hc])); (try rw [hb]); first | exact (y_callA (q0) ⟨rfl, rfl⟩) | exact V.y vAuto) ?_)
    | (show VG _ _ _ _ _ _ _ _; refine VG.mk (fun hb => by (try (have hc := And.left hb; have hb := And.right hb; rw [hc])); (try rw [hb]); exact vAuto) ?_)
    | (refine G.mixedA 6 [.go 0, .go 1, .go 2, .go 3, .go 4, .go 5, .go 6, .go 7, .go 8, .go 9, .go 10, .go 11, .go 12, .go 13, .go 14, .go 16, .go 15, .go 17, .go 18] ?_)
    | (refine nxX ?_)
    | (refine G.condN rfl (fun hc => ?_) (fun hc => ?_) <;> (try first | exact False.elim hc | (exfalso; omega))))
    exact X.ret (vs := [_]) rfl ⟨rfl, rfl⟩ rfl (fun w hw => ⟨rfl, hw.ext⟩)
  | true =>
    have hn := num_bd hv
    unfold dateOk at hd
    rw [hv] at hd
    have hno : inB [num y m d] (-300000) 300000 = false := by
      unfold inB; simp at hd ⊢; omega
    clear hd
    have q0 := rvalid_t hv
    have q1 := rnumber_c y m d hv
    have q2 := fun v => rin_c v [num y m d] (-300000) 300000 (by simp)
    rw [hno] at q2
    generalize num y m d = N at q1 hn q2
    repeat' (first
    | (show YK _ _ _ _ _ ⟨_, .load 23 _, _, _, _, _⟩ _; refine YK.ofV (y_loadPart (k := 3) (by rfl) (by exact memA) (by decide +kernel) (by rfl)) ?_)
    | (show RS _ _ _ _ ((14, .bool (decide _)) :: _) _ _ _; refine RS.spl 14 rfl (fun hq => ?_) (fun hq => ?_))
    | (refine RS.lit1IF (fun v' => ?_))
    | (show YK _ _ _ _ _ _ _; first | refine YK.mk (y_callA (q0) ⟨rfl, rfl⟩) ?_ | refine YK.mk (y_callA (q1) ⟨rfl, rfl⟩) ?_ | refine YK.mk (y_callRA (q2 _) ⟨rfl, rfl, rfl, rfl⟩) ?_)
    | (show YK _ _ _ _ _ _ _; refine YK.ofV vAuto ?_)
    | (show VK _ _ _ _ _ _ _; refine VK.mk vAuto ?_)
    | (show RS _ _ _ _ _ _ _ _; first | (refine nxRS ?_) | (refine nxRS1 fun _ => ?_))
    | (show RM _ _ _ _ _ _ _ _ _ _; first | (refine nxRM ?_) | (refine nxRM1 fun _ => ?_))
    | (show YG _ _ _ _ _ _ _ _; refine YG.mk (fun hb => by (try (have hc := And.left hb; have hb := And.right hb; rw [hc])); (try rw [hb]); first | exact (y_callA (q0) ⟨rfl, rfl⟩) | exact (y_callA (q1) ⟨rfl, rfl⟩) | exact (y_callRA (q2 _) ⟨rfl, rfl, rfl, rfl⟩) | exact V.y vAuto) ?_)
    | (show VG _ _ _ _ _ _ _ _; refine VG.mk (fun hb => by (try (have hc := And.left hb; have hb := And.right hb; rw [hc])); (try rw [hb]); exact vAuto) ?_)
    | (refine G.mixedA 6 [.go 0, .go 1, .go 2, .go 3, .go 4, .go 5, .go 6, .go 7, .go 8, .go 9, .go 10, .go 11, .go 12, .go 13, .go 14, .go 16, .go 15, .go 17, .go 18] ?_)
    | (refine nxX ?_)
    | (refine G.condN rfl (fun hc => ?_) (fun hc => ?_) <;> (try first | exact False.elim hc | (exfalso; omega))))
    all_goals exact X.ret (vs := [_]) rfl ⟨rfl, rfl⟩ rfl (fun w hw => ⟨rfl, hw.ext⟩)
theorem rvalidP_l {y m d : Int} {v : Value} {l : List TrkT} (hv : validB y m d = true) (hl : 12 < l.length) : ContIn Tryz.prog (PgP v l) 12 [pgV y m d v] (.bool false) := fun w hw0 => by
  refine enter Tryz.func12 rfl rfl rfl (Hp := [Hl.rd v cT 6 l]) (fun h hm => by
    rcases List.mem_singleton.1 hm with rfl
    exact ⟨⟨hw0.1, fun h => by cases h⟩, rfl⟩) ?_
  have q0 := rvalid_t hv
  repeat' (first
    | (show RS _ _ _ _ ((14, .bool false) :: _) _ _ _; exfalso; omega)
    | (show YK _ _ _ _ _ ⟨_, .load 23 _, _, _, _, _⟩ _; refine YK.ofV (y_loadPart (k := 3) (by rfl) (by exact memA) (by decide +kernel) (by rfl)) ?_)
    | (show RS _ _ _ _ ((14, .bool (decide _)) :: _) _ _ _; refine RS.spl 14 rfl (fun hq => ?_) (fun hq => ?_))
    | (show YK _ _ _ _ _ _ _; first | refine YK.mk (y_callA (q0) ⟨rfl, rfl⟩) ?_)
    | (show YK _ _ _ _ _ _ _; refine YK.ofV vAuto ?_)
    | (show VK _ _ _ _ _ _ _; refine VK.mk vAuto ?_)
    | (show RS _ _ _ _ _ _ _ _; first | (refine nxRS ?_) | (refine nxRS1 fun _ => ?_))
    | (show RM _ _ _ _ _ _ _ _ _ _; first | (refine nxRM ?_) | (refine nxRM1 fun _ => ?_))
    | (show YG _ _ _ _ _ _ _ _; refine YG.mk (fun hb => by (try (have hc := And.left hb; have hb := And.right hb; rw [hc])); (try rw [hb]); first | exact (y_callA (q0) ⟨rfl, rfl⟩) | exact V.y vAuto) ?_)
    | (show VG _ _ _ _ _ _ _ _; refine VG.mk (fun hb => by (try (have hc := And.left hb; have hb := And.right hb; rw [hc])); (try rw [hb]); exact vAuto) ?_)
    | (refine G.mixedA 6 [.go 0, .go 1, .go 2, .go 3, .go 4, .go 5, .go 6, .go 7, .go 8, .go 9, .go 10, .go 11, .go 12, .go 13, .go 14, .go 16, .go 15, .go 17, .go 18] ?_)
    | (refine nxX ?_)
    | (refine G.condN rfl (fun hc => ?_) (fun hc => ?_) <;> (try first | exact False.elim hc | (exfalso; omega))))
  exact X.ret (vs := [_]) rfl ⟨rfl, rfl⟩ rfl (fun w hw => ⟨rfl, hw.ext⟩)
theorem rvalidP_t {y m d : Int} {v : Value} {l : List TrkT} (hd : dateOk y m d = true) (hl : l.length ≤ 12) (hf : fitT l) : ContIn Tryz.prog (PgP v l) 12 [pgV y m d v] (.bool (tracksOk l)) := fun w hw0 => by
  refine enter Tryz.func12 rfl rfl rfl (Hp := [Hl.rd v cT 6 l]) (fun h hm => by
    rcases List.mem_singleton.1 hm with rfl
    exact ⟨⟨hw0.1, fun h => by cases h⟩, rfl⟩) ?_
  have hv : validB y m d = true := by unfold dateOk at hd; simp at hd; exact hd.1
  have hN : inB [num y m d] (-300000) 300000 = true := by unfold dateOk at hd; unfold inB; simp at hd ⊢; omega
  have hn := num_bd hv
  have q0 := rvalid_t hv
  have q1 := rnumber_c y m d hv
  have q2 := fun v => rin_c v [num y m d] (-300000) 300000 (by simp)
  rw [hN] at q2
  generalize num y m d = N at q1 hn q2
  repeat' (first
    | (show RS _ _ _ _ ((14, .bool true) :: _) _ _ _; exfalso; omega)
    | (show YK _ _ _ _ _ ⟨_, .load 23 _, _, _, _, _⟩ _; refine YK.ofV (y_loadPart (k := 3) (by rfl) (by exact memA) (by decide +kernel) (by rfl)) ?_)
    | (show RS _ _ _ _ ((14, .bool (decide _)) :: _) _ _ _; refine RS.spl 14 rfl (fun hq => ?_) (fun hq => ?_))
    | (refine RS.lit1IF (fun v' => ?_))
    | (show YK _ _ _ _ _ _ _; first | refine YK.mk (y_callA (q0) ⟨rfl, rfl⟩) ?_ | refine YK.mk (y_callA (q1) ⟨rfl, rfl⟩) ?_ | refine YK.mk (y_callRA (q2 _) ⟨rfl, rfl, rfl, rfl⟩) ?_)
    | (show YK _ _ _ _ _ _ _; refine YK.ofV vAuto ?_)
    | (show VK _ _ _ _ _ _ _; refine VK.mk vAuto ?_)
    | (show RS _ _ _ _ _ _ _ _; first | (refine nxRS ?_) | (refine nxRS1 fun _ => ?_))
    | (show RM _ _ _ _ _ _ _ _ _ _; first | (refine nxRM ?_) | (refine nxRM1 fun _ => ?_))
    | (show YG _ _ _ _ _ _ _ _; refine YG.mk (fun hb => by (try (have hc := And.left hb; have hb := And.right hb; rw [hc])); (try rw [hb]); first | exact (y_callA (q0) ⟨rfl, rfl⟩) | exact (y_callA (q1) ⟨rfl, rfl⟩) | exact (y_callRA (q2 _) ⟨rfl, rfl, rfl, rfl⟩) | exact V.y vAuto) ?_)
    | (show VG _ _ _ _ _ _ _ _; refine VG.mk (fun hb => by (try (have hc := And.left hb; have hb := And.right hb; rw [hc])); (try rw [hb]); exact vAuto) ?_)
    | (refine G.mixedA 6 [.go 0, .go 1, .go 2, .go 3, .go 4, .go 5, .go 6, .go 7, .go 8, .go 9, .go 10, .go 11, .go 12, .go 13, .go 14, .go 16, .go 15, .go 17, .go 18] ?_)
    | (refine nxX ?_)
    | (refine G.condN rfl (fun hc => ?_) (fun hc => ?_) <;> (try first | exact False.elim hc | (exfalso; omega))))
  rename_i b1
  refine G.loop (ι := Nat) (fun i => [(1, .pointer (some ⟨b1, 0, none⟩)), (3, .int .i64 (i : Int))]) (fun i => [Hl.blk b1 26 [.int .i64 y, .int .i64 m, .int .i64 d, v], Hl.rd v cT 6 l]) (fun i => i ≤ l.length ∧ ∀ k : Nat, k < i → trkOk l k = true) (fun i => l.length - i) 0 ⟨Nat.zero_le _, fun k hk => by omega⟩ ⟨rfl, rfl, trivial⟩ (by exact fun w h => h.sub (by repeat (first | exact List.Sublist.refl _ | apply List.Sublist.cons_cons | apply List.Sublist.cons))) ?_
  rintro i mx ⟨g1, g2⟩ hmx
  rcases Nat.lt_or_ge i l.length with hi | hi
  · have hfi := hf.at hi
    have hto : trkOk l i = (okT (nth l (i : Int)) && !decide ((nth l (i : Int)).nm ∈ nmsL l i)) := rfl
    have his := idx_self hi
    have hfal : trkOk l i = false → tracksOk l = false := fun h => by
      unfold tracksOk
      rw [List.all_eq_false]
      exact ⟨i, List.mem_range.2 hi, by rw [h]; decide⟩
    have qv := rvalidT_c (nth l (i : Int)) (by omega) (by omega) (by omega)
    have qf := rfind_c (y := y) (m := m) (d := d) (nth l (i : Int)).nm v l (by omega)
    have hbd := idxT_lt (l := l) (nm := (nth l (i : Int)).nm)
    refine G.bring (hw0.2.at hi).1 (G.bring (hw0.2.at hi).2 ?_)
    generalize nmsL l i = S at hto his
    generalize idxT l (nth l (i : Int)).nm = K at qf his hbd
    generalize okT (nth l (i : Int)) = c0 at qv hto
    repeat' (first
    | (show YK _ _ _ _ _ _ _; first | refine YK.mk (y_callRA (qv) ⟨rfl, rfl⟩) ?_ | refine YK.mk (y_callRA (qf) ⟨rfl, rfl, rfl⟩) ?_)
    | (show YK _ _ _ _ _ _ _; refine YK.ofV vAuto ?_)
    | (show VK _ _ _ _ _ _ _; refine VK.mk vAuto ?_)
    | (show RS _ _ _ _ _ _ _ _; first | (refine nxRS ?_) | (refine nxRS1 fun _ => ?_))
    | (show RM _ _ _ _ _ _ _ _ _ _; first | (refine nxRM ?_) | (refine nxRM1 fun _ => ?_))
    | (show YG _ _ _ _ _ _ _ _; refine YG.mk (fun hb => by (try (have hc := And.left hb; have hb := And.right hb; rw [hc])); (try rw [hb]); first | exact (y_callRA (qv) ⟨rfl, rfl⟩) | exact (y_callRA (qf) ⟨rfl, rfl, rfl⟩) | exact V.y vAuto) ?_)
    | (show VG _ _ _ _ _ _ _ _; refine VG.mk (fun hb => by (try (have hc := And.left hb; have hb := And.right hb; rw [hc])); (try rw [hb]); exact vAuto) ?_)
    | (refine G.mixedA 6 [.go 0, .go 1, .go 2, .go 3, .go 4, .go 5, .go 6, .go 7, .go 8, .go 9, .go 10, .go 11, .go 12, .go 13, .go 14, .go 16, .go 15, .go 17, .go 18] ?_)
    | (refine nxX ?_)
    | (refine G.condN rfl (fun hc => ?_) (fun hc => ?_) <;> (try first | exact False.elim hc | (exfalso; omega))))
    · have e : trkOk l i = false := by
        rw [hto]
        rcases hc with h | h
        · rw [h]; rfl
        · rw [show decide ((nth l (i : Int)).nm ∈ S) = true from decide_eq_true (Decidable.byContradiction fun g => h (his.2 g))]; simp
      exact X.ret (vs := [_]) rfl ⟨rfl, rfl⟩ rfl (fun w hw => ⟨ret_bool (hfal e).symm, hw.ext⟩)
    · have e : trkOk l i = true := by
        rw [hto, hc.1, show decide ((nth l (i : Int)).nm ∈ S) = false from decide_eq_false (his.1 hc.2)]; rfl
      refine X.again (i + 1) ⟨by omega, fun k hk => ?_⟩ (by omega) ⟨rfl, rfl, trivial⟩ (by exact fun w h => h.sub (by repeat (first | exact List.Sublist.refl _ | apply List.Sublist.cons_cons | apply List.Sublist.cons)))
      rcases Nat.lt_or_ge k i with h | h
      · exact g2 k h
      · rw [show k = i by omega]; exact e
  · repeat' (first
    | (refine nxV ?_)
    | (show RS _ _ _ _ _ _ _ _; first | (refine nxRS ?_) | (refine nxRS1 fun _ => ?_))
    | (show RM _ _ _ _ _ _ _ _ _ _; first | (refine nxRM ?_) | (refine nxRM1 fun _ => ?_))
    | (refine nxG ?_)
    | (refine G.mixedA 6 [.go 0, .go 1, .go 2, .go 3, .go 4, .go 5, .go 6, .go 7, .go 8, .go 9, .go 10, .go 11, .go 12, .go 13, .go 14, .go 16, .go 15, .go 17, .go 18] ?_)
    | (refine nxX ?_)
    | (refine G.condN rfl (fun hc => ?_) (fun hc => ?_) <;> (try first | exact False.elim hc | (exfalso; omega))))
    refine X.ret (vs := [_]) rfl ⟨rfl, rfl⟩ rfl (fun w hw => ⟨ret_bool ?_, hw.ext⟩)
    unfold tracksOk
    rw [eq_comm, List.all_eq_true]
    exact fun k hk => g2 k (by have := List.mem_range.1 hk; omega)
theorem rvalidP_c {y m d : Int} {v : Value} {l : List TrkT} (hf : l.length ≤ 12 → fitT l) : ContIn Tryz.prog (PgP v l) 12 [pgV y m d v] (.bool (pageB y m d l)) := by
  unfold pageB
  cases hd : dateOk y m d with
  | false => exact rvalidP_d hd
  | true =>
    by_cases hl : l.length ≤ 12
    · rw [decide_eq_true (by omega), Bool.true_and, Bool.true_and]
      exact rvalidP_t hd hl (hf hl)
    · rw [decide_eq_false (by omega), Bool.true_and, Bool.false_and]
      exact rvalidP_l (by unfold dateOk at hd; simp at hd; exact hd.1) (by omega)
end Go.Proofs.YtpekkcahehhkmaaGreatDoor
