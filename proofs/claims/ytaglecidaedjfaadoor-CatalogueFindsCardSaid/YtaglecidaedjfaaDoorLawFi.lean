/- CatalogueFinds: the walk of the law. -/
import Derived.Test.YtaglecidaedjfaaDoorRefS
import Derived.Test.YtaglecidaedjfaaDoorSma
import Derived.Test.YtaglecidaedjfaaDoorAwk16
set_option linter.unusedVariables false
set_option maxHeartbeats 4000000
namespace Go.Proofs.YtaglecidaedjfaaDoor
open Go.RowKit
theorem eqI2_c {v u : Value} {l l' : List Int} (e : l = l') (hl : l.length ≤ 1000000) : ContR Tryd.prog [Hl.rd v cI 1 l, Hl.rd u cI 1 l'] 16 [v, u] (.bool true) := by
  subst e; exact eqI_c v u l hl
def smB (l : List StarT) : Bool := (decide ((l.length : Int) ≤ 30) || decide ((100 : Int) < l.length) && decide ((l.length : Int) < 105)) && decide (idxL l < 0)
theorem smallB_c (v : Value) (l : List StarT) (hl : l.length ≤ 9223372036854775807) : ContR Tryd.prog [Hl.rd v cSt 4 l] 8 [v] (.bool (smB l)) := fun w hw0 => by
  have q1 : l.length ≤ 1000000 → ContR Tryd.prog [Hl.rd v cSt 4 l] 30 [v, .func (.func 31) #[] #[]] (.bool (decide (0 ≤ idxL l))) := fun h => containsL_c v l h
  have hs : smB l = ((decide ((l.length : Int) ≤ 30) || decide ((100 : Int) < l.length) && decide ((l.length : Int) < 105)) && decide (idxL l < 0)) := rfl
  generalize idxL l = j at q1 hs
  refine enter Tryd.func8 rfl rfl rfl hw0 ?_
  repeat' (first
    | (show YK _ _ _ _ _ _ _; first | refine YK.mk (y_callRA (q1 (by simp only [Bool.or_eq_true, Bool.and_eq_true, decide_eq_true_eq] at hb; omega)) ⟨rfl, rfl, rfl⟩) ?_)
    | (show YK _ _ _ _ _ _ _; refine YK.ofV vAuto ?_)
    | (show VK _ _ _ _ _ _ _; refine VK.mk vAuto ?_)
    | (show RS _ _ _ _ _ _ _ _; first | (refine nxRS ?_) | (refine nxRS1 fun _ => ?_))
    | (show RM _ _ _ _ _ _ _ _ _ _; first | (refine nxRM ?_) | (refine nxRM1 fun _ => ?_))
    | (show YG _ _ _ _ _ _ _ _; refine YG.mk (fun hb => by (try (have hc := And.left hb; have hb := And.right hb; rw [hc])); (try rw [hb]); first | exact (y_callRA (q1 (by simp only [Bool.or_eq_true, Bool.and_eq_true, decide_eq_true_eq] at hb; omega)) ⟨rfl, rfl, rfl⟩) | exact V.y vAuto) ?_)
    | (show VG _ _ _ _ _ _ _ _; refine VG.mk (fun hb => by (try (have hc := And.left hb; have hb := And.right hb; rw [hc])); (try rw [hb]); exact vAuto) ?_)
    | (refine nxX ?_)
    | (refine G.condN rfl (fun hc => ?_) (fun hc => ?_) <;> (try first | exact False.elim hc | (exfalso; omega))))
  have e : ((decide ((l.length : Int) ≤ 30) || decide ((100 : Int) < l.length) && decide ((l.length : Int) < 105)) && !decide (0 ≤ j)) = smB l := by
    rw [hs, ← decide_not]
    congr 1
    exact decide_eq_decide.2 (by omega)
  exact X.ret (vs := [_]) rfl ⟨rfl, rfl⟩ rfl (fun w hw => ⟨ret_bool e, hw.ext⟩)
theorem y_len0 {P : Program} {n : Nat} {L : FL} {w0 : World} {H : List Hl} {d : Option Tmp} {ty t : TypeId} {pos : String} {af : Array Edge} {g : Option (Nat × Bool)} {x : Operand} (hx : evO L x = some (.slice none 0 0)) (ht : isSliceB P t = true) : V P n L w0 H ⟨d, .call { callee := .builtin .len, args := #[x], argTypes := #[t] }, ty, pos, af, g⟩ (.int .i64 0) :=
  y_len (f := cI) (s := 1) (l := ([] : List Int)) hx RdT.nil ht
abbrev fiP (v : Value) (l : List StarT) (w : World) : Prop := RO w v 4 l.length (l.flatMap cSt) ∧ LaidC w
theorem fi_no {v : Value} {l : List StarT} {nm : List UInt8} {n so no : Int} {b : Bool} (ps : ContR Tryd.prog [Hl.rd v cSt 4 l] 8 [v] (.bool b)) (hno : b = false ∨ 60 < nm.length) :
    ContIn Tryd.prog (fiP v l) 4 [v, strV nm, .int .i64 n, .int .i64 so, .int .i64 no] (.bool true) := fun w0 hw0 => by
  have hI := hw0.2
  refine enter Tryd.func4 rfl rfl rfl (Hp := [Hl.rd v cSt 4 l]) (fun h hm => by
    rcases List.mem_singleton.1 hm with rfl
    exact ⟨⟨hw0.1, fun h => by cases h⟩, rfl⟩) ?_
  repeat' (first
    | (show YK _ _ _ _ _ _ _; first | refine YK.mk (y_callIn (awake16_c) (fun _ hw => hI.keep hw.ext) rfl (by decide +kernel)) ?_ | refine YK.mk (y_callRA (ps) ⟨rfl, rfl⟩) ?_)
    | (show YK _ _ _ _ _ _ _; refine YK.ofV vAuto ?_)
    | (show VK _ _ _ _ _ _ _; refine VK.mk vAuto ?_)
    | (show RS _ _ _ _ _ _ _ _; first | (refine nxRS ?_) | (refine nxRS1 fun _ => ?_))
    | (show RM _ _ _ _ _ _ _ _ _ _; first | (refine nxRM ?_) | (refine nxRM1 fun _ => ?_))
    | (show YG _ _ _ _ _ _ _ _; refine YG.mk (fun hb => by (try (have hc := And.left hb; have hb := And.right hb; rw [hc])); (try rw [hb]); first | exact (y_callIn (awake16_c) (fun _ hw => hI.keep hw.ext) rfl (by decide +kernel)) | exact (y_callRA (ps) ⟨rfl, rfl⟩) | exact V.y vAuto) ?_)
    | (show VG _ _ _ _ _ _ _ _; refine VG.mk (fun hb => by (try (have hc := And.left hb; have hb := And.right hb; rw [hc])); (try rw [hb]); exact vAuto) ?_)
    | (refine nxVS ?_)
    | (refine nxGS ?_)
    | (refine nxX ?_)
    | (refine G.condN rfl (fun hc => ?_) (fun hc => ?_) <;> (try first | exact False.elim hc | (exfalso; omega))))
  · exact X.ret (vs := [_]) rfl ⟨rfl, rfl⟩ rfl (fun w hw => ⟨rfl, hw.ext⟩)
  · exfalso
    rcases hno with z | z
    · rw [z] at hc; exact absurd hc.1 (by decide)
    · omega
theorem fi_bad {v : Value} {l : List StarT} {nm : List UInt8} {n so no : Int} (hl : nm.length ≤ 60) (ps : ContR Tryd.prog [Hl.rd v cSt 4 l] 8 [v] (.bool true)) (pv : ContR Tryd.prog [Hl.rd v cSt 4 l] 9 [v] (.bool false)) (pr : ContR Tryd.prog [Hl.rd v cSt 4 l] 14 [v] (.bool false))
    (pf : ContR Tryd.prog [Hl.rd v cSt 4 l] 13 [v, strV nm] (.tuple [.int .i64 0, .int .i64 1].toArray)) (pb : ContR Tryd.prog [Hl.rd v cSt 4 l] 10 [v, .int .i64 n] (.tuple [.slice none 0 0, .int .i64 1].toArray)) (pt : ContR Tryd.prog [Hl.rd v cSt 4 l] 11 [v, .int .i64 so, .int .i64 no] (.tuple [.slice none 0 0, .int .i64 1].toArray)) :
    ContIn Tryd.prog (fiP v l) 4 [v, strV nm, .int .i64 n, .int .i64 so, .int .i64 no] (.bool true) := fun w0 hw0 => by
  have hI := hw0.2
  refine enter Tryd.func4 rfl rfl rfl (Hp := [Hl.rd v cSt 4 l]) (fun h hm => by
    rcases List.mem_singleton.1 hm with rfl
    exact ⟨⟨hw0.1, fun h => by cases h⟩, rfl⟩) ?_
  repeat' (first
    | (show YG _ _ _ _ _ _ ⟨_, .call { callee := .builtin .len, args := _, argTypes := _ }, _, _, _, _⟩ _; refine YG.mk (fun hb => by rw [hb]; exact (y_len0 (by rfl) (by decide +kernel)).y) ?_)
    | (show YK _ _ _ _ _ ⟨_, .call { callee := .builtin .len, args := _, argTypes := _ }, _, _, _, _⟩ _; refine YK.ofV (y_len0 (by rfl) (by decide +kernel)) ?_)
    | (show YK _ _ _ _ _ _ _; first | refine YK.mk (y_callIn (awake16_c) (fun _ hw => hI.keep hw.ext) rfl (by decide +kernel)) ?_ | refine YK.mk (y_callRA (ps) ⟨rfl, rfl⟩) ?_ | refine YK.mk (y_callRA (pv) ⟨rfl, rfl⟩) ?_ | refine YK.mk (y_callRA (pr) ⟨rfl, rfl⟩) ?_ | refine YK.mk (y_callRA (pf) ⟨rfl, rfl, rfl⟩) ?_ | refine YK.mk (y_callRA (pb) ⟨rfl, rfl, rfl⟩) ?_ | refine YK.mk (y_callRA (pt) ⟨rfl, rfl, rfl, rfl⟩) ?_)
    | (show YK _ _ _ _ _ _ _; refine YK.ofV vAuto ?_)
    | (show VK _ _ _ _ _ _ _; refine VK.mk vAuto ?_)
    | (show RS _ _ _ _ _ _ _ _; first | (refine nxRS ?_) | (refine nxRS1 fun _ => ?_))
    | (show RM _ _ _ _ _ _ _ _ _ _; first | (refine nxRM ?_) | (refine nxRM1 fun _ => ?_))
    | (show YG _ _ _ _ _ _ _ _; refine YG.mk (fun hb => by (try (have hc := And.left hb; have hb := And.right hb; rw [hc])); (try rw [hb]); first | exact (y_callIn (awake16_c) (fun _ hw => hI.keep hw.ext) rfl (by decide +kernel)) | exact (y_callRA (ps) ⟨rfl, rfl⟩) | exact (y_callRA (pv) ⟨rfl, rfl⟩) | exact (y_callRA (pr) ⟨rfl, rfl⟩) | exact (y_callRA (pf) ⟨rfl, rfl, rfl⟩) | exact (y_callRA (pb) ⟨rfl, rfl, rfl⟩) | exact (y_callRA (pt) ⟨rfl, rfl, rfl, rfl⟩) | exact V.y vAuto) ?_)
    | (show VG _ _ _ _ _ _ _ _; refine VG.mk (fun hb => by (try (have hc := And.left hb; have hb := And.right hb; rw [hc])); (try rw [hb]); exact vAuto) ?_)
    | (refine nxVS ?_)
    | (refine nxGS ?_)
    | (refine nxX ?_)
    | (refine G.condN rfl (fun hc => ?_) (fun hc => ?_) <;> (try first | exact False.elim hc | (exfalso; omega))))
  all_goals exact X.ret (vs := [_]) rfl ⟨rfl, rfl⟩ rfl (fun w hw => ⟨ret_bool (by simp), hw.ext⟩)
theorem fi_eq {l : List StarT} {q : List Int} {n : Int} (hv : validS l = true) (hz : DoneS (magS l) (seqL l.length) q 0 l.length) (hn : 0 ≤ n) : q.take (min n (l.length : Int)).toNat = (magA (magS l) l.length 171).take n.toNat := by
  have e := done_uniq hz (fun i hi => (num_of hv hi).2.2)
  have hl : q.length = l.length := done_len hz
  rw [← e]
  rcases Int.le_total n (l.length : Int) with h | h
  · rw [Int.min_eq_left h]
  · rw [Int.min_eq_right h, List.take_of_length_le (by omega), List.take_of_length_le (by omega)]
theorem fi_yy {A : Option Addr} {n0 c0 : Nat} {l : List StarT} {nm : List UInt8} {n so no i e k : Int} (hl : nm.length ≤ 60) (h40 : l.length < 40) (hv : validS l = true) (hn : 0 ≤ n ∧ n ≤ 100) (hb : so ≤ no ∧ -5400000 ≤ so ∧ no ≤ 5400000) (hk : k < 0 ∧ i = 0 ∧ e = 9 ∨ 0 ≤ k ∧ i = k ∧ e = 0)
    (ps : ContR Tryd.prog [Hl.rd (.slice A n0 c0) cSt 4 l] 8 [.slice A n0 c0] (.bool true)) (pv : ContR Tryd.prog [Hl.rd (.slice A n0 c0) cSt 4 l] 9 [.slice A n0 c0] (.bool true)) (pr : ContR Tryd.prog [Hl.rd (.slice A n0 c0) cSt 4 l] 14 [.slice A n0 c0] (.bool true))
    (pf : ContR Tryd.prog [Hl.rd (.slice A n0 c0) cSt 4 l] 13 [.slice A n0 c0, strV nm] (.tuple [.int .i64 i, .int .i64 e].toArray)) (pk : ContR Tryd.prog [Hl.rd (.slice A n0 c0) cSt 4 l] 15 [.slice A n0 c0, strV nm] (.int .i64 k)) :
    ContIn Tryd.prog (fiP (.slice A n0 c0) l) 4 [.slice A n0 c0, strV nm, .int .i64 n, .int .i64 so, .int .i64 no] (.bool true) := fun w0 hw0 => by
  have hI := hw0.2
  have hlen := (validS_t hv).1
  have pb := bright_c (A0 := A) (n0 := n0) (c0 := c0) (n := n) hv h40 pv hn
  have pc := rbright_c (v := .slice A n0 c0) (l := l) (n := n) hlen (fun i hi => (num_of hv hi).2.2) hn
  have pt := between_c (v := .slice A n0 c0) (so := so) (no := no) hv pv hb
  have pd := rbetween_c (v := .slice A n0 c0) (l := l) (so := so) (no := no) hv
  have hbl := betL_len l so no l.length
  refine enter Tryd.func4 rfl rfl rfl (Hp := [Hl.rd (.slice A n0 c0) cSt 4 l]) (fun h hm => by
    rcases List.mem_singleton.1 hm with rfl
    exact ⟨⟨hw0.1, fun h => by cases h⟩, rfl⟩) ?_
  repeat' (first
    | (show YK _ _ _ _ _ _ _; first | refine YK.mk (y_callIn (awake16_c) (fun _ hw => hI.keep hw.ext) rfl (by decide +kernel)) ?_ | refine YK.mk (y_callRA (ps) ⟨rfl, rfl⟩) ?_ | refine YK.mk (y_callRA (pv) ⟨rfl, rfl⟩) ?_ | refine YK.mk (y_callRA (pr) ⟨rfl, rfl⟩) ?_ | refine YK.mk (y_callRA (pf) ⟨rfl, rfl, rfl⟩) ?_ | refine YK.mk (y_callRA (pk) ⟨rfl, rfl, rfl⟩) ?_ | refine YK.mk (y_callRA (eqI2_c (v := z.1.v) (u := y.v) (fi_eq hv hz hn.1) (by rw [List.length_take]; omega)) ⟨rfl, rfl, rfl⟩) ?_ | refine YK.mk (y_callRA (eqI2_c (v := x.v) (u := u.v) (l := betL l so no l.length) rfl (by omega)) ⟨rfl, rfl, rfl⟩) ?_)
    | (show YK _ _ _ _ _ _ _; refine YK.ofV vAuto ?_)
    | (show VK _ _ _ _ _ _ _; refine VK.mk vAuto ?_)
    | (show RS _ _ _ _ _ _ _ _; first | (refine RS.callX (pd) ⟨rfl, rfl, rfl, rfl⟩ ?_; rintro u _) | (refine RS.callXG (fun _ : True => pd) ⟨rfl, rfl, rfl, rfl⟩ ?_; rintro u _) | (refine RS.spl 153 rfl (fun hq => ?_) (fun hq => ?_)) | (refine RS.callX (pc) ⟨rfl, rfl, rfl⟩ ?_; rintro y _) | (refine RS.callXG (fun _ : True => pc) ⟨rfl, rfl, rfl⟩ ?_; rintro y _) | (refine RS.spl 125 rfl (fun hq => ?_) (fun hq => ?_)) | (refine RS.callX (pt) ⟨rfl, rfl, rfl, rfl⟩ ?_; rintro x _) | (refine RS.callXG (fun _ : True => pt) ⟨rfl, rfl, rfl, rfl⟩ ?_; rintro x _) | (refine RS.callX (pb) ⟨rfl, rfl, rfl⟩ ?_; rintro z hz) | (refine RS.callXG (fun _ : True => pb) ⟨rfl, rfl, rfl⟩ ?_; rintro z hz) | (refine nxRS ?_) | (refine nxRS1 fun _ => ?_))
    | (show RM _ _ _ _ _ _ _ _ _ _; first | (refine RM.callX (pd) ?_; rintro u _) | (refine RM.callXG (fun _ : True => pd) ?_; rintro u _) | (refine RM.spl 153 rfl (fun hq => ?_) (fun hq => ?_)) | (refine RM.callX (pc) ?_; rintro y _) | (refine RM.callXG (fun _ : True => pc) ?_; rintro y _) | (refine RM.spl 125 rfl (fun hq => ?_) (fun hq => ?_)) | (refine RM.callX (pt) ?_; rintro x _) | (refine RM.callXG (fun _ : True => pt) ?_; rintro x _) | (refine RM.callX (pb) ?_; rintro z hz) | (refine RM.callXG (fun _ : True => pb) ?_; rintro z hz) | (refine nxRM ?_) | (refine nxRM1 fun _ => ?_))
    | (show YG _ _ _ _ _ _ _ _; refine YG.mk (fun hb => by (try (have hc := And.left hb; have hb := And.right hb; rw [hc])); (try rw [hb]); first | exact (y_callIn (awake16_c) (fun _ hw => hI.keep hw.ext) rfl (by decide +kernel)) | exact (y_callRA (ps) ⟨rfl, rfl⟩) | exact (y_callRA (pv) ⟨rfl, rfl⟩) | exact (y_callRA (pr) ⟨rfl, rfl⟩) | exact (y_callRA (pf) ⟨rfl, rfl, rfl⟩) | exact (y_callRA (pk) ⟨rfl, rfl, rfl⟩) | exact (y_callRA (eqI2_c (v := z.1.v) (u := y.v) (fi_eq hv hz hn.1) (by rw [List.length_take]; omega)) ⟨rfl, rfl, rfl⟩) | exact (y_callRA (eqI2_c (v := x.v) (u := u.v) (l := betL l so no l.length) rfl (by omega)) ⟨rfl, rfl, rfl⟩) | exact V.y vAuto) ?_)
    | (show VG _ _ _ _ _ _ _ _; refine VG.mk (fun hb => by (try (have hc := And.left hb; have hb := And.right hb; rw [hc])); (try rw [hb]); exact vAuto) ?_)
    | (refine nxVS ?_)
    | (refine nxGS ?_)
    | (refine nxX ?_)
    | (refine G.condN rfl (fun hc => ?_) (fun hc => ?_) <;> (try first | exact False.elim hc | (exfalso; omega))))
  all_goals first | exact X.ret (vs := [_]) rfl ⟨rfl, rfl⟩ rfl (fun w hw => ⟨rfl, hw.ext⟩) | (exfalso; omega) | exact X.ret (vs := [_]) rfl ⟨rfl, rfl⟩ rfl (fun w hw => ⟨ret_bool (by simp), hw.ext⟩)
theorem fi_yn {A : Option Addr} {n0 c0 : Nat} {l : List StarT} {nm : List UInt8} {n so no i e k : Int} (hl : nm.length ≤ 60) (h40 : l.length < 40) (hv : validS l = true) (hn : 0 ≤ n ∧ n ≤ 100) (hb : no < so ∨ so < -5400000 ∨ 5400000 < no) (hk : k < 0 ∧ i = 0 ∧ e = 9 ∨ 0 ≤ k ∧ i = k ∧ e = 0)
    (ps : ContR Tryd.prog [Hl.rd (.slice A n0 c0) cSt 4 l] 8 [.slice A n0 c0] (.bool true)) (pv : ContR Tryd.prog [Hl.rd (.slice A n0 c0) cSt 4 l] 9 [.slice A n0 c0] (.bool true)) (pr : ContR Tryd.prog [Hl.rd (.slice A n0 c0) cSt 4 l] 14 [.slice A n0 c0] (.bool true))
    (pf : ContR Tryd.prog [Hl.rd (.slice A n0 c0) cSt 4 l] 13 [.slice A n0 c0, strV nm] (.tuple [.int .i64 i, .int .i64 e].toArray)) (pk : ContR Tryd.prog [Hl.rd (.slice A n0 c0) cSt 4 l] 15 [.slice A n0 c0, strV nm] (.int .i64 k)) :
    ContIn Tryd.prog (fiP (.slice A n0 c0) l) 4 [.slice A n0 c0, strV nm, .int .i64 n, .int .i64 so, .int .i64 no] (.bool true) := fun w0 hw0 => by
  have hI := hw0.2
  have hlen := (validS_t hv).1
  have pb := bright_c (A0 := A) (n0 := n0) (c0 := c0) (n := n) hv h40 pv hn
  have pc := rbright_c (v := .slice A n0 c0) (l := l) (n := n) hlen (fun i hi => (num_of hv hi).2.2) hn
  have pt := between_no (v := .slice A n0 c0) (l := l) (so := so) (no := no) (e := 2) pv (.inr ⟨rfl, rfl, hb⟩)
  refine enter Tryd.func4 rfl rfl rfl (Hp := [Hl.rd (.slice A n0 c0) cSt 4 l]) (fun h hm => by
    rcases List.mem_singleton.1 hm with rfl
    exact ⟨⟨hw0.1, fun h => by cases h⟩, rfl⟩) ?_
  repeat' (first
    | (show YG _ _ _ _ _ _ ⟨_, .call { callee := .builtin .len, args := _, argTypes := _ }, _, _, _, _⟩ _; refine YG.mk (fun hb => by rw [hb]; exact (y_len0 (by rfl) (by decide +kernel)).y) ?_)
    | (show YK _ _ _ _ _ ⟨_, .call { callee := .builtin .len, args := _, argTypes := _ }, _, _, _, _⟩ _; refine YK.ofV (y_len0 (by rfl) (by decide +kernel)) ?_)
    | (show YK _ _ _ _ _ _ _; first | refine YK.mk (y_callIn (awake16_c) (fun _ hw => hI.keep hw.ext) rfl (by decide +kernel)) ?_ | refine YK.mk (y_callRA (ps) ⟨rfl, rfl⟩) ?_ | refine YK.mk (y_callRA (pv) ⟨rfl, rfl⟩) ?_ | refine YK.mk (y_callRA (pr) ⟨rfl, rfl⟩) ?_ | refine YK.mk (y_callRA (pf) ⟨rfl, rfl, rfl⟩) ?_ | refine YK.mk (y_callRA (pk) ⟨rfl, rfl, rfl⟩) ?_ | refine YK.mk (y_callRA (pt) ⟨rfl, rfl, rfl, rfl⟩) ?_ | refine YK.mk (y_callRA (eqI2_c (v := z.1.v) (u := y.v) (fi_eq hv hz hn.1) (by rw [List.length_take]; omega)) ⟨rfl, rfl, rfl⟩) ?_)
    | (show YK _ _ _ _ _ _ _; refine YK.ofV vAuto ?_)
    | (show VK _ _ _ _ _ _ _; refine VK.mk vAuto ?_)
    | (show RS _ _ _ _ _ _ _ _; first | (refine RS.callX (pc) ⟨rfl, rfl, rfl⟩ ?_; rintro y _) | (refine RS.callXG (fun _ : True => pc) ⟨rfl, rfl, rfl⟩ ?_; rintro y _) | (refine RS.spl 125 rfl (fun hq => ?_) (fun hq => ?_)) | (refine RS.callX (pb) ⟨rfl, rfl, rfl⟩ ?_; rintro z hz) | (refine RS.callXG (fun _ : True => pb) ⟨rfl, rfl, rfl⟩ ?_; rintro z hz) | (refine nxRS ?_) | (refine nxRS1 fun _ => ?_))
    | (show RM _ _ _ _ _ _ _ _ _ _; first | (refine RM.callX (pc) ?_; rintro y _) | (refine RM.callXG (fun _ : True => pc) ?_; rintro y _) | (refine RM.spl 125 rfl (fun hq => ?_) (fun hq => ?_)) | (refine RM.callX (pb) ?_; rintro z hz) | (refine RM.callXG (fun _ : True => pb) ?_; rintro z hz) | (refine nxRM ?_) | (refine nxRM1 fun _ => ?_))
    | (show YG _ _ _ _ _ _ _ _; refine YG.mk (fun hb => by (try (have hc := And.left hb; have hb := And.right hb; rw [hc])); (try rw [hb]); first | exact (y_callIn (awake16_c) (fun _ hw => hI.keep hw.ext) rfl (by decide +kernel)) | exact (y_callRA (ps) ⟨rfl, rfl⟩) | exact (y_callRA (pv) ⟨rfl, rfl⟩) | exact (y_callRA (pr) ⟨rfl, rfl⟩) | exact (y_callRA (pf) ⟨rfl, rfl, rfl⟩) | exact (y_callRA (pk) ⟨rfl, rfl, rfl⟩) | exact (y_callRA (pt) ⟨rfl, rfl, rfl, rfl⟩) | exact (y_callRA (eqI2_c (v := z.1.v) (u := y.v) (fi_eq hv hz hn.1) (by rw [List.length_take]; omega)) ⟨rfl, rfl, rfl⟩) | exact V.y vAuto) ?_)
    | (show VG _ _ _ _ _ _ _ _; refine VG.mk (fun hb => by (try (have hc := And.left hb; have hb := And.right hb; rw [hc])); (try rw [hb]); exact vAuto) ?_)
    | (refine nxVS ?_)
    | (refine nxGS ?_)
    | (refine nxX ?_)
    | (refine G.condN rfl (fun hc => ?_) (fun hc => ?_) <;> (try first | exact False.elim hc | (exfalso; omega))))
  all_goals first | exact X.ret (vs := [_]) rfl ⟨rfl, rfl⟩ rfl (fun w hw => ⟨rfl, hw.ext⟩) | (exfalso; omega) | exact X.ret (vs := [_]) rfl ⟨rfl, rfl⟩ rfl (fun w hw => ⟨ret_bool (by simp), hw.ext⟩)
theorem fi_ny {A : Option Addr} {n0 c0 : Nat} {l : List StarT} {nm : List UInt8} {n so no i e k : Int} (hl : nm.length ≤ 60) (h40 : l.length < 40) (hv : validS l = true) (hn : n < 0 ∨ 100 < n) (hb : so ≤ no ∧ -5400000 ≤ so ∧ no ≤ 5400000) (hk : k < 0 ∧ i = 0 ∧ e = 9 ∨ 0 ≤ k ∧ i = k ∧ e = 0)
    (ps : ContR Tryd.prog [Hl.rd (.slice A n0 c0) cSt 4 l] 8 [.slice A n0 c0] (.bool true)) (pv : ContR Tryd.prog [Hl.rd (.slice A n0 c0) cSt 4 l] 9 [.slice A n0 c0] (.bool true)) (pr : ContR Tryd.prog [Hl.rd (.slice A n0 c0) cSt 4 l] 14 [.slice A n0 c0] (.bool true))
    (pf : ContR Tryd.prog [Hl.rd (.slice A n0 c0) cSt 4 l] 13 [.slice A n0 c0, strV nm] (.tuple [.int .i64 i, .int .i64 e].toArray)) (pk : ContR Tryd.prog [Hl.rd (.slice A n0 c0) cSt 4 l] 15 [.slice A n0 c0, strV nm] (.int .i64 k)) :
    ContIn Tryd.prog (fiP (.slice A n0 c0) l) 4 [.slice A n0 c0, strV nm, .int .i64 n, .int .i64 so, .int .i64 no] (.bool true) := fun w0 hw0 => by
  have hI := hw0.2
  have hlen := (validS_t hv).1
  have pb := bright_no (A0 := A) (n0 := n0) (c0 := c0) (l := l) (n := n) (e := 2) pv (.inr ⟨rfl, rfl, hn⟩)
  have pt := between_c (v := .slice A n0 c0) (so := so) (no := no) hv pv hb
  have pd := rbetween_c (v := .slice A n0 c0) (l := l) (so := so) (no := no) hv
  have hbl := betL_len l so no l.length
  refine enter Tryd.func4 rfl rfl rfl (Hp := [Hl.rd (.slice A n0 c0) cSt 4 l]) (fun h hm => by
    rcases List.mem_singleton.1 hm with rfl
    exact ⟨⟨hw0.1, fun h => by cases h⟩, rfl⟩) ?_
  repeat' (first
    | (show YG _ _ _ _ _ _ ⟨_, .call { callee := .builtin .len, args := _, argTypes := _ }, _, _, _, _⟩ _; refine YG.mk (fun hb => by rw [hb]; exact (y_len0 (by rfl) (by decide +kernel)).y) ?_)
    | (show YK _ _ _ _ _ ⟨_, .call { callee := .builtin .len, args := _, argTypes := _ }, _, _, _, _⟩ _; refine YK.ofV (y_len0 (by rfl) (by decide +kernel)) ?_)
    | (show YK _ _ _ _ _ _ _; first | refine YK.mk (y_callIn (awake16_c) (fun _ hw => hI.keep hw.ext) rfl (by decide +kernel)) ?_ | refine YK.mk (y_callRA (ps) ⟨rfl, rfl⟩) ?_ | refine YK.mk (y_callRA (pv) ⟨rfl, rfl⟩) ?_ | refine YK.mk (y_callRA (pr) ⟨rfl, rfl⟩) ?_ | refine YK.mk (y_callRA (pf) ⟨rfl, rfl, rfl⟩) ?_ | refine YK.mk (y_callRA (pk) ⟨rfl, rfl, rfl⟩) ?_ | refine YK.mk (y_callRA (pb) ⟨rfl, rfl, rfl⟩) ?_ | refine YK.mk (y_callRA (eqI2_c (v := x.v) (u := u.v) (l := betL l so no l.length) rfl (by omega)) ⟨rfl, rfl, rfl⟩) ?_)
    | (show YK _ _ _ _ _ _ _; refine YK.ofV vAuto ?_)
    | (show VK _ _ _ _ _ _ _; refine VK.mk vAuto ?_)
    | (show RS _ _ _ _ _ _ _ _; first | (refine RS.callX (pd) ⟨rfl, rfl, rfl, rfl⟩ ?_; rintro u _) | (refine RS.callXG (fun _ : True => pd) ⟨rfl, rfl, rfl, rfl⟩ ?_; rintro u _) | (refine RS.spl 153 rfl (fun hq => ?_) (fun hq => ?_)) | (refine RS.callX (pt) ⟨rfl, rfl, rfl, rfl⟩ ?_; rintro x _) | (refine RS.callXG (fun _ : True => pt) ⟨rfl, rfl, rfl, rfl⟩ ?_; rintro x _) | (refine nxRS ?_) | (refine nxRS1 fun _ => ?_))
    | (show RM _ _ _ _ _ _ _ _ _ _; first | (refine RM.callX (pd) ?_; rintro u _) | (refine RM.callXG (fun _ : True => pd) ?_; rintro u _) | (refine RM.spl 153 rfl (fun hq => ?_) (fun hq => ?_)) | (refine RM.callX (pt) ?_; rintro x _) | (refine RM.callXG (fun _ : True => pt) ?_; rintro x _) | (refine nxRM ?_) | (refine nxRM1 fun _ => ?_))
    | (show YG _ _ _ _ _ _ _ _; refine YG.mk (fun hb => by (try (have hc := And.left hb; have hb := And.right hb; rw [hc])); (try rw [hb]); first | exact (y_callIn (awake16_c) (fun _ hw => hI.keep hw.ext) rfl (by decide +kernel)) | exact (y_callRA (ps) ⟨rfl, rfl⟩) | exact (y_callRA (pv) ⟨rfl, rfl⟩) | exact (y_callRA (pr) ⟨rfl, rfl⟩) | exact (y_callRA (pf) ⟨rfl, rfl, rfl⟩) | exact (y_callRA (pk) ⟨rfl, rfl, rfl⟩) | exact (y_callRA (pb) ⟨rfl, rfl, rfl⟩) | exact (y_callRA (eqI2_c (v := x.v) (u := u.v) (l := betL l so no l.length) rfl (by omega)) ⟨rfl, rfl, rfl⟩) | exact V.y vAuto) ?_)
    | (show VG _ _ _ _ _ _ _ _; refine VG.mk (fun hb => by (try (have hc := And.left hb; have hb := And.right hb; rw [hc])); (try rw [hb]); exact vAuto) ?_)
    | (refine nxVS ?_)
    | (refine nxGS ?_)
    | (refine nxX ?_)
    | (refine G.condN rfl (fun hc => ?_) (fun hc => ?_) <;> (try first | exact False.elim hc | (exfalso; omega))))
  all_goals first | exact X.ret (vs := [_]) rfl ⟨rfl, rfl⟩ rfl (fun w hw => ⟨rfl, hw.ext⟩) | (exfalso; omega) | exact X.ret (vs := [_]) rfl ⟨rfl, rfl⟩ rfl (fun w hw => ⟨ret_bool (by simp), hw.ext⟩)
theorem fi_nn {A : Option Addr} {n0 c0 : Nat} {l : List StarT} {nm : List UInt8} {n so no i e k : Int} (hl : nm.length ≤ 60) (h40 : l.length < 40) (hv : validS l = true) (hn : n < 0 ∨ 100 < n) (hb : no < so ∨ so < -5400000 ∨ 5400000 < no) (hk : k < 0 ∧ i = 0 ∧ e = 9 ∨ 0 ≤ k ∧ i = k ∧ e = 0)
    (ps : ContR Tryd.prog [Hl.rd (.slice A n0 c0) cSt 4 l] 8 [.slice A n0 c0] (.bool true)) (pv : ContR Tryd.prog [Hl.rd (.slice A n0 c0) cSt 4 l] 9 [.slice A n0 c0] (.bool true)) (pr : ContR Tryd.prog [Hl.rd (.slice A n0 c0) cSt 4 l] 14 [.slice A n0 c0] (.bool true))
    (pf : ContR Tryd.prog [Hl.rd (.slice A n0 c0) cSt 4 l] 13 [.slice A n0 c0, strV nm] (.tuple [.int .i64 i, .int .i64 e].toArray)) (pk : ContR Tryd.prog [Hl.rd (.slice A n0 c0) cSt 4 l] 15 [.slice A n0 c0, strV nm] (.int .i64 k)) :
    ContIn Tryd.prog (fiP (.slice A n0 c0) l) 4 [.slice A n0 c0, strV nm, .int .i64 n, .int .i64 so, .int .i64 no] (.bool true) := fun w0 hw0 => by
  have hI := hw0.2
  have hlen := (validS_t hv).1
  have pb := bright_no (A0 := A) (n0 := n0) (c0 := c0) (l := l) (n := n) (e := 2) pv (.inr ⟨rfl, rfl, hn⟩)
  have pt := between_no (v := .slice A n0 c0) (l := l) (so := so) (no := no) (e := 2) pv (.inr ⟨rfl, rfl, hb⟩)
  refine enter Tryd.func4 rfl rfl rfl (Hp := [Hl.rd (.slice A n0 c0) cSt 4 l]) (fun h hm => by
    rcases List.mem_singleton.1 hm with rfl
    exact ⟨⟨hw0.1, fun h => by cases h⟩, rfl⟩) ?_
  repeat' (first
    | (show YG _ _ _ _ _ _ ⟨_, .call { callee := .builtin .len, args := _, argTypes := _ }, _, _, _, _⟩ _; refine YG.mk (fun hb => by rw [hb]; exact (y_len0 (by rfl) (by decide +kernel)).y) ?_)
    | (show YK _ _ _ _ _ ⟨_, .call { callee := .builtin .len, args := _, argTypes := _ }, _, _, _, _⟩ _; refine YK.ofV (y_len0 (by rfl) (by decide +kernel)) ?_)
    | (show YK _ _ _ _ _ _ _; first | refine YK.mk (y_callIn (awake16_c) (fun _ hw => hI.keep hw.ext) rfl (by decide +kernel)) ?_ | refine YK.mk (y_callRA (ps) ⟨rfl, rfl⟩) ?_ | refine YK.mk (y_callRA (pv) ⟨rfl, rfl⟩) ?_ | refine YK.mk (y_callRA (pr) ⟨rfl, rfl⟩) ?_ | refine YK.mk (y_callRA (pf) ⟨rfl, rfl, rfl⟩) ?_ | refine YK.mk (y_callRA (pk) ⟨rfl, rfl, rfl⟩) ?_ | refine YK.mk (y_callRA (pb) ⟨rfl, rfl, rfl⟩) ?_ | refine YK.mk (y_callRA (pt) ⟨rfl, rfl, rfl, rfl⟩) ?_)
    | (show YK _ _ _ _ _ _ _; refine YK.ofV vAuto ?_)
    | (show VK _ _ _ _ _ _ _; refine VK.mk vAuto ?_)
    | (show RS _ _ _ _ _ _ _ _; first | (refine nxRS ?_) | (refine nxRS1 fun _ => ?_))
    | (show RM _ _ _ _ _ _ _ _ _ _; first | (refine nxRM ?_) | (refine nxRM1 fun _ => ?_))
    | (show YG _ _ _ _ _ _ _ _; refine YG.mk (fun hb => by (try (have hc := And.left hb; have hb := And.right hb; rw [hc])); (try rw [hb]); first | exact (y_callIn (awake16_c) (fun _ hw => hI.keep hw.ext) rfl (by decide +kernel)) | exact (y_callRA (ps) ⟨rfl, rfl⟩) | exact (y_callRA (pv) ⟨rfl, rfl⟩) | exact (y_callRA (pr) ⟨rfl, rfl⟩) | exact (y_callRA (pf) ⟨rfl, rfl, rfl⟩) | exact (y_callRA (pk) ⟨rfl, rfl, rfl⟩) | exact (y_callRA (pb) ⟨rfl, rfl, rfl⟩) | exact (y_callRA (pt) ⟨rfl, rfl, rfl, rfl⟩) | exact V.y vAuto) ?_)
    | (show VG _ _ _ _ _ _ _ _; refine VG.mk (fun hb => by (try (have hc := And.left hb; have hb := And.right hb; rw [hc])); (try rw [hb]); exact vAuto) ?_)
    | (refine nxVS ?_)
    | (refine nxGS ?_)
    | (refine nxX ?_)
    | (refine G.condN rfl (fun hc => ?_) (fun hc => ?_) <;> (try first | exact False.elim hc | (exfalso; omega))))
  all_goals first | exact X.ret (vs := [_]) rfl ⟨rfl, rfl⟩ rfl (fun w hw => ⟨rfl, hw.ext⟩) | (exfalso; omega) | exact X.ret (vs := [_]) rfl ⟨rfl, rfl⟩ rfl (fun w hw => ⟨ret_bool (by simp), hw.ext⟩)
theorem finds_law {A : Option Addr} {n0 c0 : Nat} {l : List StarT} {nm : List UInt8} {n so no : Int} (hl : l.length ≤ 9223372036854775807) :
    ContIn Tryd.prog (fiP (.slice A n0 c0) l) 4 [.slice A n0 c0, strV nm, .int .i64 n, .int .i64 so, .int .i64 no] (.bool true) := by
  have ps := smallB_c (.slice A n0 c0) l hl
  by_cases hs : smB l = true
  · rw [hs] at ps
    have hx : idxL l < 0 := by
      unfold smB at hs
      simp only [Bool.and_eq_true, decide_eq_true_eq] at hs
      exact hs.2
    by_cases hn : nm.length ≤ 60
    · have hnn : l.length ≤ 100 → namesOk l := fun _ i hi => by have := idxL_no hx hi; omega
      have pv := valid_c (.slice A n0 c0) l hl hnn
      have pr := rvalid_c (.slice A n0 c0) l hl hnn
      cases hv : validS l with
      | false =>
        rw [hv] at pv pr
        exact fi_bad hn ps pv pr (cfind_c (fun h => by cases h) pv (.inl ⟨rfl, rfl, rfl⟩)) (bright_no pv (.inl ⟨rfl, rfl⟩)) (between_no pv (.inl ⟨rfl, rfl⟩))
      | true =>
        rw [hv] at pv pr
        have hlen := (validS_t hv).1
        have h40 : l.length < 40 := by
          unfold smB at hs
          simp only [Bool.and_eq_true, Bool.or_eq_true, decide_eq_true_eq] at hs
          omega
        have pk := rfind_c (.slice A n0 c0) l nm (by omega)
        have hk : ∃ i e : Int, idxS l nm < 0 ∧ i = 0 ∧ e = 9 ∨ 0 ≤ idxS l nm ∧ i = idxS l nm ∧ e = 0 := by
          by_cases g : idxS l nm < 0
          · exact ⟨0, 9, .inl ⟨g, rfl, rfl⟩⟩
          · exact ⟨idxS l nm, 0, .inr ⟨by omega, rfl, rfl⟩⟩
        obtain ⟨i, e, hk⟩ := hk
        have pf := cfind_c (nm := nm) (fun _ => by omega) pv (.inr ⟨rfl, hk⟩)
        by_cases g1 : 0 ≤ n ∧ n ≤ 100
        · by_cases g2 : so ≤ no ∧ -5400000 ≤ so ∧ no ≤ 5400000
          · exact fi_yy hn h40 hv g1 g2 hk ps pv pr pf pk
          · exact fi_yn hn h40 hv g1 (by omega) hk ps pv pr pf pk
        · by_cases g2 : so ≤ no ∧ -5400000 ≤ so ∧ no ≤ 5400000
          · exact fi_ny hn h40 hv (by omega) g2 hk ps pv pr pf pk
          · exact fi_nn hn h40 hv (by omega) (by omega) hk ps pv pr pf pk
    · exact fi_no ps (.inr (by omega))
  · exact fi_no ps (.inl (by simpa using hs))
end Go.Proofs.YtaglecidaedjfaaDoor
