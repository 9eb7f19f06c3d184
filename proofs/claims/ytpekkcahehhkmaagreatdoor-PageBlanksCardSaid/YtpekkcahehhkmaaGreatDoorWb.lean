/- Joined texts: CallL, Sym, Stab, Stab2, Scan, Scan2, Toks, Lib2, Rdr, Rdr2, Rdr3, Rdr4, Rdr5. -/
import Derived.Test.YtpekkcahehhkmaaGreatDoorWa
import Derived.Test.YtpekkcahehhkmaaGreatDoorGround
import Derived.Lib.AtoiErrMem
import Derived.Stop.IfaceNil
import Derived.Lib.Split
import Derived.Lib.SplitLaws
import Derived.Lib.CountLaws
/- Contracts that turn several heaplets of the caller's at once. -/
set_option linter.unusedVariables false
set_option maxHeartbeats 4000000
namespace Go.Proofs.YtpekkcahehhkmaaGreatDoor
open Go.RowKit

theorem At.perm {x : Hl} {A B H : List Hl} (h : At x A B H) : H.Perm (x :: (A ++ B)) := by
  induction h with
  | here => exact List.Perm.refl _
  | there _ ih => exact (ih.cons _).trans (List.Perm.swap _ _ _)
/-- These heaplets stand in the list, and R beside them. -/
inductive Pick : List Hl → List Hl → List Hl → Prop
  | nil {H : List Hl} : Pick [] H H
  | cons {x : Hl} {xs A B H R : List Hl} (a : At x A B H) (b : Pick xs (A ++ B) R) : Pick (x :: xs) H R
theorem Pick.perm {xs H R : List Hl} (h : Pick xs H R) : H.Perm (xs ++ R) := by
  induction h with
  | nil => exact List.Perm.refl _
  | cons ha _ ih => exact ha.perm.trans (ih.cons _)
theorem St.picked {w0 w : World} {xs H R : List Hl} (h : Pick xs H R) (hw : St w0 H w) : St w0 (xs ++ R) w := hw.perm h.perm
/-- A row of the call's own that is only read from now on. -/
theorem St.froz {α : Type} {w0 w : World} {H : List Hl} {v : Value} {e : TypeId} {f : α → List Value} {s : Nat} {l : List α} (h : St w0 (Hl.rw v e f s l :: H) w) : St w0 (Hl.nw v f s l :: H) w := by
  refine ⟨h.ext, fun x hx => ?_, fun z hz b hb ho => ?_, h.apart.2⟩
  · rcases List.mem_cons.1 hx with rfl | hx
    · exact ⟨RO.of_row (h.all _ List.mem_cons_self), fun _ _ b hb => Hl.ge (h.all _ List.mem_cons_self) rfl hb⟩
    · exact h.all x (List.mem_cons_of_mem _ hx)
  · have hb2 : (Hl.rw v e f s l).spot = some b := by
      cases hl : l.flatMap f with
      | nil => simp only [Hl.spot, hl] at hb; cases hb
      | cons u r => simp only [Hl.spot, hl] at hb; exact hb
    have := (h.apart.1 z hz b hb2 ho).1
    cases this
theorem St.frozU {α : Type} {w0 w : World} {H H' : List Hl} {v : Value} {e : TypeId} {f : α → List Value} {s : Nat} {l : List α} (hu : Upd (Hl.rw v e f s l) (Hl.nw v f s l) H H') (h : St w0 H w) : St w0 H' w := by
  refine ⟨h.ext, fun x hx => ?_, hu.apart h.apart rfl fun b hb => .inl ?_⟩
  · rcases hu.from_ x hx with rfl | hx
    · exact ⟨RO.of_row (h.all _ hu.mem), fun _ _ b hb => Hl.ge (h.all _ hu.mem) rfl hb⟩
    · exact h.all x hx
  · cases hl : l.flatMap f with
    | nil => simp only [Hl.spot, hl] at hb; cases hb
    | cons u r => simp only [Hl.spot, hl] at hb; exact hb
/-- A contract that turns the heaplets Xs of the caller's, whatever else stands beside them: Y z stands in their place. -/
def ContL (P : Program) (C : World → Prop) (Xs : List Hl) (f : FuncId) (args : List Value) {ι : Type} (post : ι → Prop) (v : ι → Value) (Y : ι → List Hl) : Prop :=
  ∀ w0 HR w, C w0 → St w0 (Xs ++ HR) w → Calls P f args.toArray w fun e w' => ∃ z, post z ∧ e = .returned (v z) ∧ St w0 (Y z ++ HR) w'
section
variable {P : Program} {C : World → Prop} {n : Nat} {L : FL} {w0 : World} {H HS Xs R : List Hl} {Q : Exit → Act → World → Prop} {ops : Array Oper} {rest : List Oper} {ord : List Mv} {dd i : Nat} {ty : TypeId} {pos : String} {af : Array Edge} {gd : Option (Nat × Bool)} {ι : Type} {f : FuncId} {xs : List Operand} {vs : List Value} {tys : Array TypeId} {post : ι → Prop} {v : ι → Value} {Y : ι → List Hl}
theorem x_callL (hc : ContL P C Xs f vs post v Y) (hC : C w0) (ha : AE L xs vs) (hp : Pick Xs H R) (hg : isGo P f = true) (hd : Nat.blt dd n = true) :
    EX P n L w0 H ⟨some dd, .call { callee := .value (.func f), args := xs.toArray, argTypes := tys }, ty, pos, af, gd⟩ post (fun z => (dd, v z) :: L) (fun z => Y z ++ R) := fun a w hfr hw K Q hK => by
  unfold Oper.wp
  rw [run_call hfr ha hg]
  refine (hc w0 R w hC (St.picked hp hw)).mono ?_
  rintro e w' ⟨z, hz, rfl, hs⟩
  exact hK _ _ ⟨z, hz, hfr.put (by simpa [Nat.blt_eq] using hd), hs⟩
theorem RS.callL (hc : ContL P C Xs f vs post v Y) (hC : C w0) (h : ∀ z, post z → RS P ops Q n ((dd, v z) :: L) w0 (Y z ++ R) rest) (ha : AE L xs vs := by first | exact rfl | exact ⟨rfl, rfl⟩ | exact ⟨rfl, rfl, rfl⟩ | exact ⟨rfl, rfl, rfl, rfl⟩ | exact ⟨rfl, rfl, rfl, rfl, rfl⟩ | exact ⟨rfl, rfl, rfl, rfl, rfl, rfl⟩ | exact ⟨rfl, rfl, rfl, rfl, rfl, rfl, rfl⟩ | exact ⟨rfl, rfl, rfl, rfl, rfl, rfl, rfl, rfl⟩ | exact ⟨rfl, rfl, rfl, rfl, rfl, rfl, rfl, rfl, rfl⟩) (hp : Pick Xs H R := by (repeat (first | exact Pick.nil | (apply Pick.cons; (case a => (first | exact At.here | exact At.there (At.here) | exact At.there (At.there (At.here)) | exact At.there (At.there (At.there (At.here))) | exact At.there (At.there (At.there (At.there (At.here)))) | exact At.there (At.there (At.there (At.there (At.there (At.here))))) | exact At.there (At.there (At.there (At.there (At.there (At.there (At.here)))))) | exact At.there (At.there (At.there (At.there (At.there (At.there (At.there (At.here))))))) | exact At.there (At.there (At.there (At.there (At.there (At.there (At.there (At.there (At.here)))))))) | exact At.there (At.there (At.there (At.there (At.there (At.there (At.there (At.there (At.there (At.here))))))))))))))) (hg : isGo P f = true := by decide +kernel) (hd : Nat.blt dd n = true := by rfl) :
    RS P ops Q n L w0 H (⟨some dd, .call { callee := .value (.func f), args := xs.toArray, argTypes := tys }, ty, pos, af, none⟩ :: rest) := RS.actX rfl (x_callL hc hC ha hp hg hd) h
theorem RM.callL (hc : ContL P C Xs f vs post v Y) (hC : C w0) (h : ∀ z, post z → RM P ops Q HS n [] ((dd, v z) :: L) w0 (Y z ++ R) ord) (ho : ops[i]? = some ⟨some dd, .call { callee := .value (.func f), args := xs.toArray, argTypes := tys }, ty, pos, af, none⟩ := by rfl) (ha : AE L xs vs := by first | exact rfl | exact ⟨rfl, rfl⟩ | exact ⟨rfl, rfl, rfl⟩ | exact ⟨rfl, rfl, rfl, rfl⟩ | exact ⟨rfl, rfl, rfl, rfl, rfl⟩ | exact ⟨rfl, rfl, rfl, rfl, rfl, rfl⟩ | exact ⟨rfl, rfl, rfl, rfl, rfl, rfl, rfl⟩ | exact ⟨rfl, rfl, rfl, rfl, rfl, rfl, rfl, rfl⟩ | exact ⟨rfl, rfl, rfl, rfl, rfl, rfl, rfl, rfl, rfl⟩) (hp : Pick Xs H R := by (repeat (first | exact Pick.nil | (apply Pick.cons; (case a => (first | exact At.here | exact At.there (At.here) | exact At.there (At.there (At.here)) | exact At.there (At.there (At.there (At.here))) | exact At.there (At.there (At.there (At.there (At.here)))) | exact At.there (At.there (At.there (At.there (At.there (At.here))))) | exact At.there (At.there (At.there (At.there (At.there (At.there (At.here)))))) | exact At.there (At.there (At.there (At.there (At.there (At.there (At.there (At.here))))))) | exact At.there (At.there (At.there (At.there (At.there (At.there (At.there (At.there (At.here)))))))) | exact At.there (At.there (At.there (At.there (At.there (At.there (At.there (At.there (At.there (At.here)))))))))))))))
    (hs : ∀ z w, St w0 (Y z ++ R) w → St w0 HS w := by exact fun _ _ h => h.sub (by repeat (first | exact List.Sublist.refl _ | apply List.Sublist.cons_cons | apply List.Sublist.cons))) (hg : isGo P f = true := by decide +kernel) (hd : Nat.blt dd n = true := by rfl) :
    RM P ops Q HS n [] L w0 H (.go i :: ord) := RM.actX ho rfl rfl (x_callL hc hC ha hp hg hd) (.inl hs) h
variable {α : Type} {f' : α → List Value} {l l' : List α} {t e : TypeId} {s bytes : Nat} {x y : Operand} {u u' : Value} {m : Int}
theorem RM.litI (h : ∀ v' : Sl, RM P ops Q HS n [] ((dd, v'.v) :: L) w0 (Hl.rw v'.v e cI 1 [m] :: H) ord) (ho : ops[i]? = some ⟨some dd, .buildSlice t 1 #[(0, x)], ty, pos, af, none⟩ := by rfl) (hx : evO L x = some (.int .i64 m) := by rfl) [ht : RowTy P t e 1 bytes] (hd : Nat.blt dd n = true := by rfl)
    (hs : ∀ (v' : Sl) w, St w0 (Hl.rw v'.v e cI 1 [m] :: H) w → St w0 HS w := by exact fun _ _ h => h.sub (by repeat (first | exact List.Sublist.refl _ | apply List.Sublist.cons_cons | apply List.Sublist.cons))) : RM P ops Q HS n [] L w0 H (.go i :: ord) :=
  RM.actX ho rfl rfl (x_lit (parts := [(0, x)]) (vs := [.int .i64 m]) (f := cI) (l := [m]) ⟨hx, rfl⟩ rfl rfl rfl rfl rfl rfl (rowTy_B ht.is) hd) (.inl hs) fun v' _ => h v'
theorem RM.appendA {H' : Sl → List Hl} (h : ∀ v' : Sl, RM P ops Q HS n [] ((dd, v'.v) :: L) w0 (H' v') ord) (ho : ops[i]? = some ⟨some dd, .call { callee := .builtin .append, args := #[x, y], argTypes := #[t, t] }, ty, pos, af, none⟩) (hx : evO L x = some u) (hy : evO L y = some u') (hu : ∀ v' : Sl, Upd (Hl.rw u e f' s l) (Hl.rw v'.v e f' s (l ++ l')) H (H' v')) (hr : RdT H u' f' s l')
    (h1 : ∀ a, (f' a).all (·.oneCell') = true) [ht : RowTy P t e s bytes] (hb : (l.length + l'.length) * bytes ≤ 140737488355328 ∧ l.length + l'.length ≤ 140737488355328) (hd : Nat.blt dd n = true)
    (hs : ∀ (v' : Sl) w, St w0 (H' v') w → St w0 HS w) : RM P ops Q HS n [] L w0 H (.go i :: ord) :=
  RM.actX ho rfl rfl (x_append hx hy hu hr h1 hb (rowTy_B ht.is) hd) (.inl hs) fun v' _ => h v'
/-- Some cells of an element, side by side. -/
theorem y_loadElPart {α : Type} {inst : Inhabited α} {f : α → List Value} {l : List α} {u v : Value} {s i k : Nat} {m : Int} {t : TypeId} {x : Operand} {d : Option Tmp} (hx : evO L x = some (elA v s m i)) (h : RdT H v f s l) (hf : ∀ a, (f a).length = s) (hm : 0 ≤ m ∧ m < l.length) (hs : Nat.blt 0 s = true) (hik : Nat.ble (i + k) s = true) (hv : Value.agg (((f (nth l m)).drop i).take k).toArray = u) (ht : rowB P t k = true) :
    V P n L w0 H ⟨d, .load t x, ty, pos, af, gd⟩ u := by
  unfold V
  intro a w ha hw
  subst hv
  obtain ⟨ad, c, rfl, hc⟩ := h.at_ hf hm (by simpa [Nat.blt_eq] using hs) hw
  have hlen : (((f (nth l m)).drop i).take k).length = k := by
    have := Nat.le_of_ble_eq_true hik
    simp [hf]; omega
  have hl := run_loadCells_list (P := P) w (ad.add (m.toNat * s + i)) (((f (nth l m)).drop i).take k) (fun j u hu => by
    rw [add_add, Nat.add_assoc]
    refine hc (i + j) u ?_
    have hj : j < k := by
      have := (List.getElem?_eq_some_iff.1 hu).1
      omega
    rw [← hu, List.getElem?_take_of_lt hj, List.getElem?_drop])
  rw [hlen] at hl
  simp [execOp, ha.eval hx, elA, Instr.loadAt, Instr.sureAddr, loadVar, run_isAgg_true ht, run_sizeOf_of (info_of_rowB ht), hl]
/-! ### A pointer that is not nil -/
theorem y_nilC {d : Option Tmp} {x : Operand} {a0 : Addr} (hx : evO L x = some (.pointer (some a0))) : V P n L w0 H ⟨d, .nilCheck x, ty, pos, af, gd⟩ (.pointer (some a0)) := by
  unfold V
  intro a w ha hw
  simp [execOp, ha.eval hx]
theorem nxN {p q : Prop} (h : q) (s : q → p := by intro h; first
  | (show YK _ _ _ _ _ ⟨_, .nilCheck _, _, _, _, _⟩ _; exact YK.ofV (y_nilC (by rfl)) h)
  | (show VK _ _ _ _ _ ⟨_, .nilCheck _, _, _, _, _⟩ _; exact VK.mk (y_nilC (by rfl)) h)
  | (show YG _ _ _ _ _ _ ⟨_, .nilCheck _, _, _, _, _⟩ _; exact YG.mk (fun hb => by (try (have hc := And.left hb; have hb := And.right hb; rw [hc])); (try rw [hb]); exact V.y (y_nilC (by rfl))) h)
  | (show VG _ _ _ _ _ _ ⟨_, .nilCheck _, _, _, _, _⟩ _; exact VG.mk (fun hb => by (try (have hc := And.left hb; have hb := And.right hb; rw [hc])); (try rw [hb]); exact y_nilC (by rfl)) h)) : p := s h
end
end Go.Proofs.YtpekkcahehhkmaaGreatDoor
/- Stable merging by rotations, plain: what slices.SortStableFunc's symMerge does to a list. -/
set_option linter.unusedVariables false
set_option maxHeartbeats 1000000
namespace Go.Proofs.YtpekkcahehhkmaaGreatDoor
open Go.RowKit

/-- The elements from a to before m, and those from m to before b, exchanged. -/
def rotL (l : List Int) (a m b : Nat) : List Int := l.take a ++ ((l.take b).drop m ++ ((l.take m).drop a ++ l.drop b))
theorem rotL_len {l : List Int} {a m b : Nat} (h : a ≤ m ∧ m ≤ b ∧ b ≤ l.length) : (rotL l a m b).length = l.length := by
  unfold rotL
  simp only [List.length_append, List.length_take, List.length_drop]
  omega
theorem rotL_perm {l : List Int} {a m b : Nat} (h : a ≤ m ∧ m ≤ b ∧ b ≤ l.length) : (rotL l a m b).Perm l := by
  have e : l = l.take a ++ ((l.take m).drop a ++ ((l.take b).drop m ++ l.drop b)) := by
    conv => lhs; rw [← List.take_append_drop b l, ← List.take_append_drop m (l.take b), List.take_take, Nat.min_eq_left h.2.1, ← List.take_append_drop a (l.take m), List.take_take, Nat.min_eq_left h.1]
    simp
  conv => rhs; rw [e]
  unfold rotL
  refine List.Perm.append_left _ ?_
  rw [← List.append_assoc, ← List.append_assoc]
  exact List.Perm.append_right _ List.perm_append_comm
/-- Where the elements lie behind it. -/
theorem rotL_get {l : List Int} {a m b : Nat} (h : a ≤ m ∧ m ≤ b ∧ b ≤ l.length) (i : Nat) : (rotL l a m b)[i]? = if i < a then l[i]? else if i < a + (b - m) then l[i - a + m]? else if i < b then l[i - (a + (b - m)) + a]? else l[i]? := by
  unfold rotL
  rw [List.getElem?_append, List.length_take, Nat.min_eq_left (by omega)]
  split
  · rw [List.getElem?_take_of_lt (by omega)]
  · rw [List.getElem?_append, List.length_drop, List.length_take, Nat.min_eq_left (by omega)]
    split
    next h1 =>
      rw [if_pos (by omega), List.getElem?_drop, List.getElem?_take_of_lt (by omega), Nat.add_comm]
    next h1 =>
      rw [if_neg (by omega), List.getElem?_append, List.length_drop, List.length_take, Nat.min_eq_left (by omega)]
      split
      next h2 =>
        rw [if_pos (by omega), List.getElem?_drop, List.getElem?_take_of_lt (by omega)]
        congr 1; omega
      next h2 =>
        rw [if_neg (by omega), List.getElem?_drop]
        congr 1; omega
theorem rotL_same {l : List Int} {a b : Nat} (h : a ≤ b ∧ b ≤ l.length) : rotL l a a b = l ∧ rotL l a b b = l := by
  constructor <;> (apply List.ext_getElem?; intro i)
  · rw [rotL_get (by omega)]
    split
    · rfl
    · split
      · congr 1; omega
      · rw [if_neg (by omega)]
  · rw [rotL_get (by omega)]
    split
    · rfl
    · rw [if_neg (by omega)]
      split
      · congr 1; omega
      · rfl
/-- k elements from a, and k elements from b, exchanged (apart). -/
def swapR (l : List Int) (a b : Nat) : Nat → List Int
  | 0 => l
  | k + 1 => ((swapR l a b k).set (a + k) ((swapR l a b k).getD (b + k) 0)).set (b + k) ((swapR l a b k).getD (a + k) 0)
theorem swapR_len (l : List Int) (a b k : Nat) : (swapR l a b k).length = l.length := by
  induction k with
  | zero => rfl
  | succ k ih => unfold swapR; rw [List.length_set, List.length_set, ih]
theorem swapR_get {l : List Int} {a b : Nat} : ∀ (k : Nat), a + k ≤ b → b + k ≤ l.length → ∀ i : Nat, (swapR l a b k)[i]? = if a ≤ i ∧ i < a + k then l[i - a + b]? else if b ≤ i ∧ i < b + k then l[i - b + a]? else l[i]?
  | 0, h1, h2, i => by rw [if_neg (by omega), if_neg (by omega)]; rfl
  | k + 1, h1, h2, i => by
    have ih := swapR_get (l := l) (a := a) (b := b) k (by omega) (by omega)
    have hl := swapR_len l a b k
    unfold swapR
    have ga : (swapR l a b k)[a + k]? = l[a + k]? := by rw [ih, if_neg (by omega), if_neg (by omega)]
    have gb : (swapR l a b k)[b + k]? = l[b + k]? := by rw [ih, if_neg (by omega), if_neg (by omega)]
    rw [List.getElem?_set, List.length_set, hl]
    by_cases e1 : b + k = i
    · rw [if_pos e1, if_pos (by omega), if_neg (by omega), if_pos (by omega), List.getD_eq_getElem?_getD, ga]
      rw [show i - b + a = a + k by omega, List.getElem?_eq_getElem (by omega)]; rfl
    · rw [if_neg e1, List.getElem?_set, hl]
      by_cases e2 : a + k = i
      · rw [if_pos e2, if_pos (by omega), if_pos (by omega), List.getD_eq_getElem?_getD, gb]
        rw [show i - a + b = b + k by omega, List.getElem?_eq_getElem (by omega)]; rfl
      · rw [if_neg e2, ih]
        repeat' split
        all_goals first | rfl | (exfalso; omega) | (congr 1; omega)
/-- A step of the rotation: what remains to be exchanged. -/
theorem rot_gt {l : List Int} {m i j : Nat} (hj : 0 < j ∧ j < i) (h : i ≤ m ∧ m + j ≤ l.length) : rotL (swapR l (m - i) m j) (m - i + j) m (m + j) = rotL l (m - i) m (m + j) := by
  have hl := swapR_len l (m - i) m j
  apply List.ext_getElem?
  intro k
  rw [rotL_get (by omega), rotL_get (by omega)]
  have g := swapR_get (l := l) (a := m - i) (b := m) j (by omega) (by omega)
  simp only [g]
  repeat' split
  all_goals first | rfl | (exfalso; omega) | (congr 1; omega)
theorem rot_lt {l : List Int} {m i j : Nat} (hj : 0 < i ∧ i < j) (h : i ≤ m ∧ m + j ≤ l.length) : rotL (swapR l (m - i) (m + j - i) i) (m - i) m (m + (j - i)) = rotL l (m - i) m (m + j) := by
  have hl := swapR_len l (m - i) (m + j - i) i
  apply List.ext_getElem?
  intro k
  rw [rotL_get (by omega), rotL_get (by omega)]
  have g := swapR_get (l := l) (a := m - i) (b := m + j - i) i (by omega) (by omega)
  simp only [g]
  repeat' split
  all_goals first | rfl | (exfalso; omega) | (congr 1; omega)
theorem rot_eq {l : List Int} {m i : Nat} (h : i ≤ m ∧ m + i ≤ l.length) : swapR l (m - i) m i = rotL l (m - i) m (m + i) := by
  apply List.ext_getElem?
  intro k
  rw [rotL_get (by omega), swapR_get i (by omega) (by omega)]
  repeat' split
  all_goals first | rfl | (exfalso; omega) | (congr 1; omega)
/-! ### The order: by a number of each element, and by the elements themselves where these are equal -/
abbrev gt0 (l : List Int) (i : Nat) : Int := l.getD i 0
def lexLt (mg : Int → Int) (x y : Int) : Prop := mg x < mg y ∨ mg x = mg y ∧ x < y
theorem lexLt_trans {mg : Int → Int} {x y z : Int} (h1 : lexLt mg x y) (h2 : lexLt mg y z) : lexLt mg x z := by
  unfold lexLt at *; omega
theorem lexLt_not {mg : Int → Int} {x y : Int} (hxy : x < y) : ¬ mg y < mg x ↔ lexLt mg x y := by
  unfold lexLt; omega
theorem lexLt_lt {mg : Int → Int} {x y : Int} (hxy : x < y) : mg y < mg x ↔ lexLt mg y x := by
  unfold lexLt; omega
structure Half (mg : Int → Int) (l : List Int) (a m b : Nat) : Prop where
  le : a ≤ m ∧ m ≤ b ∧ b ≤ l.length
  left : ∀ i j : Nat, a ≤ i → i < j → j < m → lexLt mg (gt0 l i) (gt0 l j)
  right : ∀ i j : Nat, m ≤ i → i < j → j < b → lexLt mg (gt0 l i) (gt0 l j)
  idx : ∀ i j : Nat, a ≤ i → i < m → m ≤ j → j < b → gt0 l i < gt0 l j
structure DoneS (mg : Int → Int) (l l' : List Int) (a b : Nat) : Prop where
  perm : l'.Perm l
  out : ∀ i : Nat, i < a ∨ b ≤ i → gt0 l' i = gt0 l i
  from_ : ∀ i : Nat, a ≤ i → i < b → ∃ j : Nat, a ≤ j ∧ j < b ∧ gt0 l' i = gt0 l j
  sorted : ∀ i j : Nat, a ≤ i → i < j → j < b → lexLt mg (gt0 l' i) (gt0 l' j)
theorem DoneS.len {mg : Int → Int} {l l' : List Int} {a b : Nat} (h : DoneS mg l l' a b) : l'.length = l.length := h.perm.length_eq
theorem half_done {mg : Int → Int} {l : List Int} {a m b : Nat} (h : Half mg l a m b) (hm : m = a ∨ m = b) : DoneS mg l l a b := by
  refine ⟨.refl _, fun _ _ => rfl, fun i h1 h2 => ⟨i, h1, h2, rfl⟩, fun i j h1 h2 h3 => ?_⟩
  rcases hm with e | e
  · exact h.right i j (by omega) h2 h3
  · exact h.left i j h1 h2 (by omega)
theorem gt0_rot {l : List Int} {a m b : Nat} (h : a ≤ m ∧ m ≤ b ∧ b ≤ l.length) (i : Nat) : gt0 (rotL l a m b) i = if i < a then gt0 l i else if i < a + (b - m) then gt0 l (i - a + m) else if i < b then gt0 l (i - (a + (b - m)) + a) else gt0 l i := by
  show (rotL l a m b).getD i 0 = _
  rw [List.getD_eq_getElem?_getD, rotL_get h]
  split
  · rw [← List.getD_eq_getElem?_getD]
  · split
    · rw [← List.getD_eq_getElem?_getD]
    · split <;> rw [← List.getD_eq_getElem?_getD]
/-- The halves' inner parts exchanged: two smaller tasks, all of the first below all of the second. -/
theorem half_split {mg : Int → Int} {l : List Int} {a m b s e mid : Nat} (h : Half mg l a m b) (hs : a ≤ s ∧ s ≤ m ∧ m ≤ e ∧ e ≤ b) (hmid : s + e = mid + m)
    (c1 : ∀ i j : Nat, a ≤ i → i < s → e ≤ j → j < b → lexLt mg (gt0 l i) (gt0 l j)) (c2 : ∀ i j : Nat, s ≤ i → i < m → m ≤ j → j < e → lexLt mg (gt0 l j) (gt0 l i)) :
    Half mg (rotL l s m e) a s mid ∧ Half mg (rotL l s m e) mid e b ∧ ∀ i j : Nat, a ≤ i → i < mid → mid ≤ j → j < b → lexLt mg (gt0 (rotL l s m e) i) (gt0 (rotL l s m e) j) := by
  obtain ⟨⟨h1, h2, h3⟩, hl, hr, hi⟩ := h
  have hb : s ≤ m ∧ m ≤ e ∧ e ≤ l.length := by omega
  have hlen := rotL_len hb
  -- where an element of the new list lies in the old one
  have g := gt0_rot hb
  have gA : ∀ i, i < s → gt0 (rotL l s m e) i = gt0 l i := fun i hi' => by rw [g, if_pos hi']
  have gB : ∀ i, s ≤ i → i < mid → gt0 (rotL l s m e) i = gt0 l (i - s + m) := fun i h1 h2 => by rw [g, if_neg (by omega), if_pos (by omega)]
  have gC : ∀ i, mid ≤ i → i < e → gt0 (rotL l s m e) i = gt0 l (i - mid + s) := fun i h1 h2 => by rw [g, if_neg (by omega), if_neg (by omega), if_pos (by omega), show i - (s + (e - m)) + s = i - mid + s by omega]
  have gD : ∀ i, e ≤ i → gt0 (rotL l s m e) i = gt0 l i := fun i h1 => by rw [g, if_neg (by omega), if_neg (by omega), if_neg (by omega)]
  refine ⟨⟨by omega, fun i j k1 k2 k3 => ?_, fun i j k1 k2 k3 => ?_, fun i j k1 k2 k3 k4 => ?_⟩, ⟨by omega, fun i j k1 k2 k3 => ?_, fun i j k1 k2 k3 => ?_, fun i j k1 k2 k3 k4 => ?_⟩, fun i j k1 k2 k3 k4 => ?_⟩
  · rw [gA i (by omega), gA j (by omega)]; exact hl i j k1 k2 (by omega)
  · rw [gB i (by omega) (by omega), gB j (by omega) (by omega)]; exact hr _ _ (by omega) (by omega) (by omega)
  · rw [gA i (by omega), gB j (by omega) (by omega)]; exact hi _ _ (by omega) (by omega) (by omega) (by omega)
  · rw [gC i (by omega) (by omega), gC j (by omega) (by omega)]; exact hl _ _ (by omega) (by omega) (by omega)
  · rw [gD i (by omega), gD j (by omega)]; exact hr _ _ (by omega) (by omega) (by omega)
  · rw [gC i (by omega) (by omega), gD j (by omega)]; exact hi _ _ (by omega) (by omega) (by omega) (by omega)
  · by_cases q1 : i < s <;> by_cases q2 : j < e
    · rw [gA i q1, gC j k3 q2]; exact hl _ _ (by omega) (by omega) (by omega)
    · rw [gA i q1, gD j (by omega)]; exact c1 _ _ (by omega) (by omega) (by omega) (by omega)
    · rw [gB i (by omega) (by omega), gC j k3 q2]; exact c2 _ _ (by omega) (by omega) (by omega) (by omega)
    · rw [gB i (by omega) (by omega), gD j (by omega)]; exact hr _ _ (by omega) (by omega) (by omega)
theorem done_join {mg : Int → Int} {l l1 l2 l3 : List Int} {a m b s e mid : Nat} (h : Half mg l a m b) (hs : a ≤ s ∧ s ≤ m ∧ m ≤ e ∧ e ≤ b) (hmid : s + e = mid + m) (e1 : l1 = rotL l s m e)
    (hc : ∀ i j : Nat, a ≤ i → i < mid → mid ≤ j → j < b → lexLt mg (gt0 l1 i) (gt0 l1 j)) (d1 : DoneS mg l1 l2 a mid) (d2 : DoneS mg l2 l3 mid b) : DoneS mg l l3 a b := by
  have hb : s ≤ m ∧ m ≤ e ∧ e ≤ l.length := by have := h.le; omega
  have g := gt0_rot hb
  rw [← e1] at g
  have fr1 : ∀ i : Nat, a ≤ i → i < b → ∃ j : Nat, a ≤ j ∧ j < b ∧ gt0 l1 i = gt0 l j := fun i h1 h2 => by
    rw [g]
    split
    · exact ⟨i, h1, h2, rfl⟩
    · split
      · exact ⟨_, by omega, by omega, rfl⟩
      · split
        · exact ⟨_, by omega, by omega, rfl⟩
        · exact ⟨i, h1, h2, rfl⟩
  have out1 : ∀ i : Nat, i < a ∨ b ≤ i → gt0 l1 i = gt0 l i := fun i h1 => by
    rw [g]
    split
    · rfl
    · rw [if_neg (by omega), if_neg (by omega)]
  have low : ∀ i : Nat, a ≤ i → i < mid → ∃ j : Nat, a ≤ j ∧ j < mid ∧ gt0 l3 i = gt0 l1 j := fun i h1 h2 => by
    obtain ⟨j, j1, j2, j3⟩ := d1.from_ i h1 h2
    exact ⟨j, j1, j2, by rw [d2.out i (.inl h2), j3]⟩
  have high : ∀ i : Nat, mid ≤ i → i < b → ∃ j : Nat, mid ≤ j ∧ j < b ∧ gt0 l3 i = gt0 l1 j := fun i h1 h2 => by
    obtain ⟨j, j1, j2, j3⟩ := d2.from_ i h1 h2
    exact ⟨j, j1, j2, by rw [j3, d1.out j (.inr j1)]⟩
  refine ⟨(d2.perm.trans d1.perm).trans (e1 ▸ rotL_perm hb), fun i h1 => ?_, fun i h1 h2 => ?_, fun i j h1 h2 h3 => ?_⟩
  · rw [d2.out i (by omega), d1.out i (by omega), out1 i h1]
  · by_cases q : i < mid
    · obtain ⟨j, j1, j2, j3⟩ := low i h1 q
      obtain ⟨k, k1, k2, k3⟩ := fr1 j j1 (by omega)
      exact ⟨k, k1, k2, j3.trans k3⟩
    · obtain ⟨j, j1, j2, j3⟩ := high i (by omega) h2
      obtain ⟨k, k1, k2, k3⟩ := fr1 j (by omega) j2
      exact ⟨k, k1, k2, j3.trans k3⟩
  · by_cases q1 : j < mid
    · rw [d2.out i (by omega), d2.out j (by omega)]
      exact d1.sorted i j h1 h2 q1
    · by_cases q2 : i < mid
      · obtain ⟨i', i1, i2, i3⟩ := low i h1 q2
        obtain ⟨j', j1, j2, j3⟩ := high j (by omega) h3
        rw [i3, j3]
        exact hc i' j' i1 i2 j1 j2
      · exact d2.sorted i j (by omega) h2 h3
/-- What the search among the pairs finds. -/
theorem search_split {mg : Int → Int} {l : List Int} {a m b s0 r0 s n mid : Nat} (h : Half mg l a m b) (ham : a < m ∧ m < b) (hmid : mid = (a + b) / 2) (hn : n = mid + m) (h0 : (m > mid ∧ s0 = n - b ∧ r0 = mid) ∨ (m ≤ mid ∧ s0 = a ∧ r0 = m)) (hs : s0 ≤ s ∧ s ≤ r0)
    (lo : ∀ c : Nat, s0 ≤ c → c < s → lexLt mg (gt0 l c) (gt0 l (n - 1 - c))) (hi : ∀ c : Nat, s ≤ c → c < r0 → lexLt mg (gt0 l (n - 1 - c)) (gt0 l c)) :
    (a ≤ s ∧ s ≤ m ∧ m ≤ n - s ∧ n - s ≤ b) ∧ s + (n - s) = mid + m ∧ (∀ i j : Nat, a ≤ i → i < s → n - s ≤ j → j < b → lexLt mg (gt0 l i) (gt0 l j)) ∧ (∀ i j : Nat, s ≤ i → i < m → m ≤ j → j < n - s → lexLt mg (gt0 l j) (gt0 l i)) := by
  have hle : a ≤ s ∧ s ≤ m ∧ m ≤ n - s ∧ n - s ≤ b := by omega
  have weakL : ∀ i j : Nat, a ≤ i → i ≤ j → j < m → i = j ∨ lexLt mg (gt0 l i) (gt0 l j) := fun i j h1 h2 h3 => by
    rcases Nat.lt_or_eq_of_le h2 with q | q
    · exact .inr (h.left i j h1 q h3)
    · exact .inl q
  have weakR : ∀ i j : Nat, m ≤ i → i ≤ j → j < b → i = j ∨ lexLt mg (gt0 l i) (gt0 l j) := fun i j h1 h2 h3 => by
    rcases Nat.lt_or_eq_of_le h2 with q | q
    · exact .inr (h.right i j h1 q h3)
    · exact .inl q
  refine ⟨hle, by omega, fun i j h1 h2 h3 h4 => ?_, fun i j h1 h2 h3 h4 => ?_⟩
  · have k := lo (s - 1) (by omega) (by omega)
    rw [show n - 1 - (s - 1) = n - s by omega] at k
    have k2 : lexLt mg (gt0 l i) (gt0 l (n - s)) := by
      rcases weakL i (s - 1) h1 (by omega) (by omega) with q | q
      · rw [q]; exact k
      · exact lexLt_trans q k
    rcases weakR (n - s) j (by omega) h3 h4 with q | q
    · rw [← q]; exact k2
    · exact lexLt_trans k2 q
  · have k := hi s (Nat.le_refl _) (by omega)
    have k2 : lexLt mg (gt0 l j) (gt0 l s) := by
      rcases weakR j (n - 1 - s) h3 (by omega) (by omega) with q | q
      · rw [q]; exact k
      · exact lexLt_trans q k
    rcases weakL s i (by omega) h1 h2 with q | q
    · rw [← q]; exact k2
    · exact lexLt_trans k2 q

theorem half_sorted {mg : Int → Int} {l : List Int} {a m b : Nat} (h : Half mg l a m b) (hc : ∀ i j : Nat, a ≤ i → i < m → m ≤ j → j < b → lexLt mg (gt0 l i) (gt0 l j)) : DoneS mg l l a b := by
  refine ⟨.refl _, fun _ _ => rfl, fun i h1 h2 => ⟨i, h1, h2, rfl⟩, fun i j h1 h2 h3 => ?_⟩
  by_cases q1 : j < m
  · exact h.left i j h1 h2 q1
  · by_cases q2 : i < m
    · exact hc i j h1 q2 (by omega) h3
    · exact h.right i j (by omega) h2 h3
theorem done_left1 {mg : Int → Int} {l : List Int} {a b i : Nat} (h : Half mg l a (a + 1) b) (hi : a + 1 ≤ i ∧ i ≤ b) (lo : ∀ q : Nat, a + 1 ≤ q → q < i → lexLt mg (gt0 l q) (gt0 l a)) (hi2 : ∀ q : Nat, i ≤ q → q < b → lexLt mg (gt0 l a) (gt0 l q)) : DoneS mg l (rotL l a (a + 1) i) a b := by
  have hs : a ≤ a ∧ a ≤ a + 1 ∧ a + 1 ≤ i ∧ i ≤ b := by omega
  have hmid : a + i = (i - 1) + (a + 1) := by omega
  have hb : a ≤ a + 1 ∧ a + 1 ≤ i ∧ i ≤ l.length := by have := h.le; omega
  obtain ⟨k1, k2, k3⟩ := half_split h hs hmid (fun p j h1 h2 _ _ => by omega) (fun p j h1 h2 h3 h4 => by
    obtain rfl : p = a := by omega
    exact lo j h3 h4)
  refine done_join h hs hmid rfl k3 (half_done k1 (.inl rfl)) (half_sorted k2 fun p j h1 h2 h3 h4 => ?_)
  have g := gt0_rot hb
  rw [g p, if_neg (by omega), if_neg (by omega), if_pos (by omega), g j, if_neg (by omega), if_neg (by omega), if_neg (by omega), show p - (a + (i - (a + 1))) + a = a by omega]
  exact hi2 j h3 h4
theorem done_right1 {mg : Int → Int} {l : List Int} {a m i : Nat} (h : Half mg l a m (m + 1)) (hi : a ≤ i ∧ i ≤ m) (lo : ∀ q : Nat, a ≤ q → q < i → lexLt mg (gt0 l q) (gt0 l m)) (hi2 : ∀ q : Nat, i ≤ q → q < m → lexLt mg (gt0 l m) (gt0 l q)) : DoneS mg l (rotL l i m (m + 1)) a (m + 1) := by
  have hs : a ≤ i ∧ i ≤ m ∧ m ≤ m + 1 ∧ m + 1 ≤ m + 1 := by omega
  have hmid : i + (m + 1) = (i + 1) + m := by omega
  have hb : i ≤ m ∧ m ≤ m + 1 ∧ m + 1 ≤ l.length := by have := h.le; omega
  obtain ⟨k1, k2, k3⟩ := half_split h hs hmid (fun p j h1 h2 h3 h4 => by omega) (fun p j h1 h2 h3 h4 => by
    obtain rfl : j = m := by omega
    exact hi2 p h1 h2)
  refine done_join h hs hmid rfl k3 (half_sorted k1 fun p j h1 h2 h3 h4 => ?_) (half_done k2 (.inr rfl))
  have g := gt0_rot hb
  rw [g p, if_pos (by omega), g j, if_neg (by omega), if_pos (by omega), show j - i + m = m by omega]
  exact lo p h1 h2
/-- An element carried upwards, or downwards, by exchanges of neighbours. -/
def swpN (l : List Int) (i j : Nat) : List Int := (l.set i (gt0 l j)).set j (gt0 l i)
theorem swpN_len (l : List Int) (i j : Nat) : (swpN l i j).length = l.length := by unfold swpN; rw [List.length_set, List.length_set]
theorem swpN_get {l : List Int} {i j : Nat} (h : i < l.length ∧ j < l.length) (k : Nat) : (swpN l i j)[k]? = if k = j then l[i]? else if k = i then l[j]? else l[k]? := by
  unfold swpN gt0
  rw [List.getElem?_set, List.length_set]
  by_cases e1 : j = k
  · rw [if_pos e1, if_pos (by omega), if_pos e1.symm, List.getD_eq_getElem?_getD, List.getElem?_eq_getElem h.1]; rfl
  · rw [if_neg e1, if_neg (Ne.symm e1), List.getElem?_set]
    by_cases e2 : i = k
    · rw [if_pos e2, if_pos (by omega), if_pos e2.symm, List.getD_eq_getElem?_getD, List.getElem?_eq_getElem h.2]; rfl
    · rw [if_neg e2, if_neg (Ne.symm e2)]
theorem rot_up {l : List Int} {a k : Nat} (h : a ≤ k ∧ k + 1 < l.length) : swpN (rotL l a (a + 1) (k + 1)) k (k + 1) = rotL l a (a + 1) (k + 2) := by
  apply List.ext_getElem?
  intro i
  have h1 : a ≤ a + 1 ∧ a + 1 ≤ k + 1 ∧ k + 1 ≤ l.length := by omega
  have h2 : a ≤ a + 1 ∧ a + 1 ≤ k + 2 ∧ k + 2 ≤ l.length := by omega
  rw [swpN_get (by rw [rotL_len h1]; omega), rotL_get h1, rotL_get h1, rotL_get h1, rotL_get h2]
  repeat' split
  all_goals first | rfl | (exfalso; omega) | (congr 1; omega)
theorem rot_down {l : List Int} {m k : Nat} (h : 0 < k ∧ k ≤ m ∧ m < l.length) : swpN (rotL l k m (m + 1)) k (k - 1) = rotL l (k - 1) m (m + 1) := by
  apply List.ext_getElem?
  intro i
  have h1 : k ≤ m ∧ m ≤ m + 1 ∧ m + 1 ≤ l.length := by omega
  have h2 : k - 1 ≤ m ∧ m ≤ m + 1 ∧ m + 1 ≤ l.length := by omega
  rw [swpN_get (by rw [rotL_len h1]; omega), rotL_get h1, rotL_get h1, rotL_get h1, rotL_get h2]
  repeat' split
  all_goals first | rfl | (exfalso; omega) | (congr 1; omega)

theorem done_refl {mg : Int → Int} {l : List Int} {a b : Nat} (h : b ≤ a + 1) : DoneS mg l l a b := ⟨.refl _, fun _ _ => rfl, fun i h1 h2 => ⟨i, h1, h2, rfl⟩, fun i j h1 h2 h3 => by omega⟩
theorem done_trans {mg : Int → Int} {l l1 l2 : List Int} {a i j : Nat} (h1 : DoneS mg l l1 a i) (h2 : DoneS mg l1 l2 a j) (hij : i ≤ j) : DoneS mg l l2 a j := by
  refine ⟨h2.perm.trans h1.perm, fun k hk => by rw [h2.out k hk, h1.out k (by omega)], fun k k1 k2 => ?_, h2.sorted⟩
  obtain ⟨p, p1, p2, p3⟩ := h2.from_ k k1 k2
  by_cases q : p < i
  · obtain ⟨r, r1, r2, r3⟩ := h1.from_ p p1 q
    exact ⟨r, r1, by omega, p3.trans r3⟩
  · exact ⟨p, p1, p2, by rw [p3, h1.out p (by omega)]⟩
/-- The elements from a to before b ascend, as integers. -/
def ascL (l : List Int) (a b : Nat) : Prop := ∀ p q : Nat, a ≤ p → p < q → q < b → gt0 l p < gt0 l q
theorem ins_half {mg : Int → Int} {l li : List Int} {a i : Nat} (h : DoneS mg l li a i) (ha : ascL l a (i + 1)) (hi : a ≤ i ∧ i < l.length) : Half mg li a i (i + 1) := by
  refine ⟨by rw [h.len]; omega, h.sorted, fun p q h1 h2 h3 => by omega, fun p q h1 h2 h3 h4 => ?_⟩
  obtain rfl : q = i := by omega
  obtain ⟨r, r1, r2, r3⟩ := h.from_ p h1 h2
  rw [r3, h.out q (.inr (Nat.le_refl _))]
  exact ha r q r1 r2 (by omega)
theorem blocks_half {mg : Int → Int} {l l1 l2 : List Int} {k n : Nat} (ha : ascL l 0 n) (hk : k ≤ n ∧ n ≤ l.length) (h1 : DoneS mg l l1 0 k) (h2 : DoneS mg l1 l2 k n) : Half mg l2 0 k n := by
  have e1 := h1.len
  have e2 := h2.len
  refine ⟨by omega, fun i j i1 i2 i3 => ?_, h2.sorted, fun i j i1 i2 i3 i4 => ?_⟩
  · rw [h2.out i (by omega), h2.out j (by omega)]
    exact h1.sorted i j i1 i2 i3
  · obtain ⟨p, p1, p2, p3⟩ := h1.from_ i i1 i2
    obtain ⟨q, q1, q2, q3⟩ := h2.from_ j i3 i4
    rw [h2.out i (by omega), p3, q3, h1.out q (.inr q1)]
    exact ha p q p1 (by omega) q2
theorem blocks_done {mg : Int → Int} {l l1 l2 l3 : List Int} {k n : Nat} (hk : k ≤ n) (h1 : DoneS mg l l1 0 k) (h2 : DoneS mg l1 l2 k n) (h3 : DoneS mg l2 l3 0 n) : DoneS mg l l3 0 n := by
  refine ⟨(h3.perm.trans h2.perm).trans h1.perm, fun i hi => by rw [h3.out i hi, h2.out i (by omega), h1.out i (by omega)], fun i i1 i2 => ?_, h3.sorted⟩
  obtain ⟨p, p1, p2, p3⟩ := h3.from_ i i1 i2
  by_cases q : p < k
  · obtain ⟨r, r1, r2, r3⟩ := h1.from_ p (Nat.zero_le _) q
    exact ⟨r, r1, by omega, by rw [p3, h2.out p (by omega), r3]⟩
  · obtain ⟨r, r1, r2, r3⟩ := h2.from_ p (by omega) p2
    exact ⟨r, Nat.zero_le _, r2, by rw [p3, r3, h1.out r (.inr r1)]⟩
end Go.Proofs.YtpekkcahehhkmaaGreatDoor
/- slices.SortStableFunc at ints: its inner functions. -/
set_option linter.unusedVariables false
set_option maxHeartbeats 4000000
namespace Go.Proofs.YtpekkcahehhkmaaGreatDoor
open Go.RowKit

theorem X.endN {P : Program} {n : Nat} {L : FL} {w0 : World} {H : List Hl} {fn : Func} {R : Ending → World → Prop} (hf : fn.results = #[]) (h : ∀ w, St w0 H w → R (.returned (.tuple #[])) w) : X (bodyPost P fn R) n L w0 H .normal := by
  have h1 := X.ret (P := P) (n := n) (L := L) (w0 := w0) (H := H) (fn := fn) (R := R) (rs := []) (vs := []) hf rfl rfl h
  unfold X at h1 ⊢
  exact h1
abbrev rwI (v : Sl) (l : List Int) : Hl := Hl.rw v.v 3 cI 1 l
theorem nth_gt0 (l : List Int) (m : Int) : nth l m = gt0 l m.toNat := rfl
def cmpI (a b : Int) : Int := if a < b then -1 else if b < a then 1 else 0
theorem cmpI_neg {a b : Int} : cmpI a b < 0 ↔ a < b := by
  unfold cmpI; split
  · constructor <;> omega
  · split <;> constructor <;> omega
/-- A comparing function of two ints from 0 to before N, by a number of each. -/
structure CmpOk (C : World → Prop) (f : FuncId) (cap : List Value) (mg : Int → Int) (N : Int) : Prop where
  go : isGo Tryz.prog f = true
  cmp : ∀ x y : Int, 0 ≤ x → x < N → 0 ≤ y → y < N → ContIn Tryz.prog C f ([.int .i64 x, .int .i64 y] ++ (cap.toArray).toList) (.int .i64 (cmpI (mg x) (mg y)))
abbrev cmpV (f : FuncId) (cap : List Value) : Value := .func (.func f) #[] cap.toArray
abbrev inN (N : Int) (l : List Int) : Prop := ∀ x ∈ l, 0 ≤ x ∧ x < N
theorem nth_inN {N : Int} {l : List Int} (h : inN N l) {m : Int} (hm : 0 ≤ m ∧ m < l.length) : 0 ≤ nth l m ∧ nth l m < N := h _ (List.mem_of_getElem? (nth_some hm.1 hm.2))
end Go.Proofs.YtpekkcahehhkmaaGreatDoor
/- slices.SortStableFunc at ints: symMerge. -/
set_option linter.unusedVariables false
set_option maxHeartbeats 4000000
namespace Go.Proofs.YtpekkcahehhkmaaGreatDoor
open Go.RowKit

theorem X.retZ {P : Program} {n : Nat} {L : FL} {w0 : World} {H : List Hl} {fn : Func} {R : Ending → World → Prop} (hf : fn.results = #[]) (h : ∀ w, St w0 H w → R (.returned (.tuple #[])) w) : X (bodyPost P fn R) n L w0 H .ret := X.ret (rs := []) (vs := []) hf rfl rfl h
theorem half_out {mg : Int → Int} {l z : List Int} {a mid e b : Nat} (h : Half mg l mid e b) (d : DoneS mg l z a mid) : Half mg z mid e b := by
  have hl := d.len
  have g : ∀ i : Nat, mid ≤ i → gt0 z i = gt0 l i := fun i hi => d.out i (.inr hi)
  refine ⟨by have := h.le; omega, fun i j h1 h2 h3 => ?_, fun i j h1 h2 h3 => ?_, fun i j h1 h2 h3 h4 => ?_⟩
  · rw [g i h1, g j (by omega)]; exact h.left i j h1 h2 h3
  · have := h.le; rw [g i (by omega), g j (by omega)]; exact h.right i j h1 h2 h3
  · have := h.le; rw [g i h1, g j (by omega)]; exact h.idx i j h1 h2 h3 h4
theorem K_cmp {C : World → Prop} {f : FuncId} {cap : List Value} {mg : Int → Int} {N : Int} (K : CmpOk C f cap mg N) {l : List Int} (hin : inN N l) (x y : Int) (hx : 0 ≤ x ∧ x < l.length) (hy : 0 ≤ y ∧ y < l.length) :
    ContIn Tryz.prog C f ([.int .i64 (nth l x), .int .i64 (nth l y)] ++ (cap.toArray).toList) (.int .i64 (cmpI (mg (nth l x)) (mg (nth l y)))) := by
  have x1 := nth_inN hin hx
  have x2 := nth_inN hin hy
  exact K.cmp _ _ x1.1 x1.2 x2.1 x2.2
end Go.Proofs.YtpekkcahehhkmaaGreatDoor
/- The scanner of texts: run, number, token. -/
set_option linter.unusedVariables false
set_option maxHeartbeats 4000000
namespace Go.Proofs.YtpekkcahehhkmaaGreatDoor
open Go.RowKit

abbrev scB (b : Nat) (s : List UInt8) (i : Nat) (ln cl : Int) : Hl := Hl.blk b 114 [strV s, .int .i64 (i : Int), .int .i64 ln, .int .i64 cl]
abbrev pS (b : Nat) : Value := .pointer (some ⟨b, 0, none⟩)
theorem drop_nth {s : List UInt8} {i : Nat} (h : i < s.length) : s.drop i = nth s (i : Int) :: s.drop (i + 1) := by
  have e := nth_some (l := s) (m := (i : Int)) (by omega) (by omega)
  rw [Int.toNat_natCast, List.getElem?_eq_getElem h] at e
  rw [List.drop_eq_getElem_cons h, Option.some.inj e]
theorem notNl_c (b : Int) : Cont Tryz.prog 120 [.int .u8 b] (.bool (notNl b)) := fun w => by
  refine enter0 Tryz.func120 rfl rfl rfl ?_
  repeat' (first
    | (refine nxV ?_)
    | (show RS _ _ _ _ _ _ _ _; first | (refine nxRS ?_) | (refine nxRS1 fun _ => ?_))
    | (show RM _ _ _ _ _ _ _ _ _ _; first | (refine nxRM ?_) | (refine nxRM1 fun _ => ?_))
    | (refine nxG ?_)
    | (refine nxX ?_)
    | (refine G.condN rfl (fun hc => ?_) (fun hc => ?_) <;> (try first | exact False.elim hc | (exfalso; omega))))
  exact X.ret (vs := [_]) rfl ⟨rfl, rfl⟩ rfl (fun w hw => ⟨ret_bool (by unfold notNl; rfl), hw.ext⟩)
theorem run_c {f : FuncId} (p : Int → Bool) (hp : ∀ b : Int, Cont Tryz.prog f [.int .u8 b] (.bool (p b))) (hg : isGo Tryz.prog f = true) {b : Nat} {s : List UInt8} {i k : Nat} {ln cl : Int} (hk : k ≤ s.length) (hl : s.length ≤ 1000000) :
    ContL Tryz.prog (fun _ => True) [scB b s i ln cl] 119 [pS b, .int .i64 (k : Int), .func (.func f) #[] #[]] (fun _ : Unit => True) (fun _ => .int .i64 (spanN p (s.drop k) : Int)) (fun _ => [scB b s i ln cl]) := fun w0 HR w _ hw => by
  refine enterU Tryz.func119 rfl rfl rfl hw ?_
  dsimp only [List.cons_append, List.nil_append]
  repeat' (first
    | (show YK _ _ _ _ _ ⟨_, .call { callee := .builtin .len, args := _, argTypes := #[9] }, _, _, _, _⟩ _; refine YK.ofV (y_lenS (by rfl) StrTy.is) ?_)
    | (show VK _ _ _ _ _ ⟨_, .call { callee := .builtin .len, args := _, argTypes := #[9] }, _, _, _, _⟩ _; refine VK.mk (y_lenS (by rfl) StrTy.is) ?_)
    | (show YG _ _ _ _ _ _ ⟨_, .call { callee := .builtin .len, args := _, argTypes := #[9] }, _, _, _, _⟩ _; refine YG.mk (fun hb => by (try (have hc := And.left hb; have hb := And.right hb; rw [hc])); (try rw [hb]); exact V.y (y_lenS (by rfl) StrTy.is)) ?_)
    | (show VG _ _ _ _ _ _ ⟨_, .call { callee := .builtin .len, args := _, argTypes := #[9] }, _, _, _, _⟩ _; refine VG.mk (fun hb => by (try (have hc := And.left hb; have hb := And.right hb; rw [hc])); (try rw [hb]); exact y_lenS (by rfl) StrTy.is) ?_)
    | (refine nxN ?_)
    | (refine nxV ?_)
    | (show RS _ _ _ _ _ _ _ _; first | (refine nxRS ?_) | (refine nxRS1 fun _ => ?_))
    | (show RM _ _ _ _ _ _ _ _ _ _; first | (refine nxRM ?_) | (refine nxRM1 fun _ => ?_))
    | (refine nxG ?_)
    | (refine nxVS ?_)
    | (refine nxGS ?_)
    | (refine nxX ?_)
    | (refine G.condN rfl (fun hc => ?_) (fun hc => ?_) <;> (try first | exact False.elim hc | (exfalso; omega))))
  refine G.loop (ι := Nat) (fun n => [(0, pS b), (1, .int .i64 (k : Int)), (2, .func (.func f) #[] #[]), (7, .int .i64 (n : Int))]) (fun _ => scB b s i ln cl :: HR) (fun n => k ≤ n ∧ n ≤ s.length ∧ spanN p (s.drop k) = (n - k) + spanN p (s.drop n)) (fun n => s.length - n) k ⟨Nat.le_refl _, hk, by omega⟩ ⟨rfl, rfl, rfl, rfl, trivial⟩ (fun w h => h) ?_
  rintro n mx ⟨g1, g2, g3⟩ hmx
  rcases Nat.lt_or_ge n s.length with hn | hn
  · have hd := drop_nth hn
    have q1 : ContIn Tryz.prog (fun _ => True) f ([.int .u8 (nth s (n : Int)).toNat] ++ (#[] : Array Value).toList) (.bool (p (nth s (n : Int)).toNat)) := fun w _ => hp _ w
    cases hb : p (nth s (n : Int)).toNat with
    | true =>
      rw [hb] at q1
      have e : spanN p (s.drop n) = spanN p (s.drop (n + 1)) + 1 := by
        rw [hd]
        show (if p ((nth s (n : Int)).toNat : Int) = true then _ else 0) = _
        rw [if_pos hb]
      repeat' (first
    | (show YK _ _ _ _ _ ⟨_, .call { callee := .builtin .len, args := _, argTypes := #[9] }, _, _, _, _⟩ _; refine YK.ofV (y_lenS (by rfl) StrTy.is) ?_)
    | (show VK _ _ _ _ _ ⟨_, .call { callee := .builtin .len, args := _, argTypes := #[9] }, _, _, _, _⟩ _; refine VK.mk (y_lenS (by rfl) StrTy.is) ?_)
    | (show YG _ _ _ _ _ _ ⟨_, .call { callee := .builtin .len, args := _, argTypes := #[9] }, _, _, _, _⟩ _; refine YG.mk (fun hb => by (try (have hc := And.left hb; have hb := And.right hb; rw [hc])); (try rw [hb]); exact V.y (y_lenS (by rfl) StrTy.is)) ?_)
    | (show VG _ _ _ _ _ _ ⟨_, .call { callee := .builtin .len, args := _, argTypes := #[9] }, _, _, _, _⟩ _; refine VG.mk (fun hb => by (try (have hc := And.left hb; have hb := And.right hb; rw [hc])); (try rw [hb]); exact y_lenS (by rfl) StrTy.is) ?_)
    | (refine nxN ?_)
    | (show YG _ _ _ _ _ _ ⟨_, .call { callee := .value (.tmp 17), args := _, argTypes := _ }, _, _, _, _⟩ _; refine YG.mk (fun hb => y_callV (f := f) (by rw [hb]; rfl) q1 (fun _ _ => trivial) (by rw [hb]; exact ⟨rfl, rfl⟩) hg) ?_)
    | (refine nxV ?_)
    | (show RS _ _ _ _ _ _ _ _; first | (refine nxRS ?_) | (refine nxRS1 fun _ => ?_))
    | (show RM _ _ _ _ _ _ _ _ _ _; first | (refine nxRM ?_) | (refine nxRM1 fun _ => ?_))
    | (refine nxG ?_)
    | (refine nxVS ?_)
    | (refine nxGS ?_)
    | (refine nxX ?_)
    | (refine G.condN rfl (fun hc => ?_) (fun hc => ?_) <;> (try first | exact False.elim hc | (exfalso; omega))))
      exact X.again (n + 1) ⟨by omega, by omega, by omega⟩ (by omega) ⟨rfl, rfl, rfl, rfl, trivial⟩ (fun w h => h)
    | false =>
      rw [hb] at q1
      have e : spanN p (s.drop n) = 0 := by
        rw [hd]
        exact spanN_no hb
      repeat' (first
    | (show YK _ _ _ _ _ ⟨_, .call { callee := .builtin .len, args := _, argTypes := #[9] }, _, _, _, _⟩ _; refine YK.ofV (y_lenS (by rfl) StrTy.is) ?_)
    | (show VK _ _ _ _ _ ⟨_, .call { callee := .builtin .len, args := _, argTypes := #[9] }, _, _, _, _⟩ _; refine VK.mk (y_lenS (by rfl) StrTy.is) ?_)
    | (show YG _ _ _ _ _ _ ⟨_, .call { callee := .builtin .len, args := _, argTypes := #[9] }, _, _, _, _⟩ _; refine YG.mk (fun hb => by (try (have hc := And.left hb; have hb := And.right hb; rw [hc])); (try rw [hb]); exact V.y (y_lenS (by rfl) StrTy.is)) ?_)
    | (show VG _ _ _ _ _ _ ⟨_, .call { callee := .builtin .len, args := _, argTypes := #[9] }, _, _, _, _⟩ _; refine VG.mk (fun hb => by (try (have hc := And.left hb; have hb := And.right hb; rw [hc])); (try rw [hb]); exact y_lenS (by rfl) StrTy.is) ?_)
    | (refine nxN ?_)
    | (show YG _ _ _ _ _ _ ⟨_, .call { callee := .value (.tmp 17), args := _, argTypes := _ }, _, _, _, _⟩ _; refine YG.mk (fun hb => y_callV (f := f) (by rw [hb]; rfl) q1 (fun _ _ => trivial) (by rw [hb]; exact ⟨rfl, rfl⟩) hg) ?_)
    | (refine nxV ?_)
    | (show RS _ _ _ _ _ _ _ _; first | (refine nxRS ?_) | (refine nxRS1 fun _ => ?_))
    | (show RM _ _ _ _ _ _ _ _ _ _; first | (refine nxRM ?_) | (refine nxRM1 fun _ => ?_))
    | (refine nxG ?_)
    | (refine nxVS ?_)
    | (refine nxGS ?_)
    | (refine nxX ?_)
    | (refine G.condN rfl (fun hc => ?_) (fun hc => ?_) <;> (try first | exact False.elim hc | (exfalso; omega))))
      exact X.ret (vs := [_]) rfl ⟨rfl, rfl⟩ rfl (fun w hw => ⟨(), trivial, ret_int (by omega), hw⟩)
  · have e : spanN p (s.drop n) = 0 := by rw [List.drop_eq_nil_of_le hn]; rfl
    have q1 : ContIn Tryz.prog (fun _ => True) f ([.int .u8 0] ++ (#[] : Array Value).toList) (.bool (p 0)) := fun w _ => hp _ w
    repeat' (first
    | (show YK _ _ _ _ _ ⟨_, .call { callee := .builtin .len, args := _, argTypes := #[9] }, _, _, _, _⟩ _; refine YK.ofV (y_lenS (by rfl) StrTy.is) ?_)
    | (show VK _ _ _ _ _ ⟨_, .call { callee := .builtin .len, args := _, argTypes := #[9] }, _, _, _, _⟩ _; refine VK.mk (y_lenS (by rfl) StrTy.is) ?_)
    | (show YG _ _ _ _ _ _ ⟨_, .call { callee := .builtin .len, args := _, argTypes := #[9] }, _, _, _, _⟩ _; refine YG.mk (fun hb => by (try (have hc := And.left hb; have hb := And.right hb; rw [hc])); (try rw [hb]); exact V.y (y_lenS (by rfl) StrTy.is)) ?_)
    | (show VG _ _ _ _ _ _ ⟨_, .call { callee := .builtin .len, args := _, argTypes := #[9] }, _, _, _, _⟩ _; refine VG.mk (fun hb => by (try (have hc := And.left hb; have hb := And.right hb; rw [hc])); (try rw [hb]); exact y_lenS (by rfl) StrTy.is) ?_)
    | (refine nxN ?_)
    | (show YG _ _ _ _ _ _ ⟨_, .call { callee := .value (.tmp 17), args := _, argTypes := _ }, _, _, _, _⟩ _; refine YG.mk (v := .bool false) (fun hb => absurd (of_decide_eq_true hb) (by omega)) ?_)
    | (show VG _ _ _ _ _ _ ⟨_, .index _ _ _, _, _, _, _⟩ _; refine VG.mk (v := .int .u8 0) (fun hb => absurd (of_decide_eq_true hb) (by omega)) ?_)
    | (show YG _ _ _ _ _ _ ⟨_, .index _ _ _, _, _, _, _⟩ _; refine YG.mk (v := .int .u8 0) (fun hb => absurd (of_decide_eq_true hb) (by omega)) ?_)
    | (refine nxV ?_)
    | (show RS _ _ _ _ _ _ _ _; first | (refine nxRS ?_) | (refine nxRS1 fun _ => ?_))
    | (show RM _ _ _ _ _ _ _ _ _ _; first | (refine nxRM ?_) | (refine nxRM1 fun _ => ?_))
    | (refine nxG ?_)
    | (refine nxVS ?_)
    | (refine nxGS ?_)
    | (refine nxX ?_)
    | (refine G.condN rfl (fun hc => ?_) (fun hc => ?_) <;> (try first | exact False.elim hc | (exfalso; omega))))
    exact X.ret (vs := [_]) rfl ⟨rfl, rfl⟩ rfl (fun w hw => ⟨(), trivial, ret_int (by omega), hw⟩)
theorem scnum_c {b : Nat} {s : List UInt8} {i : Nat} {ln cl : Int} (hi : i ≤ s.length) (hl : s.length ≤ 1000000) :
    ContL Tryz.prog (fun _ => True) [scB b s i ln cl] 122 [pS b] (fun _ : Unit => True) (fun _ => .int .i64 (numN (s.drop i) : Int)) (fun _ => [scB b s i ln cl]) := fun w0 HR w _ hw => by
  have hsp := spanN_le digitB (s.drop i)
  rw [List.length_drop] at hsp
  have r1 := run_c (b := b) (s := s) (i := i) (k := i) (ln := ln) (cl := cl) digitB digit_c (by decide +kernel) hi hl
  have hdr : ∀ n, (s.drop i).drop n = s.drop (i + n) := fun n => List.drop_drop
  have hnum : numN (s.drop i) = match s.drop (i + spanN digitB (s.drop i)) with
      | [] => spanN digitB (s.drop i)
      | c :: r => if c = 46 ∧ 0 < spanN digitB r then spanN digitB (s.drop i) + 1 + spanN digitB r else spanN digitB (s.drop i) := by
    unfold numN
    rw [hdr]
    cases s.drop (i + spanN digitB (s.drop i)) <;> rfl
  generalize spanN digitB (s.drop i) = n at hsp r1 hnum
  refine enterU Tryz.func122 rfl rfl rfl hw ?_
  dsimp only [List.cons_append, List.nil_append]
  rcases Nat.lt_or_ge (i + n) s.length with hn | hn
  · have hd := drop_nth hn
    rw [hd] at hnum
    dsimp only at hnum
    have r2 := run_c (b := b) (s := s) (i := i) (k := i + n + 1) (ln := ln) (cl := cl) digitB digit_c (by decide +kernel) (by omega) hl
    have hs2 := spanN_le digitB (s.drop (i + n + 1))
    rw [List.length_drop] at hs2
    have hc : (nth s ((i + n : Nat) : Int) = 46) ↔ ((nth s ((i : Int) + (n : Int))).toNat : Int) = 46 := by
      rw [← UInt8.toNat_inj, show (46 : UInt8).toNat = 46 from rfl, show ((i + n : Nat) : Int) = (i : Int) + (n : Int) by omega]
      omega
    simp only [hc] at hnum
    generalize spanN digitB (s.drop (i + n + 1)) = m at r2 hs2 hnum
    repeat' (first
    | (show YK _ _ _ _ _ ⟨_, .call { callee := .builtin .len, args := _, argTypes := #[9] }, _, _, _, _⟩ _; refine YK.ofV (y_lenS (by rfl) StrTy.is) ?_)
    | (show VK _ _ _ _ _ ⟨_, .call { callee := .builtin .len, args := _, argTypes := #[9] }, _, _, _, _⟩ _; refine VK.mk (y_lenS (by rfl) StrTy.is) ?_)
    | (show YG _ _ _ _ _ _ ⟨_, .call { callee := .builtin .len, args := _, argTypes := #[9] }, _, _, _, _⟩ _; refine YG.mk (fun hb => by (try (have hc := And.left hb; have hb := And.right hb; rw [hc])); (try rw [hb]); exact V.y (y_lenS (by rfl) StrTy.is)) ?_)
    | (show VG _ _ _ _ _ _ ⟨_, .call { callee := .builtin .len, args := _, argTypes := #[9] }, _, _, _, _⟩ _; refine VG.mk (fun hb => by (try (have hc := And.left hb; have hb := And.right hb; rw [hc])); (try rw [hb]); exact y_lenS (by rfl) StrTy.is) ?_)
    | (refine nxN ?_)
    | (show RS _ _ _ _ _ _ _ (⟨_, .call { callee := .value (.func 119), args := _, argTypes := _ }, _, _, _, _⟩ :: _); refine RS.callL (r1) trivial ?_; rintro u1 _; dsimp only [List.cons_append, List.nil_append])
    | (show RS _ _ _ _ _ _ _ (⟨_, .call { callee := .value (.func 119), args := _, argTypes := _ }, _, _, _, _⟩ :: _); refine RS.callL (r2) trivial ?_; rintro u2 _; dsimp only [List.cons_append, List.nil_append])
    | (refine nxV ?_)
    | (show RS _ _ _ _ _ _ _ _; first | (refine nxRS ?_) | (refine nxRS1 fun _ => ?_))
    | (show RM _ _ _ _ _ _ _ _ _ _; first | (refine nxRM ?_) | (refine nxRM1 fun _ => ?_))
    | (refine nxG ?_)
    | (refine nxVS ?_)
    | (refine nxGS ?_)
    | (refine nxX ?_)
    | (refine G.condN rfl (fun hc => ?_) (fun hc => ?_) <;> (try first | exact False.elim hc | (exfalso; omega))))
    all_goals
      refine X.ret (vs := [_]) rfl ⟨rfl, rfl⟩ rfl (fun w hw => ⟨(), trivial, ret_int ?_, hw⟩)
      rw [hnum]
      first
        | (rw [if_pos (by omega)]; omega)
        | (rw [if_neg (by omega)])
  · have hd : s.drop (i + n) = [] := List.drop_eq_nil_of_le hn
    rw [hd] at hnum
    dsimp only at hnum
    repeat' (first
    | (show YK _ _ _ _ _ ⟨_, .call { callee := .builtin .len, args := _, argTypes := #[9] }, _, _, _, _⟩ _; refine YK.ofV (y_lenS (by rfl) StrTy.is) ?_)
    | (show VK _ _ _ _ _ ⟨_, .call { callee := .builtin .len, args := _, argTypes := #[9] }, _, _, _, _⟩ _; refine VK.mk (y_lenS (by rfl) StrTy.is) ?_)
    | (show YG _ _ _ _ _ _ ⟨_, .call { callee := .builtin .len, args := _, argTypes := #[9] }, _, _, _, _⟩ _; refine YG.mk (fun hb => by (try (have hc := And.left hb; have hb := And.right hb; rw [hc])); (try rw [hb]); exact V.y (y_lenS (by rfl) StrTy.is)) ?_)
    | (show VG _ _ _ _ _ _ ⟨_, .call { callee := .builtin .len, args := _, argTypes := #[9] }, _, _, _, _⟩ _; refine VG.mk (fun hb => by (try (have hc := And.left hb; have hb := And.right hb; rw [hc])); (try rw [hb]); exact y_lenS (by rfl) StrTy.is) ?_)
    | (refine nxN ?_)
    | (show RS _ _ _ _ _ _ _ (⟨_, .call { callee := .value (.func 119), args := _, argTypes := _ }, _, _, _, _⟩ :: _); refine RS.callL (r1) trivial ?_; rintro u1 _; dsimp only [List.cons_append, List.nil_append])
    | (refine nxV ?_)
    | (show RS _ _ _ _ _ _ _ _; first | (refine nxRS ?_) | (refine nxRS1 fun _ => ?_))
    | (show RM _ _ _ _ _ _ _ _ _ _; first | (refine nxRM ?_) | (refine nxRM1 fun _ => ?_))
    | (refine nxG ?_)
    | (refine nxVS ?_)
    | (refine nxGS ?_)
    | (refine nxX ?_)
    | (refine G.condN rfl (fun hc => ?_) (fun hc => ?_) <;> (try first | exact False.elim hc | (exfalso; omega))))
    all_goals first
      | exact X.ret (vs := [_]) rfl ⟨rfl, rfl⟩ rfl (fun w hw => ⟨(), trivial, ret_int (by rw [hnum]), hw⟩)
      | (exfalso; omega)
end Go.Proofs.YtpekkcahehhkmaaGreatDoor
/- The scanner of texts: token. -/
set_option linter.unusedVariables false
set_option maxHeartbeats 4000000
namespace Go.Proofs.YtpekkcahehhkmaaGreatDoor
open Go.RowKit

theorem u8_iff (c k : UInt8) : c = k ↔ (c.toNat : Int) = (k.toNat : Int) := by rw [← UInt8.toNat_inj]; omega
theorem indexByteC_c (l : List UInt8) (c : UInt8) : Cont Tryz.prog 123 [strV l, .int .u8 c.toNat] (.int .i64 (Lib.indexByte l c)) := fun w => by
  refine (Tryz.strings_IndexByte ⟨l.toArray⟩ (c.toNat : Int) w).mono fun e w' ⟨he, hw⟩ => ⟨?_, by subst hw; exact Below.refl _ _⟩
  rw [he]
  simp
theorem tok_sp {b : Nat} {s : List UInt8} {i : Nat} {ln cl : Int} (hi : i < s.length) (hl : s.length ≤ 1000000) (h1 : ((nth s (i : Int)).toNat : Int) = 32 ∨ ((nth s (i : Int)).toNat : Int) = 9) :
    ContL Tryz.prog (fun _ => True) [scB b s i ln cl] 83 [pS b] (fun _ : Unit => True) (fun _ => .tuple [.int .i64 0, .int .i64 1].toArray) (fun _ => [scB b s i ln cl]) := fun w0 HR w _ hw => by
  refine enterU Tryz.func83 rfl rfl rfl hw ?_
  dsimp only [List.cons_append, List.nil_append]
  repeat' (first
    | (show YK _ _ _ _ _ ⟨_, .call { callee := .builtin .len, args := _, argTypes := #[9] }, _, _, _, _⟩ _; refine YK.ofV (y_lenS (by rfl) StrTy.is) ?_)
    | (show VK _ _ _ _ _ ⟨_, .call { callee := .builtin .len, args := _, argTypes := #[9] }, _, _, _, _⟩ _; refine VK.mk (y_lenS (by rfl) StrTy.is) ?_)
    | (show YG _ _ _ _ _ _ ⟨_, .call { callee := .builtin .len, args := _, argTypes := #[9] }, _, _, _, _⟩ _; refine YG.mk (fun hb => by (try (have hc := And.left hb; have hb := And.right hb; rw [hc])); (try rw [hb]); exact V.y (y_lenS (by rfl) StrTy.is)) ?_)
    | (show VG _ _ _ _ _ _ ⟨_, .call { callee := .builtin .len, args := _, argTypes := #[9] }, _, _, _, _⟩ _; refine VG.mk (fun hb => by (try (have hc := And.left hb; have hb := And.right hb; rw [hc])); (try rw [hb]); exact y_lenS (by rfl) StrTy.is) ?_)
    | (refine nxN ?_)
    | (refine nxV ?_)
    | (show RS _ _ _ _ _ _ _ _; first | (refine nxRS ?_) | (refine nxRS1 fun _ => ?_))
    | (show RM _ _ _ _ _ _ _ _ _ _; first | (refine nxRM ?_) | (refine nxRM1 fun _ => ?_))
    | (refine nxG ?_)
    | (refine nxVS ?_)
    | (refine nxGS ?_)
    | (refine G.mixedA 1 [.go 0, .go 1, .go 2, .go 3, .go 4, .go 5, .go 6, .go 7, .go 8, .go 9] ?_)
    | (refine nxX ?_)
    | (refine G.condN rfl (fun hc => ?_) (fun hc => ?_) <;> (try first | exact False.elim hc | (exfalso; omega))))
  all_goals first
    | exact X.ret (vs := [_, _]) rfl ⟨rfl, rfl, rfl⟩ rfl (fun w hw => ⟨(), trivial, rfl, hw⟩)
    | (exfalso; omega)
theorem tok_nl {b : Nat} {s : List UInt8} {i : Nat} {ln cl : Int} (hi : i < s.length) (hl : s.length ≤ 1000000) (h1 : ¬ (((nth s (i : Int)).toNat : Int) = 32 ∨ ((nth s (i : Int)).toNat : Int) = 9)) (h2 : ((nth s (i : Int)).toNat : Int) = 10) :
    ContL Tryz.prog (fun _ => True) [scB b s i ln cl] 83 [pS b] (fun _ : Unit => True) (fun _ => .tuple [.int .i64 4, .int .i64 1].toArray) (fun _ => [scB b s i ln cl]) := fun w0 HR w _ hw => by
  refine enterU Tryz.func83 rfl rfl rfl hw ?_
  dsimp only [List.cons_append, List.nil_append]
  repeat' (first
    | (show YK _ _ _ _ _ ⟨_, .call { callee := .builtin .len, args := _, argTypes := #[9] }, _, _, _, _⟩ _; refine YK.ofV (y_lenS (by rfl) StrTy.is) ?_)
    | (show VK _ _ _ _ _ ⟨_, .call { callee := .builtin .len, args := _, argTypes := #[9] }, _, _, _, _⟩ _; refine VK.mk (y_lenS (by rfl) StrTy.is) ?_)
    | (show YG _ _ _ _ _ _ ⟨_, .call { callee := .builtin .len, args := _, argTypes := #[9] }, _, _, _, _⟩ _; refine YG.mk (fun hb => by (try (have hc := And.left hb; have hb := And.right hb; rw [hc])); (try rw [hb]); exact V.y (y_lenS (by rfl) StrTy.is)) ?_)
    | (show VG _ _ _ _ _ _ ⟨_, .call { callee := .builtin .len, args := _, argTypes := #[9] }, _, _, _, _⟩ _; refine VG.mk (fun hb => by (try (have hc := And.left hb; have hb := And.right hb; rw [hc])); (try rw [hb]); exact y_lenS (by rfl) StrTy.is) ?_)
    | (refine nxN ?_)
    | (refine nxV ?_)
    | (show RS _ _ _ _ _ _ _ _; first | (refine nxRS ?_) | (refine nxRS1 fun _ => ?_))
    | (show RM _ _ _ _ _ _ _ _ _ _; first | (refine nxRM ?_) | (refine nxRM1 fun _ => ?_))
    | (refine nxG ?_)
    | (refine nxVS ?_)
    | (refine nxGS ?_)
    | (refine G.mixedA 1 [.go 0, .go 1, .go 2, .go 3, .go 4, .go 5, .go 6, .go 7, .go 8, .go 9] ?_)
    | (refine nxX ?_)
    | (refine G.condN rfl (fun hc => ?_) (fun hc => ?_) <;> (try first | exact False.elim hc | (exfalso; omega))))
  all_goals first
    | exact X.ret (vs := [_, _]) rfl ⟨rfl, rfl, rfl⟩ rfl (fun w hw => ⟨(), trivial, rfl, hw⟩)
    | (exfalso; omega)
theorem tok_no {b : Nat} {s : List UInt8} {i : Nat} {ln cl : Int} (hi : i < s.length) (hl : s.length ≤ 1000000) (h1 : ¬ (((nth s (i : Int)).toNat : Int) = 32 ∨ ((nth s (i : Int)).toNat : Int) = 9)) (h2 : ¬ ((nth s (i : Int)).toNat : Int) = 10) (h3 : ((nth s (i : Int)).toNat : Int) = 35) :
    ContL Tryz.prog (fun _ => True) [scB b s i ln cl] 83 [pS b] (fun _ : Unit => True) (fun _ => .tuple [.int .i64 0, .int .i64 (spanN notNl (s.drop i) : Int)].toArray) (fun _ => [scB b s i ln cl]) := fun w0 HR w _ hw => by
  have r1 := run_c (b := b) (s := s) (i := i) (k := i) (ln := ln) (cl := cl) notNl notNl_c (by decide +kernel) (by omega) hl
  refine enterU Tryz.func83 rfl rfl rfl hw ?_
  dsimp only [List.cons_append, List.nil_append]
  repeat' (first
    | (show YK _ _ _ _ _ ⟨_, .call { callee := .builtin .len, args := _, argTypes := #[9] }, _, _, _, _⟩ _; refine YK.ofV (y_lenS (by rfl) StrTy.is) ?_)
    | (show VK _ _ _ _ _ ⟨_, .call { callee := .builtin .len, args := _, argTypes := #[9] }, _, _, _, _⟩ _; refine VK.mk (y_lenS (by rfl) StrTy.is) ?_)
    | (show YG _ _ _ _ _ _ ⟨_, .call { callee := .builtin .len, args := _, argTypes := #[9] }, _, _, _, _⟩ _; refine YG.mk (fun hb => by (try (have hc := And.left hb; have hb := And.right hb; rw [hc])); (try rw [hb]); exact V.y (y_lenS (by rfl) StrTy.is)) ?_)
    | (show VG _ _ _ _ _ _ ⟨_, .call { callee := .builtin .len, args := _, argTypes := #[9] }, _, _, _, _⟩ _; refine VG.mk (fun hb => by (try (have hc := And.left hb; have hb := And.right hb; rw [hc])); (try rw [hb]); exact y_lenS (by rfl) StrTy.is) ?_)
    | (refine nxN ?_)
    | (show RS _ _ _ _ _ _ _ (⟨_, .call { callee := .value (.func 119), args := _, argTypes := _ }, _, _, _, _⟩ :: _); refine RS.callL (r1) trivial ?_; rintro u1 _; dsimp only [List.cons_append, List.nil_append])
    | (refine nxV ?_)
    | (show RS _ _ _ _ _ _ _ _; first | (refine nxRS ?_) | (refine nxRS1 fun _ => ?_))
    | (show RM _ _ _ _ _ _ _ _ _ _; first | (refine nxRM ?_) | (refine nxRM1 fun _ => ?_))
    | (refine nxG ?_)
    | (refine nxVS ?_)
    | (refine nxGS ?_)
    | (refine G.mixedA 1 [.go 0, .go 1, .go 2, .go 3, .go 4, .go 5, .go 6, .go 7, .go 8, .go 9] ?_)
    | (refine nxX ?_)
    | (refine G.condN rfl (fun hc => ?_) (fun hc => ?_) <;> (try first | exact False.elim hc | (exfalso; omega))))
  all_goals first
    | exact X.ret (vs := [_, _]) rfl ⟨rfl, rfl, rfl⟩ rfl (fun w hw => ⟨(), trivial, rfl, hw⟩)
    | (exfalso; omega)
theorem tok_lo {b : Nat} {s : List UInt8} {i : Nat} {ln cl : Int} (hi : i < s.length) (hl : s.length ≤ 1000000) (h1 : ¬ (((nth s (i : Int)).toNat : Int) = 32 ∨ ((nth s (i : Int)).toNat : Int) = 9)) (h2 : ¬ ((nth s (i : Int)).toNat : Int) = 10) (h3 : ¬ ((nth s (i : Int)).toNat : Int) = 35) (h4 : letterB ((nth s (i : Int)).toNat : Int) = true) (h6 : 20 < spanN wordB (s.drop i)) :
    ContL Tryz.prog (fun _ => True) [scB b s i ln cl] 83 [pS b] (fun _ : Unit => True) (fun _ => .tuple [.int .i64 (-1), .int .i64 (spanN wordB (s.drop i) : Int)].toArray) (fun _ => [scB b s i ln cl]) := fun w0 HR w _ hw => by
  have ql := letter_c ((nth s (i : Int)).toNat : Int)
  rw [h4] at ql
  have r1 := run_c (b := b) (s := s) (i := i) (k := i) (ln := ln) (cl := cl) wordB word_c (by decide +kernel) (by omega) hl
  refine enterU Tryz.func83 rfl rfl rfl hw ?_
  dsimp only [List.cons_append, List.nil_append]
  repeat' (first
    | (show YK _ _ _ _ _ ⟨_, .call { callee := .builtin .len, args := _, argTypes := #[9] }, _, _, _, _⟩ _; refine YK.ofV (y_lenS (by rfl) StrTy.is) ?_)
    | (show VK _ _ _ _ _ ⟨_, .call { callee := .builtin .len, args := _, argTypes := #[9] }, _, _, _, _⟩ _; refine VK.mk (y_lenS (by rfl) StrTy.is) ?_)
    | (show YG _ _ _ _ _ _ ⟨_, .call { callee := .builtin .len, args := _, argTypes := #[9] }, _, _, _, _⟩ _; refine YG.mk (fun hb => by (try (have hc := And.left hb; have hb := And.right hb; rw [hc])); (try rw [hb]); exact V.y (y_lenS (by rfl) StrTy.is)) ?_)
    | (show VG _ _ _ _ _ _ ⟨_, .call { callee := .builtin .len, args := _, argTypes := #[9] }, _, _, _, _⟩ _; refine VG.mk (fun hb => by (try (have hc := And.left hb; have hb := And.right hb; rw [hc])); (try rw [hb]); exact y_lenS (by rfl) StrTy.is) ?_)
    | (refine nxN ?_)
    | (show RS _ _ _ _ _ _ _ (⟨_, .call { callee := .value (.func 119), args := _, argTypes := _ }, _, _, _, _⟩ :: _); refine RS.callL (r1) trivial ?_; rintro u1 _; dsimp only [List.cons_append, List.nil_append])
    | (show YK _ _ _ _ _ _ _; first | refine YK.mk (y_callA (ql) ⟨rfl, rfl⟩) ?_)
    | (show YK _ _ _ _ _ _ _; refine YK.ofV vAuto ?_)
    | (show VK _ _ _ _ _ _ _; refine VK.mk vAuto ?_)
    | (show RS _ _ _ _ _ _ _ _; first | (refine nxRS ?_) | (refine nxRS1 fun _ => ?_))
    | (show RM _ _ _ _ _ _ _ _ _ _; first | (refine nxRM ?_) | (refine nxRM1 fun _ => ?_))
    | (show YG _ _ _ _ _ _ _ _; refine YG.mk (fun hb => by (try (have hc := And.left hb; have hb := And.right hb; rw [hc])); (try rw [hb]); first | exact (y_callA (ql) ⟨rfl, rfl⟩) | exact V.y vAuto) ?_)
    | (show VG _ _ _ _ _ _ _ _; refine VG.mk (fun hb => by (try (have hc := And.left hb; have hb := And.right hb; rw [hc])); (try rw [hb]); exact vAuto) ?_)
    | (refine nxVS ?_)
    | (refine nxGS ?_)
    | (refine G.mixedA 1 [.go 0, .go 1, .go 2, .go 3, .go 4, .go 5, .go 6, .go 7, .go 8, .go 9] ?_)
    | (refine nxX ?_)
    | (refine G.condN rfl (fun hc => ?_) (fun hc => ?_) <;> (try first | exact False.elim hc | (exfalso; omega))))
  all_goals first
    | exact X.ret (vs := [_, _]) rfl ⟨rfl, rfl, rfl⟩ rfl (fun w hw => ⟨(), trivial, rfl, hw⟩)
    | (exfalso; omega)
theorem tok_na {b : Nat} {s : List UInt8} {i : Nat} {ln cl : Int} (hi : i < s.length) (hl : s.length ≤ 1000000) (h1 : ¬ (((nth s (i : Int)).toNat : Int) = 32 ∨ ((nth s (i : Int)).toNat : Int) = 9)) (h2 : ¬ ((nth s (i : Int)).toNat : Int) = 10) (h3 : ¬ ((nth s (i : Int)).toNat : Int) = 35) (h4 : letterB ((nth s (i : Int)).toNat : Int) = true) (h6 : spanN wordB (s.drop i) ≤ 20) :
    ContL Tryz.prog (fun _ => True) [scB b s i ln cl] 83 [pS b] (fun _ : Unit => True) (fun _ => .tuple [.int .i64 1, .int .i64 (spanN wordB (s.drop i) : Int)].toArray) (fun _ => [scB b s i ln cl]) := fun w0 HR w _ hw => by
  have ql := letter_c ((nth s (i : Int)).toNat : Int)
  rw [h4] at ql
  have r1 := run_c (b := b) (s := s) (i := i) (k := i) (ln := ln) (cl := cl) wordB word_c (by decide +kernel) (by omega) hl
  refine enterU Tryz.func83 rfl rfl rfl hw ?_
  dsimp only [List.cons_append, List.nil_append]
  repeat' (first
    | (show YK _ _ _ _ _ ⟨_, .call { callee := .builtin .len, args := _, argTypes := #[9] }, _, _, _, _⟩ _; refine YK.ofV (y_lenS (by rfl) StrTy.is) ?_)
    | (show VK _ _ _ _ _ ⟨_, .call { callee := .builtin .len, args := _, argTypes := #[9] }, _, _, _, _⟩ _; refine VK.mk (y_lenS (by rfl) StrTy.is) ?_)
    | (show YG _ _ _ _ _ _ ⟨_, .call { callee := .builtin .len, args := _, argTypes := #[9] }, _, _, _, _⟩ _; refine YG.mk (fun hb => by (try (have hc := And.left hb; have hb := And.right hb; rw [hc])); (try rw [hb]); exact V.y (y_lenS (by rfl) StrTy.is)) ?_)
    | (show VG _ _ _ _ _ _ ⟨_, .call { callee := .builtin .len, args := _, argTypes := #[9] }, _, _, _, _⟩ _; refine VG.mk (fun hb => by (try (have hc := And.left hb; have hb := And.right hb; rw [hc])); (try rw [hb]); exact y_lenS (by rfl) StrTy.is) ?_)
    | (refine nxN ?_)
    | (show RS _ _ _ _ _ _ _ (⟨_, .call { callee := .value (.func 119), args := _, argTypes := _ }, _, _, _, _⟩ :: _); refine RS.callL (r1) trivial ?_; rintro u1 _; dsimp only [List.cons_append, List.nil_append])
    | (show YK _ _ _ _ _ _ _; first | refine YK.mk (y_callA (ql) ⟨rfl, rfl⟩) ?_)
    | (show YK _ _ _ _ _ _ _; refine YK.ofV vAuto ?_)
    | (show VK _ _ _ _ _ _ _; refine VK.mk vAuto ?_)
    | (show RS _ _ _ _ _ _ _ _; first | (refine nxRS ?_) | (refine nxRS1 fun _ => ?_))
    | (show RM _ _ _ _ _ _ _ _ _ _; first | (refine nxRM ?_) | (refine nxRM1 fun _ => ?_))
    | (show YG _ _ _ _ _ _ _ _; refine YG.mk (fun hb => by (try (have hc := And.left hb; have hb := And.right hb; rw [hc])); (try rw [hb]); first | exact (y_callA (ql) ⟨rfl, rfl⟩) | exact V.y vAuto) ?_)
    | (show VG _ _ _ _ _ _ _ _; refine VG.mk (fun hb => by (try (have hc := And.left hb; have hb := And.right hb; rw [hc])); (try rw [hb]); exact vAuto) ?_)
    | (refine nxVS ?_)
    | (refine nxGS ?_)
    | (refine G.mixedA 1 [.go 0, .go 1, .go 2, .go 3, .go 4, .go 5, .go 6, .go 7, .go 8, .go 9] ?_)
    | (refine nxX ?_)
    | (refine G.condN rfl (fun hc => ?_) (fun hc => ?_) <;> (try first | exact False.elim hc | (exfalso; omega))))
  all_goals first
    | exact X.ret (vs := [_, _]) rfl ⟨rfl, rfl, rfl⟩ rfl (fun w hw => ⟨(), trivial, rfl, hw⟩)
    | (exfalso; omega)
theorem tok_nu {b : Nat} {s : List UInt8} {i : Nat} {ln cl : Int} (hi : i < s.length) (hl : s.length ≤ 1000000) (h1 : ¬ (((nth s (i : Int)).toNat : Int) = 32 ∨ ((nth s (i : Int)).toNat : Int) = 9)) (h2 : ¬ ((nth s (i : Int)).toNat : Int) = 10) (h3 : ¬ ((nth s (i : Int)).toNat : Int) = 35) (h4 : letterB ((nth s (i : Int)).toNat : Int) = false) (h5 : digitB ((nth s (i : Int)).toNat : Int) = true) :
    ContL Tryz.prog (fun _ => True) [scB b s i ln cl] 83 [pS b] (fun _ : Unit => True) (fun _ => .tuple [.int .i64 2, .int .i64 (numN (s.drop i) : Int)].toArray) (fun _ => [scB b s i ln cl]) := fun w0 HR w _ hw => by
  have ql := letter_c ((nth s (i : Int)).toNat : Int)
  rw [h4] at ql
  have qd := digit_c ((nth s (i : Int)).toNat : Int)
  rw [h5] at qd
  have r1 := scnum_c (b := b) (s := s) (i := i) (ln := ln) (cl := cl) (by omega) hl
  refine enterU Tryz.func83 rfl rfl rfl hw ?_
  dsimp only [List.cons_append, List.nil_append]
  repeat' (first
    | (show YK _ _ _ _ _ ⟨_, .call { callee := .builtin .len, args := _, argTypes := #[9] }, _, _, _, _⟩ _; refine YK.ofV (y_lenS (by rfl) StrTy.is) ?_)
    | (show VK _ _ _ _ _ ⟨_, .call { callee := .builtin .len, args := _, argTypes := #[9] }, _, _, _, _⟩ _; refine VK.mk (y_lenS (by rfl) StrTy.is) ?_)
    | (show YG _ _ _ _ _ _ ⟨_, .call { callee := .builtin .len, args := _, argTypes := #[9] }, _, _, _, _⟩ _; refine YG.mk (fun hb => by (try (have hc := And.left hb; have hb := And.right hb; rw [hc])); (try rw [hb]); exact V.y (y_lenS (by rfl) StrTy.is)) ?_)
    | (show VG _ _ _ _ _ _ ⟨_, .call { callee := .builtin .len, args := _, argTypes := #[9] }, _, _, _, _⟩ _; refine VG.mk (fun hb => by (try (have hc := And.left hb; have hb := And.right hb; rw [hc])); (try rw [hb]); exact y_lenS (by rfl) StrTy.is) ?_)
    | (refine nxN ?_)
    | (show RS _ _ _ _ _ _ _ (⟨_, .call { callee := .value (.func 122), args := _, argTypes := _ }, _, _, _, _⟩ :: _); refine RS.callL (r1) trivial ?_; rintro u1 _; dsimp only [List.cons_append, List.nil_append])
    | (show YK _ _ _ _ _ _ _; first | refine YK.mk (y_callA (ql) ⟨rfl, rfl⟩) ?_ | refine YK.mk (y_callA (qd) ⟨rfl, rfl⟩) ?_)
    | (show YK _ _ _ _ _ _ _; refine YK.ofV vAuto ?_)
    | (show VK _ _ _ _ _ _ _; refine VK.mk vAuto ?_)
    | (show RS _ _ _ _ _ _ _ _; first | (refine nxRS ?_) | (refine nxRS1 fun _ => ?_))
    | (show RM _ _ _ _ _ _ _ _ _ _; first | (refine nxRM ?_) | (refine nxRM1 fun _ => ?_))
    | (show YG _ _ _ _ _ _ _ _; refine YG.mk (fun hb => by (try (have hc := And.left hb; have hb := And.right hb; rw [hc])); (try rw [hb]); first | exact (y_callA (ql) ⟨rfl, rfl⟩) | exact (y_callA (qd) ⟨rfl, rfl⟩) | exact V.y vAuto) ?_)
    | (show VG _ _ _ _ _ _ _ _; refine VG.mk (fun hb => by (try (have hc := And.left hb; have hb := And.right hb; rw [hc])); (try rw [hb]); exact vAuto) ?_)
    | (refine nxVS ?_)
    | (refine nxGS ?_)
    | (refine G.mixedA 1 [.go 0, .go 1, .go 2, .go 3, .go 4, .go 5, .go 6, .go 7, .go 8, .go 9] ?_)
    | (refine nxX ?_)
    | (refine G.condN rfl (fun hc => ?_) (fun hc => ?_) <;> (try first | exact False.elim hc | (exfalso; omega))))
  all_goals first
    | exact X.ret (vs := [_, _]) rfl ⟨rfl, rfl, rfl⟩ rfl (fun w hw => ⟨(), trivial, rfl, hw⟩)
    | (exfalso; omega)
theorem tok_sy {b : Nat} {s : List UInt8} {i : Nat} {ln cl : Int} (hi : i < s.length) (hl : s.length ≤ 1000000) (h1 : ¬ (((nth s (i : Int)).toNat : Int) = 32 ∨ ((nth s (i : Int)).toNat : Int) = 9)) (h2 : ¬ ((nth s (i : Int)).toNat : Int) = 10) (h3 : ¬ ((nth s (i : Int)).toNat : Int) = 35) (h4 : letterB ((nth s (i : Int)).toNat : Int) = false) (h5 : digitB ((nth s (i : Int)).toNat : Int) = false) (h6 : 0 ≤ Lib.indexByte [45, 43, 58, 44, 59, 47, 61, 40, 41, 60, 62, 42, 64, 63] (nth s (i : Int))) :
    ContL Tryz.prog (fun _ => True) [scB b s i ln cl] 83 [pS b] (fun _ : Unit => True) (fun _ => .tuple [.int .i64 3, .int .i64 1].toArray) (fun _ => [scB b s i ln cl]) := fun w0 HR w _ hw => by
  have ql := letter_c ((nth s (i : Int)).toNat : Int)
  rw [h4] at ql
  have qd := digit_c ((nth s (i : Int)).toNat : Int)
  rw [h5] at qd
  have qi := indexByteC_c [45, 43, 58, 44, 59, 47, 61, 40, 41, 60, 62, 42, 64, 63] (nth s (i : Int))
  generalize Lib.indexByte [45, 43, 58, 44, 59, 47, 61, 40, 41, 60, 62, 42, 64, 63] (nth s (i : Int)) = j at qi h6
  refine enterU Tryz.func83 rfl rfl rfl hw ?_
  dsimp only [List.cons_append, List.nil_append]
  repeat' (first
    | (show YK _ _ _ _ _ ⟨_, .call { callee := .builtin .len, args := _, argTypes := #[9] }, _, _, _, _⟩ _; refine YK.ofV (y_lenS (by rfl) StrTy.is) ?_)
    | (show VK _ _ _ _ _ ⟨_, .call { callee := .builtin .len, args := _, argTypes := #[9] }, _, _, _, _⟩ _; refine VK.mk (y_lenS (by rfl) StrTy.is) ?_)
    | (show YG _ _ _ _ _ _ ⟨_, .call { callee := .builtin .len, args := _, argTypes := #[9] }, _, _, _, _⟩ _; refine YG.mk (fun hb => by (try (have hc := And.left hb; have hb := And.right hb; rw [hc])); (try rw [hb]); exact V.y (y_lenS (by rfl) StrTy.is)) ?_)
    | (show VG _ _ _ _ _ _ ⟨_, .call { callee := .builtin .len, args := _, argTypes := #[9] }, _, _, _, _⟩ _; refine VG.mk (fun hb => by (try (have hc := And.left hb; have hb := And.right hb; rw [hc])); (try rw [hb]); exact y_lenS (by rfl) StrTy.is) ?_)
    | (refine nxN ?_)
    | (show YK _ _ _ _ _ _ _; first | refine YK.mk (y_callA (ql) ⟨rfl, rfl⟩) ?_ | refine YK.mk (y_callA (qd) ⟨rfl, rfl⟩) ?_ | refine YK.mk (y_callA (qi) ⟨rfl, rfl, rfl⟩) ?_)
    | (show YK _ _ _ _ _ _ _; refine YK.ofV vAuto ?_)
    | (show VK _ _ _ _ _ _ _; refine VK.mk vAuto ?_)
    | (show RS _ _ _ _ _ _ _ _; first | (refine nxRS ?_) | (refine nxRS1 fun _ => ?_))
    | (show RM _ _ _ _ _ _ _ _ _ _; first | (refine nxRM ?_) | (refine nxRM1 fun _ => ?_))
    | (show YG _ _ _ _ _ _ _ _; refine YG.mk (fun hb => by (try (have hc := And.left hb; have hb := And.right hb; rw [hc])); (try rw [hb]); first | exact (y_callA (ql) ⟨rfl, rfl⟩) | exact (y_callA (qd) ⟨rfl, rfl⟩) | exact (y_callA (qi) ⟨rfl, rfl, rfl⟩) | exact V.y vAuto) ?_)
    | (show VG _ _ _ _ _ _ _ _; refine VG.mk (fun hb => by (try (have hc := And.left hb; have hb := And.right hb; rw [hc])); (try rw [hb]); exact vAuto) ?_)
    | (refine nxVS ?_)
    | (refine nxGS ?_)
    | (refine G.mixedA 1 [.go 0, .go 1, .go 2, .go 3, .go 4, .go 5, .go 6, .go 7, .go 8, .go 9] ?_)
    | (refine nxX ?_)
    | (refine G.condN rfl (fun hc => ?_) (fun hc => ?_) <;> (try first | exact False.elim hc | (exfalso; omega))))
  all_goals first
    | exact X.ret (vs := [_, _]) rfl ⟨rfl, rfl, rfl⟩ rfl (fun w hw => ⟨(), trivial, rfl, hw⟩)
    | (exfalso; omega)
theorem tok_ba {b : Nat} {s : List UInt8} {i : Nat} {ln cl : Int} (hi : i < s.length) (hl : s.length ≤ 1000000) (h1 : ¬ (((nth s (i : Int)).toNat : Int) = 32 ∨ ((nth s (i : Int)).toNat : Int) = 9)) (h2 : ¬ ((nth s (i : Int)).toNat : Int) = 10) (h3 : ¬ ((nth s (i : Int)).toNat : Int) = 35) (h4 : letterB ((nth s (i : Int)).toNat : Int) = false) (h5 : digitB ((nth s (i : Int)).toNat : Int) = false) (h6 : ¬ 0 ≤ Lib.indexByte [45, 43, 58, 44, 59, 47, 61, 40, 41, 60, 62, 42, 64, 63] (nth s (i : Int))) :
    ContL Tryz.prog (fun _ => True) [scB b s i ln cl] 83 [pS b] (fun _ : Unit => True) (fun _ => .tuple [.int .i64 (-1), .int .i64 1].toArray) (fun _ => [scB b s i ln cl]) := fun w0 HR w _ hw => by
  have ql := letter_c ((nth s (i : Int)).toNat : Int)
  rw [h4] at ql
  have qd := digit_c ((nth s (i : Int)).toNat : Int)
  rw [h5] at qd
  have qi := indexByteC_c [45, 43, 58, 44, 59, 47, 61, 40, 41, 60, 62, 42, 64, 63] (nth s (i : Int))
  generalize Lib.indexByte [45, 43, 58, 44, 59, 47, 61, 40, 41, 60, 62, 42, 64, 63] (nth s (i : Int)) = j at qi h6
  refine enterU Tryz.func83 rfl rfl rfl hw ?_
  dsimp only [List.cons_append, List.nil_append]
  repeat' (first
    | (show YK _ _ _ _ _ ⟨_, .call { callee := .builtin .len, args := _, argTypes := #[9] }, _, _, _, _⟩ _; refine YK.ofV (y_lenS (by rfl) StrTy.is) ?_)
    | (show VK _ _ _ _ _ ⟨_, .call { callee := .builtin .len, args := _, argTypes := #[9] }, _, _, _, _⟩ _; refine VK.mk (y_lenS (by rfl) StrTy.is) ?_)
    | (show YG _ _ _ _ _ _ ⟨_, .call { callee := .builtin .len, args := _, argTypes := #[9] }, _, _, _, _⟩ _; refine YG.mk (fun hb => by (try (have hc := And.left hb; have hb := And.right hb; rw [hc])); (try rw [hb]); exact V.y (y_lenS (by rfl) StrTy.is)) ?_)
    | (show VG _ _ _ _ _ _ ⟨_, .call { callee := .builtin .len, args := _, argTypes := #[9] }, _, _, _, _⟩ _; refine VG.mk (fun hb => by (try (have hc := And.left hb; have hb := And.right hb; rw [hc])); (try rw [hb]); exact y_lenS (by rfl) StrTy.is) ?_)
    | (refine nxN ?_)
    | (show YK _ _ _ _ _ _ _; first | refine YK.mk (y_callA (ql) ⟨rfl, rfl⟩) ?_ | refine YK.mk (y_callA (qd) ⟨rfl, rfl⟩) ?_ | refine YK.mk (y_callA (qi) ⟨rfl, rfl, rfl⟩) ?_)
    | (show YK _ _ _ _ _ _ _; refine YK.ofV vAuto ?_)
    | (show VK _ _ _ _ _ _ _; refine VK.mk vAuto ?_)
    | (show RS _ _ _ _ _ _ _ _; first | (refine nxRS ?_) | (refine nxRS1 fun _ => ?_))
    | (show RM _ _ _ _ _ _ _ _ _ _; first | (refine nxRM ?_) | (refine nxRM1 fun _ => ?_))
    | (show YG _ _ _ _ _ _ _ _; refine YG.mk (fun hb => by (try (have hc := And.left hb; have hb := And.right hb; rw [hc])); (try rw [hb]); first | exact (y_callA (ql) ⟨rfl, rfl⟩) | exact (y_callA (qd) ⟨rfl, rfl⟩) | exact (y_callA (qi) ⟨rfl, rfl, rfl⟩) | exact V.y vAuto) ?_)
    | (show VG _ _ _ _ _ _ _ _; refine VG.mk (fun hb => by (try (have hc := And.left hb; have hb := And.right hb; rw [hc])); (try rw [hb]); exact vAuto) ?_)
    | (refine nxVS ?_)
    | (refine nxGS ?_)
    | (refine G.mixedA 1 [.go 0, .go 1, .go 2, .go 3, .go 4, .go 5, .go 6, .go 7, .go 8, .go 9] ?_)
    | (refine nxX ?_)
    | (refine G.condN rfl (fun hc => ?_) (fun hc => ?_) <;> (try first | exact False.elim hc | (exfalso; omega))))
  all_goals first
    | exact X.ret (vs := [_, _]) rfl ⟨rfl, rfl, rfl⟩ rfl (fun w hw => ⟨(), trivial, rfl, hw⟩)
    | (exfalso; omega)
theorem token_c {b : Nat} {s : List UInt8} {i : Nat} {ln cl : Int} (hi : i < s.length) (hl : s.length ≤ 1000000) :
    ContL Tryz.prog (fun _ => True) [scB b s i ln cl] 83 [pS b] (fun _ : Unit => True) (fun _ => .tuple [.int .i64 (tokN (s.drop i)).1, .int .i64 ((tokN (s.drop i)).2 : Int)].toArray) (fun _ => [scB b s i ln cl]) := by
  have hd := drop_nth hi
  have e := tokN_cons (nth s (i : Int)) (s.drop (i + 1))
  rw [← hd] at e
  have i1 := u8_iff (nth s (i : Int)) 32
  have i2 := u8_iff (nth s (i : Int)) 9
  have i3 := u8_iff (nth s (i : Int)) 10
  have i4 := u8_iff (nth s (i : Int)) 35
  by_cases h1 : nth s (i : Int) = 32 ∨ nth s (i : Int) = 9
  · rw [e, if_pos h1]
    exact tok_sp hi hl (h1.imp i1.1 i2.1)
  rw [if_neg h1] at e
  have h1' := mt (Or.imp i1.2 i2.2) h1
  by_cases h2 : nth s (i : Int) = 10
  · rw [e, if_pos h2]
    exact tok_nl hi hl h1' (i3.1 h2)
  rw [if_neg h2] at e
  have h2' := mt i3.2 h2
  by_cases h3 : nth s (i : Int) = 35
  · rw [e, if_pos h3]
    exact tok_no hi hl h1' h2' (i4.1 h3)
  rw [if_neg h3] at e
  have h3' := mt i4.2 h3
  cases h4 : letterB ((nth s (i : Int)).toNat : Int) with
  | true =>
    rw [if_pos h4] at e
    by_cases h6 : 20 < spanN wordB (s.drop i)
    · rw [e, if_pos h6]
      exact tok_lo hi hl h1' h2' h3' h4 h6
    · rw [e, if_neg h6]
      exact tok_na hi hl h1' h2' h3' h4 (by omega)
  | false =>
    rw [if_neg (by rw [h4]; decide)] at e
    cases h5 : digitB ((nth s (i : Int)).toNat : Int) with
    | true =>
      rw [e, if_pos h5]
      exact tok_nu hi hl h1' h2' h3' h4 h5
    | false =>
      rw [if_neg (by rw [h5]; decide)] at e
      by_cases h6 : 0 ≤ Lib.indexByte [45, 43, 58, 44, 59, 47, 61, 40, 41, 60, 62, 42, 64, 63] (nth s (i : Int))
      · rw [e, if_pos (show symB (nth s (i : Int)) = true from decide_eq_true h6)]
        exact tok_sy hi hl h1' h2' h3' h4 h5 h6
      · rw [e, if_neg (show ¬ symB (nth s (i : Int)) = true from by unfold symB; rw [decide_eq_false h6]; decide)]
        exact tok_ba hi hl h1' h2' h3' h4 h5 h6
end Go.Proofs.YtpekkcahehhkmaaGreatDoor
/- Tokens: the tokens of a text. -/
set_option linter.unusedVariables false
set_option maxHeartbeats 4000000
namespace Go.Proofs.YtpekkcahehhkmaaGreatDoor
open Go.RowKit

/-- What is to hold behind, as a name: the goals stay small. -/
theorem G.gen {P : Program} {Q : Exit → Act → World → Prop} {n : Nat} {L : FL} {w0 : World} {H : List Hl} {c : Code} (h : ∀ Q', Q' = Q → G P Q' n L w0 H c) : G P Q n L w0 H c := h Q rfl
theorem Upd.split {x z : Hl} (y : Hl) {H H' : List Hl} (h : Upd x z H H') : ∃ H1, Upd x y H H1 ∧ Upd y z H1 H' := by
  induction h with
  | here r => exact ⟨y :: r, .here r, .here r⟩
  | there u _ ih =>
    obtain ⟨H1, h1, h2⟩ := ih
    exact ⟨u :: H1, .there u h1, .there u h2⟩
theorem St.setCells {w0 : World} {b : Nat} {t : TypeId} : ∀ (us : List Value) (o : Nat) (cs : List Value) (H H' : List Hl) (w : World), St w0 H w → Upd (.blk b t cs) (.blk b t (setAt cs o us)) H H' → St w0 H' (w.setCells b o us)
  | [], o, cs, H, H', w, h, hu => by
    have e : H' = H := by
      induction hu with
      | here r => rfl
      | there z h ih => rw [ih (h := St.sub ‹_› (List.sublist_cons_self _ _))]
    rw [e]; exact h
  | u :: r, o, cs, H, H', w, h, hu => by
    obtain ⟨H1, h1, h2⟩ := hu.split (.blk b t (cs.set o u))
    exact St.setCells r (o + 1) (cs.set o u) H1 H' _ (h.setCell u h1) h2
section
variable {P : Program} {n : Nat} {L : FL} {w0 : World} {H : List Hl} {Q : Exit → Act → World → Prop} {ops : Array Oper} {rest : List Oper} {ty : TypeId} {pos : String} {af : Array Edge} {gd : Option (Nat × Bool)} {x y : Operand} {t t' : TypeId}
theorem x_storePart {b o k : Nat} {cs us : List Value} {H' : List Hl} (hx : evO L x = some (.pointer (some ⟨b, o, none⟩))) (hy : evO L y = some (.agg us.toArray)) (hu : us.all (·.oneCell') = true)
    (hm : Upd (.blk b t' cs) (.blk b t' (setAt cs o us)) H H') (hk : us.length = k) (ho : Nat.ble (o + k) cs.length = true) (hs : rowB P t k = true) : EX P n L w0 H ⟨none, .store t x y, ty, pos, af, gd⟩ (fun _ : Unit => True) (fun _ => L) (fun _ => H') :=
  EX.of_skip fun a w ha hw => by
    have ho' : o + k ≤ cs.length := Nat.le_of_ble_eq_true ho
    have hadd : ∀ j, (⟨b, o, none⟩ : Addr).add j = ⟨b, o + j, none⟩ := fun j => by unfold Addr.add; split <;> simp_all
    have hrun := run_storeCells_cells (P := P) b o us 0 w (fun j hj => by
      rw [hw.cell hm.mem, List.getElem?_eq_getElem (by omega)]; rfl) (fun j _ => hw.free hm.mem _) (fun u hu' => List.all_eq_true.1 hu u hu')
    refine ⟨w.setCells b o us, (), by simp [execOp, ha.eval hx, ha.eval hy, Instr.storeAt, Instr.sureAddr, storeVar, Value.cells, run_sizeOf_of (info_of_rowB hs), hk, hrun], trivial, rfl, St.setCells us o cs H H' w hw hm⟩
theorem RS.storePart {b o k : Nat} {cs us : List Value} {H' : List Hl} (h : RS P ops Q n L w0 H' rest) (hx : evO L x = some (.pointer (some ⟨b, o, none⟩))) (hy : evO L y = some (.agg us.toArray)) (hu : us.all (·.oneCell') = true)
    (hm : Upd (.blk b t' cs) (.blk b t' (setAt cs o us)) H H') (hk : us.length = k) (ho : Nat.ble (o + k) cs.length = true) (hs : rowB P t k = true) : RS P ops Q n L w0 H (⟨none, .store t x y, ty, pos, af, none⟩ :: rest) := RS.actX rfl (x_storePart hx hy hu hm hk ho hs) fun _ _ => h
end
abbrev cTk (t : TokT) : List Value := [.int .i64 t.1, strV t.2.1, .int .i64 t.2.2.1, .int .i64 t.2.2.2]
abbrev vTk (t : TokT) : Value := .agg [.int .i64 t.1, strV t.2.1, .int .i64 t.2.2.1, .int .i64 t.2.2.2].toArray
theorem RS.lit1Tk {P : Program} {ops : Array Oper} {Q : Exit → Act → World → Prop} {n : Nat} {L : FL} {w0 : World} {H : List Hl} {dd : Tmp} {ty : TypeId} {pos : String} {af : Array Edge} {t e : TypeId} {bytes : Nat} {x : Operand} {a : TokT} {rest : List Oper} (h : ∀ v' : Sl, RS P ops Q n ((dd, v'.v) :: L) w0 (Hl.rw v'.v e cTk 4 [a] :: H) rest) (hx : evO L x = some (vTk a)) [ht : RowTy P t e 4 bytes] (hd : Nat.blt dd n = true) :
    RS P ops Q n L w0 H (⟨some dd, .buildSlice t 1 #[(0, x)], ty, pos, af, none⟩ :: rest) := RS.actX rfl (x_litS (parts := [(0, x)]) (vs := [vTk a]) (cs := cTk a) (f := cTk) (l := [a]) ⟨hx, rfl⟩ rfl rfl rfl rfl (fun zs hz => by
      match zs, hz with
      | [_, _, _, _], _ => rfl) rfl rfl rfl (rowTy_B ht.is) hd) fun v' _ => h v'
theorem built_tok (k ln cl : Int) : Tryz.prog.built 118 [(0, .int .i64 k), (2, .agg [.int .i64 ln, .int .i64 cl].toArray)] = some [.int .i64 k, strV [], .int .i64 ln, .int .i64 cl].toArray := by kernel_rfl
theorem built_sc (s : List UInt8) (ln cl : Int) : Tryz.prog.built 114 [(0, strV s), (2, .agg [.int .i64 ln, .int .i64 cl].toArray)] = some [strV s, .int .i64 0, .int .i64 ln, .int .i64 cl].toArray := by kernel_rfl
theorem Lx.inv {c : UInt8} {l : List UInt8} {E : List TkE} (h : Lx (c :: l) E) : ∃ E', 0 ≤ (tokN (c :: l)).1 ∧ Lx ((c :: l).drop (tokN (c :: l)).2) E' ∧ E = if (tokN (c :: l)).1 = 0 then E' else if (tokN (c :: l)).1 = 4 then (4, []) :: E' else ((tokN (c :: l)).1, (c :: l).take (tokN (c :: l)).2) :: E' := by
  unfold Lx at *
  have hp := tokN_pos c l
  have hl : ((c :: l).drop (tokN (c :: l)).2).length ≤ l.length := by rw [List.length_drop, List.length_cons]; omega
  have h' : lexE (l.length + 1) (c :: l) = some E := h
  rw [lexE_cons, lexE_more l.length _ hl] at h'
  split at h'
  · cases h'
  · rename_i h0
    cases hx : lexE ((c :: l).drop (tokN (c :: l)).2).length ((c :: l).drop (tokN (c :: l)).2) with
    | none => rw [hx] at h'; cases h'
    | some E' =>
      rw [hx] at h'
      refine ⟨E', by omega, rfl, ?_⟩
      dsimp only at h'
      split at h' <;> rename_i g
      · rw [if_pos g]; exact (Option.some.inj h').symm
      · rw [if_neg g]
        split at h' <;> rename_i g2
        · rw [if_pos g2]; exact (Option.some.inj h').symm
        · rw [if_neg g2]; exact (Option.some.inj h').symm
abbrev psB (b : Nat) (x y : Int) : Hl := Hl.blk b 52 [.int .i64 x, .int .i64 y]
theorem tokens_c {s : List UInt8} {E : List TkE} (hl : s.length ≤ 65536) (h : Lx s E) :
    ContX Tryz.prog [] 55 [strV s] (fun z : List TokT × Sl => z.1.map ke = E ∧ z.1.length ≤ 70000) (fun z => .tuple [z.2.v, .agg [.int .i64 0, .int .i64 0].toArray, .int .i64 0].toArray) (fun z => [Hl.nw z.2.v cTk 4 z.1]) := fun w hw0 => by
  refine enter Tryz.func55 rfl rfl rfl hw0 ?_
  repeat' (first
    | (show YK _ _ _ _ _ ⟨_, .call { callee := .builtin .len, args := _, argTypes := #[9] }, _, _, _, _⟩ _; refine YK.ofV (y_lenS (by rfl) StrTy.is) ?_)
    | (show VK _ _ _ _ _ ⟨_, .call { callee := .builtin .len, args := _, argTypes := #[9] }, _, _, _, _⟩ _; refine VK.mk (y_lenS (by rfl) StrTy.is) ?_)
    | (show YG _ _ _ _ _ _ ⟨_, .call { callee := .builtin .len, args := _, argTypes := #[9] }, _, _, _, _⟩ _; refine YG.mk (fun hb => by (try (have hc := And.left hb; have hb := And.right hb; rw [hc])); (try rw [hb]); exact V.y (y_lenS (by rfl) StrTy.is)) ?_)
    | (show VG _ _ _ _ _ _ ⟨_, .call { callee := .builtin .len, args := _, argTypes := #[9] }, _, _, _, _⟩ _; refine VG.mk (fun hb => by (try (have hc := And.left hb; have hb := And.right hb; rw [hc])); (try rw [hb]); exact y_lenS (by rfl) StrTy.is) ?_)
    | (refine nxN ?_)
    | (show YK _ _ _ _ _ ⟨_, .build 114 _, _, _, _, _⟩ _; refine YK.ofV (y_build (parts := [(0, .tmp 14), (2, .tmp 15)]) (vs := [_, _]) ⟨rfl, rfl, rfl⟩ (built_sc _ _ _)) ?_)
    | (refine nxV ?_)
    | (show RS _ _ _ _ _ _ _ _; first | (refine nxRS ?_) | (refine nxRS1 fun _ => ?_))
    | (show RM _ _ _ _ _ _ _ _ _ _; first | (refine nxRM ?_) | (refine nxRM1 fun _ => ?_))
    | (refine nxG ?_)
    | (refine nxVS ?_)
    | (refine nxGS ?_)
    | (refine G.mixedA 8 [.go 0, .go 1, .go 2, .go 3, .go 4, .go 5, .go 6] ?_)
    | (refine G.mixedA 12 [.go 0, .go 1, .go 2, .go 3, .go 4, .go 5, .go 6, .go 7, .go 8, .go 9, .go 10, .go 11, .go 12, .go 13] ?_)
    | (refine nxX ?_)
    | (refine G.condN rfl (fun hc => ?_) (fun hc => ?_) <;> (try first | exact False.elim hc | (exfalso; omega))))
  rename_i b3 b5
  refine G.loop (ι := List TokT × Nat × Int × Int × Sl) (fun x => [(0, strV s), (3, pS b3), (5, pS b5), (6, x.2.2.2.2.v)]) (fun x => [scB b5 s x.2.1 x.2.2.1 x.2.2.2.1, Hl.rw x.2.2.2.2.v 118 cTk 4 x.1, psB b3 0 0]) (fun x => ∃ E', (x.2.1 ≤ s.length ∧ x.1.length ≤ x.2.1 ∧ 1 ≤ x.2.2.1 ∧ x.2.2.1 ≤ x.2.1 + 1 ∧ 1 ≤ x.2.2.2.1 ∧ x.2.2.2.1 ≤ x.2.1 + 1) ∧ Lx (s.drop x.2.1) E' ∧ x.1.map ke ++ E' = E) (fun x => s.length - x.2.1) ([], 0, 1, 1, ⟨none, 0, 0⟩) ⟨E, by refine ⟨Nat.zero_le _, Nat.zero_le _, ?_, ?_, ?_, ?_⟩ <;> simp, h, rfl⟩ ⟨rfl, rfl, rfl, rfl, trivial⟩ (fun w h => St.sub (St.picked (xs := [scB b5 s 0 1 1, Hl.rw (.slice none 0 0) 118 cTk 4 [], psB b3 0 0]) (by (repeat (first | exact Pick.nil | (apply Pick.cons; (case a => (first | exact At.here | exact At.there (At.here) | exact At.there (At.there (At.here)) | exact At.there (At.there (At.there (At.here))) | exact At.there (At.there (At.there (At.there (At.here)))) | exact At.there (At.there (At.there (At.there (At.there (At.here))))) | exact At.there (At.there (At.there (At.there (At.there (At.there (At.here)))))) | exact At.there (At.there (At.there (At.there (At.there (At.there (At.there (At.here))))))) | exact At.there (At.there (At.there (At.there (At.there (At.there (At.there (At.there (At.here)))))))) | exact At.there (At.there (At.there (At.there (At.there (At.there (At.there (At.there (At.there (At.here))))))))))))))) (h.nilRow 118 cTk 4)) (by repeat (first | exact List.Sublist.refl _ | apply List.Sublist.cons_cons | apply List.Sublist.cons))) ?_
  rintro ⟨acc, i, ln, cl, oz⟩ mx ⟨E', ⟨p1, p2, p3, p4, p5, p6⟩, p7, p8⟩ hmx
  dsimp only at p1 p2 p3 p4 p5 p6 p7 p8 hmx ⊢
  rcases Nat.lt_or_ge i s.length with hi | hi
  · have hd := drop_nth hi
    have qt := token_c (b := b5) (ln := ln) (cl := cl) hi (by omega)
    have hpo := tokN_pos (nth s (i : Int)) (s.drop (i + 1))
    have hle := tokN_le (nth s (i : Int)) (s.drop (i + 1))
    rw [hd] at p7
    obtain ⟨E2, f1, f2, f3⟩ := p7.inv
    rw [← hd] at f1 f2 f3 hpo hle
    rw [List.length_drop] at hle
    rw [List.drop_drop] at f2
    generalize tokN (s.drop i) = kn at qt f1 f2 f3 hpo hle
    obtain ⟨kd, n⟩ := kn
    dsimp only at qt f1 f2 f3 hpo hle
    by_cases h0 : kd = 0
    · rw [if_pos h0] at f3
      subst h0
      repeat' (first
    | (show YK _ _ _ _ _ ⟨_, .call { callee := .builtin .len, args := _, argTypes := #[9] }, _, _, _, _⟩ _; refine YK.ofV (y_lenS (by rfl) StrTy.is) ?_)
    | (show VK _ _ _ _ _ ⟨_, .call { callee := .builtin .len, args := _, argTypes := #[9] }, _, _, _, _⟩ _; refine VK.mk (y_lenS (by rfl) StrTy.is) ?_)
    | (show YG _ _ _ _ _ _ ⟨_, .call { callee := .builtin .len, args := _, argTypes := #[9] }, _, _, _, _⟩ _; refine YG.mk (fun hb => by (try (have hc := And.left hb; have hb := And.right hb; rw [hc])); (try rw [hb]); exact V.y (y_lenS (by rfl) StrTy.is)) ?_)
    | (show VG _ _ _ _ _ _ ⟨_, .call { callee := .builtin .len, args := _, argTypes := #[9] }, _, _, _, _⟩ _; refine VG.mk (fun hb => by (try (have hc := And.left hb; have hb := And.right hb; rw [hc])); (try rw [hb]); exact y_lenS (by rfl) StrTy.is) ?_)
    | (refine nxN ?_)
    | (show RS _ _ _ _ _ _ _ (⟨_, .call { callee := .value (.func 83), args := _, argTypes := _ }, _, _, _, _⟩ :: _); refine RS.callL (qt) trivial ?_; rintro q1 _; dsimp only [List.cons_append, List.nil_append])
    | (refine nxV ?_)
    | (show RS _ _ _ _ _ _ _ _; first | (refine nxRS ?_) | (refine nxRS1 fun _ => ?_))
    | (show RM _ _ _ _ _ _ _ _ _ _; first | (refine nxRM ?_) | (refine nxRM1 fun _ => ?_))
    | (refine nxG ?_)
    | (refine nxVS ?_)
    | (refine nxGS ?_)
    | (refine G.mixedA 8 [.go 0, .go 1, .go 2, .go 3, .go 4, .go 5, .go 6] ?_)
    | (refine G.mixedA 12 [.go 0, .go 1, .go 2, .go 3, .go 4, .go 5, .go 6, .go 7, .go 8, .go 9, .go 10, .go 11, .go 12, .go 13] ?_)
    | (refine nxX ?_)
    | (refine G.condN rfl (fun hc => ?_) (fun hc => ?_) <;> (try first | exact False.elim hc | (exfalso; omega))))
      refine X.again (acc, i + n, ln, cl + n, oz) ⟨E2, by dsimp only; omega, f2, by rw [← f3]; exact p8⟩ (by dsimp only; omega) ⟨rfl, rfl, rfl, rfl, trivial⟩ (fun w h => ?_)
      exact h
    · rw [if_neg h0] at f3
      by_cases h4 : kd = 4
      · rw [if_pos h4] at f3
        subst h4
        repeat' (first
    | (show YK _ _ _ _ _ ⟨_, .call { callee := .builtin .len, args := _, argTypes := #[9] }, _, _, _, _⟩ _; refine YK.ofV (y_lenS (by rfl) StrTy.is) ?_)
    | (show VK _ _ _ _ _ ⟨_, .call { callee := .builtin .len, args := _, argTypes := #[9] }, _, _, _, _⟩ _; refine VK.mk (y_lenS (by rfl) StrTy.is) ?_)
    | (show YG _ _ _ _ _ _ ⟨_, .call { callee := .builtin .len, args := _, argTypes := #[9] }, _, _, _, _⟩ _; refine YG.mk (fun hb => by (try (have hc := And.left hb; have hb := And.right hb; rw [hc])); (try rw [hb]); exact V.y (y_lenS (by rfl) StrTy.is)) ?_)
    | (show VG _ _ _ _ _ _ ⟨_, .call { callee := .builtin .len, args := _, argTypes := #[9] }, _, _, _, _⟩ _; refine VG.mk (fun hb => by (try (have hc := And.left hb; have hb := And.right hb; rw [hc])); (try rw [hb]); exact y_lenS (by rfl) StrTy.is) ?_)
    | (refine nxN ?_)
    | (show RS _ _ _ _ _ _ _ (⟨_, .call { callee := .value (.func 83), args := _, argTypes := _ }, _, _, _, _⟩ :: _); refine RS.callL (qt) trivial ?_; rintro q1 _; dsimp only [List.cons_append, List.nil_append])
    | (show YK _ _ _ _ _ ⟨_, .load 52 _, _, _, _, _⟩ _; refine YK.ofV (y_loadPart (k := 2) (by rfl) (by exact memA) (by decide +kernel) (by rfl)) ?_)
    | (show YK _ _ _ _ _ ⟨_, .build 118 _, _, _, _, _⟩ _; refine YK.ofV (y_build (parts := [(0, .tmp 38), (2, .tmp 42)]) (vs := [_, _]) ⟨rfl, rfl, rfl⟩ (built_tok _ _ _)) ?_)
    | (show RS _ _ _ _ _ _ _ (⟨_, .buildSlice _ _ _, _, _, _, _⟩ :: _); refine RS.lit1Tk (a := (4, [], ln, cl)) ?_ rfl rfl; intro lN)
    | (show RS _ _ _ _ _ _ _ (⟨_, .call { callee := .builtin .append, args := _, argTypes := _ }, _, _, _, _⟩ :: _); refine RS.appendA (f := cTk) (l := acc) (l' := [(4, [], ln, cl)]) ?_; intro dN)
    | (show RS _ _ _ _ _ _ _ (⟨none, .store 52 (.tmp 92) _, _, _, _, _⟩ :: _); refine RS.storePart (k := 2) ?_ rfl rfl rfl (by exact updA) rfl rfl (by decide +kernel))
    | (refine nxV ?_)
    | (show RS _ _ _ _ _ _ _ _; first | (refine nxRS ?_) | (refine nxRS1 fun _ => ?_))
    | (show RM _ _ _ _ _ _ _ _ _ _; first | (refine nxRM ?_) | (refine nxRM1 fun _ => ?_))
    | (refine nxG ?_)
    | (refine nxVS ?_)
    | (refine nxGS ?_)
    | (refine G.mixedA 8 [.go 0, .go 1, .go 2, .go 3, .go 4, .go 5, .go 6] ?_)
    | (refine G.mixedA 12 [.go 0, .go 1, .go 2, .go 3, .go 4, .go 5, .go 6, .go 7, .go 8, .go 9, .go 10, .go 11, .go 12, .go 13] ?_)
    | (refine nxX ?_)
    | (refine G.condN rfl (fun hc => ?_) (fun hc => ?_) <;> (try first | exact False.elim hc | (exfalso; omega))))
        refine X.again (acc ++ [(4, [], ln, cl)], i + n, ln + 1, 1, dN) ⟨E2, by dsimp only; rw [List.length_append, List.length_singleton]; omega, f2, by rw [List.map_append, List.append_assoc, ← p8, f3]; rfl⟩ (by dsimp only; omega) ⟨rfl, rfl, rfl, rfl, trivial⟩ (fun w h => ?_)
        exact St.sub (St.picked (xs := [scB b5 s (i + n) (ln + 1) 1, Hl.rw dN.v 118 cTk 4 (acc ++ [(4, [], ln, cl)]), psB b3 0 0]) (by (repeat (first | exact Pick.nil | (apply Pick.cons; (case a => (first | exact At.here | exact At.there (At.here) | exact At.there (At.there (At.here)) | exact At.there (At.there (At.there (At.here))) | exact At.there (At.there (At.there (At.there (At.here)))) | exact At.there (At.there (At.there (At.there (At.there (At.here))))) | exact At.there (At.there (At.there (At.there (At.there (At.there (At.here)))))) | exact At.there (At.there (At.there (At.there (At.there (At.there (At.there (At.here))))))) | exact At.there (At.there (At.there (At.there (At.there (At.there (At.there (At.there (At.here)))))))) | exact At.there (At.there (At.there (At.there (At.there (At.there (At.there (At.there (At.there (At.here))))))))))))))) h) (by repeat (first | exact List.Sublist.refl _ | apply List.Sublist.cons_cons | apply List.Sublist.cons))
      · rw [if_neg h4] at f3
        have et : ((s.drop (i : Int).toNat).take (((i : Int) + (n : Int)).toNat - (i : Int).toNat)) = (s.drop i).take n := by
          rw [Int.toNat_natCast, show ((i : Int) + (n : Int)).toNat - i = n by omega]
        obtain ⟨tx, htx⟩ : ∃ tx, (s.drop i).take n = tx := ⟨_, rfl⟩
        rw [htx] at et f3
        repeat' (first
    | (show YK _ _ _ _ _ ⟨_, .call { callee := .builtin .len, args := _, argTypes := #[9] }, _, _, _, _⟩ _; refine YK.ofV (y_lenS (by rfl) StrTy.is) ?_)
    | (show VK _ _ _ _ _ ⟨_, .call { callee := .builtin .len, args := _, argTypes := #[9] }, _, _, _, _⟩ _; refine VK.mk (y_lenS (by rfl) StrTy.is) ?_)
    | (show YG _ _ _ _ _ _ ⟨_, .call { callee := .builtin .len, args := _, argTypes := #[9] }, _, _, _, _⟩ _; refine YG.mk (fun hb => by (try (have hc := And.left hb; have hb := And.right hb; rw [hc])); (try rw [hb]); exact V.y (y_lenS (by rfl) StrTy.is)) ?_)
    | (show VG _ _ _ _ _ _ ⟨_, .call { callee := .builtin .len, args := _, argTypes := #[9] }, _, _, _, _⟩ _; refine VG.mk (fun hb => by (try (have hc := And.left hb; have hb := And.right hb; rw [hc])); (try rw [hb]); exact y_lenS (by rfl) StrTy.is) ?_)
    | (refine nxN ?_)
    | (show VK _ _ _ _ _ ⟨_, .slice _ _ _ _ _, _, _, _, _⟩ _; refine VK.mk (v := strV tx) (by rw [← et]; apply y_sliceSLH; rfl; rfl; rfl; exact StrTy.is; exact omlA) ?_)
    | (show RS _ _ _ _ _ _ _ (⟨_, .call { callee := .value (.func 83), args := _, argTypes := _ }, _, _, _, _⟩ :: _); refine RS.callL (qt) trivial ?_; rintro q1 _; dsimp only [List.cons_append, List.nil_append])
    | (show YK _ _ _ _ _ ⟨_, .load 52 _, _, _, _, _⟩ _; refine YK.ofV (y_loadPart (k := 2) (by rfl) (by exact memA) (by decide +kernel) (by rfl)) ?_)
    | (show YK _ _ _ _ _ ⟨_, .build 118 _, _, _, _, _⟩ _; refine YK.ofV (y_build (parts := [(0, .tmp 38), (2, .tmp 42)]) (vs := [_, _]) ⟨rfl, rfl, rfl⟩ (built_tok _ _ _)) ?_)
    | (show RS _ _ _ _ _ _ _ (⟨_, .buildSlice _ _ _, _, _, _, _⟩ :: _); refine RS.lit1Tk (a := (kd, tx, ln, cl)) ?_ rfl rfl; intro lN)
    | (show RS _ _ _ _ _ _ _ (⟨_, .call { callee := .builtin .append, args := _, argTypes := _ }, _, _, _, _⟩ :: _); refine RS.appendA (f := cTk) (l := acc) (l' := [(kd, tx, ln, cl)]) ?_; intro dN)
    | (refine nxV ?_)
    | (show RS _ _ _ _ _ _ _ _; first | (refine nxRS ?_) | (refine nxRS1 fun _ => ?_))
    | (show RM _ _ _ _ _ _ _ _ _ _; first | (refine nxRM ?_) | (refine nxRM1 fun _ => ?_))
    | (refine nxG ?_)
    | (refine nxVS ?_)
    | (refine nxGS ?_)
    | (refine G.mixedA 8 [.go 0, .go 1, .go 2, .go 3, .go 4, .go 5, .go 6] ?_)
    | (refine G.mixedA 12 [.go 0, .go 1, .go 2, .go 3, .go 4, .go 5, .go 6, .go 7, .go 8, .go 9, .go 10, .go 11, .go 12, .go 13] ?_)
    | (refine nxX ?_)
    | (refine G.condN rfl (fun hc => ?_) (fun hc => ?_) <;> (try first | exact False.elim hc | (exfalso; omega))))
        refine X.again (acc ++ [(kd, tx, ln, cl)], i + n, ln, cl + n, dN) ⟨E2, by dsimp only; rw [List.length_append, List.length_singleton]; omega, f2, by rw [List.map_append, List.append_assoc, ← p8, f3]; rfl⟩ (by dsimp only; omega) ⟨rfl, rfl, rfl, rfl, trivial⟩ (fun w h => ?_)
        exact St.sub (St.picked (xs := [scB b5 s (i + n) ln (cl + n), Hl.rw dN.v 118 cTk 4 (acc ++ [(kd, tx, ln, cl)]), psB b3 0 0]) (by (repeat (first | exact Pick.nil | (apply Pick.cons; (case a => (first | exact At.here | exact At.there (At.here) | exact At.there (At.there (At.here)) | exact At.there (At.there (At.there (At.here))) | exact At.there (At.there (At.there (At.there (At.here)))) | exact At.there (At.there (At.there (At.there (At.there (At.here))))) | exact At.there (At.there (At.there (At.there (At.there (At.there (At.here)))))) | exact At.there (At.there (At.there (At.there (At.there (At.there (At.there (At.here))))))) | exact At.there (At.there (At.there (At.there (At.there (At.there (At.there (At.there (At.here)))))))) | exact At.there (At.there (At.there (At.there (At.there (At.there (At.there (At.there (At.there (At.here))))))))))))))) h) (by repeat (first | exact List.Sublist.refl _ | apply List.Sublist.cons_cons | apply List.Sublist.cons))
  · have e : s.drop i = [] := List.drop_eq_nil_of_le hi
    rw [e] at p7
    have e5 : E' = [(5, [])] := (Option.some.inj p7).symm
    repeat' (first
    | (show YK _ _ _ _ _ ⟨_, .call { callee := .builtin .len, args := _, argTypes := #[9] }, _, _, _, _⟩ _; refine YK.ofV (y_lenS (by rfl) StrTy.is) ?_)
    | (show VK _ _ _ _ _ ⟨_, .call { callee := .builtin .len, args := _, argTypes := #[9] }, _, _, _, _⟩ _; refine VK.mk (y_lenS (by rfl) StrTy.is) ?_)
    | (show YG _ _ _ _ _ _ ⟨_, .call { callee := .builtin .len, args := _, argTypes := #[9] }, _, _, _, _⟩ _; refine YG.mk (fun hb => by (try (have hc := And.left hb; have hb := And.right hb; rw [hc])); (try rw [hb]); exact V.y (y_lenS (by rfl) StrTy.is)) ?_)
    | (show VG _ _ _ _ _ _ ⟨_, .call { callee := .builtin .len, args := _, argTypes := #[9] }, _, _, _, _⟩ _; refine VG.mk (fun hb => by (try (have hc := And.left hb; have hb := And.right hb; rw [hc])); (try rw [hb]); exact y_lenS (by rfl) StrTy.is) ?_)
    | (refine nxN ?_)
    | (show YK _ _ _ _ _ ⟨_, .load 52 _, _, _, _, _⟩ _; refine YK.ofV (y_loadPart (k := 2) (by rfl) (by exact memA) (by decide +kernel) (by rfl)) ?_)
    | (show YK _ _ _ _ _ ⟨_, .build 118 _, _, _, _, _⟩ _; refine YK.ofV (y_build (parts := [(0, .const (.int .i64 5)), (2, .tmp 97)]) (vs := [_, _]) ⟨rfl, rfl, rfl⟩ (built_tok _ _ _)) ?_)
    | (show RS _ _ _ _ _ _ _ (⟨_, .buildSlice _ _ _, _, _, _, _⟩ :: _); refine RS.lit1Tk (a := (5, [], ln, cl)) ?_ rfl rfl; intro lN)
    | (show RS _ _ _ _ _ _ _ (⟨_, .call { callee := .builtin .append, args := _, argTypes := _ }, _, _, _, _⟩ :: _); refine RS.appendA (f := cTk) (l := acc) (l' := [(5, [], ln, cl)]) ?_; intro dN)
    | (refine nxV ?_)
    | (show RS _ _ _ _ _ _ _ _; first | (refine nxRS ?_) | (refine nxRS1 fun _ => ?_))
    | (show RM _ _ _ _ _ _ _ _ _ _; first | (refine nxRM ?_) | (refine nxRM1 fun _ => ?_))
    | (refine nxG ?_)
    | (refine nxVS ?_)
    | (refine nxGS ?_)
    | (refine G.mixedA 8 [.go 0, .go 1, .go 2, .go 3, .go 4, .go 5, .go 6] ?_)
    | (refine G.mixedA 12 [.go 0, .go 1, .go 2, .go 3, .go 4, .go 5, .go 6, .go 7, .go 8, .go 9, .go 10, .go 11, .go 12, .go 13] ?_)
    | (refine nxX ?_)
    | (refine G.condN rfl (fun hc => ?_) (fun hc => ?_) <;> (try first | exact False.elim hc | (exfalso; omega))))
    exact X.retN (vs := [_, _, _]) (acc ++ [(5, [], ln, cl)], dN) rfl ⟨rfl, ⟨_, _, _, _, rfl, (by exact memA), (by (repeat (first | exact .nil | apply LenIs.cons))), by decide +kernel, rfl⟩, rfl, rfl⟩ rfl ⟨by rw [List.map_append, ← p8, e5]; rfl, by rw [List.length_append, List.length_singleton]; omega⟩ rfl (NewIn.rw (by exact memA) NewIn.nil)
end Go.Proofs.YtpekkcahehhkmaaGreatDoor
/- The library's Split and Atoi in this walk's words; contracts that lean on what the variables hold and bring new slices. -/
set_option linter.unusedVariables false
set_option maxHeartbeats 4000000
namespace Go.Proofs.YtpekkcahehhkmaaGreatDoor
open Go.RowKit

/-- As ContX, under a fact on the world that stays. -/
def ContXI (P : Program) (C : World → Prop) (f : FuncId) (args : List Value) {ι : Type} (post : ι → Prop) (v : ι → Value) (Hn : ι → List Hl) : Prop :=
  ∀ w, C w → Calls P f args.toArray w (RetX post v Hn w)
section
variable {P : Program} {C : World → Prop} {n : Nat} {L : FL} {w0 : World} {H : List Hl} {Q : Exit → Act → World → Prop} {ops : Array Oper} {rest : List Oper} {d : Option Tmp} {dd : Nat} {ty : TypeId} {pos : String} {af : Array Edge} {gd g : Option (Nat × Bool)} {x : Operand} {t t' : TypeId} {ι : Type} {te : TypeId} {p : Value}
theorem x_callI {f : FuncId} {xs : List Operand} {vs : List Value} {tys : Array TypeId} {post : ι → Prop} {v : ι → Value} {Hn : ι → List Hl} (hc : ContXI P C f vs post v Hn) (ha : AE L xs vs) (hC : ∀ w, St w0 H w → C w) (hg : isGo P f = true) (hd : Nat.blt dd n = true) :
    EX P n L w0 H ⟨some dd, .call { callee := .value (.func f), args := xs.toArray, argTypes := tys }, ty, pos, af, gd⟩ post (fun z => (dd, v z) :: L) (fun z => Hn z ++ H) := fun a w hfr hw K Q hK => by
  unfold Oper.wp
  rw [run_call hfr ha hg]
  refine (hc w (hC w hw)).mono ?_
  rintro e w' ⟨z, hz, rfl, hb, hn⟩
  exact hK _ _ ⟨z, hz, hfr.put (by simpa [Nat.blt_eq] using hd), hw.news hb hn⟩
theorem RS.callI {f : FuncId} {xs : List Operand} {vs : List Value} {tys : Array TypeId} {post : ι → Prop} {v : ι → Value} {Hn : ι → List Hl} (hc : ContXI P C f vs post v Hn) (ha : AE L xs vs) (hC : ∀ w, St w0 H w → C w) (h : ∀ z, post z → RS P ops Q n ((dd, v z) :: L) w0 (Hn z ++ H) rest) (hg : isGo P f = true := by decide +kernel) (hd : Nat.blt dd n = true := by rfl) :
    RS P ops Q n L w0 H (⟨some dd, .call { callee := .value (.func f), args := xs.toArray, argTypes := tys }, ty, pos, af, none⟩ :: rest) := RS.actX rfl (x_callI hc ha hC hg hd) h
theorem y_neNil0 (hx : evO L x = some .nilIface) (h : P.isIface t = true) : V P n L w0 H ⟨d, .binOp .neq t x (.const .nilIface) t', ty, pos, af, g⟩ (.bool false) := by
  unfold V
  intro a w ha hw
  have hy : a.eval (.const .nilIface) = .nilIface := ha.eval (show evO L (.const .nilIface) = some .nilIface from rfl)
  simp [execOp, ha.eval hx, hy, run_neq_nil_nil_at _ _ h, eqGuard_nil_constR]
theorem y_neNil1 (hx : evO L x = some (.iface te p)) (h : P.isIface t = true) : V P n L w0 H ⟨d, .binOp .neq t x (.const .nilIface) t', ty, pos, af, g⟩ (.bool true) := by
  unfold V
  intro a w ha hw
  have hy : a.eval (.const .nilIface) = .nilIface := ha.eval (show evO L (.const .nilIface) = some .nilIface from rfl)
  simp [execOp, ha.eval hx, hy, run_neq_iface_nil _ _ h, eqGuard_at_iface]
end
abbrev cS (l : List UInt8) : List Value := [strV l]
theorem split_c (l sep : List UInt8) (hl : l.length < 4294967281) (h1 : 1 ≤ sep.length) : ContXI Tryz.prog Laid 25 [strV l, strV sep] (fun _ : Sl => True) (fun z => z.v) (fun z => [Hl.nw z.v cS 1 (Lib.split l sep)]) := fun w hI => by
  obtain ⟨m, hm⟩ := hI.max
  refine (Tryz.strings_Split ⟨l.toArray⟩ ⟨sep.toArray⟩ m w (by rw [size_str]; exact hl) hm (by rw [size_str]; exact h1)).mono fun e w' ⟨he, hw⟩ => ?_
  subst hw
  obtain ⟨k, hk⟩ : ∃ k, Lib.countB ⟨l.toArray⟩ ⟨sep.toArray⟩ = k := ⟨_, rfl⟩
  have hd := Lib.splitB_data ⟨sep.toArray⟩ 0 k ⟨l.toArray⟩
  have hs : Lib.split l sep = (Lib.splitB ⟨sep.toArray⟩ 0 k ⟨l.toArray⟩).map (·.data.toList) := by rw [hd, ← hk]; rfl
  have hlen : (Lib.splitB ⟨sep.toArray⟩ 0 k ⟨l.toArray⟩).length = k + 1 := Lib.splitB_all _ (by rw [size_str]; exact h1) 0 k _ hk
  rw [hk] at he ⊢
  have hkb : k ≤ l.length + 1 := by rw [← hk]; exact Lib.count_le l sep
  have hf : (Lib.splitB ⟨sep.toArray⟩ 0 k ⟨l.toArray⟩).map Value.string = (Lib.split l sep).flatMap cS := by
    rw [hs, List.flatMap_map]
    induction Lib.splitB ⟨sep.toArray⟩ 0 k ⟨l.toArray⟩ with
    | nil => rfl
    | cons b r ih => simp [ih]
  have hsl : (Lib.split l sep).length = k + 1 := by rw [hs, List.length_map, hlen]
  have own := World.ownsRow_lit (base := w.heap.size) (e := 9) (size := 1) w ((Lib.splitB ⟨sep.toArray⟩ 0 k ⟨l.toArray⟩).map Value.string).toArray (k + 1) (Nat.le_refl _) (by unfold maxLen; omega) (by simp [hlen])
  refine ⟨⟨some ⟨w.heap.size, 0, none⟩, k + 1, k + 1⟩, trivial, he, (Below.refl w.heap.size w).alloc (Nat.le_refl _) _, fun x hx => ?_⟩
  rcases List.mem_singleton.1 hx with rfl
  refine ⟨⟨?_, fun _ _ b hb => ?_⟩, rfl⟩
  · have := RO.of_row own
    rw [hsl]
    simpa [hf] using this
  · simp [Value.ownBlock] at hb; omega
theorem atoi_ok_c {l : List UInt8} {v : Int} (hl : l.length ≤ 1000000) (h : Lib.atoiAll l = .ok v) : Cont Tryz.prog 125 [strV l] (.tuple [.int .i64 v, .nilIface].toArray) := fun w => by
  refine (Tryz.strconv_Atoi_ok ⟨l.toArray⟩ (by rw [size_str]; omega) v (by simpa using h) w).mono fun e w' ⟨he, hw⟩ => ⟨he, ?_⟩
  rcases hw with rfl | ⟨t, rfl⟩
  · exact Below.refl _ _
  · exact Lib.bytesWorld_below w 5 t
theorem atoi_no_c {l : List UInt8} (hl : l.length ≤ 1000000) (h : ∀ v, Lib.atoiAll l ≠ .ok v) : ContXI Tryz.prog Laid 125 [strV l] (fun _ : Int × Nat => True) (fun z => .tuple [.int .i64 z.1, .iface 175 (.pointer (some ⟨z.2, 0, none⟩))].toArray) (fun _ => []) := fun w hI => by
  have hn : ∀ w', New w w' [] := fun w' x hx => by cases hx
  cases hc : Lib.atoiAll l with
  | ok v => exact absurd hc (h v)
  | range =>
    obtain ⟨tp, p, hv⟩ := hI.rng
    refine (Tryz.strconv_Atoi_range_var ⟨l.toArray⟩ (by rw [size_str]; omega) (by simpa using hc) tp p w hv).mono fun e w' ⟨N, he, _, _, hb⟩ => ⟨(Lib.atoiSat l, N), trivial, by simpa using he, hb, hn w'⟩
  | _ =>
    have n1 : ∀ v, Lib.atoiAll l ≠ .ok v := fun v g => by rw [hc] at g; cases g
    have n2 : Lib.atoiAll l ≠ .range := fun g => by rw [hc] at g; cases g
    obtain ⟨tp, p, hv⟩ := hI.syn
    refine (Tryz.strconv_Atoi_syntax_var ⟨l.toArray⟩ (by rw [size_str]; omega) (fun v g => n1 v (by simpa using g)) (fun g => n2 (by simpa using g)) tp p w hv).mono fun e w' ⟨N, he, _, _, hb⟩ => ⟨(0, N), trivial, he, hb, hn w'⟩
/-- An error of Atoi's: nil, or a *NumError in a block. -/
def errV : Option Nat → Value
  | none => .nilIface
  | some N => .iface 175 (.pointer (some ⟨N, 0, none⟩))
theorem y_neErr {n : Nat} {L : FL} {w0 : World} {H : List Hl} {d : Option Tmp} {ty : TypeId} {pos : String} {af : Array Edge} {g : Option (Nat × Bool)} {x : Operand} {t' : TypeId} {o : Option Nat} (hx : evO L x = some (errV o)) : V Tryz.prog n L w0 H ⟨d, .binOp .neq 63 x (.const .nilIface) t', ty, pos, af, g⟩ (.bool o.isSome) := by
  cases o with
  | none => exact y_neNil0 hx (by kernel_rfl)
  | some N => exact y_neNil1 hx (by kernel_rfl)
theorem atoi_bd {l : List UInt8} {v : Int} (h : Lib.atoiAll l = .ok v) : -9223372036854775808 ≤ v ∧ v ≤ 9223372036854775807 := by
  unfold Lib.atoiAll at h
  split at h
  · cases h
  · dsimp only at h
    split at h
    · cases h
    · cases h
    · split at h
      · cases h
      · split at h
        · cases h
        · cases h
          split <;> omega
def atoiP (l : List UInt8) (z : Option Nat × Int) : Prop := (-9223372036854775808 ≤ z.2 ∧ z.2 ≤ 9223372036854775807) ∧ match z.1 with
  | none => Lib.atoiAll l = .ok z.2
  | some _ => ∀ v, Lib.atoiAll l ≠ .ok v
theorem atoi_c {l : List UInt8} (hl : l.length ≤ 1000000) : ContXI Tryz.prog Laid 125 [strV l] (atoiP l) (fun z => .tuple [.int .i64 z.2, errV z.1].toArray) (fun _ => []) := fun w hI => by
  have hn : ∀ w', New w w' [] := fun w' x hx => by cases hx
  cases hc : Lib.atoiAll l with
  | ok v => exact (atoi_ok_c hl hc w).mono fun e w' ⟨he, hb⟩ => ⟨(none, v), ⟨atoi_bd hc, hc⟩, he, hb, hn w'⟩
  | range =>
    obtain ⟨tp, p, hv⟩ := hI.rng
    refine (Tryz.strconv_Atoi_range_var ⟨l.toArray⟩ (by rw [size_str]; omega) (by simpa using hc) tp p w hv).mono fun e w' ⟨N, he, _, _, hb⟩ => ⟨(some N, Lib.atoiSat l), ⟨by unfold Lib.atoiSat; dsimp only; split <;> omega, fun v hv => ?_⟩, he, hb, hn w'⟩
    rw [hc] at hv; cases hv
  | _ =>
    have n1 : ∀ v, Lib.atoiAll l ≠ .ok v := fun v g => by rw [hc] at g; cases g
    have n2 : Lib.atoiAll l ≠ .range := fun g => by rw [hc] at g; cases g
    obtain ⟨tp, p, hv⟩ := hI.syn
    refine (Tryz.strconv_Atoi_syntax_var ⟨l.toArray⟩ (by rw [size_str]; omega) (fun v g => n1 v (by simpa using g)) (fun g => n2 (by simpa using g)) tp p w hv).mono fun e w' ⟨N, he, _, _, hb⟩ => ⟨(some N, 0), ⟨(by dsimp only; omega), fun v hv => ?_⟩, he, hb, hn w'⟩
    rw [hc] at hv; cases hv
end Go.Proofs.YtpekkcahehhkmaaGreatDoor
/- The reader of pages: next, is, skip, end, number, angle. -/
set_option linter.unusedVariables false
set_option maxHeartbeats 4000000
namespace Go.Proofs.YtpekkcahehhkmaaGreatDoor
open Go.RowKit


abbrev ptr (b : Nat) : Value := .pointer (some ⟨b, 0, none⟩)
abbrev rdB (b : Nat) (v : Value) (i : Nat) : Hl := Hl.blk b 95 [v, .int .i64 (i : Int)]
abbrev tkR (v : Value) (l : List TokT) : Hl := Hl.rd v cTk 4 l
abbrev rdX (b : Nat) (v : Value) (l : List TokT) (i : Nat) : List Hl := [rdB b v i, tkR v l]
/-- What is still to be read. -/
def sfx (l : List TokT) (i : Nat) : List TkE := (l.map ke).drop i
theorem sfx_cons {l : List TokT} {i : Nat} {x : TkE} {r : List TkE} (h : sfx l i = x :: r) : i < l.length ∧ (nth l (i : Int)).1 = x.1 ∧ (nth l (i : Int)).2.1 = x.2 ∧ sfx l (i + 1) = r := by
  unfold sfx at *
  have hi : i < l.length := by
    rcases Nat.lt_or_ge i l.length with hi | hi
    · exact hi
    · rw [List.drop_eq_nil_of_le (by simpa using hi)] at h; cases h
  have e := nth_some (l := l) (m := (i : Int)) (by omega) (by omega)
  rw [Int.toNat_natCast, List.getElem?_eq_getElem hi] at e
  have e2 := Option.some.inj e
  rw [List.drop_eq_getElem_cons (by simpa using hi), List.getElem_map, e2] at h
  injection h with h1 h2
  exact ⟨hi, congrArg Prod.fst h1, congrArg Prod.snd h1, h2⟩
theorem next_inv {k : Int} {t s : List UInt8} {E r : List TkE} (h : nextP k t E = some (s, r)) : ∃ r', E = (k, s) :: r' ∧ (t = [] ∨ s = t) ∧ r = if k = 5 then E else r' := by
  cases E with
  | nil => cases h
  | cons x r' =>
    rw [nextP_cons] at h
    split at h
    · rename_i g
      simp only [Option.some.injEq, Prod.mk.injEq] at h
      obtain ⟨h1, h2⟩ := h
      subst h1
      refine ⟨r', by rw [← g.1], g.2, ?_⟩
      rw [← h2]
    · cases h
theorem next_c {b i : Nat} {v : Value} {l : List TokT} {k : Int} {t s : List UInt8} {r : List TkE} (hl : l.length ≤ 1000000) (h : nextP k t (sfx l i) = some (s, r)) :
    ContL Tryz.prog (fun _ => True) (rdX b v l i) 85 [ptr b, .int .i64 k, strV t] (fun z : Nat => sfx l z = r ∧ z ≤ l.length) (fun _ => strV s) (fun z => rdX b v l z) := fun w0 HR w _ hw => by
  obtain ⟨r', e, ht, er⟩ := next_inv h
  obtain ⟨hi, e1, e2, e3⟩ := sfx_cons e
  dsimp only at e1 e2
  refine enterU Tryz.func85 rfl rfl rfl hw ?_
  dsimp only [List.cons_append, List.nil_append]
  have hx : (if k = 5 then sfx l i else r') = r := er.symm
  rcases ht with rfl | rfl
  · by_cases hk : k = 5
    · rw [if_pos hk] at hx
      repeat' (first
    | (show YK _ _ _ _ _ ⟨_, .call { callee := .builtin .len, args := _, argTypes := #[9] }, _, _, _, _⟩ _; refine YK.ofV (y_lenS (by rfl) StrTy.is) ?_)
    | (show VK _ _ _ _ _ ⟨_, .call { callee := .builtin .len, args := _, argTypes := #[9] }, _, _, _, _⟩ _; refine VK.mk (y_lenS (by rfl) StrTy.is) ?_)
    | (show YG _ _ _ _ _ _ ⟨_, .call { callee := .builtin .len, args := _, argTypes := #[9] }, _, _, _, _⟩ _; refine YG.mk (fun hb => by (try (have hc := And.left hb; have hb := And.right hb; rw [hc])); (try rw [hb]); exact V.y (y_lenS (by rfl) StrTy.is)) ?_)
    | (show VG _ _ _ _ _ _ ⟨_, .call { callee := .builtin .len, args := _, argTypes := #[9] }, _, _, _, _⟩ _; refine VG.mk (fun hb => by (try (have hc := And.left hb; have hb := And.right hb; rw [hc])); (try rw [hb]); exact y_lenS (by rfl) StrTy.is) ?_)
    | (refine nxN ?_)
    | (refine nxV ?_)
    | (show RS _ _ _ _ _ _ _ _; first | (refine nxRS ?_) | (refine nxRS1 fun _ => ?_))
    | (show RM _ _ _ _ _ _ _ _ _ _; first | (refine nxRM ?_) | (refine nxRM1 fun _ => ?_))
    | (refine nxG ?_)
    | (refine nxVS ?_)
    | (refine nxGS ?_)
    | (refine G.mixedA 1 [.go 0, .go 1, .go 2, .go 3, .go 4, .go 5, .go 6, .go 7, .go 8, .go 9, .go 10, .go 11] ?_)
    | (refine nxX ?_)
    | (refine G.condN rfl (fun hc => ?_) (fun hc => ?_) <;> (try first | exact False.elim hc | (exfalso; omega))))
      exact X.ret (vs := [_]) rfl ⟨rfl, rfl⟩ rfl (fun w hw => ⟨i, ⟨hx, by omega⟩, by rw [e2], hw.sub (List.sublist_cons_self _ _)⟩)
    · rw [if_neg hk] at hx
      repeat' (first
    | (show YK _ _ _ _ _ ⟨_, .call { callee := .builtin .len, args := _, argTypes := #[9] }, _, _, _, _⟩ _; refine YK.ofV (y_lenS (by rfl) StrTy.is) ?_)
    | (show VK _ _ _ _ _ ⟨_, .call { callee := .builtin .len, args := _, argTypes := #[9] }, _, _, _, _⟩ _; refine VK.mk (y_lenS (by rfl) StrTy.is) ?_)
    | (show YG _ _ _ _ _ _ ⟨_, .call { callee := .builtin .len, args := _, argTypes := #[9] }, _, _, _, _⟩ _; refine YG.mk (fun hb => by (try (have hc := And.left hb; have hb := And.right hb; rw [hc])); (try rw [hb]); exact V.y (y_lenS (by rfl) StrTy.is)) ?_)
    | (show VG _ _ _ _ _ _ ⟨_, .call { callee := .builtin .len, args := _, argTypes := #[9] }, _, _, _, _⟩ _; refine VG.mk (fun hb => by (try (have hc := And.left hb; have hb := And.right hb; rw [hc])); (try rw [hb]); exact y_lenS (by rfl) StrTy.is) ?_)
    | (refine nxN ?_)
    | (refine nxV ?_)
    | (show RS _ _ _ _ _ _ _ _; first | (refine nxRS ?_) | (refine nxRS1 fun _ => ?_))
    | (show RM _ _ _ _ _ _ _ _ _ _; first | (refine nxRM ?_) | (refine nxRM1 fun _ => ?_))
    | (refine nxG ?_)
    | (refine nxVS ?_)
    | (refine nxGS ?_)
    | (refine G.mixedA 1 [.go 0, .go 1, .go 2, .go 3, .go 4, .go 5, .go 6, .go 7, .go 8, .go 9, .go 10, .go 11] ?_)
    | (refine nxX ?_)
    | (refine G.condN rfl (fun hc => ?_) (fun hc => ?_) <;> (try first | exact False.elim hc | (exfalso; omega))))
      exact X.ret (vs := [_]) rfl ⟨rfl, rfl⟩ rfl (fun w hw => ⟨i + 1, ⟨by rw [← hx]; exact e3, by omega⟩, by rw [e2], hw.sub (List.sublist_cons_self _ _)⟩)
  · by_cases hk : k = 5
    · rw [if_pos hk] at hx
      repeat' (first
    | (show YK _ _ _ _ _ ⟨_, .call { callee := .builtin .len, args := _, argTypes := #[9] }, _, _, _, _⟩ _; refine YK.ofV (y_lenS (by rfl) StrTy.is) ?_)
    | (show VK _ _ _ _ _ ⟨_, .call { callee := .builtin .len, args := _, argTypes := #[9] }, _, _, _, _⟩ _; refine VK.mk (y_lenS (by rfl) StrTy.is) ?_)
    | (show YG _ _ _ _ _ _ ⟨_, .call { callee := .builtin .len, args := _, argTypes := #[9] }, _, _, _, _⟩ _; refine YG.mk (fun hb => by (try (have hc := And.left hb; have hb := And.right hb; rw [hc])); (try rw [hb]); exact V.y (y_lenS (by rfl) StrTy.is)) ?_)
    | (show VG _ _ _ _ _ _ ⟨_, .call { callee := .builtin .len, args := _, argTypes := #[9] }, _, _, _, _⟩ _; refine VG.mk (fun hb => by (try (have hc := And.left hb; have hb := And.right hb; rw [hc])); (try rw [hb]); exact y_lenS (by rfl) StrTy.is) ?_)
    | (refine nxN ?_)
    | (refine nxV ?_)
    | (show RS _ _ _ _ _ _ _ _; first | (refine nxRS ?_) | (refine nxRS1 fun _ => ?_))
    | (show RM _ _ _ _ _ _ _ _ _ _; first | (refine nxRM ?_) | (refine nxRM1 fun _ => ?_))
    | (refine nxG ?_)
    | (refine nxVS ?_)
    | (refine nxGS ?_)
    | (refine G.mixedA 1 [.go 0, .go 1, .go 2, .go 3, .go 4, .go 5, .go 6, .go 7, .go 8, .go 9, .go 10, .go 11] ?_)
    | (refine nxX ?_)
    | (refine G.condN rfl (fun hc => ?_) (fun hc => ?_) <;> (try first | exact False.elim hc | (exfalso; omega))))
      all_goals first | exact False.elim (hc.elim (fun g => g e1) (fun g => g.2 e2)) | exact X.ret (vs := [_]) rfl ⟨rfl, rfl⟩ rfl (fun w hw => ⟨i, ⟨hx, by omega⟩, by rw [e2], hw.sub (List.sublist_cons_self _ _)⟩)
    · rw [if_neg hk] at hx
      repeat' (first
    | (show YK _ _ _ _ _ ⟨_, .call { callee := .builtin .len, args := _, argTypes := #[9] }, _, _, _, _⟩ _; refine YK.ofV (y_lenS (by rfl) StrTy.is) ?_)
    | (show VK _ _ _ _ _ ⟨_, .call { callee := .builtin .len, args := _, argTypes := #[9] }, _, _, _, _⟩ _; refine VK.mk (y_lenS (by rfl) StrTy.is) ?_)
    | (show YG _ _ _ _ _ _ ⟨_, .call { callee := .builtin .len, args := _, argTypes := #[9] }, _, _, _, _⟩ _; refine YG.mk (fun hb => by (try (have hc := And.left hb; have hb := And.right hb; rw [hc])); (try rw [hb]); exact V.y (y_lenS (by rfl) StrTy.is)) ?_)
    | (show VG _ _ _ _ _ _ ⟨_, .call { callee := .builtin .len, args := _, argTypes := #[9] }, _, _, _, _⟩ _; refine VG.mk (fun hb => by (try (have hc := And.left hb; have hb := And.right hb; rw [hc])); (try rw [hb]); exact y_lenS (by rfl) StrTy.is) ?_)
    | (refine nxN ?_)
    | (refine nxV ?_)
    | (show RS _ _ _ _ _ _ _ _; first | (refine nxRS ?_) | (refine nxRS1 fun _ => ?_))
    | (show RM _ _ _ _ _ _ _ _ _ _; first | (refine nxRM ?_) | (refine nxRM1 fun _ => ?_))
    | (refine nxG ?_)
    | (refine nxVS ?_)
    | (refine nxGS ?_)
    | (refine G.mixedA 1 [.go 0, .go 1, .go 2, .go 3, .go 4, .go 5, .go 6, .go 7, .go 8, .go 9, .go 10, .go 11] ?_)
    | (refine nxX ?_)
    | (refine G.condN rfl (fun hc => ?_) (fun hc => ?_) <;> (try first | exact False.elim hc | (exfalso; omega))))
      all_goals first | exact False.elim (hc.elim (fun g => g e1) (fun g => g.2 e2)) | exact X.ret (vs := [_]) rfl ⟨rfl, rfl⟩ rfl (fun w hw => ⟨i + 1, ⟨by rw [← hx]; exact e3, by omega⟩, by rw [e2], hw.sub (List.sublist_cons_self _ _)⟩)
theorem is_c {b i : Nat} {v : Value} {l : List TokT} {t : List UInt8} {x : TkE} {r : List TkE} (hl : l.length ≤ 1000000) (h : sfx l i = x :: r) :
    ContL Tryz.prog (fun _ => True) (rdX b v l i) 88 [ptr b, strV t] (fun _ : Unit => True) (fun _ => .bool (decide (x.1 = 1) && decide (x.2 = t))) (fun _ => rdX b v l i) := fun w0 HR w _ hw => by
  obtain ⟨hi, e1, e2, e3⟩ := sfx_cons h
  refine enterU Tryz.func88 rfl rfl rfl hw ?_
  dsimp only [List.cons_append, List.nil_append]
  rw [← e1, ← e2]
  repeat' (first
    | (show YK _ _ _ _ _ ⟨_, .call { callee := .builtin .len, args := _, argTypes := #[9] }, _, _, _, _⟩ _; refine YK.ofV (y_lenS (by rfl) StrTy.is) ?_)
    | (show VK _ _ _ _ _ ⟨_, .call { callee := .builtin .len, args := _, argTypes := #[9] }, _, _, _, _⟩ _; refine VK.mk (y_lenS (by rfl) StrTy.is) ?_)
    | (show YG _ _ _ _ _ _ ⟨_, .call { callee := .builtin .len, args := _, argTypes := #[9] }, _, _, _, _⟩ _; refine YG.mk (fun hb => by (try (have hc := And.left hb; have hb := And.right hb; rw [hc])); (try rw [hb]); exact V.y (y_lenS (by rfl) StrTy.is)) ?_)
    | (show VG _ _ _ _ _ _ ⟨_, .call { callee := .builtin .len, args := _, argTypes := #[9] }, _, _, _, _⟩ _; refine VG.mk (fun hb => by (try (have hc := And.left hb; have hb := And.right hb; rw [hc])); (try rw [hb]); exact y_lenS (by rfl) StrTy.is) ?_)
    | (refine nxN ?_)
    | (refine nxV ?_)
    | (show RS _ _ _ _ _ _ _ _; first | (refine nxRS ?_) | (refine nxRS1 fun _ => ?_))
    | (show RM _ _ _ _ _ _ _ _ _ _; first | (refine nxRM ?_) | (refine nxRM1 fun _ => ?_))
    | (refine nxG ?_)
    | (refine nxVS ?_)
    | (refine nxGS ?_)
    | (refine G.mixedA 1 [.go 0, .go 1, .go 2, .go 3, .go 4, .go 5, .go 6, .go 7, .go 8, .go 9, .go 10, .go 11, .go 12, .go 13, .go 14, .go 15, .go 16, .go 17, .go 18, .go 19, .go 20, .go 21, .go 22, .go 23, .go 24, .go 25, .go 26, .go 27] ?_)
    | (refine nxX ?_)
    | (refine G.condN rfl (fun hc => ?_) (fun hc => ?_) <;> (try first | exact False.elim hc | (exfalso; omega))))
  exact X.ret (vs := [_]) rfl ⟨rfl, rfl⟩ rfl (fun w hw => ⟨(), trivial, rfl, hw⟩)
theorem skip_c {b i : Nat} {v : Value} {l : List TokT} {x : TkE} {r : List TkE} (hl : l.length ≤ 1000000) (h : skipP (sfx l i) = x :: r) (hi0 : i ≤ l.length) :
    ContL Tryz.prog (fun _ => True) (rdX b v l i) 84 [ptr b] (fun z : Nat => sfx l z = x :: r ∧ z ≤ l.length) (fun _ => .tuple #[]) (fun z => rdX b v l z) := fun w0 HR w _ hw => by
  refine enterU Tryz.func84 rfl rfl rfl hw ?_
  dsimp only [List.cons_append, List.nil_append]
  repeat' (first
    | (refine nxN ?_)
    | (refine nxV ?_)
    | (show RS _ _ _ _ _ _ _ _; first | (refine nxRS ?_) | (refine nxRS1 fun _ => ?_))
    | (show RM _ _ _ _ _ _ _ _ _ _; first | (refine nxRM ?_) | (refine nxRM1 fun _ => ?_))
    | (refine nxG ?_)
    | (refine G.mixedA 0 [.go 0, .go 1, .go 2, .go 3, .go 4, .go 5, .go 6, .go 7, .go 8, .go 9, .go 10, .go 11] ?_)
    | (refine nxX ?_)
    | (refine G.condN rfl (fun hc => ?_) (fun hc => ?_) <;> (try first | exact False.elim hc | (exfalso; omega))))
  refine G.loop (ι := Nat) (fun _ => [(0, ptr b)]) (fun i => rdB b v i :: tkR v l :: HR) (fun i => skipP (sfx l i) = x :: r ∧ i ≤ l.length) (fun i => l.length - i) i ⟨h, hi0⟩ ⟨rfl, trivial⟩ (fun w h => h) ?_
  rintro i mx ⟨g1, g2⟩ hmx
  cases hs : sfx l i with
  | nil => rw [hs] at g1; cases g1
  | cons y q =>
    obtain ⟨hi, e1, e2, e3⟩ := sfx_cons hs
    rw [hs, skipP_cons] at g1
    by_cases hy : y.1 = 4
    · rw [if_pos hy, ← e3] at g1
      repeat' (first
    | (refine nxN ?_)
    | (refine nxV ?_)
    | (show RS _ _ _ _ _ _ _ _; first | (refine nxRS ?_) | (refine nxRS1 fun _ => ?_))
    | (show RM _ _ _ _ _ _ _ _ _ _; first | (refine nxRM ?_) | (refine nxRM1 fun _ => ?_))
    | (refine nxG ?_)
    | (refine G.mixedA 0 [.go 0, .go 1, .go 2, .go 3, .go 4, .go 5, .go 6, .go 7, .go 8, .go 9, .go 10, .go 11] ?_)
    | (refine nxX ?_)
    | (refine G.condN rfl (fun hc => ?_) (fun hc => ?_) <;> (try first | exact False.elim hc | (exfalso; omega))))
      exact X.again (i + 1) ⟨g1, by omega⟩ (by omega) ⟨rfl, trivial⟩ (fun w h => h)
    · rw [if_neg hy, ← hs] at g1
      repeat' (first
    | (refine nxN ?_)
    | (refine nxV ?_)
    | (show RS _ _ _ _ _ _ _ _; first | (refine nxRS ?_) | (refine nxRS1 fun _ => ?_))
    | (show RM _ _ _ _ _ _ _ _ _ _; first | (refine nxRM ?_) | (refine nxRM1 fun _ => ?_))
    | (refine nxG ?_)
    | (refine G.mixedA 0 [.go 0, .go 1, .go 2, .go 3, .go 4, .go 5, .go 6, .go 7, .go 8, .go 9, .go 10, .go 11] ?_)
    | (refine nxX ?_)
    | (refine G.condN rfl (fun hc => ?_) (fun hc => ?_) <;> (try first | exact False.elim hc | (exfalso; omega))))
      exact X.endN rfl (fun w hw => ⟨i, ⟨g1, g2⟩, rfl, hw⟩)
theorem end_c {b i : Nat} {v : Value} {l : List TokT} {r : List TkE} (hl : l.length ≤ 1000000) (h : endP (sfx l i) = some r) :
    ContL Tryz.prog (fun _ => True) (rdX b v l i) 87 [ptr b] (fun z : Nat => sfx l z = r ∧ z ≤ l.length) (fun _ => .tuple #[]) (fun z => rdX b v l z) := fun w0 HR w _ hw => by
  cases hs : sfx l i with
  | nil => rw [hs] at h; cases h
  | cons y q =>
    obtain ⟨hi, e1, e2, e3⟩ := sfx_cons hs
    rw [hs] at h
    have h' : (if y.1 = 5 then some (y :: q) else if y.1 = 4 then some q else none) = some r := h
    refine enterU Tryz.func87 rfl rfl rfl hw ?_
    dsimp only [List.cons_append, List.nil_append]
    by_cases h5 : y.1 = 5
    · rw [if_pos h5] at h'
      repeat' (first
    | (refine nxN ?_)
    | (refine nxV ?_)
    | (show RS _ _ _ _ _ _ _ _; first | (refine nxRS ?_) | (refine nxRS1 fun _ => ?_))
    | (show RM _ _ _ _ _ _ _ _ _ _; first | (refine nxRM ?_) | (refine nxRM1 fun _ => ?_))
    | (refine nxG ?_)
    | (refine G.mixedA 0 [.go 0, .go 1, .go 2, .go 3, .go 4, .go 5, .go 6, .go 7, .go 8, .go 9, .go 10, .go 11] ?_)
    | (refine nxX ?_)
    | (refine G.condN rfl (fun hc => ?_) (fun hc => ?_) <;> (try first | exact False.elim hc | (exfalso; omega))))
      exact X.endN rfl (fun w hw => ⟨i, ⟨by rw [hs]; exact Option.some.inj h', by omega⟩, rfl, hw⟩)
    · rw [if_neg h5] at h'
      by_cases h4 : y.1 = 4
      · rw [if_pos h4] at h'
        have qn := next_c (b := b) (v := v) (k := 4) (t := []) (s := y.2) (r := q) hl (i := i) (by rw [hs, ← h4]; exact next_eq (by omega) (.inl rfl))
        repeat' (first
    | (refine nxN ?_)
    | (refine RS.callL qn trivial ?_; rintro z ⟨hz, hz2⟩; dsimp only [List.cons_append, List.nil_append])
    | (refine nxV ?_)
    | (show RS _ _ _ _ _ _ _ _; first | (refine nxRS ?_) | (refine nxRS1 fun _ => ?_))
    | (show RM _ _ _ _ _ _ _ _ _ _; first | (refine nxRM ?_) | (refine nxRM1 fun _ => ?_))
    | (refine nxG ?_)
    | (refine G.mixedA 0 [.go 0, .go 1, .go 2, .go 3, .go 4, .go 5, .go 6, .go 7, .go 8, .go 9, .go 10, .go 11] ?_)
    | (refine nxX ?_)
    | (refine G.condN rfl (fun hc => ?_) (fun hc => ?_) <;> (try first | exact False.elim hc | (exfalso; omega))))
        exact X.endN rfl (fun w hw => ⟨z, ⟨by rw [hz]; exact Option.some.inj h', hz2⟩, rfl, hw⟩)
      · rw [if_neg h4] at h'; cases h'
end Go.Proofs.YtpekkcahehhkmaaGreatDoor
/- The reader of pages: number, angle. -/
set_option linter.unusedVariables false
set_option maxHeartbeats 4000000
namespace Go.Proofs.YtpekkcahehhkmaaGreatDoor
open Go.RowKit

theorem num_inv {wh pa : Nat} {E r : List TkE} {n : Int} (h : numP wh pa E = some (n, r)) : ∃ s, E = (2, s) :: r ∧ numV wh pa s = some n := by
  cases E with
  | nil => cases h
  | cons x q =>
    rw [numP_cons] at h
    split at h
    · rename_i g
      cases hv : numV wh pa x.2 with
      | none => rw [hv] at h; cases h
      | some m =>
        rw [hv] at h
        simp only [Option.some.injEq, Prod.mk.injEq] at h
        obtain ⟨rfl, rfl⟩ := h
        exact ⟨x.2, by rw [← g], hv⟩
    · cases h
structure NumOk (wh pa : Nat) (s a b : List UInt8) (p : Bool) (n : Int) : Prop where
  cut : Lib.cut s [46] = (a, b, p)
  pt : p = decide (0 < pa)
  blen : b.length = pa
  apos : 0 < a.length
  slen : s.length ≤ 20
  form : if 0 < wh then a.length = wh else a.length ≤ 6 ∧ (a.length = 1 ∨ ¬ nth a 0 = 48)
  val : Lib.atoiAll (a ++ b) = .ok n
  bd : 0 ≤ n ∧ n ≤ 99999999
theorem numV_inv {wh pa : Nat} {s : List UInt8} {n : Int} (h : numV wh pa s = some n) : ∃ a b p, NumOk wh pa s a b p n := by
  unfold numV at h
  by_cases g : numC wh pa s
  · rw [if_pos g] at h
    obtain ⟨g1, g2, g3, g4, g5⟩ := g
    cases hm : Lib.atoiAll ((Lib.cut s [46]).1 ++ (Lib.cut s [46]).2.1) with
    | ok m =>
      rw [hm] at h
      dsimp only at h
      by_cases hb : 0 ≤ m ∧ m ≤ 99999999
      · rw [if_pos hb] at h
        simp only [Option.some.injEq] at h
        subst h
        exact ⟨_, _, _, rfl, g1, g2, g3, g4, g5, hm, hb⟩
      · rw [if_neg hb] at h; cases h
    | _ => rw [hm] at h; cases h
  · rw [if_neg g] at h; cases h
theorem number_w {b i wh : Nat} {pa : Nat} {v : Value} {l : List TokT} {s a c : List UInt8} {p : Bool} {n : Int} {r : List TkE} (hl : l.length ≤ 1000000) (h : sfx l i = (2, s) :: r) (hw0 : 0 < wh ∧ wh ≤ 10) (hp0 : pa ≤ 10) (ho : NumOk wh pa s a c p n) :
    ContL Tryz.prog Laid (rdX b v l i) 86 [ptr b, .int .i64 wh, .int .i64 pa] (fun z : Nat => sfx l z = r ∧ z ≤ l.length) (fun _ => .tuple [.int .i64 n, strV s].toArray) (fun z => rdX b v l z) := fun w0 HR w hI hw => by
  obtain ⟨hi, e1, e2, e3⟩ := sfx_cons h
  have qn := next_c (b := b) (v := v) (k := 2) (t := []) (s := s) (r := r) hl (i := i) (by rw [h]; exact next_eq (by omega) (.inl rfl))
  obtain ⟨h1, h2, h3, h4, h5, h6, h7, h8⟩ := ho
  have h2' : p = decide (0 < (pa : Int)) := by rw [h2]; exact decide_eq_decide.2 (by omega)
  have qc := cut_c s [46] (by omega)
  rw [h1] at qc
  dsimp only at qc
  rw [if_pos hw0.1] at h6
  have qa := atoi_ok_c (l := a ++ c) (v := n) (by rw [List.length_append]; omega) h7
  refine enterU Tryz.func86 rfl rfl rfl hw ?_
  dsimp only [List.cons_append, List.nil_append]
  repeat' (first
    | (show YK _ _ _ _ _ ⟨_, .call { callee := .builtin .len, args := _, argTypes := #[9] }, _, _, _, _⟩ _; refine YK.ofV (y_lenS (by rfl) StrTy.is) ?_)
    | (show VK _ _ _ _ _ ⟨_, .call { callee := .builtin .len, args := _, argTypes := #[9] }, _, _, _, _⟩ _; refine VK.mk (y_lenS (by rfl) StrTy.is) ?_)
    | (show YG _ _ _ _ _ _ ⟨_, .call { callee := .builtin .len, args := _, argTypes := #[9] }, _, _, _, _⟩ _; refine YG.mk (fun hb => by (try (have hc := And.left hb; have hb := And.right hb; rw [hc])); (try rw [hb]); exact V.y (y_lenS (by rfl) StrTy.is)) ?_)
    | (show VG _ _ _ _ _ _ ⟨_, .call { callee := .builtin .len, args := _, argTypes := #[9] }, _, _, _, _⟩ _; refine VG.mk (fun hb => by (try (have hc := And.left hb; have hb := And.right hb; rw [hc])); (try rw [hb]); exact y_lenS (by rfl) StrTy.is) ?_)
    | (refine nxN ?_)
    | (show VK _ _ _ _ _ ⟨_, .load 52 (.tmp 25), _, _, _, _⟩ _; refine VK.mk (by apply y_loadElPart (k := 2); rfl; exact rdA; exact fun _ => rfl; exact omlA; rfl; decide +kernel; rfl; decide +kernel; infer_instance) ?_)
    | (refine RS.callL qn trivial ?_; rintro z ⟨hz, hz2⟩; dsimp only [List.cons_append, List.nil_append])
    | (show YK _ _ _ _ _ _ _; first | refine YK.mk (y_callIn (qc) (fun _ hw => hI.keep hw.ext) ⟨rfl, rfl, rfl⟩ (by decide +kernel)) ?_ | refine YK.mk (y_callA (qa) ⟨rfl, rfl⟩) ?_)
    | (show YK _ _ _ _ _ _ _; refine YK.ofV vAuto ?_)
    | (show VK _ _ _ _ _ _ _; refine VK.mk vAuto ?_)
    | (show RS _ _ _ _ _ _ _ _; first | (refine nxRS ?_) | (refine nxRS1 fun _ => ?_))
    | (show RM _ _ _ _ _ _ _ _ _ _; first | (refine nxRM ?_) | (refine nxRM1 fun _ => ?_))
    | (show YG _ _ _ _ _ _ _ _; refine YG.mk (fun hb => by (try (have hc := And.left hb; have hb := And.right hb; rw [hc])); (try rw [hb]); first | exact (y_callIn (qc) (fun _ hw => hI.keep hw.ext) ⟨rfl, rfl, rfl⟩ (by decide +kernel)) | exact (y_callA (qa) ⟨rfl, rfl⟩) | exact V.y vAuto) ?_)
    | (show VG _ _ _ _ _ _ _ _; refine VG.mk (fun hb => by (try (have hc := And.left hb; have hb := And.right hb; rw [hc])); (try rw [hb]); exact vAuto) ?_)
    | (refine nxVS ?_)
    | (refine nxGS ?_)
    | (refine G.mixedA 1 [.go 0, .go 1, .go 2, .go 3, .go 4, .go 5, .go 6, .go 7, .go 8, .go 9, .go 10, .go 11, .go 12] ?_)
    | (refine nxX ?_)
    | (refine G.condN rfl (fun hc => ?_) (fun hc => ?_) <;> (try first | exact False.elim hc | (exfalso; omega))))
  all_goals first
    | exact False.elim (by rw [← h2'] at hc; simp at hc; omega)
    | exact X.ret (vs := [_, _]) rfl ⟨rfl, rfl, rfl⟩ rfl (fun w hw => ⟨z, ⟨hz, hz2⟩, rfl, hw.sub (by repeat (first | exact List.Sublist.refl _ | apply List.Sublist.cons_cons | apply List.Sublist.cons))⟩)
theorem number_z {b i : Nat} {pa : Nat} {v : Value} {l : List TokT} {s a c : List UInt8} {p : Bool} {n : Int} {r : List TkE} (hl : l.length ≤ 1000000) (h : sfx l i = (2, s) :: r) (hp0 : pa ≤ 10) (ho : NumOk 0 pa s a c p n) :
    ContL Tryz.prog Laid (rdX b v l i) 86 [ptr b, .int .i64 0, .int .i64 pa] (fun z : Nat => sfx l z = r ∧ z ≤ l.length) (fun _ => .tuple [.int .i64 n, strV s].toArray) (fun z => rdX b v l z) := fun w0 HR w hI hw => by
  obtain ⟨hi, e1, e2, e3⟩ := sfx_cons h
  have qn := next_c (b := b) (v := v) (k := 2) (t := []) (s := s) (r := r) hl (i := i) (by rw [h]; exact next_eq (by omega) (.inl rfl))
  obtain ⟨h1, h2, h3, h4, h5, h6, h7, h8⟩ := ho
  have h2' : p = decide (0 < (pa : Int)) := by rw [h2]; exact decide_eq_decide.2 (by omega)
  have qc := cut_c s [46] (by omega)
  rw [h1] at qc
  dsimp only at qc
  rw [if_neg (by omega)] at h6
  have qa := atoi_ok_c (l := a ++ c) (v := n) (by rw [List.length_append]; omega) h7
  have h9 : a.length = 1 ∨ ¬ ((nth a 0).toNat : Int) = 48 := h6.2.imp id fun g e => g (UInt8.toNat_inj.1 (by rw [show (48 : UInt8).toNat = 48 from rfl]; omega))
  have h10 := h6.1
  refine enterU Tryz.func86 rfl rfl rfl hw ?_
  dsimp only [List.cons_append, List.nil_append]
  repeat' (first
    | (show YK _ _ _ _ _ ⟨_, .call { callee := .builtin .len, args := _, argTypes := #[9] }, _, _, _, _⟩ _; refine YK.ofV (y_lenS (by rfl) StrTy.is) ?_)
    | (show VK _ _ _ _ _ ⟨_, .call { callee := .builtin .len, args := _, argTypes := #[9] }, _, _, _, _⟩ _; refine VK.mk (y_lenS (by rfl) StrTy.is) ?_)
    | (show YG _ _ _ _ _ _ ⟨_, .call { callee := .builtin .len, args := _, argTypes := #[9] }, _, _, _, _⟩ _; refine YG.mk (fun hb => by (try (have hc := And.left hb; have hb := And.right hb; rw [hc])); (try rw [hb]); exact V.y (y_lenS (by rfl) StrTy.is)) ?_)
    | (show VG _ _ _ _ _ _ ⟨_, .call { callee := .builtin .len, args := _, argTypes := #[9] }, _, _, _, _⟩ _; refine VG.mk (fun hb => by (try (have hc := And.left hb; have hb := And.right hb; rw [hc])); (try rw [hb]); exact y_lenS (by rfl) StrTy.is) ?_)
    | (refine nxN ?_)
    | (show VK _ _ _ _ _ ⟨_, .load 52 (.tmp 25), _, _, _, _⟩ _; refine VK.mk (by apply y_loadElPart (k := 2); rfl; exact rdA; exact fun _ => rfl; exact omlA; rfl; decide +kernel; rfl; decide +kernel; infer_instance) ?_)
    | (refine RS.callL qn trivial ?_; rintro z ⟨hz, hz2⟩; dsimp only [List.cons_append, List.nil_append])
    | (show YK _ _ _ _ _ _ _; first | refine YK.mk (y_callIn (qc) (fun _ hw => hI.keep hw.ext) ⟨rfl, rfl, rfl⟩ (by decide +kernel)) ?_ | refine YK.mk (y_callA (qa) ⟨rfl, rfl⟩) ?_)
    | (show YK _ _ _ _ _ _ _; refine YK.ofV vAuto ?_)
    | (show VK _ _ _ _ _ _ _; refine VK.mk vAuto ?_)
    | (show RS _ _ _ _ _ _ _ _; first | (refine nxRS ?_) | (refine nxRS1 fun _ => ?_))
    | (show RM _ _ _ _ _ _ _ _ _ _; first | (refine nxRM ?_) | (refine nxRM1 fun _ => ?_))
    | (show YG _ _ _ _ _ _ _ _; refine YG.mk (fun hb => by (try (have hc := And.left hb; have hb := And.right hb; rw [hc])); (try rw [hb]); first | exact (y_callIn (qc) (fun _ hw => hI.keep hw.ext) ⟨rfl, rfl, rfl⟩ (by decide +kernel)) | exact (y_callA (qa) ⟨rfl, rfl⟩) | exact V.y vAuto) ?_)
    | (show VG _ _ _ _ _ _ _ _; refine VG.mk (fun hb => by (try (have hc := And.left hb; have hb := And.right hb; rw [hc])); (try rw [hb]); exact vAuto) ?_)
    | (refine nxVS ?_)
    | (refine nxGS ?_)
    | (refine G.mixedA 1 [.go 0, .go 1, .go 2, .go 3, .go 4, .go 5, .go 6, .go 7, .go 8, .go 9, .go 10, .go 11, .go 12] ?_)
    | (refine nxX ?_)
    | (refine G.condN rfl (fun hc => ?_) (fun hc => ?_) <;> (try first | exact False.elim hc | (exfalso; omega))))
  all_goals first
    | exact False.elim (by rw [← h2'] at hc; simp at hc; omega)
    | exact X.ret (vs := [_, _]) rfl ⟨rfl, rfl, rfl⟩ rfl (fun w hw => ⟨z, ⟨hz, hz2⟩, rfl, hw.sub (by repeat (first | exact List.Sublist.refl _ | apply List.Sublist.cons_cons | apply List.Sublist.cons))⟩)
theorem rdnum_c {b i wh : Nat} {pa : Nat} {v : Value} {l : List TokT} {n : Int} {r : List TkE} (hl : l.length ≤ 1000000) (h : numP wh pa (sfx l i) = some (n, r)) (hw0 : wh ≤ 10) (hp0 : pa ≤ 10) :
    (0 ≤ n ∧ n ≤ 99999999) ∧ ∃ s : List UInt8, ContL Tryz.prog Laid (rdX b v l i) 86 [ptr b, .int .i64 wh, .int .i64 pa] (fun z : Nat => sfx l z = r ∧ z ≤ l.length) (fun _ => .tuple [.int .i64 n, strV s].toArray) (fun z => rdX b v l z) := by
  obtain ⟨s, e, hv⟩ := num_inv h
  obtain ⟨a, c, p, ho⟩ := numV_inv hv
  refine ⟨ho.bd, s, ?_⟩
  rcases Nat.eq_zero_or_pos wh with rfl | hp
  · exact number_z hl e hp0 ho
  · exact number_w hl e ⟨hp, hw0⟩ hp0 ho
theorem ang_inv {E r : List TkE} {n : Int} (h : angP E = some (n, r)) : ∃ d r1 r2 m, numP 0 0 E = some (d, r1) ∧ nextP 3 [45] r1 = some ([45], r2) ∧ numP 2 1 r2 = some (m, r) ∧ m < 600 ∧ n = 600 * d + m := by
  unfold angP at h
  simp only [Option.bind_eq_bind, Option.bind_eq_some_iff] at h
  obtain ⟨⟨d, r1⟩, h1, ⟨t, r2⟩, h2, ⟨m, r3⟩, h3, h4⟩ := h
  dsimp only at h2 h3 h4
  split at h4
  · rename_i hm
    simp only [Option.some.injEq, Prod.mk.injEq] at h4
    obtain ⟨rfl, rfl⟩ := h4
    refine ⟨d, r1, r2, m, h1, ?_, h3, hm, rfl⟩
    obtain ⟨r', e1, e2, e3⟩ := next_inv h2
    rcases e2 with e2 | rfl
    · cases e2
    · exact h2
  · cases h4
theorem tok_at {l : List TokT} {i : Nat} {k : Int} {t s : List UInt8} {r : List TkE} (h : nextP k t (sfx l i) = some (s, r)) : i < l.length := by
  obtain ⟨r', e, _⟩ := next_inv h
  exact (sfx_cons e).1
theorem num_at {l : List TokT} {i wh pa : Nat} {n : Int} {r : List TkE} (h : numP wh pa (sfx l i) = some (n, r)) : i < l.length := by
  obtain ⟨s, e, _⟩ := num_inv h
  exact (sfx_cons e).1
theorem angle_c {b i : Nat} {v : Value} {l : List TokT} {n : Int} {r : List TkE} (hl : l.length ≤ 1000000) (h : angP (sfx l i) = some (n, r)) :
    ContL Tryz.prog Laid (rdX b v l i) 147 [ptr b] (fun z : Nat => sfx l z = r ∧ z ≤ l.length) (fun _ => .int .i64 n) (fun z => rdX b v l z) := fun w0 HR w hI hw => by
  obtain ⟨d, r1, r2, m, h1, h2, h3, hm, rfl⟩ := ang_inv h
  obtain ⟨bd, s1, q1⟩ := rdnum_c (b := b) (v := v) hl h1 (by decide) (by decide)
  have q2 := fun i' (hi : sfx l i' = r1) => next_c (b := b) (v := v) (i := i') hl (by rw [hi]; exact h2)
  have q3 := fun i' (hi : sfx l i' = r2) => rdnum_c (b := b) (v := v) (i := i') hl (by rw [hi]; exact h3) (by decide) (by decide)
  refine enterU Tryz.func147 rfl rfl rfl hw ?_
  dsimp only [List.cons_append, List.nil_append]
  repeat' (first
    | (show YK _ _ _ _ _ ⟨_, .call { callee := .builtin .len, args := _, argTypes := #[9] }, _, _, _, _⟩ _; refine YK.ofV (y_lenS (by rfl) StrTy.is) ?_)
    | (show VK _ _ _ _ _ ⟨_, .call { callee := .builtin .len, args := _, argTypes := #[9] }, _, _, _, _⟩ _; refine VK.mk (y_lenS (by rfl) StrTy.is) ?_)
    | (show YG _ _ _ _ _ _ ⟨_, .call { callee := .builtin .len, args := _, argTypes := #[9] }, _, _, _, _⟩ _; refine YG.mk (fun hb => by (try (have hc := And.left hb; have hb := And.right hb; rw [hc])); (try rw [hb]); exact V.y (y_lenS (by rfl) StrTy.is)) ?_)
    | (show VG _ _ _ _ _ _ ⟨_, .call { callee := .builtin .len, args := _, argTypes := #[9] }, _, _, _, _⟩ _; refine VG.mk (fun hb => by (try (have hc := And.left hb; have hb := And.right hb; rw [hc])); (try rw [hb]); exact y_lenS (by rfl) StrTy.is) ?_)
    | (refine nxN ?_)
    | (refine RS.callL q1 hI ?_; rintro z1 ⟨hz1, hy1⟩; dsimp only [List.cons_append, List.nil_append])
    | (refine RS.callL (q2 _ hz1) trivial ?_; rintro z2 ⟨hz2, hy2⟩; dsimp only [List.cons_append, List.nil_append]; obtain ⟨bd2, s2, q3'⟩ := q3 _ hz2; have hlt := num_at (by rw [hz2]; exact h3))
    | (refine RS.callL q3' hI ?_; rintro z3 ⟨hz3, hy3⟩; dsimp only [List.cons_append, List.nil_append])
    | (show VK _ _ _ _ _ ⟨_, .load 52 (.tmp 24), _, _, _, _⟩ _; refine VK.mk (by apply y_loadElPart (k := 2); rfl; exact rdA; exact fun _ => rfl; exact omlA; rfl; decide +kernel; rfl; decide +kernel; infer_instance) ?_)
    | (refine nxV ?_)
    | (show RS _ _ _ _ _ _ _ _; first | (refine nxRS ?_) | (refine nxRS1 fun _ => ?_))
    | (show RM _ _ _ _ _ _ _ _ _ _; first | (refine nxRM ?_) | (refine nxRM1 fun _ => ?_))
    | (refine nxG ?_)
    | (refine nxVS ?_)
    | (refine nxGS ?_)
    | (refine G.mixedA 3 [.go 0, .go 1, .go 2, .go 3, .go 4, .go 5, .go 6, .go 7, .go 8, .go 9, .go 10, .go 11, .go 12] ?_)
    | (refine nxX ?_)
    | (refine G.condN rfl (fun hc => ?_) (fun hc => ?_) <;> (try first | exact False.elim hc | (exfalso; omega))))
  exact X.ret (vs := [_]) rfl ⟨rfl, rfl⟩ rfl (fun w hw => ⟨z3, ⟨hz3, hy3⟩, rfl, hw.sub (by repeat (first | exact List.Sublist.refl _ | apply List.Sublist.cons_cons | apply List.Sublist.cons))⟩)
end Go.Proofs.YtpekkcahehhkmaaGreatDoor
/- The reader of pages: entry. -/
set_option linter.unusedVariables false
set_option maxHeartbeats 4000000
namespace Go.Proofs.YtpekkcahehhkmaaGreatDoor
open Go.RowKit

theorem ent_inv {E r : List TkE} {hour g d : Int} (h : entryP hour E = some ((g, d), r)) : ∃ r1 r2 r3 r4 b d0, numP 0 0 E = some (hour, r1) ∧ angP r1 = some (g, r2) ∧ sideP r2 = some (b, r3) ∧ angP r3 = some (d0, r4) ∧ endP r4 = some r ∧ d = if b = true then -d0 else d0 := by
  unfold entryP at h
  simp only [Option.bind_eq_bind, Option.bind_eq_some_iff] at h
  obtain ⟨⟨h0, r1⟩, h1, h⟩ := h
  dsimp only at h
  split at h
  · cases h
  · rename_i e
    simp only [ne_eq, Decidable.not_not] at e
    subst e
    simp only [Option.bind_eq_some_iff] at h
    obtain ⟨⟨g', r2⟩, h2, ⟨b, r3⟩, h3, ⟨d0, r4⟩, h4, r5, h5, h6⟩ := h
    dsimp only at h2 h3 h4 h5 h6
    simp only [Option.some.injEq, Prod.mk.injEq] at h6
    obtain ⟨⟨rfl, rfl⟩, rfl⟩ := h6
    exact ⟨r1, r2, r3, r4, b, d0, h1, h2, h3, h4, h5, rfl⟩
theorem side_inv {E r : List TkE} {b : Bool} (h : sideP E = some (b, r)) : E = (1, if b = true then [83] else [78]) :: r := by
  cases E with
  | nil => cases h
  | cons x q =>
    have h' : (if x.1 = 1 ∧ x.2 = [83] then some (true, q) else if x.1 = 1 ∧ x.2 = [78] then some (false, q) else none) = some (b, r) := h
    split at h'
    · rename_i g
      simp only [Option.some.injEq, Prod.mk.injEq] at h'
      obtain ⟨rfl, rfl⟩ := h'
      obtain ⟨x1, x2⟩ := x
      simp only at g
      rw [g.1, g.2]; rfl
    · split at h'
      · rename_i g
        simp only [Option.some.injEq, Prod.mk.injEq] at h'
        obtain ⟨rfl, rfl⟩ := h'
        obtain ⟨x1, x2⟩ := x
        simp only at g
        rw [g.1, g.2]; rfl
      · cases h'
theorem ang_bd {E r : List TkE} {n : Int} (h : angP E = some (n, r)) : 0 ≤ n ∧ n ≤ 100000000000 := by
  obtain ⟨d, r1, r2, m, h1, h2, h3, hm, rfl⟩ := ang_inv h
  obtain ⟨s, _, hv⟩ := num_inv h1
  obtain ⟨_, _, _, ho⟩ := numV_inv hv
  obtain ⟨s', _, hv'⟩ := num_inv h3
  obtain ⟨_, _, _, ho'⟩ := numV_inv hv'
  have := ho.bd
  have := ho'.bd
  omega
/-- A track that is being read. -/
abbrev trB (b : Nat) (nm : List UInt8) (gz dz : Sl) (se pa be : Int) : Hl := Hl.blk b 42 [strV nm, gz.v, dz.v, .int .i64 se, .int .i64 pa, .int .i64 be]
abbrev iR (z : Sl) (l : List Int) : Hl := Hl.rw z.v 3 cI 1 l
abbrev enX (b : Nat) (v : Value) (l : List TokT) (i : Nat) (bt : Nat) (nm : List UInt8) (gz dz : Sl) (se pa be : Int) (gl dl : List Int) : List Hl := [rdB b v i, tkR v l, trB bt nm gz dz se pa be, iR gz gl, iR dz dl]
theorem entry_n {b i bt : Nat} {v : Value} {l : List TokT} {nm : List UInt8} {gz dz : Sl} {se pa be hour g d : Int} {gl dl : List Int} {r r1 r2 r3 r4 : List TkE} (hl : l.length ≤ 1000000) (hg : gl.length ≤ 1000) (hd : dl.length ≤ 1000)
    (h1 : numP 0 0 (sfx l i) = some (hour, r1)) (h2 : angP r1 = some (g, r2)) (h3 : r2 = (1, [78]) :: r3) (h4 : angP r3 = some (d, r4)) (h5 : endP r4 = some r) :
    ContL Tryz.prog Laid (enX b v l i bt nm gz dz se pa be gl dl) 126 [ptr b, ptr bt, .int .i64 hour] (fun z : Nat × Sl × Sl => sfx l z.1 = r ∧ z.1 ≤ l.length) (fun _ => .tuple #[]) (fun z => enX b v l z.1 bt nm z.2.1 z.2.2 se pa be (gl ++ [g]) (dl ++ [d])) := fun w0 HR w hI hw => by
  have hi := num_at h1
  obtain ⟨bd, s1, q1⟩ := rdnum_c (b := b) (v := v) hl h1 (by decide) (by decide)
  have q2 := fun i' (hi : sfx l i' = r1) => angle_c (b := b) (v := v) (i := i') hl (by rw [hi]; exact h2)
  have q3 := fun i' (hi : sfx l i' = r2) => is_c (b := b) (v := v) (i := i') (t := [83]) hl (hi.trans h3)
  have q4 := fun i' (hi : sfx l i' = r2) => next_c (b := b) (v := v) (i := i') (k := 1) (t := [78]) (s := [78]) (r := r3) hl (by rw [hi, h3]; exact next_eq (by decide) (.inr rfl))
  have q5 := fun i' (hi : sfx l i' = r3) => angle_c (b := b) (v := v) (i := i') hl (by rw [hi]; exact h4)
  have q6 := fun i' (hi : sfx l i' = r4) => end_c (b := b) (v := v) (i := i') hl (by rw [hi]; exact h5)
  rw [show (decide (((1, [78]) : TkE).1 = 1) && decide (((1, [78]) : TkE).2 = [83])) = false by decide] at q3
  refine enterU Tryz.func126 rfl rfl rfl hw ?_
  dsimp only [List.cons_append, List.nil_append]
  repeat' (first
    | (show YK _ _ _ _ _ ⟨_, .call { callee := .builtin .len, args := _, argTypes := #[9] }, _, _, _, _⟩ _; refine YK.ofV (y_lenS (by rfl) StrTy.is) ?_)
    | (show VK _ _ _ _ _ ⟨_, .call { callee := .builtin .len, args := _, argTypes := #[9] }, _, _, _, _⟩ _; refine VK.mk (y_lenS (by rfl) StrTy.is) ?_)
    | (show YG _ _ _ _ _ _ ⟨_, .call { callee := .builtin .len, args := _, argTypes := #[9] }, _, _, _, _⟩ _; refine YG.mk (fun hb => by (try (have hc := And.left hb; have hb := And.right hb; rw [hc])); (try rw [hb]); exact V.y (y_lenS (by rfl) StrTy.is)) ?_)
    | (show VG _ _ _ _ _ _ ⟨_, .call { callee := .builtin .len, args := _, argTypes := #[9] }, _, _, _, _⟩ _; refine VG.mk (fun hb => by (try (have hc := And.left hb; have hb := And.right hb; rw [hc])); (try rw [hb]); exact y_lenS (by rfl) StrTy.is) ?_)
    | (refine nxN ?_)
    | (show RS _ _ _ _ _ _ _ (⟨_, .call { callee := .value (.func 86), args := _, argTypes := _ }, _, _, _, _⟩ :: _); refine RS.callL (q1) hI ?_; rintro z1 ⟨hz1, hy1⟩; dsimp only [List.cons_append, List.nil_append])
    | (show RM _ _ _ _ _ _ _ _ _ (.go 6 :: _); refine RM.callL (q2 _ hz1) hI ?_; rintro z2 ⟨hz2, hy2⟩; dsimp only [List.cons_append, List.nil_append])
    | (show RS _ _ _ _ _ _ _ (⟨_, .call { callee := .value (.func 88), args := _, argTypes := _ }, _, _, _, _⟩ :: _); refine RS.callL (q3 _ hz2) trivial ?_; rintro u3 _; dsimp only [List.cons_append, List.nil_append])
    | (show RS _ _ _ _ _ _ _ (⟨_, .call { callee := .value (.func 85), args := _, argTypes := _ }, _, _, _, _⟩ :: _); refine RS.callL (q4 _ hz2) trivial ?_; rintro z4 ⟨hz4, hy4⟩; dsimp only [List.cons_append, List.nil_append])
    | (show RS _ _ _ _ _ _ _ (⟨_, .call { callee := .value (.func 147), args := _, argTypes := _ }, _, _, _, _⟩ :: _); refine RS.callL (q5 _ hz4) hI ?_; rintro z5 ⟨hz5, hy5⟩; dsimp only [List.cons_append, List.nil_append])
    | (show RS _ _ _ _ _ _ _ (⟨_, .call { callee := .value (.func 87), args := _, argTypes := _ }, _, _, _, _⟩ :: _); refine RS.callL (q6 _ hz5) trivial ?_; rintro z6 ⟨hz6, hy6⟩; dsimp only [List.cons_append, List.nil_append])
    | (show RM _ _ _ _ _ _ _ _ _ (.go 7 :: _); refine RM.litI (fun v' => ?_))
    | (show RM _ _ _ _ _ _ _ _ _ (.go 8 :: _); refine RM.appendA (l := gl) (l' := [g]) ?_ rfl rfl rfl (by intro v'; exact updA) (by exact rdA) (fun _ => rfl) (by exact omlA) rfl (fun _ w hw => hw.sub (by repeat (first | exact List.Sublist.refl _ | apply List.Sublist.cons_cons | apply List.Sublist.cons))); intro gN)
    | (show RS _ _ _ _ _ _ _ (⟨_, .call { callee := .builtin .append, args := _, argTypes := _ }, _, _, _, _⟩ :: _); refine RS.appendA (f := cI) (l := dl) (l' := [d]) ?_; intro dN)
    | (show VK _ _ _ _ _ ⟨_, .load 52 (.tmp 20), _, _, _, _⟩ _; refine VK.mk (by apply y_loadElPart (k := 2); rfl; exact rdA; exact fun _ => rfl; exact omlA; rfl; decide +kernel; rfl; decide +kernel; infer_instance) ?_)
    | (refine G.mixedM 4 [.go 0, .go 1, .go 2, .go 3, .go 4, .go 5, .go 6, .go 7, .go 8, .go 9, .go 10, .go 11] [false, false, false, true, false, false] ?_; dsimp only [maskH])
    | (refine nxV ?_)
    | (show RS _ _ _ _ _ _ _ _; first | (refine nxRS ?_) | (refine nxRS1 fun _ => ?_))
    | (show RM _ _ _ _ _ _ _ _ _ _; first | (refine nxRM ?_) | (refine nxRM1 fun _ => ?_))
    | (refine nxG ?_)
    | (refine nxVS ?_)
    | (refine nxGS ?_)
    | (refine G.mixedA 0 [.go 0, .go 1, .go 2, .go 3, .go 4, .go 5, .go 6, .go 7, .go 8, .go 9, .go 10, .go 11, .go 12] ?_)
    | (refine nxX ?_)
    | (refine G.condN rfl (fun hc => ?_) (fun hc => ?_) <;> (try first | exact False.elim hc | (exfalso; omega))))
  exact X.endN rfl (fun w hw => ⟨(z6, gN, dN), ⟨hz6, hy6⟩, rfl, hw.sub (by repeat (first | exact List.Sublist.refl _ | apply List.Sublist.cons_cons | apply List.Sublist.cons))⟩)
theorem entry_s {b i bt : Nat} {v : Value} {l : List TokT} {nm : List UInt8} {gz dz : Sl} {se pa be hour g d : Int} {gl dl : List Int} {r r1 r2 r3 r4 : List TkE} (hl : l.length ≤ 1000000) (hg : gl.length ≤ 1000) (hd : dl.length ≤ 1000)
    (h1 : numP 0 0 (sfx l i) = some (hour, r1)) (h2 : angP r1 = some (g, r2)) (h3 : r2 = (1, [83]) :: r3) (h4 : angP r3 = some (d, r4)) (h5 : endP r4 = some r) :
    ContL Tryz.prog Laid (enX b v l i bt nm gz dz se pa be gl dl) 126 [ptr b, ptr bt, .int .i64 hour] (fun z : Nat × Sl × Sl => sfx l z.1 = r ∧ z.1 ≤ l.length) (fun _ => .tuple #[]) (fun z => enX b v l z.1 bt nm z.2.1 z.2.2 se pa be (gl ++ [g]) (dl ++ [-d])) := fun w0 HR w hI hw => by
  have hi := num_at h1
  obtain ⟨bd, s1, q1⟩ := rdnum_c (b := b) (v := v) hl h1 (by decide) (by decide)
  have q2 := fun i' (hi : sfx l i' = r1) => angle_c (b := b) (v := v) (i := i') hl (by rw [hi]; exact h2)
  have q3 := fun i' (hi : sfx l i' = r2) => is_c (b := b) (v := v) (i := i') (t := [83]) hl (hi.trans h3)
  have q4 := fun i' (hi : sfx l i' = r2) => sfx_cons (l := l) (i := i') (hi.trans h3)
  have hd2 := ang_bd h4
  have q5 := fun i' (hi : sfx l i' = r3) => angle_c (b := b) (v := v) (i := i') hl (by rw [hi]; exact h4)
  have q6 := fun i' (hi : sfx l i' = r4) => end_c (b := b) (v := v) (i := i') hl (by rw [hi]; exact h5)
  rw [show (decide (((1, [83]) : TkE).1 = 1) && decide (((1, [83]) : TkE).2 = [83])) = true by decide] at q3
  refine enterU Tryz.func126 rfl rfl rfl hw ?_
  dsimp only [List.cons_append, List.nil_append]
  repeat' (first
    | (show YK _ _ _ _ _ ⟨_, .call { callee := .builtin .len, args := _, argTypes := #[9] }, _, _, _, _⟩ _; refine YK.ofV (y_lenS (by rfl) StrTy.is) ?_)
    | (show VK _ _ _ _ _ ⟨_, .call { callee := .builtin .len, args := _, argTypes := #[9] }, _, _, _, _⟩ _; refine VK.mk (y_lenS (by rfl) StrTy.is) ?_)
    | (show YG _ _ _ _ _ _ ⟨_, .call { callee := .builtin .len, args := _, argTypes := #[9] }, _, _, _, _⟩ _; refine YG.mk (fun hb => by (try (have hc := And.left hb; have hb := And.right hb; rw [hc])); (try rw [hb]); exact V.y (y_lenS (by rfl) StrTy.is)) ?_)
    | (show VG _ _ _ _ _ _ ⟨_, .call { callee := .builtin .len, args := _, argTypes := #[9] }, _, _, _, _⟩ _; refine VG.mk (fun hb => by (try (have hc := And.left hb; have hb := And.right hb; rw [hc])); (try rw [hb]); exact y_lenS (by rfl) StrTy.is) ?_)
    | (refine nxN ?_)
    | (show RS _ _ _ _ _ _ _ (⟨_, .call { callee := .value (.func 86), args := _, argTypes := _ }, _, _, _, _⟩ :: _); refine RS.callL (q1) hI ?_; rintro z1 ⟨hz1, hy1⟩; dsimp only [List.cons_append, List.nil_append])
    | (show RM _ _ _ _ _ _ _ _ _ (.go 6 :: _); refine RM.callL (q2 _ hz1) hI ?_; rintro z2 ⟨hz2, hy2⟩; dsimp only [List.cons_append, List.nil_append])
    | (show RS _ _ _ _ _ _ _ (⟨_, .call { callee := .value (.func 88), args := _, argTypes := _ }, _, _, _, _⟩ :: _); refine RS.callL (q3 _ hz2) trivial ?_; rintro u3 _; dsimp only [List.cons_append, List.nil_append]; have hlt := (q4 z2 hz2).1)
    | (show RS _ _ _ _ _ _ _ (⟨_, .call { callee := .value (.func 147), args := _, argTypes := _ }, _, _, _, _⟩ :: _); refine RS.callL (q5 (z2 + 1) (q4 z2 hz2).2.2.2) hI ?_; rintro z5 ⟨hz5, hy5⟩; dsimp only [List.cons_append, List.nil_append])
    | (show RS _ _ _ _ _ _ _ (⟨_, .call { callee := .value (.func 87), args := _, argTypes := _ }, _, _, _, _⟩ :: _); refine RS.callL (q6 _ hz5) trivial ?_; rintro z6 ⟨hz6, hy6⟩; dsimp only [List.cons_append, List.nil_append])
    | (show RM _ _ _ _ _ _ _ _ _ (.go 7 :: _); refine RM.litI (fun v' => ?_))
    | (show RM _ _ _ _ _ _ _ _ _ (.go 8 :: _); refine RM.appendA (l := gl) (l' := [g]) ?_ rfl rfl rfl (by intro v'; exact updA) (by exact rdA) (fun _ => rfl) (by exact omlA) rfl (fun _ w hw => hw.sub (by repeat (first | exact List.Sublist.refl _ | apply List.Sublist.cons_cons | apply List.Sublist.cons))); intro gN)
    | (show RS _ _ _ _ _ _ _ (⟨_, .call { callee := .builtin .append, args := _, argTypes := _ }, _, _, _, _⟩ :: _); refine RS.appendA (f := cI) (l := dl) (l' := [-d]) ?_; intro dN)
    | (show VK _ _ _ _ _ ⟨_, .load 52 (.tmp 20), _, _, _, _⟩ _; refine VK.mk (by apply y_loadElPart (k := 2); rfl; exact rdA; exact fun _ => rfl; exact omlA; rfl; decide +kernel; rfl; decide +kernel; infer_instance) ?_)
    | (refine G.mixedM 4 [.go 0, .go 1, .go 2, .go 3, .go 4, .go 5, .go 6, .go 7, .go 8, .go 9, .go 10, .go 11] [false, false, false, true, false, false] ?_; dsimp only [maskH])
    | (refine nxV ?_)
    | (show RS _ _ _ _ _ _ _ _; first | (refine nxRS ?_) | (refine nxRS1 fun _ => ?_))
    | (show RM _ _ _ _ _ _ _ _ _ _; first | (refine nxRM ?_) | (refine nxRM1 fun _ => ?_))
    | (refine nxG ?_)
    | (refine nxVS ?_)
    | (refine nxGS ?_)
    | (refine G.mixedA 0 [.go 0, .go 1, .go 2, .go 3, .go 4, .go 5, .go 6, .go 7, .go 8, .go 9, .go 10, .go 11, .go 12] ?_)
    | (refine nxX ?_)
    | (refine G.condN rfl (fun hc => ?_) (fun hc => ?_) <;> (try first | exact False.elim hc | (exfalso; omega))))
  exact X.endN rfl (fun w hw => ⟨(z6, gN, dN), ⟨hz6, hy6⟩, rfl, hw.sub (by repeat (first | exact List.Sublist.refl _ | apply List.Sublist.cons_cons | apply List.Sublist.cons))⟩)
theorem entry_c {b i bt : Nat} {v : Value} {l : List TokT} {nm : List UInt8} {gz dz : Sl} {se pa be hour g d : Int} {gl dl : List Int} {r : List TkE} (hl : l.length ≤ 1000000) (hg : gl.length ≤ 1000) (hd : dl.length ≤ 1000) (h : entryP hour (sfx l i) = some ((g, d), r)) :
    ContL Tryz.prog Laid (enX b v l i bt nm gz dz se pa be gl dl) 126 [ptr b, ptr bt, .int .i64 hour] (fun z : Nat × Sl × Sl => sfx l z.1 = r ∧ z.1 ≤ l.length) (fun _ => .tuple #[]) (fun z => enX b v l z.1 bt nm z.2.1 z.2.2 se pa be (gl ++ [g]) (dl ++ [d])) := by
  obtain ⟨r1, r2, r3, r4, c, d0, h1, h2, h3, h4, h5, rfl⟩ := ent_inv h
  have h3' := side_inv h3
  cases c with
  | true => exact entry_s hl hg hd h1 h2 h3' h4 h5
  | false => exact entry_n hl hg hd h1 h2 h3' h4 h5
end Go.Proofs.YtpekkcahehhkmaaGreatDoor
/- The reader of pages: track. -/
set_option linter.unusedVariables false
set_option maxHeartbeats 4000000
namespace Go.Proofs.YtpekkcahehhkmaaGreatDoor
open Go.RowKit

theorem next_of {k : Int} {t s : List UInt8} {E r : List TkE} (ht : t ≠ []) (h : nextP k t E = some (s, r)) : nextP k t E = some (t, r) := by
  obtain ⟨r', e1, e2, e3⟩ := next_inv h
  rcases e2 with e2 | rfl
  · exact absurd e2 ht
  · exact h
theorem field_inv {w : List UInt8} {E r : List TkE} {n : Int} (hw : w ≠ []) (h : fieldP w E = some (n, r)) : ∃ r1, nextP 1 w E = some (w, r1) ∧ numP 0 1 r1 = some (n, r) := by
  unfold fieldP at h
  simp only [Option.bind_eq_bind, Option.bind_eq_some_iff] at h
  obtain ⟨⟨s, r1⟩, h1, h2⟩ := h
  exact ⟨r1, next_of hw h1, h2⟩
theorem head_inv {E r : List TkE} {x : List UInt8 × Int × Int × Int} (h : headP E = some (x, r)) : ∃ r1 r2 e1 r3 e2 r4 e3 r5, nextP 1 bBody E = some (bBody, r1) ∧ nextP 1 [] r1 = some (x.1, r2) ∧ (nextP 1 bSemi r2 = some (bSemi, e1) ∧ numP 0 1 e1 = some (x.2.1, r3)) ∧ (nextP 1 bPar r3 = some (bPar, e2) ∧ numP 0 1 e2 = some (x.2.2.1, r4)) ∧ (nextP 1 bBend r4 = some (bBend, e3) ∧ numP 0 1 e3 = some (x.2.2.2, r5)) ∧ endP r5 = some r := by
  unfold headP at h
  simp only [Option.bind_eq_bind, Option.bind_eq_some_iff] at h
  obtain ⟨⟨s, r1⟩, h1, ⟨nm, r2⟩, h2, ⟨se, r3⟩, h3, ⟨pa, r4⟩, h4, ⟨be, r5⟩, h5, r6, h6, h7⟩ := h
  dsimp only at h2 h3 h4 h5 h6 h7
  simp only [Option.some.injEq, Prod.mk.injEq] at h7
  obtain ⟨rfl, rfl⟩ := h7
  obtain ⟨e1, a1, b1⟩ := field_inv (by decide) h3
  obtain ⟨e2, a2, b2⟩ := field_inv (by decide) h4
  obtain ⟨e3, a3, b3⟩ := field_inv (by decide) h5
  exact ⟨r1, r2, e1, r3, e2, r4, e3, r5, next_of (by decide) h1, h2, ⟨a1, b1⟩, ⟨a2, b2⟩, ⟨a3, b3⟩, h6⟩
theorem trk_inv {E r : List TkE} {t : TrkP} (h : trackP E = some (t, r)) : ∃ r1 es, headP E = some ((t.1, t.2.2.2.1, t.2.2.2.2.1, t.2.2.2.2.2), r1) ∧ entsP 25 0 r1 = some (es, r) ∧ t.2.1 = es.map (·.1) ∧ t.2.2.1 = es.map (·.2) := by
  unfold trackP at h
  simp only [Option.bind_eq_bind, Option.bind_eq_some_iff] at h
  obtain ⟨⟨x, r1⟩, h1, ⟨es, r2⟩, h2, h3⟩ := h
  dsimp only at h2 h3
  simp only [Option.some.injEq, Prod.mk.injEq] at h3
  obtain ⟨rfl, rfl⟩ := h3
  exact ⟨r1, es, h1, h2, rfl, rfl⟩
theorem ents_len : ∀ (k : Nat) (h : Int) (E r : List TkE) (es : List (Int × Int)), entsP k h E = some (es, r) → es.length = k
  | 0, _, _, _, _, h => by
    have : some (([] : List (Int × Int)), _) = some (_, _) := h
    simp only [Option.some.injEq, Prod.mk.injEq] at this
    rw [← this.1]; rfl
  | k + 1, h, E, r, es, he => by
    unfold entsP at he
    simp only [Option.bind_eq_bind, Option.bind_eq_some_iff] at he
    obtain ⟨⟨x, r1⟩, h1, ⟨xs, r2⟩, h2, h3⟩ := he
    dsimp only at h2 h3
    simp only [Option.some.injEq, Prod.mk.injEq] at h3
    rw [← h3.1, List.length_cons, ents_len k _ _ _ _ h2]
theorem ents_step {k : Nat} {h : Int} {E r : List TkE} {es : List (Int × Int)} (he : entsP (k + 1) h E = some (es, r)) : ∃ x xs r1, entryP h (skipP E) = some (x, r1) ∧ entsP k (h + 1) r1 = some (xs, r) ∧ es = x :: xs := by
  unfold entsP at he
  simp only [Option.bind_eq_bind, Option.bind_eq_some_iff] at he
  obtain ⟨⟨x, r1⟩, h1, ⟨xs, r2⟩, h2, h3⟩ := he
  dsimp only at h2 h3
  simp only [Option.some.injEq, Prod.mk.injEq] at h3
  obtain ⟨rfl, rfl⟩ := h3
  exact ⟨x, xs, r1, h1, h2, rfl⟩
theorem ent_some {h : Int} {E r : List TkE} {x : Int × Int} (he : entryP h E = some (x, r)) : ∃ y q, E = y :: q := by
  obtain ⟨r1, r2, r3, r4, b, d0, h1, _⟩ := ent_inv (g := x.1) (d := x.2) he
  obtain ⟨s, e, _⟩ := num_inv h1
  exact ⟨_, _, e⟩
/-- A word and the place of a number. -/
abbrev FldT := List UInt8 × Nat
abbrev cF (b : Nat) (x : FldT) : List Value := [strV x.1, .pointer (some ⟨b, x.2, none⟩)]
abbrev vF (b : Nat) (x : FldT) : Value := .agg [strV x.1, .pointer (some ⟨b, x.2, none⟩)].toArray
theorem RS.lit3F {P : Program} {ops : Array Oper} {Q : Exit → Act → World → Prop} {n : Nat} {L : FL} {w0 : World} {H : List Hl} {dd : Tmp} {ty : TypeId} {pos : String} {af : Array Edge} {t e : TypeId} {bytes b : Nat} {x y z : Operand} {p q r : FldT} {l : List FldT} {rest : List Oper} (hl : l = [p, q, r]) (h : ∀ v' : Sl, RS P ops Q n ((dd, v'.v) :: L) w0 (Hl.rw v'.v e (cF b) 2 l :: H) rest) (hx : evO L x = some (vF b p)) (hy : evO L y = some (vF b q)) (hz : evO L z = some (vF b r)) [ht : RowTy P t e 2 bytes] (hd : Nat.blt dd n = true) :
    RS P ops Q n L w0 H (⟨some dd, .buildSlice t 3 #[(0, x), (1, y), (2, z)], ty, pos, af, none⟩ :: rest) := RS.actX rfl (x_litS (parts := [(0, x), (1, y), (2, z)]) (vs := [vF b p, vF b q, vF b r]) (cs := cF b p ++ cF b q ++ cF b r) (f := cF b) (l := l) ⟨hx, hy, hz, rfl⟩ rfl rfl rfl rfl (fun zs hz => by
      match zs, hz with
      | [_, _, _, _, _, _], _ => rfl) rfl (by rw [hl]; rfl) (by rw [hl]; rfl) (rowTy_B ht.is) hd) fun v' _ => h v'
/-- The words of a track's head, and where their numbers go. -/
def fldL : List FldT := [(bSemi, 3), (bPar, 4), (bBend, 5)]
def restK (r2 r3 r4 r5 : List TkE) : Nat → List TkE
  | 0 => r2
  | 1 => r3
  | 2 => r4
  | _ => r5
abbrev onK (j k : Nat) (n : Int) : Int := match Nat.ble k j with
  | true => 0
  | false => n
abbrev t0B (b : Nat) : Hl := Hl.blk b 42 [strV [], .slice none 0 0, .slice none 0 0, .int .i64 0, .int .i64 0, .int .i64 0]
abbrev nilS : Sl := ⟨none, 0, 0⟩
theorem track_c {b i : Nat} {v : Value} {l : List TokT} {t : TrkP} {r : List TkE} (hl : l.length ≤ 1000000) (h : trackP (sfx l i) = some (t, r)) :
    ContL Tryz.prog Laid (rdX b v l i) 89 [ptr b] (fun z : Nat × Sl × Sl => sfx l z.1 = r ∧ z.1 ≤ l.length) (fun z => trV ⟨t.1, z.2.1, t.2.1, z.2.2, t.2.2.1, t.2.2.2.1, t.2.2.2.2.1, t.2.2.2.2.2⟩) (fun z => rdX b v l z.1 ++ [Hl.nw z.2.1.v cI 1 t.2.1, Hl.nw z.2.2.v cI 1 t.2.2.1]) := fun w0 HR w hI hw => by
  obtain ⟨q1, es, hh, he, eg, ed⟩ := trk_inv h
  obtain ⟨r1, r2, e1, r3, e2, r4, e3, r5, a1, a2, ⟨a3, b3⟩, ⟨a4, b4⟩, ⟨a5, b5⟩, a6⟩ := head_inv hh
  dsimp only at a2 b3 b4 b5
  obtain ⟨nm, gl, dl, se, pa, be⟩ := t
  dsimp only at *
  have c1 := next_c (b := b) (v := v) hl a1
  have c2 := fun i' (hi : sfx l i' = r1) => next_c (b := b) (v := v) (i := i') hl (by rw [hi]; exact a2)
  have g0 := fun i' (hi : sfx l i' = r2) => next_c (b := b) (v := v) (i := i') hl (by rw [hi]; exact a3)
  have g1 := fun i' (hi : sfx l i' = r3) => next_c (b := b) (v := v) (i := i') hl (by rw [hi]; exact a4)
  have g2 := fun i' (hi : sfx l i' = r4) => next_c (b := b) (v := v) (i := i') hl (by rw [hi]; exact a5)
  obtain ⟨k0, k1, k2⟩ : (0 ≤ se ∧ se ≤ 99999999) ∧ (0 ≤ pa ∧ pa ≤ 99999999) ∧ (0 ≤ be ∧ be ≤ 99999999) := by
    obtain ⟨_, _, x1⟩ := num_inv b3
    obtain ⟨_, _, x2⟩ := num_inv b4
    obtain ⟨_, _, x3⟩ := num_inv b5
    obtain ⟨_, _, _, y1⟩ := numV_inv x1
    obtain ⟨_, _, _, y2⟩ := numV_inv x2
    obtain ⟨_, _, _, y3⟩ := numV_inv x3
    exact ⟨y1.bd, y2.bd, y3.bd⟩
  have n0 := fun i' (hi : sfx l i' = e1) => (rdnum_c (b := b) (v := v) (i := i') hl (by rw [hi]; exact b3) (by decide) (by decide)).2.choose_spec
  have n1 := fun i' (hi : sfx l i' = e2) => (rdnum_c (b := b) (v := v) (i := i') hl (by rw [hi]; exact b4) (by decide) (by decide)).2.choose_spec
  have n2 := fun i' (hi : sfx l i' = e3) => (rdnum_c (b := b) (v := v) (i := i') hl (by rw [hi]; exact b5) (by decide) (by decide)).2.choose_spec
  have c6 := fun i' (hi : sfx l i' = r5) => end_c (b := b) (v := v) (i := i') hl (by rw [hi]; exact a6)
  have hel := ents_len _ _ _ _ _ he
  refine enterU Tryz.func89 rfl rfl rfl hw ?_
  dsimp only [List.cons_append, List.nil_append]
  repeat' (first
    | (show YK _ _ _ _ _ ⟨_, .call { callee := .builtin .len, args := _, argTypes := #[9] }, _, _, _, _⟩ _; refine YK.ofV (y_lenS (by rfl) StrTy.is) ?_)
    | (show VK _ _ _ _ _ ⟨_, .call { callee := .builtin .len, args := _, argTypes := #[9] }, _, _, _, _⟩ _; refine VK.mk (y_lenS (by rfl) StrTy.is) ?_)
    | (show YG _ _ _ _ _ _ ⟨_, .call { callee := .builtin .len, args := _, argTypes := #[9] }, _, _, _, _⟩ _; refine YG.mk (fun hb => by (try (have hc := And.left hb; have hb := And.right hb; rw [hc])); (try rw [hb]); exact V.y (y_lenS (by rfl) StrTy.is)) ?_)
    | (show VG _ _ _ _ _ _ ⟨_, .call { callee := .builtin .len, args := _, argTypes := #[9] }, _, _, _, _⟩ _; refine VG.mk (fun hb => by (try (have hc := And.left hb; have hb := And.right hb; rw [hc])); (try rw [hb]); exact y_lenS (by rfl) StrTy.is) ?_)
    | (refine nxN ?_)
    | (show RS _ _ _ _ _ _ _ (⟨_, .call { callee := .value (.func 85), args := _, argTypes := _ }, _, _, _, _⟩ :: _); refine RS.callL (c1) trivial ?_; rintro y1 ⟨hx1, hb1⟩; dsimp only [List.cons_append, List.nil_append])
    | (show RS _ _ _ _ _ _ _ (⟨_, .call { callee := .value (.func 85), args := _, argTypes := _ }, _, _, _, _⟩ :: _); refine RS.callL (c2 _ hx1) trivial ?_; rintro y2 ⟨hx2, hb2⟩; dsimp only [List.cons_append, List.nil_append])
    | (show RS _ _ _ _ _ _ _ (⟨_, .buildSlice _ _ _, _, _, _, _⟩ :: _); refine RS.lit3F (p := (bSemi, 3)) (q := (bPar, 4)) (r := (bBend, 5)) (l := fldL) rfl ?_ rfl rfl rfl rfl; intro zL)
    | (refine nxV ?_)
    | (show RS _ _ _ _ _ _ _ _; first | (refine nxRS ?_) | (refine nxRS1 fun _ => ?_))
    | (show RM _ _ _ _ _ _ _ _ _ _; first | (refine nxRM ?_) | (refine nxRM1 fun _ => ?_))
    | (refine nxG ?_)
    | (refine nxVS ?_)
    | (refine nxGS ?_)
    | (refine G.mixedA 7 [.go 0, .go 1, .go 2, .go 3, .go 4, .go 5, .go 6, .go 7, .go 8] ?_)
    | (refine nxX ?_)
    | (refine G.condN rfl (fun hc => ?_) (fun hc => ?_) <;> (try first | exact False.elim hc | (exfalso; omega))))
  rename_i b2 b3
  have hl3 : fldL.length = 3 := rfl
  refine G.loop (ι := Nat × Nat) (fun x => [(0, ptr b), (2, ptr b2), (3, ptr b3), (18, zL.v), (19, .int .i64 3), (20, .int .i64 (x.1 : Int))]) (fun x => [rdB b v x.2, tkR v l, trB b3 nm nilS nilS (onK 0 x.1 se) (onK 1 x.1 pa) (onK 2 x.1 be), Hl.rw zL.v 146 (cF b3) 2 fldL, t0B b2] ++ HR) (fun x => x.1 ≤ 3 ∧ sfx l x.2 = restK r2 r3 r4 r5 x.1 ∧ x.2 ≤ l.length) (fun x => 3 - x.1) (0, y2) ⟨Nat.zero_le _, hx2, hb2⟩ ⟨rfl, rfl, rfl, rfl, rfl, rfl, trivial⟩ (fun w h => St.picked (xs := [rdB b v y2, tkR v l, trB b3 nm nilS nilS (onK 0 0 se) (onK 1 0 pa) (onK 2 0 be), Hl.rw zL.v 146 (cF b3) 2 fldL, t0B b2]) (by (repeat (first | exact Pick.nil | (apply Pick.cons; (case a => (first | exact At.here | exact At.there (At.here) | exact At.there (At.there (At.here)) | exact At.there (At.there (At.there (At.here))) | exact At.there (At.there (At.there (At.there (At.here)))) | exact At.there (At.there (At.there (At.there (At.there (At.here))))) | exact At.there (At.there (At.there (At.there (At.there (At.there (At.here)))))) | exact At.there (At.there (At.there (At.there (At.there (At.there (At.there (At.here))))))) | exact At.there (At.there (At.there (At.there (At.there (At.there (At.there (At.there (At.here)))))))) | exact At.there (At.there (At.there (At.there (At.there (At.there (At.there (At.there (At.there (At.here))))))))))))))) h) ?_
  rintro ⟨k, j⟩ mx ⟨g1', g2', g3'⟩ hmx
  dsimp only at g1' g2' g3' hmx ⊢
  dsimp only [List.cons_append, List.nil_append]
  rcases (show k = 0 ∨ k = 1 ∨ k = 2 ∨ k = 3 by omega) with rfl | rfl | rfl | rfl
  · have hs : sfx l j = r2 := g2'
    repeat' (first
    | (show YK _ _ _ _ _ ⟨_, .call { callee := .builtin .len, args := _, argTypes := #[9] }, _, _, _, _⟩ _; refine YK.ofV (y_lenS (by rfl) StrTy.is) ?_)
    | (show VK _ _ _ _ _ ⟨_, .call { callee := .builtin .len, args := _, argTypes := #[9] }, _, _, _, _⟩ _; refine VK.mk (y_lenS (by rfl) StrTy.is) ?_)
    | (show YG _ _ _ _ _ _ ⟨_, .call { callee := .builtin .len, args := _, argTypes := #[9] }, _, _, _, _⟩ _; refine YG.mk (fun hb => by (try (have hc := And.left hb; have hb := And.right hb; rw [hc])); (try rw [hb]); exact V.y (y_lenS (by rfl) StrTy.is)) ?_)
    | (show VG _ _ _ _ _ _ ⟨_, .call { callee := .builtin .len, args := _, argTypes := #[9] }, _, _, _, _⟩ _; refine VG.mk (fun hb => by (try (have hc := And.left hb; have hb := And.right hb; rw [hc])); (try rw [hb]); exact y_lenS (by rfl) StrTy.is) ?_)
    | (refine nxN ?_)
    | (show RS _ _ _ _ _ _ _ (⟨_, .call { callee := .value (.func 85), args := _, argTypes := _ }, _, _, _, _⟩ :: _); refine RS.callL (g0 _ hs) trivial ?_; rintro z1 ⟨hz1, hy1⟩; dsimp only [List.cons_append, List.nil_append])
    | (show RM _ _ _ _ _ _ _ _ _ (.go 3 :: _); refine RM.callL (n0 _ hz1) hI ?_; rintro z2 ⟨hz2, hy2⟩; dsimp only [List.cons_append, List.nil_append])
    | (refine G.mixedM 7 [.go 0, .go 1, .go 2, .go 3, .go 4, .go 5, .go 6, .go 7, .go 8] [false, false, true, false] ?_; dsimp only [maskH])
    | (refine nxV ?_)
    | (show RS _ _ _ _ _ _ _ _; first | (refine nxRS ?_) | (refine nxRS1 fun _ => ?_))
    | (show RM _ _ _ _ _ _ _ _ _ _; first | (refine nxRM ?_) | (refine nxRM1 fun _ => ?_))
    | (refine nxG ?_)
    | (refine nxVS ?_)
    | (refine nxGS ?_)
    | (refine nxX ?_)
    | (refine G.condN rfl (fun hc => ?_) (fun hc => ?_) <;> (try first | exact False.elim hc | (exfalso; omega))))
    exact X.again (1, z2) ⟨by dsimp only; omega, hz2, hy2⟩ (by omega) ⟨rfl, rfl, rfl, rfl, rfl, rfl, trivial⟩ (fun w h => St.sub (St.picked (xs := [rdB b v z2, tkR v l, trB b3 nm nilS nilS (onK 0 1 se) (onK 1 1 pa) (onK 2 1 be), Hl.rw zL.v 146 (cF b3) 2 fldL, t0B b2]) (by (repeat (first | exact Pick.nil | (apply Pick.cons; (case a => (first | exact At.here | exact At.there (At.here) | exact At.there (At.there (At.here)) | exact At.there (At.there (At.there (At.here))) | exact At.there (At.there (At.there (At.there (At.here)))) | exact At.there (At.there (At.there (At.there (At.there (At.here))))) | exact At.there (At.there (At.there (At.there (At.there (At.there (At.here)))))) | exact At.there (At.there (At.there (At.there (At.there (At.there (At.there (At.here))))))) | exact At.there (At.there (At.there (At.there (At.there (At.there (At.there (At.there (At.here)))))))) | exact At.there (At.there (At.there (At.there (At.there (At.there (At.there (At.there (At.there (At.here))))))))))))))) h) (by repeat (first | exact List.Sublist.refl _ | apply List.Sublist.cons_cons | apply List.Sublist.cons)))
  · have hs : sfx l j = r3 := g2'
    repeat' (first
    | (show YK _ _ _ _ _ ⟨_, .call { callee := .builtin .len, args := _, argTypes := #[9] }, _, _, _, _⟩ _; refine YK.ofV (y_lenS (by rfl) StrTy.is) ?_)
    | (show VK _ _ _ _ _ ⟨_, .call { callee := .builtin .len, args := _, argTypes := #[9] }, _, _, _, _⟩ _; refine VK.mk (y_lenS (by rfl) StrTy.is) ?_)
    | (show YG _ _ _ _ _ _ ⟨_, .call { callee := .builtin .len, args := _, argTypes := #[9] }, _, _, _, _⟩ _; refine YG.mk (fun hb => by (try (have hc := And.left hb; have hb := And.right hb; rw [hc])); (try rw [hb]); exact V.y (y_lenS (by rfl) StrTy.is)) ?_)
    | (show VG _ _ _ _ _ _ ⟨_, .call { callee := .builtin .len, args := _, argTypes := #[9] }, _, _, _, _⟩ _; refine VG.mk (fun hb => by (try (have hc := And.left hb; have hb := And.right hb; rw [hc])); (try rw [hb]); exact y_lenS (by rfl) StrTy.is) ?_)
    | (refine nxN ?_)
    | (show RS _ _ _ _ _ _ _ (⟨_, .call { callee := .value (.func 85), args := _, argTypes := _ }, _, _, _, _⟩ :: _); refine RS.callL (g1 _ hs) trivial ?_; rintro z1 ⟨hz1, hy1⟩; dsimp only [List.cons_append, List.nil_append])
    | (show RM _ _ _ _ _ _ _ _ _ (.go 3 :: _); refine RM.callL (n1 _ hz1) hI ?_; rintro z2 ⟨hz2, hy2⟩; dsimp only [List.cons_append, List.nil_append])
    | (refine G.mixedM 7 [.go 0, .go 1, .go 2, .go 3, .go 4, .go 5, .go 6, .go 7, .go 8] [false, false, true, false] ?_; dsimp only [maskH])
    | (refine nxV ?_)
    | (show RS _ _ _ _ _ _ _ _; first | (refine nxRS ?_) | (refine nxRS1 fun _ => ?_))
    | (show RM _ _ _ _ _ _ _ _ _ _; first | (refine nxRM ?_) | (refine nxRM1 fun _ => ?_))
    | (refine nxG ?_)
    | (refine nxVS ?_)
    | (refine nxGS ?_)
    | (refine nxX ?_)
    | (refine G.condN rfl (fun hc => ?_) (fun hc => ?_) <;> (try first | exact False.elim hc | (exfalso; omega))))
    exact X.again (2, z2) ⟨by dsimp only; omega, hz2, hy2⟩ (by omega) ⟨rfl, rfl, rfl, rfl, rfl, rfl, trivial⟩ (fun w h => St.sub (St.picked (xs := [rdB b v z2, tkR v l, trB b3 nm nilS nilS (onK 0 2 se) (onK 1 2 pa) (onK 2 2 be), Hl.rw zL.v 146 (cF b3) 2 fldL, t0B b2]) (by (repeat (first | exact Pick.nil | (apply Pick.cons; (case a => (first | exact At.here | exact At.there (At.here) | exact At.there (At.there (At.here)) | exact At.there (At.there (At.there (At.here))) | exact At.there (At.there (At.there (At.there (At.here)))) | exact At.there (At.there (At.there (At.there (At.there (At.here))))) | exact At.there (At.there (At.there (At.there (At.there (At.there (At.here)))))) | exact At.there (At.there (At.there (At.there (At.there (At.there (At.there (At.here))))))) | exact At.there (At.there (At.there (At.there (At.there (At.there (At.there (At.there (At.here)))))))) | exact At.there (At.there (At.there (At.there (At.there (At.there (At.there (At.there (At.there (At.here))))))))))))))) h) (by repeat (first | exact List.Sublist.refl _ | apply List.Sublist.cons_cons | apply List.Sublist.cons)))
  · have hs : sfx l j = r4 := g2'
    repeat' (first
    | (show YK _ _ _ _ _ ⟨_, .call { callee := .builtin .len, args := _, argTypes := #[9] }, _, _, _, _⟩ _; refine YK.ofV (y_lenS (by rfl) StrTy.is) ?_)
    | (show VK _ _ _ _ _ ⟨_, .call { callee := .builtin .len, args := _, argTypes := #[9] }, _, _, _, _⟩ _; refine VK.mk (y_lenS (by rfl) StrTy.is) ?_)
    | (show YG _ _ _ _ _ _ ⟨_, .call { callee := .builtin .len, args := _, argTypes := #[9] }, _, _, _, _⟩ _; refine YG.mk (fun hb => by (try (have hc := And.left hb; have hb := And.right hb; rw [hc])); (try rw [hb]); exact V.y (y_lenS (by rfl) StrTy.is)) ?_)
    | (show VG _ _ _ _ _ _ ⟨_, .call { callee := .builtin .len, args := _, argTypes := #[9] }, _, _, _, _⟩ _; refine VG.mk (fun hb => by (try (have hc := And.left hb; have hb := And.right hb; rw [hc])); (try rw [hb]); exact y_lenS (by rfl) StrTy.is) ?_)
    | (refine nxN ?_)
    | (show RS _ _ _ _ _ _ _ (⟨_, .call { callee := .value (.func 85), args := _, argTypes := _ }, _, _, _, _⟩ :: _); refine RS.callL (g2 _ hs) trivial ?_; rintro z1 ⟨hz1, hy1⟩; dsimp only [List.cons_append, List.nil_append])
    | (show RM _ _ _ _ _ _ _ _ _ (.go 3 :: _); refine RM.callL (n2 _ hz1) hI ?_; rintro z2 ⟨hz2, hy2⟩; dsimp only [List.cons_append, List.nil_append])
    | (refine G.mixedM 7 [.go 0, .go 1, .go 2, .go 3, .go 4, .go 5, .go 6, .go 7, .go 8] [false, false, true, false] ?_; dsimp only [maskH])
    | (refine nxV ?_)
    | (show RS _ _ _ _ _ _ _ _; first | (refine nxRS ?_) | (refine nxRS1 fun _ => ?_))
    | (show RM _ _ _ _ _ _ _ _ _ _; first | (refine nxRM ?_) | (refine nxRM1 fun _ => ?_))
    | (refine nxG ?_)
    | (refine nxVS ?_)
    | (refine nxGS ?_)
    | (refine nxX ?_)
    | (refine G.condN rfl (fun hc => ?_) (fun hc => ?_) <;> (try first | exact False.elim hc | (exfalso; omega))))
    exact X.again (3, z2) ⟨by dsimp only; omega, hz2, hy2⟩ (by omega) ⟨rfl, rfl, rfl, rfl, rfl, rfl, trivial⟩ (fun w h => St.sub (St.picked (xs := [rdB b v z2, tkR v l, trB b3 nm nilS nilS (onK 0 3 se) (onK 1 3 pa) (onK 2 3 be), Hl.rw zL.v 146 (cF b3) 2 fldL, t0B b2]) (by (repeat (first | exact Pick.nil | (apply Pick.cons; (case a => (first | exact At.here | exact At.there (At.here) | exact At.there (At.there (At.here)) | exact At.there (At.there (At.there (At.here))) | exact At.there (At.there (At.there (At.there (At.here)))) | exact At.there (At.there (At.there (At.there (At.there (At.here))))) | exact At.there (At.there (At.there (At.there (At.there (At.there (At.here)))))) | exact At.there (At.there (At.there (At.there (At.there (At.there (At.there (At.here))))))) | exact At.there (At.there (At.there (At.there (At.there (At.there (At.there (At.there (At.here)))))))) | exact At.there (At.there (At.there (At.there (At.there (At.there (At.there (At.there (At.there (At.here))))))))))))))) h) (by repeat (first | exact List.Sublist.refl _ | apply List.Sublist.cons_cons | apply List.Sublist.cons)))
  · have hs : sfx l j = r5 := g2'
    repeat' (first
    | (show YK _ _ _ _ _ ⟨_, .call { callee := .builtin .len, args := _, argTypes := #[9] }, _, _, _, _⟩ _; refine YK.ofV (y_lenS (by rfl) StrTy.is) ?_)
    | (show VK _ _ _ _ _ ⟨_, .call { callee := .builtin .len, args := _, argTypes := #[9] }, _, _, _, _⟩ _; refine VK.mk (y_lenS (by rfl) StrTy.is) ?_)
    | (show YG _ _ _ _ _ _ ⟨_, .call { callee := .builtin .len, args := _, argTypes := #[9] }, _, _, _, _⟩ _; refine YG.mk (fun hb => by (try (have hc := And.left hb; have hb := And.right hb; rw [hc])); (try rw [hb]); exact V.y (y_lenS (by rfl) StrTy.is)) ?_)
    | (show VG _ _ _ _ _ _ ⟨_, .call { callee := .builtin .len, args := _, argTypes := #[9] }, _, _, _, _⟩ _; refine VG.mk (fun hb => by (try (have hc := And.left hb; have hb := And.right hb; rw [hc])); (try rw [hb]); exact y_lenS (by rfl) StrTy.is) ?_)
    | (refine nxN ?_)
    | (show RS _ _ _ _ _ _ _ (⟨_, .call { callee := .value (.func 87), args := _, argTypes := _ }, _, _, _, _⟩ :: _); refine RS.callL (c6 _ hs) trivial ?_; rintro z6 ⟨hz6, hy6⟩; dsimp only [List.cons_append, List.nil_append])
    | (refine nxV ?_)
    | (show RS _ _ _ _ _ _ _ _; first | (refine nxRS ?_) | (refine nxRS1 fun _ => ?_))
    | (show RM _ _ _ _ _ _ _ _ _ _; first | (refine nxRM ?_) | (refine nxRM1 fun _ => ?_))
    | (refine nxG ?_)
    | (refine nxVS ?_)
    | (refine nxGS ?_)
    | (refine G.mixedA 7 [.go 0, .go 1, .go 2, .go 3, .go 4, .go 5, .go 6, .go 7, .go 8] ?_)
    | (refine nxX ?_)
    | (refine G.condN rfl (fun hc => ?_) (fun hc => ?_) <;> (try first | exact False.elim hc | (exfalso; omega))))
    have hel2 : es.drop 0 = es := rfl
    refine G.loop (ι := Nat × Nat × Sl × Sl) (fun x => [(0, ptr b), (2, ptr b2), (3, ptr b3), (39, .int .i64 (x.1 : Int))]) (fun x => enX b v l x.2.1 b3 nm x.2.2.1 x.2.2.2 se pa be ((es.take x.1).map (·.1)) ((es.take x.1).map (·.2)) ++ t0B b2 :: HR) (fun x => x.1 ≤ 25 ∧ entsP (25 - x.1) x.1 (sfx l x.2.1) = some (es.drop x.1, r) ∧ x.2.1 ≤ l.length) (fun x => 25 - x.1) (0, z6, nilS, nilS) ⟨Nat.zero_le _, by dsimp only; rw [hz6]; exact he, hy6⟩ ⟨rfl, rfl, rfl, rfl, trivial⟩ (fun w h => St.sub (St.picked (xs := [rdB b v z6, tkR v l, trB b3 nm nilS nilS se pa be, iR nilS [], iR nilS [], t0B b2]) (by (repeat (first | exact Pick.nil | (apply Pick.cons; (case a => (first | exact At.here | exact At.there (At.here) | exact At.there (At.there (At.here)) | exact At.there (At.there (At.there (At.here))) | exact At.there (At.there (At.there (At.there (At.here)))) | exact At.there (At.there (At.there (At.there (At.there (At.here))))) | exact At.there (At.there (At.there (At.there (At.there (At.there (At.here)))))) | exact At.there (At.there (At.there (At.there (At.there (At.there (At.there (At.here))))))) | exact At.there (At.there (At.there (At.there (At.there (At.there (At.there (At.there (At.here)))))))) | exact At.there (At.there (At.there (At.there (At.there (At.there (At.there (At.there (At.there (At.here))))))))))))))) ((h.nilRow 3 cI 1).nilRow 3 cI 1)) (by repeat (first | exact List.Sublist.refl _ | apply List.Sublist.cons_cons | apply List.Sublist.cons))) ?_
    rintro ⟨k, j, gz, dz⟩ mx ⟨p1, p2, p3⟩ hmx
    dsimp only at p1 p2 p3 hmx ⊢
    dsimp only [List.cons_append, List.nil_append]
    have tl : (es.take k).length ≤ 25 := by rw [List.length_take]; omega
    have gl1 : ((es.take k).map (·.1)).length ≤ 1000 := by rw [List.length_map]; omega
    have gl2 : ((es.take k).map (·.2)).length ≤ 1000 := by rw [List.length_map]; omega
    rcases Nat.lt_or_ge k 25 with hk | hk
    · rw [show 25 - k = 24 - k + 1 by omega] at p2
      obtain ⟨x, xs, q, f1, f2, f3⟩ := ents_step p2
      obtain ⟨y0, q0, f4⟩ := ent_some f1
      have s1 := skip_c (b := b) (v := v) hl f4 p3
      have s2 := fun i' (hi : sfx l i' = y0 :: q0) => entry_c (b := b) (v := v) (i := i') (bt := b3) (nm := nm) (gz := gz) (dz := dz) (se := se) (pa := pa) (be := be) (hour := (k : Int)) (g := x.1) (d := x.2) (r := q) hl gl1 gl2 (by rw [hi, ← f4]; exact f1)
      have d1 : es.drop (k + 1) = xs := by rw [← List.drop_drop, f3]; rfl
      have d2 : es.take (k + 1) = es.take k ++ [x] := by
        rw [List.take_add_one]
        have : es[k]? = some x := by
          have := congrArg (·[0]?) f3
          simpa using this
        rw [this]; rfl
      repeat' (first
    | (show YK _ _ _ _ _ ⟨_, .call { callee := .builtin .len, args := _, argTypes := #[9] }, _, _, _, _⟩ _; refine YK.ofV (y_lenS (by rfl) StrTy.is) ?_)
    | (show VK _ _ _ _ _ ⟨_, .call { callee := .builtin .len, args := _, argTypes := #[9] }, _, _, _, _⟩ _; refine VK.mk (y_lenS (by rfl) StrTy.is) ?_)
    | (show YG _ _ _ _ _ _ ⟨_, .call { callee := .builtin .len, args := _, argTypes := #[9] }, _, _, _, _⟩ _; refine YG.mk (fun hb => by (try (have hc := And.left hb; have hb := And.right hb; rw [hc])); (try rw [hb]); exact V.y (y_lenS (by rfl) StrTy.is)) ?_)
    | (show VG _ _ _ _ _ _ ⟨_, .call { callee := .builtin .len, args := _, argTypes := #[9] }, _, _, _, _⟩ _; refine VG.mk (fun hb => by (try (have hc := And.left hb; have hb := And.right hb; rw [hc])); (try rw [hb]); exact y_lenS (by rfl) StrTy.is) ?_)
    | (refine nxN ?_)
    | (show RS _ _ _ _ _ _ _ (⟨_, .call { callee := .value (.func 84), args := _, argTypes := _ }, _, _, _, _⟩ :: _); refine RS.callL (s1) trivial ?_; rintro z7 ⟨hz7, hy7⟩; dsimp only [List.cons_append, List.nil_append])
    | (show RS _ _ _ _ _ _ _ (⟨_, .call { callee := .value (.func 126), args := _, argTypes := _ }, _, _, _, _⟩ :: _); refine RS.callL (s2 _ hz7) hI ?_; rintro z8 ⟨hz8, hy8⟩; dsimp only [List.cons_append, List.nil_append])
    | (refine nxV ?_)
    | (show RS _ _ _ _ _ _ _ _; first | (refine nxRS ?_) | (refine nxRS1 fun _ => ?_))
    | (show RM _ _ _ _ _ _ _ _ _ _; first | (refine nxRM ?_) | (refine nxRM1 fun _ => ?_))
    | (refine nxG ?_)
    | (refine nxVS ?_)
    | (refine nxGS ?_)
    | (refine G.mixedA 7 [.go 0, .go 1, .go 2, .go 3, .go 4, .go 5, .go 6, .go 7, .go 8] ?_)
    | (refine nxX ?_)
    | (refine G.condN rfl (fun hc => ?_) (fun hc => ?_) <;> (try first | exact False.elim hc | (exfalso; omega))))
      refine X.again (k + 1, z8.1, z8.2.1, z8.2.2) ⟨by dsimp only; omega, ?_, hy8⟩ (by dsimp only; omega) ⟨rfl, rfl, rfl, rfl, trivial⟩ (fun w h => ?_)
      · dsimp only
        rw [hz8, show 25 - (k + 1) = 24 - k by omega, d1]
        exact f2
      · dsimp only [List.cons_append, List.nil_append]
        rw [d2, List.map_append, List.map_append]
        exact h.sub (by repeat (first | exact List.Sublist.refl _ | apply List.Sublist.cons_cons | apply List.Sublist.cons))
    · obtain rfl : k = 25 := by omega
      have p2' : some (([] : List (Int × Int)), sfx l j) = some (es.drop 25, r) := p2
      simp only [Option.some.injEq, Prod.mk.injEq] at p2'
      have et : es.take 25 = es := List.take_of_length_le (by omega)
      rw [et, ← eg, ← ed]
      repeat' (first
    | (show YK _ _ _ _ _ ⟨_, .call { callee := .builtin .len, args := _, argTypes := #[9] }, _, _, _, _⟩ _; refine YK.ofV (y_lenS (by rfl) StrTy.is) ?_)
    | (show VK _ _ _ _ _ ⟨_, .call { callee := .builtin .len, args := _, argTypes := #[9] }, _, _, _, _⟩ _; refine VK.mk (y_lenS (by rfl) StrTy.is) ?_)
    | (show YG _ _ _ _ _ _ ⟨_, .call { callee := .builtin .len, args := _, argTypes := #[9] }, _, _, _, _⟩ _; refine YG.mk (fun hb => by (try (have hc := And.left hb; have hb := And.right hb; rw [hc])); (try rw [hb]); exact V.y (y_lenS (by rfl) StrTy.is)) ?_)
    | (show VG _ _ _ _ _ _ ⟨_, .call { callee := .builtin .len, args := _, argTypes := #[9] }, _, _, _, _⟩ _; refine VG.mk (fun hb => by (try (have hc := And.left hb; have hb := And.right hb; rw [hc])); (try rw [hb]); exact y_lenS (by rfl) StrTy.is) ?_)
    | (refine nxN ?_)
    | (refine nxV ?_)
    | (show RS _ _ _ _ _ _ _ _; first | (refine nxRS ?_) | (refine nxRS1 fun _ => ?_))
    | (show RM _ _ _ _ _ _ _ _ _ _; first | (refine nxRM ?_) | (refine nxRM1 fun _ => ?_))
    | (refine nxG ?_)
    | (refine nxVS ?_)
    | (refine nxGS ?_)
    | (refine G.mixedA 7 [.go 0, .go 1, .go 2, .go 3, .go 4, .go 5, .go 6, .go 7, .go 8] ?_)
    | (refine nxX ?_)
    | (refine G.condN rfl (fun hc => ?_) (fun hc => ?_) <;> (try first | exact False.elim hc | (exfalso; omega))))
      exact X.ret (vs := [_]) rfl ⟨⟨_, _, _, _, rfl, (by exact memA), (by (repeat (first | exact .nil | apply LenIs.cons))), by decide +kernel, rfl⟩, rfl⟩ rfl (fun w hw => ⟨(j, gz, dz), ⟨p2'.2, p3⟩, rfl, St.frozU (.there _ (.there _ (.there _ (.here _)))) (St.frozU (.there _ (.there _ (.here _))) (St.sub (St.picked (xs := [rdB b v j, tkR v l, iR gz gl, iR dz dl]) (by (repeat (first | exact Pick.nil | (apply Pick.cons; (case a => (first | exact At.here | exact At.there (At.here) | exact At.there (At.there (At.here)) | exact At.there (At.there (At.there (At.here))) | exact At.there (At.there (At.there (At.there (At.here)))) | exact At.there (At.there (At.there (At.there (At.there (At.here))))) | exact At.there (At.there (At.there (At.there (At.there (At.there (At.here)))))) | exact At.there (At.there (At.there (At.there (At.there (At.there (At.there (At.here))))))) | exact At.there (At.there (At.there (At.there (At.there (At.there (At.there (At.there (At.here)))))))) | exact At.there (At.there (At.there (At.there (At.there (At.there (At.there (At.there (At.there (At.here))))))))))))))) hw) (by repeat (first | exact List.Sublist.refl _ | apply List.Sublist.cons_cons | apply List.Sublist.cons))))⟩)
end Go.Proofs.YtpekkcahehhkmaaGreatDoor
/- The reader of pages: page. -/
set_option linter.unusedVariables false
set_option maxHeartbeats 4000000
namespace Go.Proofs.YtpekkcahehhkmaaGreatDoor
open Go.RowKit

/-- The lists inside of tracks. -/
def inn : List TrkT → List Hl
  | [] => []
  | t :: r => Hl.nw t.gv.v cI 1 t.gl :: Hl.nw t.dv.v cI 1 t.dl :: inn r
def trkP (t : TrkT) : TrkP := (t.nm, t.gl, t.dl, t.se, t.pa, t.be)
theorem trks_inv {k : Nat} {E : List TkE} {ts : List TrkP} (h : tracksP (k + 1) E = some ts) : (∃ t ts' r x q, skipP E = x :: q ∧ (x.1 = 1 ∧ x.2 = bBody) ∧ trackP (skipP E) = some (t, r) ∧ tracksP k r = some ts' ∧ ts = t :: ts') ∨ ∃ x q, skipP E = x :: q ∧ x.1 = 5 ∧ ts = [] := by
  unfold tracksP at h
  by_cases hb : isBodyP (skipP E) = true
  · rw [if_pos hb] at h
    simp only [Option.bind_eq_bind, Option.bind_eq_some_iff] at h
    obtain ⟨⟨t, r⟩, h1, ts', h2, h3⟩ := h
    dsimp only at h2
    cases hs : skipP E with
    | nil => rw [hs] at hb; cases hb
    | cons x q =>
      rw [hs] at hb h1
      have hb' : (decide (x.1 = 1) && decide (x.2 = bBody)) = true := hb
      simp only [Bool.and_eq_true, decide_eq_true_eq] at hb'
      refine .inl ⟨t, ts', r, x, q, rfl, hb', h1, h2, ?_⟩
      simp only [Option.some.injEq] at h3
      exact h3.symm
  · rw [if_neg hb] at h
    cases hs : skipP E with
    | nil => rw [hs] at h; cases h
    | cons x q =>
      rw [hs] at h
      have h' : (if x.1 = 5 then some ([] : List TrkP) else none) = some ts := h
      split at h'
      · rename_i g
        simp only [Option.some.injEq] at h'
        exact .inr ⟨x, q, rfl, g, h'.symm⟩
      · cases h'
theorem date_inv {E r : List TkE} {y m d : Int} (h : dateH E = some ((y, m, d), r)) : ∃ r1 r2 r3 r4 r5 r6, nextP 1 bPage (skipP E) = some (bPage, r1) ∧ numP 4 0 r1 = some (y, r2) ∧ nextP 3 [45] r2 = some ([45], r3) ∧ numP 2 0 r3 = some (m, r4) ∧ nextP 3 [45] r4 = some ([45], r5) ∧ numP 2 0 r5 = some (d, r6) ∧ endP r6 = some r := by
  unfold dateH at h
  simp only [Option.bind_eq_bind, Option.bind_eq_some_iff] at h
  obtain ⟨⟨s1, r1⟩, h1, ⟨y', r2⟩, h2, ⟨s3, r3⟩, h3, ⟨m', r4⟩, h4, ⟨s5, r5⟩, h5, ⟨d', r6⟩, h6, r7, h7, h8⟩ := h
  dsimp only at h2 h3 h4 h5 h6 h7 h8
  simp only [Option.some.injEq, Prod.mk.injEq] at h8
  obtain ⟨⟨rfl, rfl, rfl⟩, rfl⟩ := h8
  exact ⟨r1, r2, r3, r4, r5, r6, next_of (by decide) h1, h2, next_of (by decide) h3, h4, next_of (by decide) h5, h6, h7⟩
theorem RM.lit1T {P : Program} {ops : Array Oper} {Q : Exit → Act → World → Prop} {n i : Nat} {L : FL} {w0 : World} {H HS : List Hl} {ord : List Mv} {dd : Tmp} {ty : TypeId} {pos : String} {af : Array Edge} {t e : TypeId} {bytes : Nat} {x : Operand} {a : TrkT} (h : ∀ v' : Sl, RM P ops Q HS n [] ((dd, v'.v) :: L) w0 (Hl.rw v'.v e cT 6 [a] :: H) ord) (ho : ops[i]? = some ⟨some dd, .buildSlice t 1 #[(0, x)], ty, pos, af, none⟩) (hx : evO L x = some (trV a)) [ht : RowTy P t e 6 bytes] (hd : Nat.blt dd n = true)
    (hs : ∀ (v' : Sl) w, St w0 (Hl.rw v'.v e cT 6 [a] :: H) w → St w0 HS w) : RM P ops Q HS n [] L w0 H (.go i :: ord) :=
  RM.actX ho rfl rfl (x_litS (parts := [(0, x)]) (vs := [trV a]) (cs := cT a) (f := cT) (l := [a]) ⟨hx, rfl⟩ rfl rfl rfl rfl (fun zs hz => by
      match zs, hz with
      | [_, _, _, _, _, _], _ => rfl) rfl rfl rfl (rowTy_B ht.is) hd) (.inl hs) fun v' _ => h v'
abbrev pgB (b : Nat) (y m d : Int) (v : Value) : Hl := Hl.blk b 26 [.int .i64 y, .int .i64 m, .int .i64 d, v]
theorem page_c {b : Nat} {v : Value} {l : List TokT} {k : Nat} {y m d : Int} {ts : List TrkP} (hl : l.length ≤ 1000000) (hts : ts.length ≤ 1000) (h : pageP k (sfx l 0) = some ((y, m, d), ts)) :
    ContL Tryz.prog Laid (rdX b v l 0) 57 [ptr b] (fun z : List TrkT × Nat × Sl => z.1.map trkP = ts) (fun z => pgV y m d z.2.2.v) (fun z => rdX b v l z.2.1 ++ Hl.nw z.2.2.v cT 6 z.1 :: inn z.1.reverse) := fun w0 HR w hI hw => by
  obtain ⟨r0, hh, ht⟩ : ∃ r, dateH (sfx l 0) = some ((y, m, d), r) ∧ tracksP k r = some ts := by
    unfold pageP at h
    simp only [Option.bind_eq_bind, Option.bind_eq_some_iff] at h
    obtain ⟨⟨x, r⟩, h1, ts', h2, h3⟩ := h
    dsimp only at h2
    simp only [Option.some.injEq, Prod.mk.injEq] at h3
    obtain ⟨rfl, rfl⟩ := h3
    exact ⟨r, h1, h2⟩
  obtain ⟨r1, r2, r3, r4, r5, r6, a1, a2, a3, a4, a5, a6, a7⟩ := date_inv hh
  obtain ⟨q0, e0, _⟩ := next_inv a1
  have c0 := skip_c (b := b) (v := v) hl e0 (Nat.zero_le _)
  have c1 := fun i' (hi : sfx l i' = (1, bPage) :: q0) => next_c (b := b) (v := v) (i := i') hl (by rw [hi, ← e0]; exact a1)
  have c2 := fun i' (hi : sfx l i' = r1) => (rdnum_c (b := b) (v := v) (i := i') hl (by rw [hi]; exact a2) (by decide) (by decide)).2.choose_spec
  have c3 := fun i' (hi : sfx l i' = r2) => next_c (b := b) (v := v) (i := i') hl (by rw [hi]; exact a3)
  have c4 := fun i' (hi : sfx l i' = r3) => (rdnum_c (b := b) (v := v) (i := i') hl (by rw [hi]; exact a4) (by decide) (by decide)).2.choose_spec
  have c5 := fun i' (hi : sfx l i' = r4) => next_c (b := b) (v := v) (i := i') hl (by rw [hi]; exact a5)
  have c6 := fun i' (hi : sfx l i' = r5) => (rdnum_c (b := b) (v := v) (i := i') hl (by rw [hi]; exact a6) (by decide) (by decide)).2.choose_spec
  have c7 := fun i' (hi : sfx l i' = r6) => end_c (b := b) (v := v) (i := i') hl (by rw [hi]; exact a7)
  refine enterU Tryz.func57 rfl rfl rfl hw ?_
  dsimp only [List.cons_append, List.nil_append]
  repeat' (first
    | (show YK _ _ _ _ _ ⟨_, .call { callee := .builtin .len, args := _, argTypes := #[9] }, _, _, _, _⟩ _; refine YK.ofV (y_lenS (by rfl) StrTy.is) ?_)
    | (show VK _ _ _ _ _ ⟨_, .call { callee := .builtin .len, args := _, argTypes := #[9] }, _, _, _, _⟩ _; refine VK.mk (y_lenS (by rfl) StrTy.is) ?_)
    | (show YG _ _ _ _ _ _ ⟨_, .call { callee := .builtin .len, args := _, argTypes := #[9] }, _, _, _, _⟩ _; refine YG.mk (fun hb => by (try (have hc := And.left hb; have hb := And.right hb; rw [hc])); (try rw [hb]); exact V.y (y_lenS (by rfl) StrTy.is)) ?_)
    | (show VG _ _ _ _ _ _ ⟨_, .call { callee := .builtin .len, args := _, argTypes := #[9] }, _, _, _, _⟩ _; refine VG.mk (fun hb => by (try (have hc := And.left hb; have hb := And.right hb; rw [hc])); (try rw [hb]); exact y_lenS (by rfl) StrTy.is) ?_)
    | (refine nxN ?_)
    | (show RS _ _ _ _ _ _ _ (⟨_, .call { callee := .value (.func 84), args := _, argTypes := _ }, _, _, _, _⟩ :: _); refine RS.callL (c0) trivial ?_; rintro y0 ⟨hx0, hb0⟩; dsimp only [List.cons_append, List.nil_append])
    | (show RS _ _ _ _ _ _ _ (⟨_, .call { callee := .value (.func 85), args := _, argTypes := _ }, _, _, _, _⟩ :: _); refine RS.callL (c1 _ hx0) trivial ?_; rintro y1 ⟨hx1, hb1⟩; dsimp only [List.cons_append, List.nil_append])
    | (show RS _ _ _ _ _ _ _ (⟨_, .call { callee := .value (.func 86), args := _, argTypes := _ }, _, _, _, _⟩ :: _); refine RS.callL (c2 _ hx1) hI ?_; rintro y2 ⟨hx2, hb2⟩; dsimp only [List.cons_append, List.nil_append])
    | (show RS _ _ _ _ _ _ _ (⟨_, .call { callee := .value (.func 85), args := _, argTypes := _ }, _, _, _, _⟩ :: _); refine RS.callL (c3 _ hx2) trivial ?_; rintro y3 ⟨hx3, hb3⟩; dsimp only [List.cons_append, List.nil_append])
    | (show RS _ _ _ _ _ _ _ (⟨_, .call { callee := .value (.func 86), args := _, argTypes := _ }, _, _, _, _⟩ :: _); refine RS.callL (c4 _ hx3) hI ?_; rintro y4 ⟨hx4, hb4⟩; dsimp only [List.cons_append, List.nil_append])
    | (show RS _ _ _ _ _ _ _ (⟨_, .call { callee := .value (.func 85), args := _, argTypes := _ }, _, _, _, _⟩ :: _); refine RS.callL (c5 _ hx4) trivial ?_; rintro y5 ⟨hx5, hb5⟩; dsimp only [List.cons_append, List.nil_append])
    | (show RS _ _ _ _ _ _ _ (⟨_, .call { callee := .value (.func 86), args := _, argTypes := _ }, _, _, _, _⟩ :: _); refine RS.callL (c6 _ hx5) hI ?_; rintro y6 ⟨hx6, hb6⟩; dsimp only [List.cons_append, List.nil_append])
    | (show RS _ _ _ _ _ _ _ (⟨_, .call { callee := .value (.func 87), args := _, argTypes := _ }, _, _, _, _⟩ :: _); refine RS.callL (c7 _ hx6) trivial ?_; rintro y7 ⟨hx7, hb7⟩; dsimp only [List.cons_append, List.nil_append])
    | (refine nxV ?_)
    | (show RS _ _ _ _ _ _ _ _; first | (refine nxRS ?_) | (refine nxRS1 fun _ => ?_))
    | (show RM _ _ _ _ _ _ _ _ _ _; first | (refine nxRM ?_) | (refine nxRM1 fun _ => ?_))
    | (refine nxG ?_)
    | (refine nxVS ?_)
    | (refine nxGS ?_)
    | (refine G.mixedA 14 [.go 0, .go 1, .go 2, .go 3, .go 4, .go 5, .go 6, .go 7] ?_)
    | (refine nxX ?_)
    | (refine G.condN rfl (fun hc => ?_) (fun hc => ?_) <;> (try first | exact False.elim hc | (exfalso; omega))))
  rename_i b2 b3
  refine G.loop (ι := List TrkT × Nat × Nat × Sl) (fun _ => [(0, ptr b), (2, ptr b2), (3, ptr b3)]) (fun x => rdB b v x.2.2.1 :: tkR v l :: pgB b3 y m d x.2.2.2.v :: Hl.rw x.2.2.2.v 42 cT 6 x.1 :: pgB b2 0 0 0 (.slice none 0 0) :: (inn x.1.reverse ++ HR)) (fun x => ∃ rest, tracksP x.2.1 (sfx l x.2.2.1) = some rest ∧ x.1.map trkP ++ rest = ts ∧ x.2.2.1 ≤ l.length) (fun x => x.2.1) ([], k, y7, nilS) ⟨ts, by dsimp only; rw [hx7]; exact ht, rfl, hb7⟩ ⟨rfl, rfl, rfl, trivial⟩ (fun w h => St.sub (St.picked (xs := [rdB b v y7, tkR v l, pgB b3 y m d (.slice none 0 0), Hl.rw (.slice none 0 0) 42 cT 6 [], pgB b2 0 0 0 (.slice none 0 0)]) (by (repeat (first | exact Pick.nil | (apply Pick.cons; (case a => (first | exact At.here | exact At.there (At.here) | exact At.there (At.there (At.here)) | exact At.there (At.there (At.there (At.here))) | exact At.there (At.there (At.there (At.there (At.here)))) | exact At.there (At.there (At.there (At.there (At.there (At.here))))) | exact At.there (At.there (At.there (At.there (At.there (At.there (At.here)))))) | exact At.there (At.there (At.there (At.there (At.there (At.there (At.there (At.here))))))) | exact At.there (At.there (At.there (At.there (At.there (At.there (At.there (At.there (At.here)))))))) | exact At.there (At.there (At.there (At.there (At.there (At.there (At.there (At.there (At.there (At.here))))))))))))))) (h.nilRow 42 cT 6)) (by repeat (first | exact List.Sublist.refl _ | apply List.Sublist.cons_cons | apply List.Sublist.cons))) ?_
  rintro ⟨ds, fu, j, tz⟩ mx ⟨rest, p1, p2, p3⟩ hmx
  dsimp only at p1 p2 p3 hmx ⊢
  cases fu with
  | zero => cases p1
  | succ fu =>
    have hdl : ds.length ≤ 1000 := by
      have := congrArg List.length p2
      rw [List.length_append, List.length_map] at this
      omega
    rcases trks_inv p1 with ⟨t, ts', r, x, q, f1, f2, f3, f4, rfl⟩ | ⟨x, q, f1, f2, rfl⟩
    · have s1 := skip_c (b := b) (v := v) hl f1 p3
      have s2 := fun i' (hi : sfx l i' = x :: q) => is_c (b := b) (v := v) (i := i') (t := bBody) hl hi
      have s3 := fun i' (hi : sfx l i' = x :: q) => track_c (b := b) (v := v) (i := i') hl (by rw [hi, ← f1]; exact f3)
      rw [show (decide (x.1 = 1) && decide (x.2 = bBody)) = true by rw [f2.1, f2.2]; rfl] at s2
      repeat' (first
    | (show YK _ _ _ _ _ ⟨_, .call { callee := .builtin .len, args := _, argTypes := #[9] }, _, _, _, _⟩ _; refine YK.ofV (y_lenS (by rfl) StrTy.is) ?_)
    | (show VK _ _ _ _ _ ⟨_, .call { callee := .builtin .len, args := _, argTypes := #[9] }, _, _, _, _⟩ _; refine VK.mk (y_lenS (by rfl) StrTy.is) ?_)
    | (show YG _ _ _ _ _ _ ⟨_, .call { callee := .builtin .len, args := _, argTypes := #[9] }, _, _, _, _⟩ _; refine YG.mk (fun hb => by (try (have hc := And.left hb; have hb := And.right hb; rw [hc])); (try rw [hb]); exact V.y (y_lenS (by rfl) StrTy.is)) ?_)
    | (show VG _ _ _ _ _ _ ⟨_, .call { callee := .builtin .len, args := _, argTypes := #[9] }, _, _, _, _⟩ _; refine VG.mk (fun hb => by (try (have hc := And.left hb; have hb := And.right hb; rw [hc])); (try rw [hb]); exact y_lenS (by rfl) StrTy.is) ?_)
    | (refine nxN ?_)
    | (show RS _ _ _ _ _ _ _ (⟨_, .call { callee := .value (.func 84), args := _, argTypes := _ }, _, _, _, _⟩ :: _); refine RS.callL (s1) trivial ?_; rintro z1 ⟨hz1, hy1⟩; dsimp only [List.cons_append, List.nil_append])
    | (show RS _ _ _ _ _ _ _ (⟨_, .call { callee := .value (.func 88), args := _, argTypes := _ }, _, _, _, _⟩ :: _); refine RS.callL (s2 _ hz1) trivial ?_; rintro z2 _; dsimp only [List.cons_append, List.nil_append])
    | (show RM _ _ _ _ _ _ _ _ _ (.go 3 :: _); refine RM.callL (s3 _ hz1) hI ?_; rintro z3 ⟨hz3, hy3⟩; dsimp only [List.cons_append, List.nil_append])
    | (show RM _ _ _ _ _ _ _ _ _ (.go 4 :: _); refine RM.lit1T ?_ rfl rfl rfl (fun _ w hw => hw.sub (by repeat (first | exact List.Sublist.refl _ | apply List.Sublist.cons_cons | apply List.Sublist.cons))); intro lN)
    | (show RM _ _ _ _ _ _ _ _ _ (.go 5 :: _); refine RM.appendA (f' := cT) (l := ds) (l' := [⟨t.1, z3.2.1, t.2.1, z3.2.2, t.2.2.1, t.2.2.2.1, t.2.2.2.2.1, t.2.2.2.2.2⟩]) ?_ rfl rfl rfl (by intro v'; exact updA) (by exact rdA) (fun _ => rfl) (by exact omlA) rfl (fun _ w hw => hw.sub (by repeat (first | exact List.Sublist.refl _ | apply List.Sublist.cons_cons | apply List.Sublist.cons))); intro dN)
    | (refine G.mixedM 14 [.go 0, .go 1, .go 2, .go 3, .go 4, .go 5, .go 6, .go 7] [false, false, true, false] ?_; dsimp only [maskH])
    | (refine nxV ?_)
    | (show RS _ _ _ _ _ _ _ _; first | (refine nxRS ?_) | (refine nxRS1 fun _ => ?_))
    | (show RM _ _ _ _ _ _ _ _ _ _; first | (refine nxRM ?_) | (refine nxRM1 fun _ => ?_))
    | (refine nxG ?_)
    | (refine nxVS ?_)
    | (refine nxGS ?_)
    | (refine nxX ?_)
    | (refine G.condN rfl (fun hc => ?_) (fun hc => ?_) <;> (try first | exact False.elim hc | (exfalso; omega))))
      refine X.again (ds ++ [⟨t.1, z3.2.1, t.2.1, z3.2.2, t.2.2.1, t.2.2.2.1, t.2.2.2.2.1, t.2.2.2.2.2⟩], fu, z3.1, dN) ⟨ts', by dsimp only; rw [hz3]; exact f4, ?_, hy3⟩ (by dsimp only; omega) ⟨rfl, rfl, rfl, trivial⟩ (fun w h => ?_)
      · rw [List.map_append, List.append_assoc]
        exact p2
      · have er : (ds ++ [(⟨t.1, z3.2.1, t.2.1, z3.2.2, t.2.2.1, t.2.2.2.1, t.2.2.2.2.1, t.2.2.2.2.2⟩ : TrkT)]).reverse = ⟨t.1, z3.2.1, t.2.1, z3.2.2, t.2.2.1, t.2.2.2.1, t.2.2.2.2.1, t.2.2.2.2.2⟩ :: ds.reverse := by rw [List.reverse_append]; rfl
        dsimp only
        rw [er]
        refine St.sub (St.picked (xs := [rdB b v z3.1, tkR v l, pgB b3 y m d dN.v, Hl.rw dN.v 42 cT 6 (ds ++ [⟨t.1, z3.2.1, t.2.1, z3.2.2, t.2.2.1, t.2.2.2.1, t.2.2.2.2.1, t.2.2.2.2.2⟩]), pgB b2 0 0 0 (.slice none 0 0)]) (by (repeat (first | exact Pick.nil | (apply Pick.cons; (case a => (first | exact At.here | exact At.there (At.here) | exact At.there (At.there (At.here)) | exact At.there (At.there (At.there (At.here))) | exact At.there (At.there (At.there (At.there (At.here)))) | exact At.there (At.there (At.there (At.there (At.there (At.here))))) | exact At.there (At.there (At.there (At.there (At.there (At.there (At.here)))))) | exact At.there (At.there (At.there (At.there (At.there (At.there (At.there (At.here))))))) | exact At.there (At.there (At.there (At.there (At.there (At.there (At.there (At.there (At.here)))))))) | exact At.there (At.there (At.there (At.there (At.there (At.there (At.there (At.there (At.there (At.here))))))))))))))) h) ?_
        repeat (first | exact List.Sublist.refl _ | apply List.Sublist.cons_cons | apply List.Sublist.cons)
    · have s1 := skip_c (b := b) (v := v) hl f1 p3
      have s2 := fun i' (hi : sfx l i' = x :: q) => is_c (b := b) (v := v) (i := i') (t := bBody) hl hi
      have s3 := fun i' (hi : sfx l i' = x :: q) => next_c (b := b) (v := v) (i := i') (k := 5) (t := []) (s := x.2) (r := x :: q) hl (by rw [hi, nextP_cons, if_pos ⟨f2, .inl rfl⟩, if_pos rfl])
      rw [show (decide (x.1 = 1) && decide (x.2 = bBody)) = false by rw [f2]; rfl] at s2
      repeat' (first
    | (show YK _ _ _ _ _ ⟨_, .call { callee := .builtin .len, args := _, argTypes := #[9] }, _, _, _, _⟩ _; refine YK.ofV (y_lenS (by rfl) StrTy.is) ?_)
    | (show VK _ _ _ _ _ ⟨_, .call { callee := .builtin .len, args := _, argTypes := #[9] }, _, _, _, _⟩ _; refine VK.mk (y_lenS (by rfl) StrTy.is) ?_)
    | (show YG _ _ _ _ _ _ ⟨_, .call { callee := .builtin .len, args := _, argTypes := #[9] }, _, _, _, _⟩ _; refine YG.mk (fun hb => by (try (have hc := And.left hb; have hb := And.right hb; rw [hc])); (try rw [hb]); exact V.y (y_lenS (by rfl) StrTy.is)) ?_)
    | (show VG _ _ _ _ _ _ ⟨_, .call { callee := .builtin .len, args := _, argTypes := #[9] }, _, _, _, _⟩ _; refine VG.mk (fun hb => by (try (have hc := And.left hb; have hb := And.right hb; rw [hc])); (try rw [hb]); exact y_lenS (by rfl) StrTy.is) ?_)
    | (refine nxN ?_)
    | (show RS _ _ _ _ _ _ _ (⟨_, .call { callee := .value (.func 84), args := _, argTypes := _ }, _, _, _, _⟩ :: _); refine RS.callL (s1) trivial ?_; rintro z1 ⟨hz1, hy1⟩; dsimp only [List.cons_append, List.nil_append])
    | (show RS _ _ _ _ _ _ _ (⟨_, .call { callee := .value (.func 88), args := _, argTypes := _ }, _, _, _, _⟩ :: _); refine RS.callL (s2 _ hz1) trivial ?_; rintro z2 _; dsimp only [List.cons_append, List.nil_append])
    | (show RS _ _ _ _ _ _ _ (⟨_, .call { callee := .value (.func 85), args := _, argTypes := _ }, _, _, _, _⟩ :: _); refine RS.callL (s3 _ hz1) trivial ?_; rintro z3 ⟨hz3, hy3⟩; dsimp only [List.cons_append, List.nil_append])
    | (refine nxV ?_)
    | (show RS _ _ _ _ _ _ _ _; first | (refine nxRS ?_) | (refine nxRS1 fun _ => ?_))
    | (show RM _ _ _ _ _ _ _ _ _ _; first | (refine nxRM ?_) | (refine nxRM1 fun _ => ?_))
    | (refine nxG ?_)
    | (refine nxVS ?_)
    | (refine nxGS ?_)
    | (refine G.mixedA 14 [.go 0, .go 1, .go 2, .go 3, .go 4, .go 5, .go 6, .go 7] ?_)
    | (refine nxX ?_)
    | (refine G.condN rfl (fun hc => ?_) (fun hc => ?_) <;> (try first | exact False.elim hc | (exfalso; omega))))
      refine X.ret (vs := [_]) rfl ⟨⟨_, _, _, _, rfl, (by exact memA), (by (repeat (first | exact .nil | apply LenIs.cons))), by decide +kernel, rfl⟩, rfl⟩ rfl (fun w hw => ⟨(ds, z3, tz), ?_, rfl, ?_⟩)
      · rw [List.append_nil] at p2; exact p2
      · dsimp only [List.cons_append, List.nil_append]
        refine St.frozU (e := 42) (.there _ (.there _ (.here _))) (St.sub (St.picked (xs := [rdB b v z3, tkR v l, Hl.rw tz.v 42 cT 6 ds]) (by (repeat (first | exact Pick.nil | (apply Pick.cons; (case a => (first | exact At.here | exact At.there (At.here) | exact At.there (At.there (At.here)) | exact At.there (At.there (At.there (At.here))) | exact At.there (At.there (At.there (At.there (At.here)))) | exact At.there (At.there (At.there (At.there (At.there (At.here))))) | exact At.there (At.there (At.there (At.there (At.there (At.there (At.here)))))) | exact At.there (At.there (At.there (At.there (At.there (At.there (At.there (At.here))))))) | exact At.there (At.there (At.there (At.there (At.there (At.there (At.there (At.there (At.here)))))))) | exact At.there (At.there (At.there (At.there (At.there (At.there (At.there (At.there (At.there (At.here))))))))))))))) hw) ?_)
        repeat (first | exact List.Sublist.refl _ | apply List.Sublist.cons_cons | apply List.Sublist.cons)
end Go.Proofs.YtpekkcahehhkmaaGreatDoor
