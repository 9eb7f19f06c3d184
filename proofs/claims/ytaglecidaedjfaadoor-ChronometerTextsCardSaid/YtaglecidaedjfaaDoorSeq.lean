/- strings.SplitSeq at one byte: what the iterator hands out. -/
import Derived.Test.YtaglecidaedjfaaDoorRange
import Derived.Test.YtaglecidaedjfaaDoorLib2
import Derived.Test.YtaglecidaedjfaaDoorDec
set_option linter.unusedVariables false
namespace Go.Proofs.YtaglecidaedjfaaDoor
open Go.RowKit Go.Shelf
attribute [local go_sem] Oper.semAt_some

abbrev Wd (N : Nat) := { l : List UInt8 // l.length ≤ N }
abbrev encW {N : Nat} (x : Wd N) : Array Value := #[strV x.1]
def sizeC (bs : Nat) (w : World) : Nat := match w.cell? ⟨bs, 0, none⟩ with
  | some (.string b) => b.size
  | _ => 0

theorem idx1 (c : UInt8) : ∀ t : List UInt8, (Lib.indexByte t c = -1 ∧ c ∉ t) ∨ ∃ i : Nat, Lib.indexByte t c = (i : Int) ∧ i < t.length ∧ t = t.take i ++ c :: t.drop (i + 1) ∧ c ∉ t.take i
  | [] => .inl ⟨rfl, by simp⟩
  | b :: r => by
    unfold Lib.indexByte
    by_cases h : b = c
    · subst h
      exact .inr ⟨0, by simp, by simp, by simp, by simp⟩
    · rw [if_neg (by simpa using h)]
      rcases idx1 c r with ⟨h1, h2⟩ | ⟨i, h1, h2, h3, h4⟩
      · exact .inl ⟨by rw [h1]; rfl, by rw [List.mem_cons, not_or]; exact ⟨fun e => h e.symm, h2⟩⟩
      · refine .inr ⟨i + 1, by rw [h1, if_neg (by simp)]; omega, by simp; omega, ?_, ?_⟩
        · rw [List.take_succ_cons, List.drop_succ_cons, List.cons_append, ← h3]
        · rw [List.take_succ_cons, List.mem_cons, not_or]
          exact ⟨fun e => h e.symm, h4⟩
theorem split_notB {c : UInt8} {x : List UInt8} (h : c ∉ x) : Lib.split x [c] = [x] := by
  unfold Lib.split
  rw [Lib.count_miss (index_not x h)]; rfl
theorem split_atB {c : UInt8} {x : List UInt8} (y : List UInt8) (h : c ∉ x) : Lib.split (x ++ c :: y) [c] = x :: Lib.split y [c] := by
  have e := index_at x y h
  have hd : (x ++ c :: y).drop (x.length + 1) = y := by
    rw [List.drop_append, List.drop_eq_nil_of_le (by omega), show x.length + 1 - x.length = 1 by omega]; rfl
  unfold Lib.split
  rw [Lib.count_hit (by simp) e, Nat.add_comm 1]
  show Lib.splitK [c] 0 (Lib.count ((x ++ c :: y).drop (x.length + 1)) [c] + 1) (x ++ c :: y) = _
  rw [hd]
  have hk : ∀ k s, Lib.splitK [c] 0 (k + 1) s = if Lib.index s [c] == -1 then [s] else s.take ((Lib.index s [c]).toNat + 0) :: Lib.splitK [c] 0 k (s.drop ((Lib.index s [c]).toNat + [c].length)) := fun _ _ => rfl
  rw [hk, e, if_neg (by simp), Int.toNat_natCast, Nat.add_zero, List.take_left, show [c].length = 1 from rfl, hd]
set_option maxRecDepth 100000 in
set_option maxHeartbeats 2000000 in
theorem splitSeq1_in (n : Nat) (hn : 1 ≤ n) (l bp bs bv N : Nat) (hne : bp ≠ bs ∧ bv ≠ bs) (s0 : List UInt8) (hlen : s0.length ≤ N) (hN : N ≤ 1000000) (J Jx : List (Wd N) → World → Prop)
    (oC : ∀ s A v, J s A → J s (putC bs A v)) (hY : ∀ pre (x : Wd N) A, pre.length < (Lib.split s0 [32]).length → J pre A → YieldAt Fence.wide (n - 1) Tryd.prog l (encW x) A fun e B => (e = .returned (.bool true) ∧ J (pre ++ [x]) B ∧ KeepL [bp, bs, bv] A B) ∨ (e = .returned (.bool false) ∧ Jx (pre ++ [x]) B))
    (W : World) (c1 : W.cell? ⟨bp, 0, none⟩ = some (strV [32])) (c2 : W.cell? ⟨bs, 0, none⟩ = some (strV s0)) (c3 : W.cell? ⟨bv, 0, none⟩ = some (.int .i64 0)) (hf : W.frozen? ⟨bs, 0, none⟩ = false) (h0 : J [] W) :
    CallsIn Fence.wide n Tryd.prog 132 #[.func (.yield l) #[] #[], .pointer (some ⟨bp, 0, none⟩), .pointer (some ⟨bs, 0, none⟩), .pointer (some ⟨bv, 0, none⟩)] W fun e B => (∃ v, e = .returned v) ∧
      ((∃ xs : List (Wd N), xs.map (·.1) = Lib.split s0 [32] ∧ J xs B) ∨ (∃ pre : List (Wd N), pre.map (·.1) <+: Lib.split s0 [32] ∧ Jx pre B)) := by
  refine callsIn_of_wp Tryd.func132 rfl trivial ?_ rfl
  simp only [Tryd.ntmps132, List.size_toArray, List.length_cons, List.length_nil, Nat.reduceAdd, Nat.reduceSub, Array.replicate_succ, Array.replicate_zero, List.push_toArray, List.append_toArray, List.nil_append, List.cons_append]
  gi_wp2
  gi_loopw [7] (fun i wr => ∃ (pre : List (Wd N)) (t : List UInt8), t.length ≤ N ∧ wr.cell? ⟨bs, 0, none⟩ = some (strV t) ∧ wr.frozen? ⟨bs, 0, none⟩ = false ∧ J pre wr ∧ pre.map (·.1) ++ Lib.split t [32] = Lib.split s0 [32] ∧ wr.cell? ⟨bp, 0, none⟩ = some (strV [32]) ∧ wr.cell? ⟨bv, 0, none⟩ = some (.int .i64 0)) (fun _ wr => sizeC bs wr)
  case atStart => exact ⟨[], s0, hlen, c2, hf, h0, rfl, c1, c3⟩
  case round =>
    obtain ⟨pre, t, ht, d2, df, hJ, hsp, d1, d3⟩ := hrel
    rcases idx1 32 t with ⟨hi, hno⟩ | ⟨i, hi, hil, het, hno⟩
    · have q : ∀ w, Calls Tryd.prog 125 #[strV t, strV [32]] w fun e w' => e = .returned (.int .i64 (-1)) ∧ w' = w := fun w => (Tryd.strings_Index_one ⟨t.toArray⟩ 32 w).mono fun e w' h => ⟨h.1.trans (by rw [show (ByteArray.mk t.toArray).data.toList = t from rfl, hi]), h.2⟩
      obtain ⟨fn, tmps, assign, body, hy, hR⟩ := hY pre ⟨t, ht⟩ wr (by rw [← hsp, split_notB hno]; simp) hJ
      gi_wp2_with (refine ⟨trivial, ?_⟩; gi_at_call 125; refine (callsIn_wide.2 (q _)).mono ?_; rintro e w' ⟨rfl, rfl⟩)
      refine hR.mono ?_
      rintro e W3 (⟨rfl, hJ3, hk3⟩ | ⟨rfl, hJx3⟩)
      · gi_wp2
        go_end0
        exact ⟨⟨_, rfl⟩, .inl ⟨pre ++ [⟨t, ht⟩], by rw [List.map_append, ← hsp, split_notB hno]; rfl, hJ3⟩⟩
      · gi_wp2
        go_end0
        exact ⟨⟨_, rfl⟩, .inr ⟨_, by rw [← hsp, split_notB hno, List.map_append]; exact List.prefix_refl _, hJx3⟩⟩
    · have q : ∀ w, Calls Tryd.prog 125 #[strV t, strV [32]] w fun e w' => e = .returned (.int .i64 (i : Int)) ∧ w' = w := fun w => (Tryd.strings_Index_one ⟨t.toArray⟩ 32 w).mono fun e w' h => ⟨h.1.trans (by rw [show (ByteArray.mk t.toArray).data.toList = t from rfl, hi]), h.2⟩
      have hx : (t.take i).length ≤ N := by rw [List.length_take]; omega
      have hx2 : (t.drop (i + 1)).length ≤ N := by rw [List.length_drop]; omega
      have hsp2 : Lib.split t [32] = t.take i :: Lib.split (t.drop (i + 1)) [32] := by
        conv => lhs; rw [het]
        exact split_atB _ hno
      clear het hno hi
      rw [hsp2] at hsp
      clear hsp2
      have ex : (ByteArray.mk t.toArray).extract 0 i = ⟨(t.take i).toArray⟩ := by rw [ByteArray.extract_mk, List.drop_zero, Nat.sub_zero]
      obtain ⟨fn, tmps, assign, body, hy, hR⟩ := hY pre ⟨t.take i, hx⟩ wr (by rw [← hsp]; simp) hJ
      dsimp only [encW, strV] at hy
      rw [← ex] at hy
      clear ex
      gi_wp2_with (refine ⟨trivial, ?_⟩; gi_at_call 125; refine (callsIn_wide.2 (q _)).mono ?_; rintro e w' ⟨rfl, rfl⟩)
      refine hR.mono ?_
      rintro e W3 (⟨rfl, hJ3, hk3⟩ | ⟨rfl, hJx3⟩)
      · have e2 := (World.cell?_of_block (hk3 bs (by simp))).trans d2
        have e1 := (World.cell?_of_block (hk3 bp (by simp))).trans d1
        have e3 := (World.cell?_of_block (hk3 bv (by simp))).trans d3
        have ef := (World.frozen?_of_block (hk3 bs (by simp))).trans df
        gi_wp2
        have ex2 : (ByteArray.mk t.toArray).extract (i + 1) t.length = ⟨(t.drop (i + 1)).toArray⟩ := by rw [ByteArray.extract_mk, List.take_of_length_le (by rw [List.length_drop]; omega)]
        rw [ex2]
        have hsame : ∀ v, (W3.setCell ⟨bs, 0, none⟩ v).cell? ⟨bs, 0, none⟩ = some v := fun v => World.cell?_setCell_same' _ _ _ (by rw [e2]; rfl)
        refine ⟨⟨pre ++ [⟨t.take i, hx⟩], t.drop (i + 1), hx2, hsame _, by rw [World.frozen?_setCell]; exact ef, oC _ _ _ hJ3, by simpa using hsp, (World.cell?_of_block (Below.heap_setCell W3 _ _ bp hne.1)).trans e1, (World.cell?_of_block (Below.heap_setCell W3 _ _ bv hne.2)).trans e3⟩, ?_⟩
        unfold sizeC
        rw [hsame, d2]
        simp only [size_str, List.length_drop]
        omega
      · gi_wp2
        refine bodyPost_ret (results_none rfl _ _ _) rfl ?_
        exact ⟨⟨_, rfl⟩, .inr ⟨_, by rw [← hsp, List.map_append]; exact (List.prefix_append_right_inj _).2 (List.prefix_iff_eq_take.2 rfl), hJx3⟩⟩
theorem split_cntB (l sep : List UInt8) : (Lib.split l sep).length ≤ l.length + 2 := by
  have h : ∀ (k : Nat) (s : List UInt8), (Lib.splitK sep 0 k s).length ≤ k + 1 := fun k => by
    induction k with
    | zero => intro s; show [s].length ≤ 1; simp
    | succ k ih =>
      intro s
      show (if Lib.index s sep == -1 then [s] else s.take ((Lib.index s sep).toNat + 0) :: Lib.splitK sep 0 k (s.drop ((Lib.index s sep).toNat + sep.length))).length ≤ k + 1 + 1
      split
      · simp
      · rw [List.length_cons]
        have := ih (s.drop ((Lib.index s sep).toNat + sep.length))
        omega
  have h1 := h (Lib.count l sep) l
  have h2 := Lib.count_le l sep
  unfold Lib.split
  omega
theorem split_seq (n : Nat) (hn : 1 ≤ n) (bp bs bv N : Nat) (hne : bp ≠ bs ∧ bv ≠ bs) (s0 : List UInt8) (hlen : s0.length ≤ N) (hN : N ≤ 1000000) (w : World) (hb1 : bp < w.heap.size ∧ bs < w.heap.size ∧ bv < w.heap.size)
    (c1 : w.cell? ⟨bp, 0, none⟩ = some (strV [32])) (c2 : w.cell? ⟨bs, 0, none⟩ = some (strV s0)) (c3 : w.cell? ⟨bv, 0, none⟩ = some (.int .i64 0)) (hf : w.frozen? ⟨bs, 0, none⟩ = false) :
    SeqCell Fence.wide n Tryd.prog 132 #[.pointer (some ⟨bp, 0, none⟩), .pointer (some ⟨bs, 0, none⟩), .pointer (some ⟨bv, 0, none⟩)] (encW (N := N)) [bp, bs, bv] bs (Lib.split s0 [32]).length (fun xs => xs.map (·.1) = Lib.split s0 [32]) (fun pre => pre.map (·.1) <+: Lib.split s0 [32]) w := fun l J Jx W hW hJ oC hY h0 => by
  exact splitSeq1_in n hn l bp bs bv N hne s0 hlen hN J Jx oC hY W ((hW.cell (p := ⟨bp, 0, none⟩) hb1.1).trans c1) ((hW.cell (p := ⟨bs, 0, none⟩) hb1.2.1).trans c2) ((hW.cell (p := ⟨bv, 0, none⟩) hb1.2.2).trans c3) ((hW.frozen (p := ⟨bs, 0, none⟩) hb1.2.1).trans hf) h0
end Go.Proofs.YtaglecidaedjfaaDoor
