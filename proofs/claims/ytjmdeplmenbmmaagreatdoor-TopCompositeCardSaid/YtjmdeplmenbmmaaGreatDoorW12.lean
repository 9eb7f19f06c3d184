/- Joined texts: Cmp, Cm2, Cm3, Asn, ANm. -/
import Derived.Test.YtjmdeplmenbmmaaGreatDoorW11
import Derived.Test.YtjmdeplmenbmmaaGreatDoorW03
import Derived.Test.YtjmdeplmenbmmaaGreatDoorW04
import Derived.Lib.SliceRun
import Derived.Test.YtjmdeplmenbmmaaGreatDoorW09
import Derived.Test.YtjmdeplmenbmmaaGreatDoorV08
import Derived.Test.YtjmdeplmenbmmaaGreatDoorW07
import Derived.Test.YtjmdeplmenbmmaaGreatDoorV04
set_option linter.unusedVariables false
set_option maxHeartbeats 8000000
namespace Go.Proofs.YtjmdeplmenbmmaaGreatDoor
open Go.RowKit
abbrev PtT := Int × Int
def zPts (n : Nat) : List PtT := List.replicate n (0, 0)
theorem zero_flat : ∀ n : Nat, (zPts n).flatMap cPt = List.replicate (n * 2) (Value.int .i64 0)
  | 0 => rfl
  | n + 1 => by
    have h := zero_flat n
    unfold zPts at *
    rw [List.replicate_succ, List.flatMap_cons, h, Nat.succ_mul]
    rfl
theorem zero_cells (n : Nat) : (Builtin.zeroCells #[.int .i64 0, .int .i64 0] n).toList = (zPts n).flatMap cPt := by
  rw [zero_flat]
  unfold Builtin.zeroCells
  refine List.ext_getElem (by simp) fun i h1 h2 => ?_
  rw [List.getElem_replicate]
  simp only [Array.toList_map, List.getElem_map]
  rcases (show (i % 2 = 0) ∨ (i % 2 = 1) by omega) with h | h
  · simp [h]
  · simp [h]
theorem flat_cut (l : List PtT) (k : Nat) (hk : k ≤ l.length) : setAt (l.flatMap cPt) (k * 2) ((zPts (l.length - k)).flatMap cPt) = (l.take k ++ zPts (l.length - k)).flatMap cPt := by
  have e : l.flatMap cPt = (l.take k).flatMap cPt ++ (l.drop k).flatMap cPt := by rw [← List.flatMap_append, List.take_append_drop]
  have hl : ∀ r : List PtT, (r.flatMap cPt).length = r.length * 2 := fun r => flat_len (f := cPt) (s := 2) (fun _ => rfl) r
  have hk2 : k * 2 = ((l.take k).flatMap cPt).length + 0 := by rw [hl, List.length_take, Nat.min_eq_left hk]; omega
  rw [e, hk2, setAt_app, List.flatMap_append]
  congr 1
  have := setAt_all ((zPts (l.length - k)).flatMap cPt) ((l.drop k).flatMap cPt) [] (by rw [hl, hl, List.length_drop]; simp [zPts])
  rw [List.append_nil, List.append_nil] at this
  exact this
section
variable {P : Program} {n : Nat} {L : FL} {w0 : World} {H HS : List Hl} {Q : Exit → Act → World → Prop} {ops : Array Oper} {rest : List Oper} {ty : TypeId} {pos : String} {af : Array Edge} {gd : Option (Nat × Bool)} {x : Operand} {t e : TypeId} {l : List PtT} {v : Value}
theorem x_clear2 {k : Nat} {H' : List Hl} (hx : evO L x = some (cutV v 2 k l.length)) (hu : Upd (Hl.rw v e cPt 2 l) (Hl.rw v e cPt 2 (l.take k ++ zPts (l.length - k))) H H') (hk : k < l.length) (ht : P.underlying t = some (.slice e)) (hz : zeroOf P e = some (.agg #[.int .i64 0, .int .i64 0])) :
    EX P n L w0 H ⟨none, .call { callee := .builtin .clear, args := #[x], argTypes := #[t] }, ty, pos, af, gd⟩ (fun _ : Unit => True) (fun _ => L) (fun _ => H') :=
  fun a w ha hw K Q hK => by
    have hown : w.ownsRow w0.heap.size e 2 v l.length (l.flatMap cPt) := hw.all _ hu.mem
    rcases hown.2 with ⟨h', hn⟩ | ⟨g, cap', cur, h', hb', hg, hnc, hcm, hcs, htake⟩
    · exact absurd hn (by omega)
    · subst h'
      have hlen := flat_len (f := cPt) (s := 2) (fun _ => rfl) l
      have hadd : (⟨g, 0, none⟩ : Addr).add (k * 2) = ⟨g, k * 2, none⟩ := by unfold Addr.add; split <;> simp_all
      have hcv : cutV (.slice (some ⟨g, 0, none⟩) l.length cap') 2 k l.length = .slice (some ⟨g, k * 2, none⟩) (l.length - k) (cap' - k) := by
        have hne : ¬ cap' = k := by omega
        simp [cutV, sliced, hadd, hne]
      rw [hcv] at hx
      have hst := own_setAt ((zPts (l.length - k)).flatMap cPt) (l.flatMap cPt) (k * 2) w hown
      rw [flat_cut l k (by omega)] at hst
      have hzl : ((zPts (l.length - k)).flatMap cPt).length = (l.length - k) * 2 := by rw [flat_len (f := cPt) (s := 2) (fun _ => rfl)]; simp [zPts]
      have hrun := run_storeCells_cells (P := P) g (k * 2) ((zPts (l.length - k)).flatMap cPt) 0 w (fun j hj' => by
          have hold : w.cell? ⟨g, k * 2 + 0 + j, none⟩ = (l.flatMap cPt)[k * 2 + 0 + j]? := hown.cellAt _ (by omega)
          rw [hold, List.getElem?_eq_getElem (by omega)]; rfl) (fun j _ => hown.frozenAt _) (fun u hu => by
          rw [zero_flat] at hu
          rw [List.eq_of_mem_replicate hu]; rfl)
      have hzv : ∀ w : World, (zeroValue e).run P w = .ok (.agg #[.int .i64 0, .int .i64 0]) w := fun w => by
        unfold zeroOf at hz
        obtain ⟨i, hi, hz1⟩ := Option.bind_eq_some_iff.1 hz
        simp [zeroValue, typeInfo, hi, hz1]
      obtain ⟨m, hm⟩ : ∃ m, l.length - k = m + 1 := ⟨l.length - k - 1, by omega⟩
      have he : (execOp a.eval ⟨none, .call { callee := .builtin .clear, args := #[x], argTypes := #[t] }, ty, pos, af, gd⟩).run P w = .ok (.value (.tuple #[])) (w.setCells g (k * 2) ((zPts (l.length - k)).flatMap cPt)) := by
        rw [hm] at hx hrun ⊢
        simp [execOp, resolve, invoke, builtin, ha.eval hx, Builtin.clear_, run_underlying ht, hzv, Value.cells, zero_cells, hrun]
      unfold Oper.wp
      rw [he]
      refine hK _ _ ⟨(), trivial, ha.putNone, ?_⟩
      · refine hw.turn hu rfl hst.2 ?_ fun b hb => .inl hb
        have e2 : (l.take k ++ zPts (l.length - k)).length = l.length := by simp [zPts]; omega
        show World.ownsRow _ _ _ _ _ _ _
        rw [e2]
        exact hst.1
end
end Go.Proofs.YtjmdeplmenbmmaaGreatDoor
set_option maxHeartbeats 8000000
namespace Go.Proofs.YtjmdeplmenbmmaaGreatDoor
open Go.RowKit
structure Cmp (out inp : List PtT) : Prop where
  ne : out ≠ []
  hd : out.head? = inp.head?
  lst : out.getLast? = inp.getLast?
  adj : ∀ (i : Nat) a b, out[i]? = some a → out[i + 1]? = some b → a ≠ b
  mem : ∀ x ∈ out, x ∈ inp
theorem Cmp.start {l : List PtT} (h : l ≠ []) (ha : ∀ (i : Nat) a b, l[i]? = some a → l[i + 1]? = some b → a ≠ b) : Cmp l l := ⟨h, rfl, rfl, ha, fun _ h => h⟩
theorem take_last {l : List PtT} {j : Nat} {a : PtT} (h : l[j]? = some a) : l.take (j + 1) = l.take j ++ [a] := by
  rw [List.take_add_one, h]; rfl
theorem Cmp.skip {out l : List PtT} {j : Nat} {a : PtT} (h : Cmp out (l.take j)) (h1 : l[j]? = some a) (h0 : l[j - 1]? = some a) (hj : 1 ≤ j) : Cmp out (l.take (j + 1)) := by
  obtain ⟨i, rfl⟩ : ∃ i, j = i + 1 := ⟨j - 1, by omega⟩
  rw [Nat.add_sub_cancel] at h0
  have e0 := take_last h0
  have e1 := take_last h1
  refine ⟨h.ne, ?_, ?_, h.adj, fun x hx => ?_⟩
  · rw [h.hd, e1, e0]; cases l.take i <;> rfl
  · rw [h.lst, e1, e0]; simp
  · rw [e1]; exact List.mem_append_left _ (h.mem x hx)
theorem Cmp.keep {out l : List PtT} {j : Nat} {a b : PtT} (h : Cmp out (l.take j)) (h1 : l[j]? = some a) (h0 : l[j - 1]? = some b) (hj : 1 ≤ j) (hne : a ≠ b) : Cmp (out ++ [a]) (l.take (j + 1)) := by
  obtain ⟨i, rfl⟩ : ∃ i, j = i + 1 := ⟨j - 1, by omega⟩
  rw [Nat.add_sub_cancel] at h0
  have e0 := take_last h0
  have e1 := take_last h1
  have hb : out.getLast? = some b := by rw [h.lst, e0]; simp
  refine ⟨by simp, ?_, by rw [e1]; simp, fun k x y hx hy => ?_, fun x hx => ?_⟩
  · have h2 := h.hd
    rw [e0] at h2
    rw [e1, e0]
    obtain ⟨o, os, rfl⟩ : ∃ o os, out = o :: os := by
      cases hq : out with
      | nil => exact absurd hq h.ne
      | cons o os => exact ⟨o, os, rfl⟩
    generalize l.take i = r at *
    cases r with
    | nil => exact h2
    | cons _ _ => exact h2
  · rcases Nat.lt_or_ge (k + 1) out.length with hk | hk
    · rw [List.getElem?_append_left hk] at hy
      rw [List.getElem?_append_left (by omega)] at hx
      exact h.adj k x y hx hy
    · have hk2 : k + 1 = out.length := by
        have := (List.getElem?_eq_some_iff.1 hy).1
        simp at this; omega
      rw [List.getElem?_append_right hk, hk2, Nat.sub_self] at hy
      rw [List.getElem?_append_left (by omega)] at hx
      have : out.getLast? = some x := by rw [List.getLast?_eq_getElem?, ← hk2]; exact hx
      rw [hb] at this
      cases this
      simp only [List.getElem?_cons_zero, Option.some.injEq] at hy
      rw [← hy]
      exact fun e => hne e.symm
  · rcases List.mem_append.1 hx with hx | hx
    · rw [e1]; exact List.mem_append_left _ (h.mem x hx)
    · rw [List.mem_singleton.1 hx, e1]; exact List.mem_append_right _ (List.mem_singleton.2 rfl)
theorem nth_cut {m : List PtT} {k j : Nat} {i : Int} (hi : 0 ≤ i ∧ i < j) : nth ((m.drop k).take j) i = nth m (k + i) := by
  unfold nth
  obtain ⟨n, rfl⟩ : ∃ n : Nat, i = n := ⟨i.toNat, by omega⟩
  rw [show ((k : Int) + (n : Int)).toNat = k + n by omega, Int.toNat_natCast, List.getD_eq_getElem?_getD, List.getD_eq_getElem?_getD, List.getElem?_take, if_pos (by omega), List.getElem?_drop]
structure Cmi (l m : List PtT) (kk j : Nat) : Prop where
  len : m.length = l.length
  lt : kk < j
  hi : ∀ i : Nat, j ≤ i + 1 → m[i]? = l[i]?
  cmp : Cmp (m.take kk) (l.take j)
theorem St.cutN {w0 w : World} {HR : List Hl} {v : Value} {e : TypeId} {l : List PtT} {k : Nat} (hk : k ≤ l.length) (hk0 : 0 < k) (h : St w0 (Hl.rw v e cPt 2 l :: HR) w) : St w0 (Hl.nw (cutV v 2 0 k) cPt 2 (l.take k) :: HR) w := by
  have hown : w.ownsRow w0.heap.size e 2 v l.length (l.flatMap cPt) := h.all _ List.mem_cons_self
  have h1 := (RO.of_row hown).cut (i := 0) (j := k) (Nat.zero_le _) hk
  have e1 : ((l.flatMap cPt).drop (0 * 2)).take ((k - 0) * 2) = (l.take k).flatMap cPt := by
    have e : l.flatMap cPt = (l.take k).flatMap cPt ++ (l.drop k).flatMap cPt := by rw [← List.flatMap_append, List.take_append_drop]
    have hl : ((l.take k).flatMap cPt).length = k * 2 := by rw [flat_len (f := cPt) (s := 2) (fun _ => rfl), List.length_take, Nat.min_eq_left hk]
    rw [Nat.zero_mul, List.drop_zero, Nat.sub_zero, e, List.take_append_of_le_length (by omega), List.take_of_length_le (by omega)]
  rw [e1, Nat.sub_zero] at h1
  have hb : (cutV v 2 0 k).ownBlock = v.ownBlock := by
    rcases hown.2 with ⟨h', hn⟩ | ⟨g, cap', cur, h', hb', hg, hnc, hcm, hcs, htake⟩
    · exact absurd hn (by omega)
    · subst h'
      have hne : ¬ cap' = 0 := by omega
      have hadd : (⟨g, 0, none⟩ : Addr).add (0 * 2) = ⟨g, 0, none⟩ := by unfold Addr.add; split <;> simp_all
      simp [cutV, sliced, hne, hadd]
      rfl
  have h2 := St.froz h
  have hlk : (l.take k).length = k := by rw [List.length_take, Nat.min_eq_left hk]
  have hne2 : (l.take k).flatMap cPt ≠ [] := fun e0 => by
    have := flat_len (f := cPt) (s := 2) (fun _ => rfl) (l.take k)
    rw [e0, hlk] at this
    simp at this
    omega
  have hne3 : l.flatMap cPt ≠ [] := fun e0 => by
    have := flat_len (f := cPt) (s := 2) (fun _ => rfl) l
    rw [e0] at this
    simp at this
    omega
  have sp : (Hl.nw (cutV v 2 0 k) cPt 2 (l.take k)).spot = v.ownBlock := by
    show (match (l.take k).flatMap cPt with | [] => none | _ :: _ => (cutV v 2 0 k).ownBlock) = _
    cases hx : (l.take k).flatMap cPt with
    | nil => exact absurd hx hne2
    | cons _ _ => exact hb
  have sp2 : (Hl.nw v cPt 2 l).spot = v.ownBlock := by
    show (match l.flatMap cPt with | [] => none | _ :: _ => v.ownBlock) = _
    cases hx : l.flatMap cPt with
    | nil => exact absurd hx hne3
    | cons _ _ => rfl
  refine ⟨h2.ext, fun x hx => ?_, fun z hz b hb1 ho => ?_, h2.apart.2⟩
  · rcases List.mem_cons.1 hx with rfl | hx
    · refine ⟨by rw [hlk]; exact h1, fun _ _ b hb2 => ?_⟩
      rw [hb] at hb2
      exact (hown.lt b hb2).1
    · exact h2.all x (List.mem_cons_of_mem _ hx)
  · rw [sp, ← sp2] at hb1
    exact h2.apart.1 z hz b hb1 ho
end Go.Proofs.YtjmdeplmenbmmaaGreatDoor
set_option maxHeartbeats 8000000
namespace Go.Proofs.YtjmdeplmenbmmaaGreatDoor
open Go.RowKit
abbrev rwP (v : Value) (l : List PtT) : Hl := Hl.rw v 23 cPt 2 l
theorem nth_opt {l : List PtT} {i : Nat} (h : i < l.length) : l[i]? = some (nth l (i : Int)) := by
  have := nth_some (l := l) (m := (i : Int)) (by omega) (by omega)
  simpa using this
theorem eqPt {p q : PtT} (h : eqCells (cPt p) (cPt q) = true) : p = q := by
  obtain ⟨a, b⟩ := p
  obtain ⟨c, d⟩ := q
  simp [cPt, eqCells, vEq] at h
  rw [h.1, h.2]
theorem nePt {p q : PtT} (h : eqCells (cPt p) (cPt q) = false) : p ≠ q := fun e => by
  subst e
  obtain ⟨a, b⟩ := p
  simp [cPt, eqCells, vEq] at h
theorem compact_c (x : Sl) (l : List PtT) (h0 : 2 ≤ l.length) (hl : l.length ≤ 1000) :
    ContU Tryz.prog (rwP x.v l) 35 [x.v] (fun z : Value × List PtT => Cmp z.2 l ∧ z.2.length ≤ l.length) (fun z => z.1) (fun z => [Hl.nw z.1 cPt 2 z.2]) := fun w0 HR w hs => by
  refine enterU Tryz.func35 rfl rfl rfl (H := rwP x.v l :: HR) hs ?_
  repeat' (first
    | (refine nxV ?_)
    | (refine nxRS ?_) | (refine nxRS1 fun _ => ?_)
    | (refine nxRM ?_) | (refine nxRM1 fun _ => ?_)
    | (refine nxG ?_)
    | (refine G.mixedA 6 [.go 0, .go 1, .go 2, .go 3, .go 4, .go 5, .go 6, .go 7, .go 8, .go 9] ?_)
    | (refine G.mixedA 11 [.go 0, .go 1, .go 2, .go 3, .go 4, .go 5, .go 6, .go 7, .go 8, .go 9] ?_)
    | (refine nxX ?_)
    | (refine G.condN rfl (fun hc => ?_) (fun hc => ?_) <;> (try first | exact False.elim hc | (exfalso; omega))))
  refine G.loop (ι := Nat) (fun k => [(0, x.v), (3, .int .i64 (k : Int))]) (fun _ => rwP x.v l :: HR) (fun k => (1 ≤ k ∧ k ≤ l.length) ∧ ∀ (i : Nat) a b, i + 1 < k → l[i]? = some a → l[i + 1]? = some b → a ≠ b) (fun k => l.length - k) 1 ⟨by omega, fun i a b hi => by omega⟩ ⟨rfl, rfl, trivial⟩ (by exact fun w h => h.sub (by repeat (first | exact List.Sublist.refl _ | apply List.Sublist.cons_cons | apply List.Sublist.cons))) ?_
  rintro k mx ⟨hk, hadj⟩ hmx
  (try dsimp only at hk hadj hmx ⊢)
  rcases Nat.lt_or_ge k l.length with hkl | hkl
  · have hn := nth_opt hkl
    have hp := nth_opt (l := l) (i := k - 1) (by omega)
    rw [show ((k - 1 : Nat) : Int) = (k : Int) - 1 by omega] at hp
    repeat' (first
    | (refine nxV ?_)
    | (refine nxRS ?_) | (refine nxRS1 fun _ => ?_)
    | (refine nxRM ?_) | (refine nxRM1 fun _ => ?_)
    | (refine nxG ?_)
    | (refine G.mixedA 6 [.go 0, .go 1, .go 2, .go 3, .go 4, .go 5, .go 6, .go 7, .go 8, .go 9] ?_)
    | (refine G.mixedA 11 [.go 0, .go 1, .go 2, .go 3, .go 4, .go 5, .go 6, .go 7, .go 8, .go 9] ?_)
    | (refine nxX ?_)
    | (refine G.condN rfl (fun hc => ?_) (fun hc => ?_) <;> (try first | exact False.elim hc | (exfalso; omega))))
    · have heq : nth l (k : Int) = nth l ((k : Int) - 1) := by
        have h1 := eqPt hc
        exact h1
      have hst : Cmi l l k (k + 1) := ⟨rfl, by omega, fun _ _ => rfl, by
        rw [← heq] at hp
        refine Cmp.skip ?_ hn hp hk.1
        refine Cmp.start (List.ne_nil_of_length_pos (by rw [List.length_take]; omega)) fun i a b ha hb => ?_
        · rw [List.getElem?_take] at ha hb
          split at hb
          · rw [if_pos (by omega)] at ha
            exact hadj i a b (by omega) ha hb
          · cases hb⟩
      refine G.loop (ι := (Nat × Nat) × List PtT) (fun y => [(0, x.v), (3, .int .i64 (y.1.1 : Int)), (4, cutV x.v 2 k l.length), (5, .int .i64 (y.1.2 : Int))]) (fun y => rwP x.v y.2 :: HR) (fun y => (1 ≤ y.1.2 ∧ k + y.1.2 ≤ l.length) ∧ Cmi l y.2 y.1.1 (k + y.1.2)) (fun y => l.length - y.1.2) ((k, 1), l) ⟨⟨by dsimp only; omega, by dsimp only; omega⟩, hst⟩ ⟨rfl, rfl, rfl, rfl, trivial⟩ (by exact fun w h => h.sub (by repeat (first | exact List.Sublist.refl _ | apply List.Sublist.cons_cons | apply List.Sublist.cons))) ?_
      rintro ⟨⟨kk, k2⟩, m⟩ mx2 ⟨hk2, hI⟩ hmx2
      (try dsimp only at hk2 hI hmx2 ⊢)
      obtain ⟨i1, i2, i3, i4⟩ := hI
      have hcl : (((m.drop k).take (l.length - k)).length : Int) = (l.length : Int) - k := by
        simp only [List.length_take, List.length_drop]; omega
      rcases Nat.lt_or_ge (k + k2) l.length with hjl | hjl
      · have hm1 : m.length = l.length := i1
        have e1 := i3 (k + k2) (by omega)
        have e0 := i3 (k + k2 - 1) (by omega)
        have n1 := nth_opt hjl
        have n0 := nth_opt (l := l) (i := k + k2 - 1) (by omega)
        have c1 : nth ((m.drop k).take (l.length - k)) (k2 : Int) = nth l ((k + k2 : Nat) : Int) := by
          rw [nth_cut (by omega)]
          have := nth_opt (l := m) (i := k + k2) (by omega)
          rw [e1, n1] at this
          exact (Option.some.inj this).symm
        have c0 : nth ((m.drop k).take (l.length - k)) ((k2 : Int) - 1) = nth l ((k + k2 - 1 : Nat) : Int) := by
          rw [nth_cut (by omega)]
          have := nth_opt (l := m) (i := k + k2 - 1) (by omega)
          rw [e0, n0] at this
          rw [Option.some.inj this]
          congr 1
          omega
        repeat' (first
    | (show RS _ _ _ _ _ _ _ (⟨none, .store 23 _ _, _, _, _, _⟩ :: _); refine RS.storeElRow (b := nth ((m.drop k).take (l.length - k)) (k2 : Int)) ?_ (by rfl) (by rfl) (by rfl) (.here _) (by omega) (fun _ => rfl) (by rfl) (by decide +kernel))
    | (refine nxV ?_)
    | (refine nxRS ?_) | (refine nxRS1 fun _ => ?_)
    | (refine nxRM ?_) | (refine nxRM1 fun _ => ?_)
    | (refine nxG ?_)
    | (refine G.mixedA 6 [.go 0, .go 1, .go 2, .go 3, .go 4, .go 5, .go 6, .go 7, .go 8, .go 9] ?_)
    | (refine G.mixedA 11 [.go 0, .go 1, .go 2, .go 3, .go 4, .go 5, .go 6, .go 7, .go 8, .go 9] ?_)
    | (refine nxX ?_)
    | (refine G.condN rfl (fun hc => ?_) (fun hc => ?_) <;> (try first | exact False.elim hc | (exfalso; omega))))
        · have hne := nePt hc
          rw [c1, c0] at hne
          rw [c1]
          refine X.again ((kk + 1, k2 + 1), m.set kk (nth l ((k + k2 : Nat) : Int))) ⟨⟨by dsimp only; omega, by dsimp only; omega⟩, ?_⟩ (by dsimp only; omega) ⟨rfl, rfl, rfl, rfl, trivial⟩ (by exact fun w h => h.sub (by repeat (first | exact List.Sublist.refl _ | apply List.Sublist.cons_cons | apply List.Sublist.cons)))
          dsimp only
          refine ⟨by rw [List.length_set]; exact i1, by omega, fun i hi => ?_, ?_⟩
          · rw [List.getElem?_set_ne (by omega)]
            exact i3 i (by omega)
          · have e2 : (m.set kk (nth l ((k + k2 : Nat) : Int))).take (kk + 1) = m.take kk ++ [nth l ((k + k2 : Nat) : Int)] := by
              rw [take_last (a := nth l ((k + k2 : Nat) : Int)) (List.getElem?_set_self (by omega)), List.take_set_of_le (Nat.le_refl _)]
            rw [e2, ← Nat.add_assoc]
            exact Cmp.keep i4 n1 n0 (by omega) hne
        · have heq2 := eqPt hc
          rw [c1, c0] at heq2
          refine X.again ((kk, k2 + 1), m) ⟨⟨by dsimp only; omega, by dsimp only; omega⟩, ?_⟩ (by dsimp only; omega) ⟨rfl, rfl, rfl, rfl, trivial⟩ (by exact fun w h => h.sub (by repeat (first | exact List.Sublist.refl _ | apply List.Sublist.cons_cons | apply List.Sublist.cons)))
          dsimp only
          refine ⟨i1, by omega, fun i hi => i3 i (by omega), ?_⟩
          rw [← Nat.add_assoc]
          rw [← heq2] at n0
          exact Cmp.skip i4 n1 n0 (by omega)
      · repeat' (first
    | (show RS _ _ _ _ _ _ _ (⟨none, .call { callee := .builtin .clear, args := _, argTypes := _ }, _, _, _, _⟩ :: _); refine RS.actX rfl (x_clear2 (l := m) (k := kk) (by rfl) (.here _) (by omega) (by kernel_rfl) (by kernel_rfl)) fun _ _ => ?_)
    | (refine nxV ?_)
    | (refine nxRS ?_) | (refine nxRS1 fun _ => ?_)
    | (refine nxRM ?_) | (refine nxRM1 fun _ => ?_)
    | (refine nxG ?_)
    | (refine G.mixedA 6 [.go 0, .go 1, .go 2, .go 3, .go 4, .go 5, .go 6, .go 7, .go 8, .go 9] ?_)
    | (refine G.mixedA 11 [.go 0, .go 1, .go 2, .go 3, .go 4, .go 5, .go 6, .go 7, .go 8, .go 9] ?_)
    | (refine nxX ?_)
    | (refine G.condN rfl (fun hc => ?_) (fun hc => ?_) <;> (try first | exact False.elim hc | (exfalso; omega))))
        have hkk : kk ≤ m.length := by omega
        have hkp : 0 < kk := by
          rcases Nat.eq_zero_or_pos kk with h | h
          · rw [h] at i4
            exact absurd rfl i4.ne
          · exact h
        refine X.ret (vs := [_]) rfl ⟨rfl, rfl⟩ rfl (fun w hw => ⟨(cutV x.v 2 0 kk, m.take kk), ⟨?_, ?_⟩, rfl, ?_⟩)
        · rw [show k + k2 = l.length by omega, List.take_length] at i4
          exact i4
        · rw [List.length_take]; omega
        · have h9 := St.cutN (k := kk) (by simp only [List.length_append, List.length_take, zPts, List.length_replicate]; omega) hkp hw
          rw [List.take_append_of_le_length (by rw [List.length_take]; omega), List.take_take, Nat.min_self] at h9
          exact h9
    · refine X.again (k + 1) ⟨by omega, fun i a b hi ha hb => ?_⟩ (by omega) ⟨rfl, rfl, trivial⟩ (by exact fun w h => h.sub (by repeat (first | exact List.Sublist.refl _ | apply List.Sublist.cons_cons | apply List.Sublist.cons)))
      have hne := nePt hc
      rcases Nat.lt_or_ge (i + 1) k with h | h
      · exact hadj i a b h ha hb
      · obtain rfl : k = i + 1 := by omega
        rw [hn] at hb
        rw [Nat.add_sub_cancel] at hp
        rw [hp] at ha
        cases ha
        cases hb
        exact fun e => hne e.symm
  · repeat' (first
    | (refine nxV ?_)
    | (refine nxRS ?_) | (refine nxRS1 fun _ => ?_)
    | (refine nxRM ?_) | (refine nxRM1 fun _ => ?_)
    | (refine nxG ?_)
    | (refine G.mixedA 6 [.go 0, .go 1, .go 2, .go 3, .go 4, .go 5, .go 6, .go 7, .go 8, .go 9] ?_)
    | (refine G.mixedA 11 [.go 0, .go 1, .go 2, .go 3, .go 4, .go 5, .go 6, .go 7, .go 8, .go 9] ?_)
    | (refine nxX ?_)
    | (refine G.condN rfl (fun hc => ?_) (fun hc => ?_) <;> (try first | exact False.elim hc | (exfalso; omega))))
    obtain rfl : k = l.length := by omega
    exact X.ret (vs := [_]) rfl ⟨rfl, rfl⟩ rfl (fun w hw => ⟨((x.v, l) : Value × List PtT), ⟨Cmp.start (List.ne_nil_of_length_pos (show 0 < l.length by omega)) fun i a b ha hb => hadj i a b (List.getElem?_eq_some_iff.1 hb).1 ha hb, Nat.le_refl l.length⟩, rfl, St.froz hw⟩)
end Go.Proofs.YtjmdeplmenbmmaaGreatDoor
set_option maxHeartbeats 8000000
namespace Go.Proofs.YtjmdeplmenbmmaaGreatDoor
open Go.RowKit
theorem asin_c {v n : Int} (hn : TT.IsAsin v n) : Cont Tryz.prog 172 [.int .i64 v] (.int .i64 n) := fun w => by
  have hi := fun m h0 h1 => TT.asin_iff (m := m) hn h0 h1
  obtain ⟨n0, n1, _, _⟩ := hn
  refine enter0 Tryz.func172 rfl rfl rfl ?_
  repeat' (first
    | (refine nxV ?_)
    | (refine nxRS ?_) | (refine nxRS1 fun _ => ?_)
    | (refine nxRM ?_) | (refine nxRM1 fun _ => ?_)
    | (refine nxG ?_)
    | (refine nxX ?_)
    | (refine G.condN rfl (fun hc => ?_) (fun hc => ?_) <;> (try first | exact False.elim hc | (exfalso; omega))))
  refine G.loop (ι := Int × Int) (fun x => [(0, .int .i64 v), (3, .int .i64 x.1), (4, .int .i64 x.2)]) (fun _ => []) (fun x => -5400000 ≤ x.1 ∧ x.1 ≤ n ∧ n < x.2 ∧ x.2 ≤ 5400001) (fun x => (x.2 - x.1).toNat) (-5400000, 5400001) ⟨by dsimp only; omega, by dsimp only; omega, by dsimp only; omega, by dsimp only; omega⟩ ⟨rfl, rfl, rfl, trivial⟩ (by exact fun w h => h.sub (by repeat (first | exact List.Sublist.refl _ | apply List.Sublist.cons_cons | apply List.Sublist.cons))) ?_
  rintro ⟨lo, hh⟩ mx ⟨g1, g2, g3, g4⟩ hmx
  dsimp only at g1 g2 g3 g4 hmx ⊢
  by_cases hc0 : hh - lo ≤ 1
  · obtain rfl : lo = n := by omega
    repeat' (first
    | (refine nxV ?_)
    | (refine nxRS ?_) | (refine nxRS1 fun _ => ?_)
    | (refine nxRM ?_) | (refine nxRM1 fun _ => ?_)
    | (refine nxG ?_)
    | (refine nxX ?_)
    | (refine G.condN rfl (fun hc => ?_) (fun hc => ?_) <;> (try first | exact False.elim hc | (exfalso; omega))))
    exact X.ret (vs := [_]) rfl ⟨rfl, rfl⟩ rfl (fun w hw => ⟨rfl, hw.ext⟩)
  · have q1 := below_c (n := (lo + hh) / 2) (v := v) (by omega)
    have hb := belI_le ((lo + hh) / 2) v
    have hj := hi ((lo + hh) / 2) (by omega) (by omega)
    rw [← hb] at hj
    generalize belI ((lo + hh) / 2) v = bb at *
    clear hb hi
    repeat' (first
    | (show YK _ _ _ _ _ _ _; first | refine YK.mk (y_callA (q1) ⟨rfl, rfl, rfl⟩) ?_)
    | (refine nxV ?_)
    | (refine nxRS ?_) | (refine nxRS1 fun _ => ?_)
    | (refine nxRM ?_) | (refine nxRM1 fun _ => ?_)
    | (show YG _ _ _ _ _ _ _ _; refine YG.mk (fun hb => by (try (have hc := And.left hb; have hb := And.right hb; rw [hc])); (try rw [hb]); first | exact (y_callA (q1) ⟨rfl, rfl, rfl⟩) | exact V.y vAuto) ?_)
    | (refine nxG ?_)
    | (refine nxX ?_)
    | (refine G.condN rfl (fun hc => ?_) (fun hc => ?_) <;> (try first | exact False.elim hc | (exfalso; omega))))
    · exact X.again (((lo + hh) / 2), hh) ⟨by dsimp only; omega, by dsimp only; omega, by dsimp only; omega, by dsimp only; omega⟩ (by dsimp only; omega) ⟨rfl, rfl, rfl, trivial⟩ (by exact fun w h => h.sub (by repeat (first | exact List.Sublist.refl _ | apply List.Sublist.cons_cons | apply List.Sublist.cons)))
    · exact X.again (lo, ((lo + hh) / 2)) ⟨by dsimp only; omega, by dsimp only; omega, by dsimp only; omega, by dsimp only; omega⟩ (by dsimp only; omega) ⟨rfl, rfl, rfl, trivial⟩ (by exact fun w h => h.sub (by repeat (first | exact List.Sublist.refl _ | apply List.Sublist.cons_cons | apply List.Sublist.cons)))
theorem part_c {a b lo hi : Int} : Cont Tryz.prog 171 [arcV a b, .int .i64 lo, .int .i64 hi] (.tuple [arcV (max a lo) (min b hi), .bool (decide (max a lo ≤ min b hi))].toArray) := fun w => by
  refine enter0 Tryz.func171 rfl rfl rfl ?_
  repeat' (first
    | (refine G.mixedM 2 [.go 0, .go 1, .go 2, .go 3, .go 4, .go 5, .go 6, .go 7] [false, true] ?_; dsimp only [maskH])
    | (refine nxV ?_)
    | (refine nxRS ?_) | (refine nxRS1 fun _ => ?_)
    | (refine nxRM ?_) | (refine nxRM1 fun _ => ?_)
    | (refine nxG ?_)
    | (refine nxX ?_)
    | (refine G.condN rfl (fun hc => ?_) (fun hc => ?_) <;> (try first | exact False.elim hc | (exfalso; omega))))
  exact X.ret (vs := [_, _]) rfl ⟨⟨_, _, _, _, rfl, (by exact memA), (by (repeat (first | exact .nil | apply LenIs.cons))), by decide +kernel, rfl⟩, rfl, rfl⟩ rfl (fun w hw => ⟨rfl, hw.ext⟩)
theorem Asin_c {a b n m : Int} (h : -1073741824 ≤ a ∧ a ≤ b ∧ b ≤ 1073741824) (h1 : TT.IsAsin a n) (h2 : TT.IsAsin (-b) m) : Cont Tryz.prog 109 [arcV a b] (.tuple [arcV n (-m), .int .i64 0].toArray) := fun w => by
  have q1 := fvalid_t (lo := a) (hi := b) (by omega)
  have q2 := part_c (a := a) (b := b) (lo := -1073741824) (hi := 1073741824)
  rw [show max a (-1073741824) = a by omega, show min b 1073741824 = b by omega, decide_eq_true h.2.1] at q2
  have q3 := asin_c h1
  have q4 := asin_c h2
  have hm := h2.1
  have hm2 := h2.2.1
  refine enter0 Tryz.func109 rfl rfl rfl ?_
  repeat' (first
    | (refine G.mixedM 6 [.go 0, .go 1, .go 3, .go 4, .go 5, .go 2, .go 6, .go 7, .go 8, .go 9, .go 10] [false, true] ?_; dsimp only [maskH])
    | (show YK _ _ _ _ _ _ _; first | refine YK.mk (y_callA (q1) ⟨rfl, rfl⟩) ?_ | refine YK.mk (y_callA (q2) ⟨rfl, rfl, rfl, rfl⟩) ?_ | refine YK.mk (y_callA (q3) ⟨rfl, rfl⟩) ?_ | refine YK.mk (y_callA (q4) ⟨rfl, rfl⟩) ?_)
    | (refine nxV ?_)
    | (refine nxRS ?_) | (refine nxRS1 fun _ => ?_)
    | (refine nxRM ?_) | (refine nxRM1 fun _ => ?_)
    | (show YG _ _ _ _ _ _ _ _; refine YG.mk (fun hb => by (try (have hc := And.left hb; have hb := And.right hb; rw [hc])); (try rw [hb]); first | exact (y_callA (q1) ⟨rfl, rfl⟩) | exact (y_callA (q2) ⟨rfl, rfl, rfl, rfl⟩) | exact (y_callA (q3) ⟨rfl, rfl⟩) | exact (y_callA (q4) ⟨rfl, rfl⟩) | exact V.y vAuto) ?_)
    | (refine nxG ?_)
    | (refine nxX ?_)
    | (refine G.condN rfl (fun hc => ?_) (fun hc => ?_) <;> (try first | exact False.elim hc | (exfalso; omega))))
  exact X.ret (vs := [_, _]) rfl ⟨⟨_, _, _, _, rfl, (by exact memA), (by (repeat (first | exact .nil | apply LenIs.cons))), by decide +kernel, rfl⟩, rfl, rfl⟩ rfl (fun w hw => ⟨rfl, hw.ext⟩)
theorem Acos_c {a b n m : Int} (h : -1073741824 ≤ a ∧ a ≤ b ∧ b ≤ 1073741824) (h1 : TT.IsAsin a n) (h2 : TT.IsAsin (-b) m) : Cont Tryz.prog 86 [arcV a b] (.tuple [arcV (5400000 + m) (5400000 - n), .int .i64 0].toArray) := fun w => by
  have q1 := Asin_c h h1 h2
  have hm := h2.1
  have hm2 := h2.2.1
  have hn := h1.1
  have hn2 := h1.2.1
  refine enter0 Tryz.func86 rfl rfl rfl ?_
  repeat' (first
    | (show YK _ _ _ _ _ _ _; first | refine YK.mk (y_callA (q1) ⟨rfl, rfl⟩) ?_)
    | (refine nxV ?_)
    | (refine nxRS ?_) | (refine nxRS1 fun _ => ?_)
    | (refine nxRM ?_) | (refine nxRM1 fun _ => ?_)
    | (show YG _ _ _ _ _ _ _ _; refine YG.mk (fun hb => by (try (have hc := And.left hb; have hb := And.right hb; rw [hc])); (try rw [hb]); first | exact (y_callA (q1) ⟨rfl, rfl⟩) | exact V.y vAuto) ?_)
    | (refine nxG ?_)
    | (refine nxX ?_)
    | (refine G.condN rfl (fun hc => ?_) (fun hc => ?_) <;> (try first | exact False.elim hc | (exfalso; omega))))
  refine X.ret (vs := [_, _]) rfl ⟨⟨_, _, _, _, rfl, (by exact memA), (by (repeat (first | exact .nil | apply LenIs.cons))), by decide +kernel, rfl⟩, rfl, rfl⟩ rfl (fun w hw => ⟨?_, hw.ext⟩)
  rw [show 5400000 - -m = 5400000 + m by omega]
theorem Ahav_c {p : Int × Int} {n m : Int} (h : -2147483648 ≤ p.1 ∧ p.1 ≤ p.2 ∧ p.2 ≤ 2147483648) (hc : 0 ≤ (TT.clamp p).1 ∧ (TT.clamp p).2 ≤ 1073741824 ∧ (TT.clamp p).1 ≤ (TT.clamp p).2) (h1 : TT.IsAsin (1073741824 - 2 * (TT.clamp p).2) n) (h2 : TT.IsAsin (-(1073741824 - 2 * (TT.clamp p).1)) m) :
    Cont Tryz.prog 221 [arcV p.1 p.2] (.tuple [arcV (5400000 + m) (5400000 - n), .int .i64 0].toArray) := fun w => by
  have q1 := fvalid_t (lo := p.1) (hi := p.2) h
  have q2 := part_c (a := p.1) (b := p.2) (lo := 0) (hi := 1073741824)
  have q3 := Acos_c (a := 1073741824 - 2 * (TT.clamp p).2) (b := 1073741824 - 2 * (TT.clamp p).1) (by omega) h1 h2
  have e : max p.1 0 ≤ min p.2 1073741824 := hc.2.2
  rw [decide_eq_true e] at q2
  unfold TT.clamp at *
  dsimp only at *
  refine enter0 Tryz.func221 rfl rfl rfl ?_
  repeat' (first
    | (show YK _ _ _ _ _ _ _; first | refine YK.mk (y_callA (q1) ⟨rfl, rfl⟩) ?_ | refine YK.mk (y_callA (q2) ⟨rfl, rfl, rfl, rfl⟩) ?_ | refine YK.mk (y_callA (q3) ⟨rfl, rfl⟩) ?_)
    | (refine nxV ?_)
    | (refine nxRS ?_) | (refine nxRS1 fun _ => ?_)
    | (refine nxRM ?_) | (refine nxRM1 fun _ => ?_)
    | (show YG _ _ _ _ _ _ _ _; refine YG.mk (fun hb => by (try (have hc := And.left hb; have hb := And.right hb; rw [hc])); (try rw [hb]); first | exact (y_callA (q1) ⟨rfl, rfl⟩) | exact (y_callA (q2) ⟨rfl, rfl, rfl, rfl⟩) | exact (y_callA (q3) ⟨rfl, rfl⟩) | exact V.y vAuto) ?_)
    | (refine nxG ?_)
    | (refine nxX ?_)
    | (refine G.condN rfl (fun hc => ?_) (fun hc => ?_) <;> (try first | exact False.elim hc | (exfalso; omega))))
  exact X.ret (vs := [_, _]) rfl ⟨⟨_, _, _, _, rfl, (by exact memA), (by (repeat (first | exact .nil | apply LenIs.cons))), by decide +kernel, rfl⟩, rfl, rfl⟩ rfl (fun w hw => ⟨rfl, hw.ext⟩)
end Go.Proofs.YtjmdeplmenbmmaaGreatDoor
set_option maxHeartbeats 4000000
namespace Go.Proofs.YtjmdeplmenbmmaaGreatDoor
open Go.RowKit
open TT (W256 W192 cW lb)
theorem add_val {a b : Nat} (ha : a < W256) (hb : b < W256) {s3 c3 s2 c2 s1 c1 s0 c0 : Int} (e3 : (lb a 3 : Int) + lb b 3 + 0 = s3 + 18446744073709551616 * c3) (e2 : (lb a 2 : Int) + lb b 2 + c3 = s2 + 18446744073709551616 * c2) (e1 : (lb a 1 : Int) + lb b 1 + c2 = s1 + 18446744073709551616 * c1) (e0 : (lb a 0 : Int) + lb b 0 + c1 = s0 + 18446744073709551616 * c0)
    (h3 : 0 ≤ s3 ∧ s3 < 18446744073709551616) (h2 : 0 ≤ s2 ∧ s2 < 18446744073709551616) (h1 : 0 ≤ s1 ∧ s1 < 18446744073709551616) (h0 : 0 ≤ s0 ∧ s0 < 18446744073709551616) (k3 : 0 ≤ c3 ∧ c3 ≤ 1) (k2 : 0 ≤ c2 ∧ c2 ≤ 1) (k1 : 0 ≤ c1 ∧ c1 ≤ 1) (k0 : 0 ≤ c0 ∧ c0 ≤ 1) :
    (Value.agg [.int .u64 s0, .int .u64 s1, .int .u64 s2, .int .u64 s3].toArray) = numV ((a + b) % W256) := by
  refine num_val h0.1 h1.1 h2.1 h3.1 ?_
  refine TT.add_words ha hb (c3 := c3.toNat) (c2 := c2.toNat) (c1 := c1.toNat) (c0 := c0.toNat) ?_ ?_ ?_ ?_ ?_ ?_ ?_ ?_
  all_goals (clear ha hb; (try simp only [cW]); omega)
theorem asub_c {a b : Nat} (ha : a < W256) (hb : b < W256) : Cont Tryz.prog 335 [numV a, numV b] (numV ((a + W256 - b) % W256)) := fun w => by
  have a0 := lb_u64 a 0; have a1 := lb_u64 a 1; have a2 := lb_u64 a 2; have a3 := lb_u64 a 3
  have b0 := lb_u64 b 0; have b1 := lb_u64 b 1; have b2 := lb_u64 b 2; have b3 := lb_u64 b 3
  refine enter0 Tryz.func335 rfl rfl rfl ?_
  repeat' (first
    | (show G _ _ _ _ _ _ (.loop _); refine G.loopN 6 (GR.step ?_))
    | (show X (Exit.then (Code.rounds _ _ _ _) _) _ _ _ _ .normal; refine X.round (GR.step ?_))
    | (show YK _ _ _ _ _ ⟨_, .call { callee := .value (.func 310), args := _, argTypes := _ }, _, _, _, _⟩ _; refine sub64K rfl rfl rfl (by omega) (by omega) (by omega) (fun s c e h k => ?_))
    | (show YK _ _ _ _ _ ⟨_, .indexAddr 303 _ _, _, _, _, _⟩ _; refine YK.ofV (y_indexArr (len := 4) rfl rfl (by first | exact (rfl : _ = ((0 : Nat) : Int)) | exact (rfl : _ = ((1 : Nat) : Int)) | exact (rfl : _ = ((2 : Nat) : Int)) | exact (rfl : _ = ((3 : Nat) : Int))) (by decide +kernel) rfl) ?_)
    | (show VK _ _ _ _ _ ⟨_, .indexAddr 303 _ _, _, _, _, _⟩ _; refine VK.mk (y_indexArr (len := 4) rfl rfl (by first | exact (rfl : _ = ((0 : Nat) : Int)) | exact (rfl : _ = ((1 : Nat) : Int)) | exact (rfl : _ = ((2 : Nat) : Int)) | exact (rfl : _ = ((3 : Nat) : Int))) (by decide +kernel) rfl) ?_)
    | (show VFrK _ _ _ _ _ ⟨_, .indexAddr 303 _ _, _, _, _, _⟩ _; refine VFrK.mk (vf_of fun _ => y_indexArr (len := 4) rfl rfl (by first | exact (rfl : _ = ((0 : Nat) : Int)) | exact (rfl : _ = ((1 : Nat) : Int)) | exact (rfl : _ = ((2 : Nat) : Int)) | exact (rfl : _ = ((3 : Nat) : Int))) (by decide +kernel) rfl) ?_)
    | (refine G.mixedFH 5 [.go 0, .go 1, .go 2, .go 3, .go 4, .go 5, .go 6, .go 7, .go 8, .go 9, .go 10, .go 11, .go 12, .go 13, .go 14] ?_)
    | (refine nxRF ?_)
    | (refine nxVF ?_)
    | (refine nxV ?_)
    | (refine nxRS ?_) | (refine nxRS1 fun _ => ?_)
    | (refine nxRM ?_) | (refine nxRM1 fun _ => ?_)
    | (refine nxG ?_)
    | (refine nxX ?_)
    | (refine G.condN rfl (fun hc => ?_) (fun hc => ?_) <;> (try first | exact False.elim hc | (exfalso; omega))))
  refine X.ret (vs := [_]) rfl ⟨⟨_, _, _, _, rfl, (by exact memA), (by (repeat (first | exact .nil | apply LenIs.cons))), by decide +kernel, rfl⟩, rfl⟩ rfl (fun w hw => ⟨?_, hw.ext⟩)
  exact congrArg Ending.returned (sub_val ha hb (by assumption) (by assumption) (by assumption) (by assumption) (by assumption) (by assumption) (by assumption) (by assumption) (by assumption) (by assumption) (by assumption) (by assumption))
theorem aadd_c {a b : Nat} (ha : a < W256) (hb : b < W256) : Cont Tryz.prog 336 [numV a, numV b] (numV ((a + b) % W256)) := fun w => by
  have a0 := lb_u64 a 0; have a1 := lb_u64 a 1; have a2 := lb_u64 a 2; have a3 := lb_u64 a 3
  have b0 := lb_u64 b 0; have b1 := lb_u64 b 1; have b2 := lb_u64 b 2; have b3 := lb_u64 b 3
  refine enter0 Tryz.func336 rfl rfl rfl ?_
  repeat' (first
    | (show G _ _ _ _ _ _ (.loop _); refine G.loopN 6 (GR.step ?_))
    | (show X (Exit.then (Code.rounds _ _ _ _) _) _ _ _ _ .normal; refine X.round (GR.step ?_))
    | (show YK _ _ _ _ _ ⟨_, .call { callee := .value (.func 308), args := _, argTypes := _ }, _, _, _, _⟩ _; refine add64K rfl rfl rfl (by omega) (by omega) (by omega) (fun s c e h k => ?_))
    | (show YK _ _ _ _ _ ⟨_, .indexAddr 303 _ _, _, _, _, _⟩ _; refine YK.ofV (y_indexArr (len := 4) rfl rfl (by first | exact (rfl : _ = ((0 : Nat) : Int)) | exact (rfl : _ = ((1 : Nat) : Int)) | exact (rfl : _ = ((2 : Nat) : Int)) | exact (rfl : _ = ((3 : Nat) : Int))) (by decide +kernel) rfl) ?_)
    | (show VK _ _ _ _ _ ⟨_, .indexAddr 303 _ _, _, _, _, _⟩ _; refine VK.mk (y_indexArr (len := 4) rfl rfl (by first | exact (rfl : _ = ((0 : Nat) : Int)) | exact (rfl : _ = ((1 : Nat) : Int)) | exact (rfl : _ = ((2 : Nat) : Int)) | exact (rfl : _ = ((3 : Nat) : Int))) (by decide +kernel) rfl) ?_)
    | (show VFrK _ _ _ _ _ ⟨_, .indexAddr 303 _ _, _, _, _, _⟩ _; refine VFrK.mk (vf_of fun _ => y_indexArr (len := 4) rfl rfl (by first | exact (rfl : _ = ((0 : Nat) : Int)) | exact (rfl : _ = ((1 : Nat) : Int)) | exact (rfl : _ = ((2 : Nat) : Int)) | exact (rfl : _ = ((3 : Nat) : Int))) (by decide +kernel) rfl) ?_)
    | (refine G.mixedFH 5 [.go 0, .go 1, .go 2, .go 3, .go 4, .go 5, .go 6, .go 7, .go 8, .go 9, .go 10, .go 11, .go 12, .go 13, .go 14] ?_)
    | (refine nxRF ?_)
    | (refine nxVF ?_)
    | (refine nxV ?_)
    | (refine nxRS ?_) | (refine nxRS1 fun _ => ?_)
    | (refine nxRM ?_) | (refine nxRM1 fun _ => ?_)
    | (refine nxG ?_)
    | (refine nxX ?_)
    | (refine G.condN rfl (fun hc => ?_) (fun hc => ?_) <;> (try first | exact False.elim hc | (exfalso; omega))))
  refine X.ret (vs := [_]) rfl ⟨⟨_, _, _, _, rfl, (by exact memA), (by (repeat (first | exact .nil | apply LenIs.cons))), by decide +kernel, rfl⟩, rfl⟩ rfl (fun w hw => ⟨?_, hw.ext⟩)
  exact congrArg Ending.returned (add_val ha hb (by assumption) (by assumption) (by assumption) (by assumption) (by assumption) (by assumption) (by assumption) (by assumption) (by assumption) (by assumption) (by assumption) (by assumption))
theorem aover_c {a d : Nat} (ha : a < W256) (hd : 0 < d) (hd1 : d < 18446744073709551616) : Cont Tryz.prog 313 [numV a, .int .u64 (d : Int)] (numV (a / d)) := fun w => by
  have a0 := lb_u64 a 0; have a1 := lb_u64 a 1; have a2 := lb_u64 a 2; have a3 := lb_u64 a 3
  have hd0 : (0 : Int) < d := by omega
  refine enter0 Tryz.func313 rfl rfl rfl ?_
  repeat' (first
    | (show G _ _ _ _ _ _ (.loop _); refine G.loopN 6 (GR.step ?_))
    | (show X (Exit.then (Code.rounds _ _ _ _) _) _ _ _ _ .normal; refine X.round (GR.step ?_))
    | (show YK _ _ _ _ _ ⟨_, .call { callee := .value (.func 273), args := _, argTypes := _ }, _, _, _, _⟩ _; refine div64K rfl rfl rfl (by omega) (by omega) (by omega) (fun s c e h k => ?_))
    | (show YK _ _ _ _ _ ⟨_, .indexAddr 303 _ _, _, _, _, _⟩ _; refine YK.ofV (y_indexArr (len := 4) rfl rfl (by first | exact (rfl : _ = ((0 : Nat) : Int)) | exact (rfl : _ = ((1 : Nat) : Int)) | exact (rfl : _ = ((2 : Nat) : Int)) | exact (rfl : _ = ((3 : Nat) : Int))) (by decide +kernel) rfl) ?_)
    | (show VK _ _ _ _ _ ⟨_, .indexAddr 303 _ _, _, _, _, _⟩ _; refine VK.mk (y_indexArr (len := 4) rfl rfl (by first | exact (rfl : _ = ((0 : Nat) : Int)) | exact (rfl : _ = ((1 : Nat) : Int)) | exact (rfl : _ = ((2 : Nat) : Int)) | exact (rfl : _ = ((3 : Nat) : Int))) (by decide +kernel) rfl) ?_)
    | (refine nxV ?_)
    | (refine nxRS ?_) | (refine nxRS1 fun _ => ?_)
    | (refine nxRM ?_) | (refine nxRM1 fun _ => ?_)
    | (refine nxG ?_)
    | (refine nxX ?_)
    | (refine G.condN rfl (fun hc => ?_) (fun hc => ?_) <;> (try first | exact False.elim hc | (exfalso; omega))))
  refine X.ret (vs := [_]) rfl ⟨⟨_, _, _, _, rfl, (by exact memA), (by (repeat (first | exact .nil | apply LenIs.cons))), by decide +kernel, rfl⟩, rfl⟩ rfl (fun w hw => ⟨?_, hw.ext⟩)
  have := div_val (t := 0) ha hd hd (by assumption) (by assumption) (by assumption) (by assumption) (by assumption) (by assumption) (by assumption) (by assumption) (by assumption) (by assumption) (by assumption) (by assumption)
  rw [Nat.zero_mul, Nat.zero_add] at this
  exact congrArg Ending.returned this
theorem times_val {a n : Nat} (ha : a < W256) (hp : a * n < W256) {p0 p1 p2 p3 q0 q1 q2 q3 s0 s1 s2 s3 c0 c1 c2 c3 : Int} (m3 : (lb a 3 : Int) * n = p3 * 18446744073709551616 + q3) (e3 : q3 + 0 + 0 = s3 + 18446744073709551616 * c3) (m2 : (lb a 2 : Int) * n = p2 * 18446744073709551616 + q2) (e2 : q2 + (p3 + c3) + 0 = s2 + 18446744073709551616 * c2) (m1 : (lb a 1 : Int) * n = p1 * 18446744073709551616 + q1) (e1 : q1 + (p2 + c2) + 0 = s1 + 18446744073709551616 * c1) (m0 : (lb a 0 : Int) * n = p0 * 18446744073709551616 + q0) (e0 : q0 + (p1 + c1) + 0 = s0 + 18446744073709551616 * c0)
    (h3 : 0 ≤ s3 ∧ s3 < 18446744073709551616) (h2 : 0 ≤ s2 ∧ s2 < 18446744073709551616) (h1 : 0 ≤ s1 ∧ s1 < 18446744073709551616) (h0 : 0 ≤ s0 ∧ s0 < 18446744073709551616) (hp0 : 0 ≤ p0) (k0 : 0 ≤ c0) :
    (Value.agg [.int .u64 s0, .int .u64 s1, .int .u64 s2, .int .u64 s3].toArray) = numV (a * n) := by
  refine num_val h0.1 h1.1 h2.1 h3.1 ?_
  obtain ⟨S0, rfl⟩ := Int.eq_ofNat_of_zero_le h0.1
  obtain ⟨S1, rfl⟩ := Int.eq_ofNat_of_zero_le h1.1
  obtain ⟨S2, rfl⟩ := Int.eq_ofNat_of_zero_le h2.1
  obtain ⟨S3, rfl⟩ := Int.eq_ofNat_of_zero_le h3.1
  simp only [Int.toNat_natCast]
  have lt : ∀ {z : Nat}, (z : Int) < 18446744073709551616 → z < cW := fun {z} h => by simp only [cW]; omega
  have ea := TT.lb_sum ha
  have e : ((a * n : Nat) : Int) = ((S0 * cW ^ 3 + S1 * cW ^ 2 + S2 * cW + S3 : Nat) : Int) + (p0 + c0) * ((W256 : Nat) : Int) := by
    have e1' : ((a * n : Nat) : Int) = ((lb a 0 : Int) * n) * 18446744073709551616 ^ 3 + ((lb a 1 : Int) * n) * 18446744073709551616 ^ 2 + ((lb a 2 : Int) * n) * 18446744073709551616 + (lb a 3 : Int) * n := by
      conv => lhs; rw [ea]
      simp only [Int.natCast_add, Int.natCast_mul, Int.natCast_pow]
      have hc : ((cW : Nat) : Int) = 18446744073709551616 := rfl
      rw [hc]
      generalize (lb a 0 : Int) = x0; generalize (lb a 1 : Int) = x1; generalize (lb a 2 : Int) = x2; generalize (lb a 3 : Int) = x3
      grind
    rw [e1', m0, m1, m2, m3]
    simp only [Int.natCast_add, Int.natCast_mul, Int.natCast_pow]
    have hc : ((cW : Nat) : Int) = 18446744073709551616 := rfl
    have hW : ((W256 : Nat) : Int) = 18446744073709551616 ^ 4 := rfl
    rw [hc, hW]
    clear m0 m1 m2 m3 ha hp ea e1' h0 h1 h2 h3 lt
    generalize (18446744073709551616 : Int) = z at *
    grind
  have hx := TT.digits_lt (lt h0.2) (lt h1.2) (lt h2.2) (lt h3.2)
  have hz : p0 + c0 = 0 := by
    refine Int.le_antisymm (Int.not_lt.1 fun hlt => ?_) (by omega)
    have h1 : 1 * ((W256 : Nat) : Int) ≤ (p0 + c0) * ((W256 : Nat) : Int) := Int.mul_le_mul_of_nonneg_right (by omega) (by omega)
    have h2 : ((a * n : Nat) : Int) < ((W256 : Nat) : Int) := by omega
    generalize (p0 + c0) * ((W256 : Nat) : Int) = k at *
    generalize ((W256 : Nat) : Int) = v at *
    omega
  rw [hz, Int.zero_mul, Int.add_zero] at e
  exact TT.lb_eq (lt h0.2) (lt h1.2) (lt h2.2) (lt h3.2) (Int.ofNat.inj e)
theorem atimes_c {a n : Nat} (ha : a < W256) (hn : n < 18446744073709551616) (hp : a * n < W256) : Cont Tryz.prog 275 [numV a, .int .u64 (n : Int)] (numV (a * n)) := fun w => by
  have a0 := lb_u64 a 0; have a1 := lb_u64 a 1; have a2 := lb_u64 a 2; have a3 := lb_u64 a 3
  refine enter0 Tryz.func275 rfl rfl rfl ?_
  repeat' (first
    | (show G _ _ _ _ _ _ (.loop _); refine G.loopN 6 (GR.step ?_))
    | (show X (Exit.then (Code.rounds _ _ _ _) _) _ _ _ _ .normal; refine X.round (GR.step ?_))
    | (show YK _ _ _ _ _ ⟨_, .call { callee := .value (.func 224), args := _, argTypes := _ }, _, _, _, _⟩ _; refine mul64K rfl rfl (by omega) (by omega) (fun s c e h k => ?_))
    | (show YK _ _ _ _ _ ⟨_, .call { callee := .value (.func 308), args := _, argTypes := _ }, _, _, _, _⟩ _; refine add64K rfl rfl rfl (by omega) (by omega) (by omega) (fun s c e h k => ?_))
    | (show YK _ _ _ _ _ ⟨_, .indexAddr 303 _ _, _, _, _, _⟩ _; refine YK.ofV (y_indexArr (len := 4) rfl rfl (by first | exact (rfl : _ = ((0 : Nat) : Int)) | exact (rfl : _ = ((1 : Nat) : Int)) | exact (rfl : _ = ((2 : Nat) : Int)) | exact (rfl : _ = ((3 : Nat) : Int))) (by decide +kernel) rfl) ?_)
    | (show VK _ _ _ _ _ ⟨_, .indexAddr 303 _ _, _, _, _, _⟩ _; refine VK.mk (y_indexArr (len := 4) rfl rfl (by first | exact (rfl : _ = ((0 : Nat) : Int)) | exact (rfl : _ = ((1 : Nat) : Int)) | exact (rfl : _ = ((2 : Nat) : Int)) | exact (rfl : _ = ((3 : Nat) : Int))) (by decide +kernel) rfl) ?_)
    | (refine nxV ?_)
    | (refine nxRS ?_) | (refine nxRS1 fun _ => ?_)
    | (refine nxRM ?_) | (refine nxRM1 fun _ => ?_)
    | (refine nxG ?_)
    | (refine nxX ?_)
    | (refine G.condN rfl (fun hc => ?_) (fun hc => ?_) <;> (try first | exact False.elim hc | (exfalso; omega))))
  refine X.ret (vs := [_]) rfl ⟨⟨_, _, _, _, rfl, (by exact memA), (by (repeat (first | exact .nil | apply LenIs.cons))), by decide +kernel, rfl⟩, rfl⟩ rfl (fun w hw => ⟨?_, hw.ext⟩)
  exact congrArg Ending.returned (times_val ha hp (by assumption) (by assumption) (by assumption) (by assumption) (by assumption) (by assumption) (by assumption) (by assumption) (by assumption) (by assumption) (by assumption) (by assumption) (by omega) (by omega))
end Go.Proofs.YtjmdeplmenbmmaaGreatDoor
