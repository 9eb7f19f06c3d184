/- Joined texts: Rg5. -/
import Derived.Test.YtjmdeplmenbmmaaGreatDoorU01
set_option linter.unusedVariables false
namespace Go.Proofs.YtjmdeplmenbmmaaGreatDoor.RR
def kid (a : CellT) (i j : Nat) : CellT := ⟨a.lv, 2 * (a.r / 2) + i, 2 * (a.c / 2) + j⟩
theorem bro_iff {a b c d : CellT} (ha : okC a) (hb : okC b) (hc : okC c) (hd : okC d) : bro a b c d ↔ 0 < a.lv ∧ a = kid a 0 0 ∧ b = kid a 0 1 ∧ c = kid a 1 0 ∧ d = kid a 1 1 := by
  obtain ⟨la, ra, ca⟩ := a
  obtain ⟨lb, rb, cb⟩ := b
  obtain ⟨lc, rc, cc⟩ := c
  obtain ⟨ld, rd, cd⟩ := d
  have hk : ∀ i j, kid ⟨la, ra, ca⟩ i j = ⟨la, 2 * (ra / 2) + i, 2 * (ca / 2) + j⟩ := fun _ _ => rfl
  simp only [bro, hk, CellT.mk.injEq]
  cases la with
  | zero => simp
  | succ L =>
    constructor
    · rintro ⟨-, rfl, rfl, rfl, p, e1, e2, e3, e4⟩
      have f : ∀ r c, mc (L + 1) r c = 4 * mc L (r / 2) (c / 2) + 2 * (r % 2) + c % 2 := fun _ _ => rfl
      rw [f] at e1 e2 e3 e4
      have h2 : ∀ r, r < 2 ^ (L + 1) → r / 2 < 2 ^ L := fun r h => by rw [Nat.pow_succ] at h; omega
      have ia : ra / 2 < 2 ^ L := h2 ra ha.2.1
      have ib : rb / 2 < 2 ^ L := h2 rb hb.2.1
      have ic : rc / 2 < 2 ^ L := h2 rc hc.2.1
      have id : rd / 2 < 2 ^ L := h2 rd hd.2.1
      have p1 : mc L (ra / 2) (ca / 2) = p := by omega
      have p2 : mc L (rb / 2) (cb / 2) = p := by omega
      have p3 : mc L (rc / 2) (cc / 2) = p := by omega
      have p4 : mc L (rd / 2) (cd / 2) = p := by omega
      have k2 := mc_inj L _ _ _ _ ib ia (p2.trans p1.symm)
      have k3 := mc_inj L _ _ _ _ ic ia (p3.trans p1.symm)
      have k4 := mc_inj L _ _ _ _ id ia (p4.trans p1.symm)
      refine ⟨by omega, ⟨trivial, ?_, ?_⟩, ⟨rfl, ?_, ?_⟩, ⟨rfl, ?_, ?_⟩, ⟨rfl, ?_, ?_⟩⟩ <;> omega
    · rintro ⟨-, ⟨-, e1, e2⟩, ⟨rfl, e3, e4⟩, ⟨rfl, e5, e6⟩, ⟨rfl, e7, e8⟩⟩
      have f : ∀ r c, mc (L + 1) r c = 4 * mc L (r / 2) (c / 2) + 2 * (r % 2) + c % 2 := fun _ _ => rfl
      have q : ∀ r c i j, r = 2 * (ra / 2) + i → c = 2 * (ca / 2) + j → i < 2 → j < 2 → mc (L + 1) r c = 4 * mc L (ra / 2) (ca / 2) + 2 * i + j := fun r c i j h1 h2 h3 h4 => by
        rw [f, show r / 2 = ra / 2 by omega, show c / 2 = ca / 2 by omega, show r % 2 = i by omega, show c % 2 = j by omega]
      refine ⟨by omega, rfl, rfl, rfl, mc L (ra / 2) (ca / 2), ?_, ?_, ?_, ?_⟩
      · rw [q ra ca 0 0 e1 e2 (by omega) (by omega), Nat.mul_zero, Nat.add_zero]
      · rw [q rb cb 0 1 e3 e4 (by omega) (by omega)]
      · rw [q rc cc 1 0 e5 e6 (by omega) (by omega)]
      · rw [q rd cd 1 1 e7 e8 (by omega) (by omega)]
def nextB (a b : CellT) : Bool := !(within b a) && !(within a b) && before a b
theorem nextB_iff {a b : CellT} (ha : okC a) (hb : okC b) : nextB a b = true ↔ to a ≤ fr b := by
  unfold nextB
  rw [before_iff ha hb]
  constructor
  · intro h
    simp only [Bool.and_eq_true, decide_eq_true_eq] at h
    exact h.2
  · intro h
    obtain ⟨h1, h2⟩ := within_no ha hb h
    rw [h1, h2, decide_eq_true h]; rfl
def broB (a b c d : CellT) : Bool := decide (0 < a.lv) && decide (a = kid a 0 0) && decide (b = kid a 0 1) && decide (c = kid a 1 0) && decide (d = kid a 1 1)
theorem broB_iff {a b c d : CellT} (ha : okC a) (hb : okC b) (hc : okC c) (hd : okC d) : broB a b c d = true ↔ bro a b c d := by
  rw [bro_iff ha hb hc hd]
  simp only [broB, Bool.and_eq_true, decide_eq_true_eq, and_assoc]
structure IdxOk (l : List CellT) : Prop where
  next : ∀ i a b, l[i]? = some a → l[i + 1]? = some b → nextB a b = true
  bros : ∀ i a b c d, l[i]? = some a → l[i + 1]? = some b → l[i + 2]? = some c → l[i + 3]? = some d → broB a b c d = false
theorem chain_idx : ∀ {l : List CellT}, (∀ x ∈ l, okC x) → ((∀ i a b, l[i]? = some a → l[i + 1]? = some b → nextB a b = true) ↔ Chain l)
  | [], _ => ⟨fun _ => trivial, fun _ i a b h => by simp at h⟩
  | [x], _ => ⟨fun _ => trivial, fun _ i a b _ h => by simp at h⟩
  | x :: y :: r, ho => by
    have ih := chain_idx (l := y :: r) fun z hz => ho z (List.mem_cons_of_mem _ hz)
    have hx := ho x (by simp)
    have hy := ho y (by simp)
    constructor
    · intro h
      exact ⟨(nextB_iff hx hy).1 (h 0 x y rfl rfl), ih.1 fun i a b h1 h2 => h (i + 1) a b h1 h2⟩
    · rintro ⟨h1, h2⟩ i a b ha hb
      cases i with
      | zero =>
        obtain rfl := Option.some.inj ha
        obtain rfl := Option.some.inj hb
        exact (nextB_iff hx hy).2 h1
      | succ i => exact ih.2 h2 i a b ha hb
theorem noB_idx : ∀ {l : List CellT}, (∀ x ∈ l, okC x) → ((∀ i a b c d, l[i]? = some a → l[i + 1]? = some b → l[i + 2]? = some c → l[i + 3]? = some d → broB a b c d = false) ↔ noB l)
  | [], _ => ⟨fun _ => trivial, fun _ i a b c d h => by simp at h⟩
  | [x], _ => ⟨fun _ => trivial, fun _ i a b c d _ h => by simp at h⟩
  | [x, y], _ => ⟨fun _ => trivial, fun _ i a b c d _ _ h => by simp at h⟩
  | [x, y, z], _ => ⟨fun _ => trivial, fun _ i a b c d _ _ _ h => by simp at h⟩
  | x :: y :: z :: u :: r, ho => by
    have ih := noB_idx (l := y :: z :: u :: r) fun z hz => ho z (List.mem_cons_of_mem _ hz)
    have k := broB_iff (ho x (by simp)) (ho y (by simp)) (ho z (by simp)) (ho u (by simp))
    constructor
    · intro h
      refine ⟨fun hb => ?_, ih.1 fun i a b c d h1 h2 h3 h4 => h (i + 1) a b c d h1 h2 h3 h4⟩
      have := h 0 x y z u rfl rfl rfl rfl
      rw [k.2 hb] at this; cases this
    · rintro ⟨h1, h2⟩ i a b c d ha hb hc hd
      cases i with
      | zero =>
        obtain rfl := Option.some.inj ha
        obtain rfl := Option.some.inj hb
        obtain rfl := Option.some.inj hc
        obtain rfl := Option.some.inj hd
        cases hq : broB x y z u with
        | false => rfl
        | true => exact absurd (k.1 hq) h1
      | succ i => exact ih.2 h2 i a b c d ha hb hc hd
theorem idx_iff {l : List CellT} (ho : ∀ x ∈ l, okC x) : IdxOk l ↔ Chain l ∧ noB l :=
  ⟨fun h => ⟨(chain_idx ho).1 h.next, (noB_idx ho).1 h.bros⟩, fun h => ⟨(chain_idx ho).2 h.1, (noB_idx ho).2 h.2⟩⟩
def spanLe (x y : Nat × Nat) : Prop := x.1 < y.1 ∨ x.1 = y.1 ∧ y.2 ≤ x.2
theorem asc_of : ∀ {l : List (Nat × Nat)}, l.Pairwise spanLe → Asc l
  | [], _ => trivial
  | [_], _ => trivial
  | x :: y :: r, h => by
    obtain ⟨h1, h2⟩ := List.pairwise_cons.1 h
    refine ⟨?_, asc_of h2⟩
    rcases h1 y (by simp) with g | g <;> omega
theorem spanLe_anti {x y : Nat × Nat} (h1 : spanLe x y) (h2 : spanLe y x) : x = y := by
  obtain ⟨a, b⟩ := x
  obtain ⟨c, d⟩ := y
  unfold spanLe at h1 h2
  simp only at h1 h2
  have e1 : a = c := by omega
  have e2 : b = d := by omega
  rw [e1, e2]
theorem chain_sorted {l : List CellT} (hc : Chain l) : (l.map spanC).Pairwise spanLe := by
  rw [List.pairwise_map]
  refine (chain_pairs hc).imp fun {a b} h => ?_
  have h1 := to_fr a
  have h2 := sz_pos a.lv
  refine .inl ?_
  show fr a < fr b
  omega
theorem region_iff {l : List CellT} (ho : ∀ x ∈ l, okC x) {S : List (Nat × Nat)} (hp : S.Perm (l.map spanC)) (hs : S.Pairwise spanLe) : tidyL (S.foldl mergeS []) = l ↔ IdxOk l := by
  rw [merge_foldl, idx_iff ho]
  constructor
  · intro h
    have hm : ∀ s ∈ S, s.1 < s.2 ∧ s.2 ≤ 2 * 4 ^ 16 := fun s hs => by
      have := hp.mem_iff.1 hs
      obtain ⟨x, hx, rfl⟩ := List.mem_map.1 this
      exact okC_span (ho x hx)
    have := tidy_is hm (asc_of hs)
    rw [h] at this
    exact this
  · rintro ⟨hc, hb⟩
    have e : S = l.map spanC := List.Perm.eq_of_pairwise (fun a b _ _ g1 g2 => spanLe_anti g1 g2) hs (chain_sorted hc) hp
    rw [e]
    exact tidy_back ho hc hb
end Go.Proofs.YtjmdeplmenbmmaaGreatDoor.RR
