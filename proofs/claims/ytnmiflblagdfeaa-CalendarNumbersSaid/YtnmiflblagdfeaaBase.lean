/-
  The ground of this seat's proofs: a symbolic state (what the slots of a frame hold; which blocks the call itself has made), and one rule for each operation over it.
-/
import Derived.WalkKit
import Derived.Deep.QuietTactic
import Derived.StillTail
import Derived.Laws.StructEq
namespace Go.Proofs.Ytnmiflblagdfeaa
open Go.RowKit

/-! ### What the slots hold -/
abbrev FL := List (Nat × Value)

/-- What is known of slot i: the newest entry. -/
def lk : FL → Nat → Option Value
  | [], _ => none
  | (j, v) :: r, i => match Nat.beq j i with
    | true => some v
    | false => lk r i

def evO (L : FL) : Operand → Option Value
  | .tmp t => lk L t
  | .const v => some v
  | .global g => some (.pointer (some ⟨g, 0, none⟩))
  | .func f => some (.func (.func f) #[] #[])

structure Fr (n : Nat) (L : FL) (a : Act) : Prop where
  size : a.tmps.size = n
  defs : a.defers = []
  at_ : ∀ i v, lk L i = some v → a.tmps.getD i undef = v

theorem Fr.eval {n : Nat} {L : FL} {a : Act} {x : Operand} {v : Value} (h : Fr n L a) (hx : evO L x = some v) : a.eval x = v := by
  cases x with
  | tmp t => exact h.at_ t v hx
  | const c => simpa [evO, Act.eval] using hx
  | global g => simpa [evO, Act.eval] using hx
  | func f => simpa [evO, Act.eval] using hx

theorem lk_cons_eq (L : FL) (d : Nat) (v : Value) : lk ((d, v) :: L) d = some v := by
  simp [lk]
theorem lk_cons_ne (L : FL) {d i : Nat} (v : Value) (h : d ≠ i) : lk ((d, v) :: L) i = lk L i := by
  have : Nat.beq d i = false := by
    cases hb : Nat.beq d i with
    | false => rfl
    | true => exact absurd (Nat.eq_of_beq_eq_true hb) h
  simp [lk, this]

theorem Fr.put {n : Nat} {L : FL} {a : Act} {d : Nat} {v : Value} (h : Fr n L a) (hd : d < n) : Fr n ((d, v) :: L) (a.put (some d) v) := by
  refine ⟨by simp [Act.put, h.size], h.defs, fun i u hi => ?_⟩
  by_cases e : d = i
  · subst e
    rw [lk_cons_eq] at hi
    cases hi
    simp [Act.put, h.size, hd]
  · rw [lk_cons_ne L v e] at hi
    have := h.at_ i u hi
    simpa [Act.put, Array.getElem?_setIfInBounds_ne e] using this

theorem Fr.putNone {n : Nat} {L : FL} {a : Act} {v : Value} (h : Fr n L a) : Fr n L (a.put none v) := h

/-- Fewer facts. -/
theorem Fr.weaken {n : Nat} {L L' : FL} {a : Act} (h : Fr n L a) (hs : ∀ i v, lk L' i = some v → lk L i = some v) : Fr n L' a :=
  ⟨h.size, h.defs, fun i v hi => h.at_ i v (hs i v hi)⟩

/-- Every fact of L' is one of L: entry by entry. -/
def Sub (L : FL) : FL → Prop
  | [] => True
  | (i, v) :: r => lk L i = some v ∧ Sub L r
theorem Sub.spec {L : FL} : ∀ {L' : FL}, Sub L L' → ∀ i v, lk L' i = some v → lk L i = some v
  | [], _, _, _, h => by simp [lk] at h
  | (j, u) :: r, hs, i, v, h => by
    by_cases e : j = i
    · subst e
      rw [lk_cons_eq] at h
      cases h
      exact hs.1
    · rw [lk_cons_ne r u e] at h
      exact Sub.spec hs.2 i v h

/-! ### What the call's own blocks hold -/
/-- A block of the call's own, known whole; a row that the call owns (a slice that it appends to). -/
inductive Hl where
  | blk (b : Nat) (t : TypeId) (cs : List Value)
  | row (v : Value) (e : TypeId) (size n : Nat) (xs : List Value)

def Hl.holds (base : Nat) (w : World) : Hl → Prop
  | .blk b t cs => base ≤ b ∧ w.heap[b]? = some (.cells cs.toArray t (0, 0))
  | .row v e size n xs => w.ownsRow base e size v n xs
def Hl.owns : Hl → Option Nat
  | .blk b _ _ => some b
  | .row v _ _ _ _ => v.ownBlock

def apartFrom (h : Hl) (H : List Hl) : Prop := ∀ h' ∈ H, ∀ b, h.owns = some b → h'.owns ≠ some b
def allApart : List Hl → Prop
  | [] => True
  | h :: H => apartFrom h H ∧ allApart H

structure St (w0 : World) (H : List Hl) (w : World) : Prop where
  ext : Below w0.heap.size w0 w
  all : ∀ h ∈ H, h.holds w0.heap.size w
  apart : allApart H

theorem heap_lt {w : World} {b : Nat} {o : Obj} (h : w.heap[b]? = some o) : b < w.heap.size := (Array.getElem?_eq_some_iff.1 h).1

theorem Hl.lt {base : Nat} {w : World} {h : Hl} {b : Nat} (hh : h.holds base w) (ho : h.owns = some b) : b < w.heap.size := by
  cases h with
  | blk b' t cs =>
    simp only [Hl.owns, Option.some.injEq] at ho
    subst ho
    exact heap_lt hh.2
  | row v e size n xs =>
    rcases hh.2 with ⟨rfl, _⟩ | ⟨g, cap, cur, rfl, _, hg, _⟩
    · simp [Hl.owns, Value.ownBlock] at ho
    · simp only [Hl.owns, Value.ownBlock, Option.some.injEq] at ho
      subst ho
      exact heap_lt hg

theorem Hl.ge {base : Nat} {w : World} {h : Hl} {b : Nat} (hh : h.holds base w) (ho : h.owns = some b) : base ≤ b := by
  cases h with
  | blk b' t cs =>
    simp only [Hl.owns, Option.some.injEq] at ho
    subst ho
    exact hh.1
  | row v e size n xs =>
    rcases hh.2 with ⟨rfl, _⟩ | ⟨g, cap, cur, rfl, hb, _⟩
    · simp [Hl.owns, Value.ownBlock] at ho
    · simp only [Hl.owns, Value.ownBlock, Option.some.injEq] at ho
      subst ho
      exact hb

/-- A heaplet is as it was where its block is as it was. -/
theorem Hl.keep {base : Nat} {w w' : World} {h : Hl} (hh : h.holds base w) (hk : ∀ b, h.owns = some b → w'.heap[b]? = w.heap[b]?) : h.holds base w' := by
  cases h with
  | blk b t cs => exact ⟨hh.1, (hk b rfl).trans hh.2⟩
  | row v e size n xs =>
    refine ⟨hh.1, ?_⟩
    rcases hh.2 with h0 | ⟨g, cap, cur, rfl, hb, hg, hr⟩
    · exact .inl h0
    · exact .inr ⟨g, cap, cur, rfl, hb, (hk g rfl).trans hg, hr⟩

section
variable {w0 w w' : World} {H : List Hl}

/-- What leaves everything that is there as it is. -/
theorem St.step (h : St w0 H w) (hb : Below w.heap.size w w') : St w0 H w' :=
  ⟨h.ext.trans (hb.mono h.ext.size), fun x hx => Hl.keep (h.all x hx) fun b ho => hb.block b (Hl.lt (h.all x hx) ho), h.apart⟩

theorem St.drew (h : St w0 H w) : St w0 H w.drew := h.step ⟨rfl, rfl, rfl, Nat.le_refl _, fun _ _ => rfl⟩

theorem St.start (w : World) : St w [] w := ⟨Below.refl _ _, (fun _ h => by cases h), trivial⟩

/-- A new block. -/
theorem St.alloc (h : St w0 H w) (t : TypeId) (cs : List Value) : St w0 (.blk w.heap.size t cs :: H) (w.alloc (.cells cs.toArray t)) := by
  have h1 := h.step ((Below.refl w.heap.size w).alloc (Nat.le_refl _) (.cells cs.toArray t))
  refine ⟨h1.ext, fun x hx => ?_, fun x hx b hb ho => ?_, h.apart⟩
  · rcases List.mem_cons.1 hx with rfl | hx
    · refine ⟨h.ext.size, ?_⟩
      show (w.heap.push _)[w.heap.size]? = _
      simp
    · exact h1.all x hx
  · simp only [Hl.owns, Option.some.injEq] at hb
    subst hb
    exact absurd (Hl.lt (h.all x hx) ho) (Nat.lt_irrefl _)

/-- Heaplets, one of them for another that owns the same block. -/
inductive Upd (x y : Hl) : List Hl → List Hl → Prop where
  | here (r : List Hl) : Upd x y (x :: r) (y :: r)
  | there (z : Hl) {r r' : List Hl} (h : Upd x y r r') : Upd x y (z :: r) (z :: r')

theorem Upd.mem {x y : Hl} {H H' : List Hl} (h : Upd x y H H') : x ∈ H := by
  induction h with
  | here r => exact List.mem_cons_self
  | there z _ ih => exact List.mem_cons_of_mem _ ih
theorem Upd.from_ {x y : Hl} {H H' : List Hl} (h : Upd x y H H') : ∀ z ∈ H', z = y ∨ z ∈ H := by
  induction h with
  | here r => intro z hz; rcases List.mem_cons.1 hz with h | h; exact .inl h; exact .inr (List.mem_cons_of_mem _ h)
  | there u _ ih =>
    intro z hz
    rcases List.mem_cons.1 hz with h | h
    · exact .inr (h ▸ List.mem_cons_self)
    · exact (ih z h).imp id (List.mem_cons_of_mem _)

/-- What is owned stays apart where the new heaplet owns the old one's block, or one that nobody owns. -/
theorem Upd.apart {x y : Hl} {H H' : List Hl} (h : Upd x y H H') (ha : allApart H) (ho : ∀ b, y.owns = some b → x.owns = some b ∨ ∀ z ∈ H, z.owns ≠ some b) : allApart H' := by
  induction h with
  | here r =>
    refine ⟨fun z hz b hb => ?_, ha.2⟩
    rcases ho b hb with h1 | h1
    · exact ha.1 z hz b h1
    · exact h1 z (List.mem_cons_of_mem _ hz)
  | there u hu ih =>
    refine ⟨fun z hz b hb hzb => ?_, ih ha.2 fun b hb => (ho b hb).imp id fun h1 z hz => h1 z (List.mem_cons_of_mem _ hz)⟩
    rcases hu.from_ z hz with rfl | hz'
    · rcases ho b hzb with h1 | h1
      · exact ha.1 x hu.mem b hb h1
      · exact h1 u List.mem_cons_self hb
    · exact ha.1 z hz' b hb hzb

theorem Upd.others {x y : Hl} {H H' : List Hl} (h : Upd x y H H') (ha : allApart H) : ∀ z ∈ H', z = y ∨ (z ∈ H ∧ ∀ b, x.owns = some b → z.owns ≠ some b) := by
  induction h with
  | here r =>
    intro z hz
    rcases List.mem_cons.1 hz with h | h
    · exact .inl h
    · exact .inr ⟨List.mem_cons_of_mem _ h, fun b hb => ha.1 z h b hb⟩
  | there u hu ih =>
    intro z hz
    rcases List.mem_cons.1 hz with h | h
    · subst h
      exact .inr ⟨List.mem_cons_self, fun b hb hz2 => ha.1 x hu.mem b hz2 hb⟩
    · rcases ih ha.2 z h with h1 | ⟨h1, h2⟩
      · exact .inl h1
      · exact .inr ⟨List.mem_cons_of_mem _ h1, h2⟩

theorem St.blk {b : Nat} {t : TypeId} {cs : List Value} (h : St w0 H w) (hm : Hl.blk b t cs ∈ H) : w.heap[b]? = some (.cells cs.toArray t (0, 0)) := (h.all _ hm).2
theorem St.cell {b : Nat} {t : TypeId} {cs : List Value} (h : St w0 H w) (hm : Hl.blk b t cs ∈ H) (i : Nat) : w.cell? ⟨b, i, none⟩ = cs[i]? := by
  have := cell_of_row w b i cs.toArray t (0, 0) (h.blk hm)
  simpa using this
theorem St.free {b : Nat} {t : TypeId} {cs : List Value} (h : St w0 H w) (hm : Hl.blk b t cs ∈ H) (i : Nat) : w.frozen? ⟨b, i, none⟩ = false := by
  have := h.blk hm
  simp [World.frozen?, this]

/-- Block b of the call's own holds other cells now; all else is as it was. -/
theorem St.change {b : Nat} {t : TypeId} {cs cs' : List Value} {H' : List Hl} (h : St w0 H w) (hu : Upd (.blk b t cs) (.blk b t cs') H H')
    (hos : w'.os = w.os) (htape : w'.tape = w.tape) (hout : w'.output = w.output) (hsz : w'.heap.size = w.heap.size)
    (hb : w'.heap[b]? = some (.cells cs'.toArray t (0, 0))) (ho : ∀ k, k ≠ b → w'.heap[k]? = w.heap[k]?) : St w0 H' w' := by
  have hge : w0.heap.size ≤ b := (h.all _ hu.mem).1
  refine ⟨⟨hos.trans h.ext.os, htape.trans h.ext.tape, hout.trans h.ext.output, by rw [hsz]; exact h.ext.size, fun k hk => (ho k (by omega)).trans (h.ext.block k hk)⟩, fun x hx => ?_, hu.apart h.apart fun c hc => .inl hc⟩
  rcases hu.others h.apart x hx with rfl | ⟨hx', hne⟩
  · exact ⟨hge, hb⟩
  · exact Hl.keep (h.all x hx') fun c hc => ho c (fun e => hne b rfl (e ▸ hc))

theorem St.setCell {b i : Nat} {t : TypeId} {cs : List Value} {H' : List Hl} (v : Value) (h : St w0 H w) (hu : Upd (.blk b t cs) (.blk b t (cs.set i v)) H H') : St w0 H' (w.setCell ⟨b, i, none⟩ v) := by
  have hb := h.blk hu.mem
  refine h.change hu rfl rfl rfl (by simp [World.setCell]) ?_ (fun k hk => ?_)
  · simp [World.setCell, Array.getElem?_modify, hb]
  · exact Below.heap_setCell w _ v k hk
end

/-! ### Regions -/
section
variable {P : Program} {ops : Array Oper} {n : Nat} {L : FL} {w0 : World} {H : List Hl}

/-- In every world of the state operation o leaves v, and a world of the state. -/
def Y (P : Program) (n : Nat) (L : FL) (w0 : World) (H : List Hl) (o : Oper) (v : Value) : Prop :=
  ∀ a w, Fr n L a → St w0 H w → o.quietAt P a (St w0 H) w v

/-- The operations of a region that draws its order, or of one that does not, as long as they leave memory as it is. -/
def RQ (P : Program) (ops : Array Oper) (Q : Act → Prop) (n : Nat) (L : FL) (w0 : World) (H : List Hl) (rest : List Oper) : Prop :=
  ∀ a, Fr n L a → wpQuiet P ops (St w0 H) Q rest a
def RS (P : Program) (ops : Array Oper) (Q : Exit → Act → World → Prop) (n : Nat) (L : FL) (w0 : World) (H : List Hl) (rest : List Oper) : Prop :=
  ∀ a w, Fr n L a → St w0 H w → wpList P ops Q rest a w

theorem yielded_of {L : FL} {a : Act} {j g : Nat} {b : Bool} (h : Fr n L a) (hj : (ops[j]?).bind (·.dst) = some g) (hg : lk L g = some (.bool b)) : yielded ops a.tmps j = some b := by
  have h1 := h.at_ g _ hg
  have h2 : a.tmps[g]? = some (.bool b) := by
    rcases hx : a.tmps[g]? with _ | u
    · rw [Array.getD_eq_getD_getElem?, hx] at h1
      cases h1
    · rw [Array.getD_eq_getD_getElem?, hx] at h1
      simpa using h1
  simp [yielded, hj, h2]

theorem yielded_not {L : FL} {a : Act} {j g : Nat} (h : Fr n L a) (hj : (ops[j]?).bind (·.dst) = some g) (hg : lk L g = some undef) : yielded ops a.tmps j = none := by
  have h1 := h.at_ g _ hg
  rw [Array.getD_eq_getD_getElem?] at h1
  unfold yielded
  rw [hj]
  rcases hx : a.tmps[g]? with _ | u
  · simp [hx]
  · rw [hx] at h1
    simp only [Option.getD_some] at h1
    subst h1
    simp [hx, undef]

theorem wp_of_Y {o : Oper} {v : Value} {K : Act → World → Prop} {Q : Exit → Act → World → Prop} {a : Act} {w : World} (hy : Y P n L w0 H o v) (ha : Fr n L a) (hw : St w0 H w)
    (hk : ∀ w', St w0 H w' → K (a.put o.dst v) w') : o.wp P a w K Q := by
  have h3 := hy a w ha hw
  unfold Oper.quietAt at h3
  unfold Oper.wp
  generalize (execOp a.eval o).run P w = r at *
  cases r with
  | ok nx w' =>
    cases nx <;> simp only [Oper.quietUpon] at h3 <;> simp only [Oper.upon]
    case value u =>
      obtain ⟨e1, e2⟩ := h3
      rw [e1, e2]
      exact hk _ hw
    case skip =>
      obtain ⟨e1, e2⟩ := h3
      rw [e1, ← e2]
      exact hk _ hw
    case enter f args =>
      obtain ⟨e1, hc⟩ := h3
      rw [e1]
      exact hc.mono fun e w'' ⟨he, hw''⟩ => by subst he; exact hk _ hw''
  | halt x w' => simp only [Oper.quietUpon] at h3

section steps
variable {Q : Act → Prop} {Qs : Exit → Act → World → Prop} {rest : List Oper} {d : Nat} {op : Op} {ty : TypeId} {pos : String} {af : Array Edge} {v : Value} {j g : Nat} {b : Bool}

theorem RQ.step (hy : Y P n L w0 H ⟨some d, op, ty, pos, af, none⟩ v) (hd : Nat.blt d n = true) (h : RQ P ops Q n ((d, v) :: L) w0 H rest) :
    RQ P ops Q n L w0 H (⟨some d, op, ty, pos, af, none⟩ :: rest) := fun a ha => by
  refine wpQuiet_step fun K hK => ?_
  simp only [Region.wanted, if_true]
  exact ⟨v, fun w hw => hy a w ha hw, hK _ (h _ (ha.put (by simpa [Nat.blt_eq] using hd)))⟩

/-- A guarded operation; what guards it may itself be guarded: c. -/
theorem RQ.guarded {want c : Bool} {o : Oper} (ho : o = ⟨some d, op, ty, pos, af, some (j, want)⟩) (hj : (ops[j]?).bind (·.dst) = some g) (hg : lk L g = some (bif c then .bool b else undef)) (hd : Nat.blt d n = true)
    (hy : c = true → b = want → Y P n L w0 H o v) (h : RQ P ops Q n ((d, bif (c && (b == want)) then v else undef) :: L) w0 H rest) :
    RQ P ops Q n L w0 H (o :: rest) := fun a ha => by
  subst ho
  refine wpQuiet_step fun K hK => ?_
  have hd' : d < n := by simpa [Nat.blt_eq] using hd
  cases c with
  | true =>
    have h1 := yielded_of (b := b) ha hj (by simpa using hg)
    simp only [Region.wanted, h1]
    by_cases hb : b = want
    · subst hb
      simp only [beq_self_eq_true, if_true, cond_true, Bool.and_self] at h ⊢
      exact ⟨v, fun w hw => hy rfl rfl a w ha hw, hK _ (h _ (ha.put hd'))⟩
    · have hb' : (b == want) = false := by simpa using hb
      have hb2 : (some b == some want) = false := by simpa using hb
      rw [hb'] at h
      simp only [hb2, Bool.false_eq_true, if_false]
      exact hK _ (h _ (ha.put hd'))
  | false =>
    have h1 := yielded_not ha hj (by simpa using hg)
    simp only [Region.wanted, h1]
    exact hK _ (h _ (ha.put hd'))

theorem RS.step (hy : Y P n L w0 H ⟨some d, op, ty, pos, af, none⟩ v) (hd : Nat.blt d n = true) (h : RS P ops Qs n ((d, v) :: L) w0 H rest) :
    RS P ops Qs n L w0 H (⟨some d, op, ty, pos, af, none⟩ :: rest) := fun a w ha hw => by
  refine wpList_plain rfl fun K hK => ?_
  exact wp_of_Y hy ha hw fun w' hw' => hK _ _ (h _ _ (ha.put (by simpa [Nat.blt_eq] using hd)) hw')

theorem RS.guarded {want c : Bool} {o : Oper} (ho : o = ⟨some d, op, ty, pos, af, some (j, want)⟩) (hj : (ops[j]?).bind (·.dst) = some g) (hg : lk L g = some (bif c then .bool b else undef)) (hd : Nat.blt d n = true)
    (hy : c = true → b = want → Y P n L w0 H o v) (h : RS P ops Qs n ((d, bif (c && (b == want)) then v else undef) :: L) w0 H rest) :
    RS P ops Qs n L w0 H (o :: rest) := fun a w ha hw => by
  subst ho
  refine wpList_step fun K hK => ?_
  have hd' : d < n := by simpa [Nat.blt_eq] using hd
  cases c with
  | true =>
    have h1 := yielded_of (b := b) ha hj (by simpa using hg)
    simp only [Region.wanted, h1]
    by_cases hb : b = want
    · subst hb
      simp only [beq_self_eq_true, if_true, cond_true, Bool.and_self] at h ⊢
      exact wp_of_Y (hy rfl rfl) ha hw fun w' hw' => hK _ _ (h _ _ (ha.put hd') hw')
    · have hb' : (b == want) = false := by simpa using hb
      have hb2 : (some b == some want) = false := by simpa using hb
      rw [hb'] at h
      simp only [hb2, Bool.false_eq_true, if_false]
      exact hK _ _ (h _ _ (ha.put hd') hw)
  | false =>
    have h1 := yielded_not ha hj (by simpa using hg)
    simp only [Region.wanted, h1]
    exact hK _ _ (h _ _ (ha.put hd') hw)

theorem RQ.gT (hj : (ops[j]?).bind (·.dst) = some g) (hg : lk L g = some (.bool b)) (hd : Nat.blt d n = true) (hy : b = true → Y P n L w0 H ⟨some d, op, ty, pos, af, some (j, true)⟩ v)
    (h : RQ P ops Q n ((d, bif b then v else undef) :: L) w0 H rest) : RQ P ops Q n L w0 H (⟨some d, op, ty, pos, af, some (j, true)⟩ :: rest) :=
  RQ.guarded (c := true) rfl hj (by simpa using hg) hd (fun _ => hy) (by simpa using h)
theorem RQ.gF (hj : (ops[j]?).bind (·.dst) = some g) (hg : lk L g = some (.bool b)) (hd : Nat.blt d n = true) (hy : b = false → Y P n L w0 H ⟨some d, op, ty, pos, af, some (j, false)⟩ v)
    (h : RQ P ops Q n ((d, bif !b then v else undef) :: L) w0 H rest) : RQ P ops Q n L w0 H (⟨some d, op, ty, pos, af, some (j, false)⟩ :: rest) :=
  RQ.guarded (c := true) rfl hj (by simpa using hg) hd (fun _ => hy) (by simpa using h)
theorem RQ.gTc {c : Bool} (hj : (ops[j]?).bind (·.dst) = some g) (hg : lk L g = some (bif c then .bool b else undef)) (hd : Nat.blt d n = true) (hy : c = true → b = true → Y P n L w0 H ⟨some d, op, ty, pos, af, some (j, true)⟩ v)
    (h : RQ P ops Q n ((d, bif (c && b) then v else undef) :: L) w0 H rest) : RQ P ops Q n L w0 H (⟨some d, op, ty, pos, af, some (j, true)⟩ :: rest) :=
  RQ.guarded rfl hj hg hd hy (by simpa using h)
theorem RQ.gFc {c : Bool} (hj : (ops[j]?).bind (·.dst) = some g) (hg : lk L g = some (bif c then .bool b else undef)) (hd : Nat.blt d n = true) (hy : c = true → b = false → Y P n L w0 H ⟨some d, op, ty, pos, af, some (j, false)⟩ v)
    (h : RQ P ops Q n ((d, bif (c && !b) then v else undef) :: L) w0 H rest) : RQ P ops Q n L w0 H (⟨some d, op, ty, pos, af, some (j, false)⟩ :: rest) :=
  RQ.guarded rfl hj hg hd hy (by simpa using h)
theorem RS.gT (hj : (ops[j]?).bind (·.dst) = some g) (hg : lk L g = some (.bool b)) (hd : Nat.blt d n = true) (hy : b = true → Y P n L w0 H ⟨some d, op, ty, pos, af, some (j, true)⟩ v)
    (h : RS P ops Qs n ((d, bif b then v else undef) :: L) w0 H rest) : RS P ops Qs n L w0 H (⟨some d, op, ty, pos, af, some (j, true)⟩ :: rest) :=
  RS.guarded (c := true) rfl hj (by simpa using hg) hd (fun _ => hy) (by simpa using h)
theorem RS.gF (hj : (ops[j]?).bind (·.dst) = some g) (hg : lk L g = some (.bool b)) (hd : Nat.blt d n = true) (hy : b = false → Y P n L w0 H ⟨some d, op, ty, pos, af, some (j, false)⟩ v)
    (h : RS P ops Qs n ((d, bif !b then v else undef) :: L) w0 H rest) : RS P ops Qs n L w0 H (⟨some d, op, ty, pos, af, some (j, false)⟩ :: rest) :=
  RS.guarded (c := true) rfl hj (by simpa using hg) hd (fun _ => hy) (by simpa using h)
theorem RS.gTc {c : Bool} (hj : (ops[j]?).bind (·.dst) = some g) (hg : lk L g = some (bif c then .bool b else undef)) (hd : Nat.blt d n = true) (hy : c = true → b = true → Y P n L w0 H ⟨some d, op, ty, pos, af, some (j, true)⟩ v)
    (h : RS P ops Qs n ((d, bif (c && b) then v else undef) :: L) w0 H rest) : RS P ops Qs n L w0 H (⟨some d, op, ty, pos, af, some (j, true)⟩ :: rest) :=
  RS.guarded rfl hj hg hd hy (by simpa using h)
theorem RS.gFc {c : Bool} (hj : (ops[j]?).bind (·.dst) = some g) (hg : lk L g = some (bif c then .bool b else undef)) (hd : Nat.blt d n = true) (hy : c = true → b = false → Y P n L w0 H ⟨some d, op, ty, pos, af, some (j, false)⟩ v)
    (h : RS P ops Qs n ((d, bif (c && !b) then v else undef) :: L) w0 H rest) : RS P ops Qs n L w0 H (⟨some d, op, ty, pos, af, some (j, false)⟩ :: rest) :=
  RS.guarded rfl hj hg hd hy (by simpa using h)

theorem RQ.lT (hj : (ops[j]?).bind (·.dst) = some g) (hg : lk L g = some (.bool b)) (hb : b = true) (hd : Nat.blt d n = true) (hy : Y P n L w0 H ⟨some d, op, ty, pos, af, some (j, true)⟩ v)
    (h : RQ P ops Q n ((d, v) :: L) w0 H rest) : RQ P ops Q n L w0 H (⟨some d, op, ty, pos, af, some (j, true)⟩ :: rest) := by
  subst hb
  exact RQ.gT hj hg hd (fun _ => hy) (by simpa using h)
theorem RQ.lF (hj : (ops[j]?).bind (·.dst) = some g) (hg : lk L g = some (.bool b)) (hb : b = false) (hd : Nat.blt d n = true) (hy : Y P n L w0 H ⟨some d, op, ty, pos, af, some (j, false)⟩ v)
    (h : RQ P ops Q n ((d, v) :: L) w0 H rest) : RQ P ops Q n L w0 H (⟨some d, op, ty, pos, af, some (j, false)⟩ :: rest) := by
  subst hb
  exact RQ.gF hj hg hd (fun _ => hy) (by simpa using h)
theorem RS.lT (hj : (ops[j]?).bind (·.dst) = some g) (hg : lk L g = some (.bool b)) (hb : b = true) (hd : Nat.blt d n = true) (hy : Y P n L w0 H ⟨some d, op, ty, pos, af, some (j, true)⟩ v)
    (h : RS P ops Qs n ((d, v) :: L) w0 H rest) : RS P ops Qs n L w0 H (⟨some d, op, ty, pos, af, some (j, true)⟩ :: rest) := by
  subst hb
  exact RS.gT hj hg hd (fun _ => hy) (by simpa using h)
theorem RS.lF (hj : (ops[j]?).bind (·.dst) = some g) (hg : lk L g = some (.bool b)) (hb : b = false) (hd : Nat.blt d n = true) (hy : Y P n L w0 H ⟨some d, op, ty, pos, af, some (j, false)⟩ v)
    (h : RS P ops Qs n ((d, v) :: L) w0 H rest) : RS P ops Qs n L w0 H (⟨some d, op, ty, pos, af, some (j, false)⟩ :: rest) := by
  subst hb
  exact RS.gF hj hg hd (fun _ => hy) (by simpa using h)

theorem RQ.done {Q : Act → Prop} (h : ∀ a, Fr n L a → Q a) : RQ P ops Q n L w0 H [] := fun a ha => wpQuiet_nil (h a ha)
theorem RS.done (h : ∀ a w, Fr n L a → St w0 H w → Qs .normal a w) : RS P ops Qs n L w0 H [] := fun a w ha hw => wpList_nil (h a w ha hw)
end steps
end

/-! ### The operations -/
section
variable {P : Program} {n : Nat} {L : FL} {w0 : World} {H : List Hl} {o : Oper} {v : Value}

theorem Y.value (h : ∀ a w, Fr n L a → St w0 H w → (execOp a.eval o).run P w = .ok (.value v) w) : Y P n L w0 H o v := fun a w ha hw => by
  unfold Oper.quietAt; rw [h a w ha hw]; exact ⟨rfl, rfl⟩

theorem Y.int_ {k : IntKind} {a b : Int} (h : Y P n L w0 H o (.int k a)) (e : a = b) : Y P n L w0 H o (.int k b) := e ▸ h
theorem Y.bool_ {a b : Bool} (h : Y P n L w0 H o (.bool a)) (e : a = b) : Y P n L w0 H o (.bool b) := e ▸ h
/-- What a Go function gives for these arguments: this value, and nothing that was there has turned. -/
def Cont (P : Program) (f : FuncId) (args : List Value) (v : Value) : Prop :=
  ∀ w, Calls P f args.toArray w fun e w' => e = .returned v ∧ Below w.heap.size w w'

/-- The operands hold these values. -/
def AE (L : FL) : List Operand → List Value → Prop
  | [], vs => vs = []
  | x :: r, vs => match vs with
    | [] => False
    | v :: vs => evO L x = some v ∧ AE L r vs
theorem AE.map {a : Act} (ha : Fr n L a) : ∀ {xs : List Operand} {vs : List Value}, AE L xs vs → xs.map a.eval = vs
  | [], vs, h => by cases vs with
    | nil => rfl
    | cons _ _ => cases h
  | x :: r, vs, h => by
    cases vs with
    | nil => exact h.elim
    | cons v vs => simp [ha.eval h.1, AE.map ha h.2]

/-- A function with a body. -/
def isGo (P : Program) (f : FuncId) : Bool := match P.funcs[f]? with
  | some fn => fn.name != "runtime.NumGoroutine" && fn.body.isSome
  | none => false
theorem run_isGo {f : FuncId} (h : isGo P f = true) (args : Array Value) (w : World) : (callFunc f args).run P w = .ok (.enter f args) w := by
  unfold isGo at h
  cases hf : P.funcs[f]? with
  | none => simp [hf] at h
  | some fn =>
    simp only [hf, Bool.and_eq_true, bne_iff_ne, ne_eq] at h
    obtain ⟨h1, h2⟩ := h
    obtain ⟨c, hc⟩ := Option.isSome_iff_exists.1 h2
    simp [callFunc, hf, h1, hc]

section ops
variable {d : Option Tmp} {ty : TypeId} {pos : String} {af : Array Edge} {g : Option (Nat × Bool)} {x y z : Operand} {k : IntKind} {m m' : Int} {t t' : TypeId}

theorem y_call {f : FuncId} {xs : List Operand} {vs : List Value} {tys : Array TypeId} (hc : Cont P f vs v) (ha : AE L xs vs) (hg : isGo P f = true) :
    Y P n L w0 H ⟨d, .call { callee := .value (.func f), args := xs.toArray, argTypes := tys }, ty, pos, af, g⟩ v := fun a w hfr hw => by
  have e : (execOp a.eval ⟨d, .call { callee := .value (.func f), args := xs.toArray, argTypes := tys }, ty, pos, af, g⟩).run P w = .ok (.enter f vs.toArray) w := by
    rw [show execOp a.eval ⟨d, .call { callee := .value (.func f), args := xs.toArray, argTypes := tys }, ty, pos, af, g⟩ = callFunc f (#[] ++ xs.toArray.map a.eval ++ #[]) from rfl]
    have := ha.map hfr
    simp [this, run_isGo hg]
  unfold Oper.quietAt
  rw [e]
  exact ⟨rfl, (hc w).mono fun _ _ ⟨h1, h2⟩ => ⟨h1, hw.step h2⟩⟩

theorem y_move (hx : evO L x = some v) : Y P n L w0 H ⟨d, .move x, ty, pos, af, g⟩ v := .value fun a w ha _ => by simp [execOp, ha.eval hx]
theorem y_assign (hx : evO L x = some v) : Y P n L w0 H ⟨d, .assign x, ty, pos, af, g⟩ v := .value fun a w ha _ => by simp [execOp, ha.eval hx]
theorem y_pick {b : Bool} {u : Value} (hx : evO L x = some (.bool b)) (hy : evO L y = some v) (hz : evO L z = some u) : Y P n L w0 H ⟨d, .pick x y z, ty, pos, af, g⟩ (bif b then v else u) := .value fun a w ha _ => by
  simp [execOp, ha.eval hx, ha.eval hy, ha.eval hz, asBool]
/-- 'b && p': p was reckoned under b. -/
theorem y_and {b p : Bool} {u : Value} (hx : evO L x = some (.bool b)) (hy : evO L y = some (bif b then .bool p else u)) : Y P n L w0 H ⟨d, .pick x y (.const (.bool false)), ty, pos, af, g⟩ (.bool (b && p)) := by
  have := y_pick (P := P) (n := n) (w0 := w0) (H := H) (d := d) (ty := ty) (pos := pos) (af := af) (g := g) (z := .const (.bool false)) hx hy rfl
  cases b <;> simpa using this
/-- 'b || p': p was reckoned under not b. -/
theorem y_or {b p : Bool} {u : Value} (hx : evO L x = some (.bool b)) (hz : evO L z = some (bif !b then .bool p else u)) : Y P n L w0 H ⟨d, .pick x (.const (.bool true)) z, ty, pos, af, g⟩ (.bool (b || p)) := by
  have := y_pick (P := P) (n := n) (w0 := w0) (H := H) (d := d) (ty := ty) (pos := pos) (af := af) (g := g) (y := .const (.bool true)) hx rfl hz
  cases b <;> simpa using this
theorem y_pickT {b : Bool} (hx : evO L x = some (.bool b)) (hb : b = true) (hy : evO L y = some v) : Y P n L w0 H ⟨d, .pick x y z, ty, pos, af, g⟩ v := .value fun a w ha _ => by
  subst hb; simp [execOp, ha.eval hx, ha.eval hy, asBool]
theorem y_pickF {b : Bool} (hx : evO L x = some (.bool b)) (hb : b = false) (hz : evO L z = some v) : Y P n L w0 H ⟨d, .pick x y z, ty, pos, af, g⟩ v := .value fun a w ha _ => by
  subst hb; simp [execOp, ha.eval hx, ha.eval hz, asBool]
theorem y_extract {vs : Array Value} {i : Nat} (hx : evO L x = some (.tuple vs)) (hi : vs[i]? = some v) : Y P n L w0 H ⟨d, .extract x i, ty, pos, af, g⟩ v := .value fun a w ha _ => by
  simp [execOp, ha.eval hx, Instr.extract, hi]
theorem y_ext20 {u0 u1 : Value} (hx : evO L x = some (.tuple [u0, u1].toArray)) : Y P n L w0 H ⟨d, .extract x 0, ty, pos, af, g⟩ u0 := y_extract hx rfl
theorem y_ext21 {u0 u1 : Value} (hx : evO L x = some (.tuple [u0, u1].toArray)) : Y P n L w0 H ⟨d, .extract x 1, ty, pos, af, g⟩ u1 := y_extract hx rfl
theorem y_ext30 {u0 u1 u2 : Value} (hx : evO L x = some (.tuple [u0, u1, u2].toArray)) : Y P n L w0 H ⟨d, .extract x 0, ty, pos, af, g⟩ u0 := y_extract hx rfl
theorem y_ext31 {u0 u1 u2 : Value} (hx : evO L x = some (.tuple [u0, u1, u2].toArray)) : Y P n L w0 H ⟨d, .extract x 1, ty, pos, af, g⟩ u1 := y_extract hx rfl
theorem y_ext32 {u0 u1 u2 : Value} (hx : evO L x = some (.tuple [u0, u1, u2].toArray)) : Y P n L w0 H ⟨d, .extract x 2, ty, pos, af, g⟩ u2 := y_extract hx rfl
theorem y_ext40 {u0 u1 u2 u3 : Value} (hx : evO L x = some (.tuple [u0, u1, u2, u3].toArray)) : Y P n L w0 H ⟨d, .extract x 0, ty, pos, af, g⟩ u0 := y_extract hx rfl
theorem y_ext41 {u0 u1 u2 u3 : Value} (hx : evO L x = some (.tuple [u0, u1, u2, u3].toArray)) : Y P n L w0 H ⟨d, .extract x 1, ty, pos, af, g⟩ u1 := y_extract hx rfl
theorem y_ext42 {u0 u1 u2 u3 : Value} (hx : evO L x = some (.tuple [u0, u1, u2, u3].toArray)) : Y P n L w0 H ⟨d, .extract x 2, ty, pos, af, g⟩ u2 := y_extract hx rfl
theorem y_ext43 {u0 u1 u2 u3 : Value} (hx : evO L x = some (.tuple [u0, u1, u2, u3].toArray)) : Y P n L w0 H ⟨d, .extract x 3, ty, pos, af, g⟩ u3 := y_extract hx rfl
theorem y_not {b : Bool} (hx : evO L x = some (.bool b)) : Y P n L w0 H ⟨d, .unOp .not t x, ty, pos, af, g⟩ (.bool !b) := .value fun a w ha _ => by
  simp [execOp, ha.eval hx, Op.unary]
theorem y_notT {b : Bool} (hx : evO L x = some (.bool b)) (hb : b = true) : Y P n L w0 H ⟨d, .unOp .not t x, ty, pos, af, g⟩ (.bool false) := by subst hb; exact y_not hx
theorem y_notF {b : Bool} (hx : evO L x = some (.bool b)) (hb : b = false) : Y P n L w0 H ⟨d, .unOp .not t x, ty, pos, af, g⟩ (.bool true) := by subst hb; exact y_not hx
theorem y_neg (hx : evO L x = some (.int k m)) : Y P n L w0 H ⟨d, .unOp .neg t x, ty, pos, af, g⟩ (.int k (k.wrap (0 - m))) := .value fun a w ha _ => by
  simp [execOp, ha.eval hx, Op.unary, Op.intArith]
theorem y_makeFunc {fn : Fn} {xs : List Operand} {vs : List Value} (ha : AE L xs vs) : Y P n L w0 H ⟨d, .makeFunc fn #[] xs.toArray, ty, pos, af, g⟩ (.func fn #[] vs.toArray) := .value fun a w hfr _ => by
  have := ha.map hfr
  simp [execOp, Instr.makeFunc, this]

section bin
variable (hx : evO L x = some (.int k m)) (hy : evO L y = some (.int k m'))
include hx hy
theorem y_add : Y P n L w0 H ⟨d, .binOp .add t x y t', ty, pos, af, g⟩ (.int k (k.wrap (m + m'))) := .value fun a w ha _ => by
  simp [execOp, ha.eval hx, ha.eval hy, eqGuard, binOp, Op.intArith]
theorem y_sub : Y P n L w0 H ⟨d, .binOp .sub t x y t', ty, pos, af, g⟩ (.int k (k.wrap (m - m'))) := .value fun a w ha _ => by
  simp [execOp, ha.eval hx, ha.eval hy, eqGuard, binOp, Op.intArith]
theorem y_mul : Y P n L w0 H ⟨d, .binOp .mul t x y t', ty, pos, af, g⟩ (.int k (k.wrap (m * m'))) := .value fun a w ha _ => by
  simp [execOp, ha.eval hx, ha.eval hy, eqGuard, binOp, Op.intArith]
theorem y_quo (h0 : m' ≠ 0) : Y P n L w0 H ⟨d, .binOp .quo t x y t', ty, pos, af, g⟩ (.int k (k.wrap (m.tdiv m'))) := .value fun a w ha _ => by
  simp [execOp, ha.eval hx, ha.eval hy, eqGuard, binOp, Op.intDiv, h0]
theorem y_rem (h0 : m' ≠ 0) : Y P n L w0 H ⟨d, .binOp .rem t x y t', ty, pos, af, g⟩ (.int k (m.tmod m')) := .value fun a w ha _ => by
  simp [execOp, ha.eval hx, ha.eval hy, eqGuard, binOp, Op.intDiv, h0]
theorem y_eql : Y P n L w0 H ⟨d, .binOp .eql t x y t', ty, pos, af, g⟩ (.bool (decide (m = m'))) := .value fun a w ha _ => by
  simp [execOp, ha.eval hx, ha.eval hy, eqGuard, binOp, Op.intCmp]; rfl
theorem y_neq : Y P n L w0 H ⟨d, .binOp .neq t x y t', ty, pos, af, g⟩ (.bool (!decide (m = m'))) := .value fun a w ha _ => by
  simp [execOp, ha.eval hx, ha.eval hy, eqGuard, binOp, Op.intCmp]; rfl
theorem y_lss : Y P n L w0 H ⟨d, .binOp .lss t x y t', ty, pos, af, g⟩ (.bool (decide (m < m'))) := .value fun a w ha _ => by
  simp [execOp, ha.eval hx, ha.eval hy, eqGuard, binOp, Op.intCmp]
theorem y_leq : Y P n L w0 H ⟨d, .binOp .leq t x y t', ty, pos, af, g⟩ (.bool (decide (m ≤ m'))) := .value fun a w ha _ => by
  simp [execOp, ha.eval hx, ha.eval hy, eqGuard, binOp, Op.intCmp]
theorem y_gtr : Y P n L w0 H ⟨d, .binOp .gtr t x y t', ty, pos, af, g⟩ (.bool (decide (m' < m))) := .value fun a w ha _ => by
  simp [execOp, ha.eval hx, ha.eval hy, eqGuard, binOp, Op.intCmp]
theorem y_geq : Y P n L w0 H ⟨d, .binOp .geq t x y t', ty, pos, af, g⟩ (.bool (decide (m' ≤ m))) := .value fun a w ha _ => by
  simp [execOp, ha.eval hx, ha.eval hy, eqGuard, binOp, Op.intCmp]
end bin
section bools
variable {b b' : Bool} (hx : evO L x = some (.bool b)) (hy : evO L y = some (.bool b'))
include hx hy
theorem y_eqlB (ht : P.underlying t = some .bool) : Y P n L w0 H ⟨d, .binOp .eql t x y t', ty, pos, af, g⟩ (.bool (b == b')) := .value fun a w ha _ => by
  have e : (binOp .eql t (.bool b) (.bool b')).run P w = .ok (.bool (b == b')) w := by
    simp only [binOp]
    simp [Op.equal, Op.maxDepth, run_equalIn_bool' w 9999 t b b' ht]
  simp [execOp, ha.eval hx, ha.eval hy, eqGuard, e]
theorem y_neqB (ht : P.underlying t = some .bool) : Y P n L w0 H ⟨d, .binOp .neq t x y t', ty, pos, af, g⟩ (.bool (!(b == b'))) := .value fun a w ha _ => by
  have e : (binOp .neq t (.bool b) (.bool b')).run P w = .ok (.bool (!(b == b'))) w := by
    simp only [binOp]
    simp [Op.equal, Op.maxDepth, run_equalIn_bool' w 9999 t b b' ht]
  simp [execOp, ha.eval hx, ha.eval hy, eqGuard, e]
end bools
end ops
end

/-! ### Memory: the call's own blocks -/
section
variable {P : Program} {n : Nat} {L : FL} {w0 : World} {H : List Hl} {o : Oper} {v : Value} {d : Option Tmp} {ty : TypeId} {pos : String} {af : Array Edge} {g : Option (Nat × Bool)} {x y : Operand} {t t' : TypeId}

/-- The size in cells of a type whose variables are single cells (no struct, no array). -/
def scalarB (P : Program) (t : TypeId) : Bool := match P.underlying t with
  | some (.struct _) | some (.array _ _) | none => false
  | some _ => (P.info? t).map (·.size) == some 1
def rowB (P : Program) (t : TypeId) (k : Nat) : Bool := (match P.underlying t with
  | some (.struct _) | some (.array _ _) => true
  | _ => false) && (P.info? t).map (·.size) == some k
def fieldOff (P : Program) (s : TypeId) (f : Nat) : Option Nat := match P.underlying s with
  | some (.struct fs) => match fs[f]? with
    | some fl => match P.info? fl.type with
      | some i => if i.size = 0 then none else some fl.offset
      | none => none
    | none => none
  | _ => none

theorem run_isAgg_false {w : World} (h : scalarB P t = true) : (isAgg t).run P w = .ok false w := by
  unfold scalarB at h
  cases hu : P.underlying t with
  | none => simp [hu] at h
  | some dsc =>
    cases dsc <;> simp_all [isAgg, run_underlying hu]
theorem run_isAgg_true {w : World} {k : Nat} (h : rowB P t k = true) : (isAgg t).run P w = .ok true w := by
  unfold rowB at h
  cases hu : P.underlying t with
  | none => simp [hu] at h
  | some dsc =>
    cases dsc <;> simp_all [isAgg, run_underlying hu]
theorem info_of_rowB {k : Nat} (h : rowB P t k = true) : (P.info? t).map (·.size) = some k := by
  simp only [rowB, Bool.and_eq_true, beq_iff_eq] at h; exact h.2
theorem info_of_scalarB (h : scalarB P t = true) : (P.info? t).map (·.size) = some 1 := by
  unfold scalarB at h
  cases hu : P.underlying t with
  | none => simp [hu] at h
  | some dsc => cases dsc <;> simp_all
theorem run_sizeOf_of {k : Nat} {w : World} (h : (P.info? t).map (·.size) = some k) : (sizeOf t).run P w = .ok k w := by
  cases hi : P.info? t with
  | none => simp [hi] at h
  | some i => simp [hi] at h; simp [sizeOf, typeInfo, hi, h]

/-- A list's length, counted in ones (so that no variable is left in it). -/
inductive LenIs : List Value → Nat → Prop where
  | nil : LenIs [] 0
  | cons (a : Value) {r : List Value} {k : Nat} (h : LenIs r k) : LenIs (a :: r) (k + 1)
theorem LenIs.eq {cs : List Value} {k : Nat} (h : LenIs cs k) : cs.length = k := by
  induction h with
  | nil => rfl
  | cons a _ ih => simp [ih]
def fieldAt (P : Program) (s : TypeId) (f i : Nat) : Option Nat := (fieldOff P s f).map (i + ·)

theorem y_load {b i : Nat} {cs : List Value} (hx : evO L x = some (.pointer (some ⟨b, i, none⟩))) (hm : Hl.blk b t' cs ∈ H) (hi : cs[i]? = some v) (hs : scalarB P t = true) :
    Y P n L w0 H ⟨d, .load t x, ty, pos, af, g⟩ v := .value fun a w ha hw => by
  have hc : w.cell? ⟨b, i, none⟩ = some v := (hw.cell hm i).trans hi
  simp [execOp, ha.eval hx, Instr.loadAt, Instr.sureAddr, loadVar, run_isAgg_false hs, hc]
theorem y_loadRow {b k : Nat} {cs : List Value} (hx : evO L x = some (.pointer (some ⟨b, 0, none⟩))) (hm : Hl.blk b t' cs ∈ H) (hl : LenIs cs k) (hs : rowB P t k = true) :
    Y P n L w0 H ⟨d, .load t x, ty, pos, af, g⟩ (.agg cs.toArray) := .value fun a w ha hw => by
  rw [← hl.eq] at hs
  have hl := run_loadCells_list (P := P) w ⟨b, 0, none⟩ cs (fun j u hu => by
    have e : (⟨b, 0, none⟩ : Addr).add j = ⟨b, j, none⟩ := by unfold Addr.add; split <;> simp_all
    rw [e]
    exact (hw.cell hm j).trans hu)
  simp [execOp, ha.eval hx, Instr.loadAt, Instr.sureAddr, loadVar, run_isAgg_true hs, run_sizeOf_of (info_of_rowB hs), hl]
theorem y_loadPart {b i k : Nat} {cs : List Value} (hx : evO L x = some (.pointer (some ⟨b, i, none⟩))) (hm : Hl.blk b t' cs ∈ H) (hs : rowB P t k = true) (hk : Nat.ble (i + k) cs.length = true) :
    Y P n L w0 H ⟨d, .load t x, ty, pos, af, g⟩ (.agg ((cs.drop i).take k).toArray) := .value fun a w ha hw => by
  have hk' : i + k ≤ cs.length := Nat.le_of_ble_eq_true hk
  have hlen : ((cs.drop i).take k).length = k := by simp; omega
  have hl := run_loadCells_list (P := P) w ⟨b, i, none⟩ ((cs.drop i).take k) (fun j u hu => by
    have hj : j < k := by
      have := (List.getElem?_eq_some_iff.1 hu).1
      omega
    have e : (⟨b, i, none⟩ : Addr).add j = ⟨b, i + j, none⟩ := by unfold Addr.add; split <;> simp_all
    rw [e]
    refine (hw.cell hm (i + j)).trans ?_
    rw [← hu, List.getElem?_take_of_lt hj, List.getElem?_drop])
  rw [hlen] at hl
  simp [execOp, ha.eval hx, Instr.loadAt, Instr.sureAddr, loadVar, run_isAgg_true hs, run_sizeOf_of (info_of_rowB hs), hl]
theorem y_fieldAddr' {b i k f : Nat} (hx : evO L x = some (.pointer (some ⟨b, i, none⟩))) (hf : fieldOff P t f = some k) :
    Y P n L w0 H ⟨d, .fieldAddr t x f, ty, pos, af, g⟩ (.pointer (some ⟨b, i + k, none⟩)) := .value fun a w ha _ => by
  unfold fieldOff at hf
  cases hu : P.underlying t with
  | none => simp [hu] at hf
  | some dsc =>
    cases dsc <;> simp only [hu, reduceCtorEq] at hf
    rename_i fs
    cases hfs : fs[f]? with
    | none => simp [hfs] at hf
    | some fl =>
      simp only [hfs] at hf
      cases hi : P.info? fl.type with
      | none => simp [hi] at hf
      | some inf =>
        simp only [hi] at hf
        split at hf
        · cases hf
        · rename_i hsz
          simp only [Option.some.injEq] at hf
          subst hf
          have e : (⟨b, i, none⟩ : Addr).add fl.offset = ⟨b, i + fl.offset, none⟩ := by unfold Addr.add; split <;> simp_all
          simp [execOp, ha.eval hx, Instr.fieldAt, Instr.sureAddr, run_underlying hu, hfs, fieldPlace, sizeOf, typeInfo, hi, hsz, e]
theorem y_fieldAddr {b i m f : Nat} (hx : evO L x = some (.pointer (some ⟨b, i, none⟩))) (hf : fieldAt P t f i = some m) :
    Y P n L w0 H ⟨d, .fieldAddr t x f, ty, pos, af, g⟩ (.pointer (some ⟨b, m, none⟩)) := by
  unfold fieldAt at hf
  cases ho : fieldOff P t f with
  | none => simp [ho] at hf
  | some k =>
    simp only [ho, Option.map_some, Option.some.injEq] at hf
    subst hf
    exact y_fieldAddr' hx ho
theorem y_build {parts : List (Nat × Operand)} {cells : List Value} {vs : List Value} (ha : AE L (parts.map (·.2)) vs) (hb : P.built t ((parts.map (·.1)).zip vs) = some cells.toArray) :
    Y P n L w0 H ⟨d, .build t parts.toArray, ty, pos, af, g⟩ (.agg cells.toArray) := .value fun a w hfr _ => by
  have h1 : (parts.toArray.map fun (p : Nat × Operand) => (p.1, a.eval p.2)) = (((parts.map (·.1)).zip vs)).toArray := by
    have := ha.map hfr
    subst this
    rw [List.map_toArray]
    congr 1
    clear ha hb
    induction parts with
    | nil => rfl
    | cons p r ih => simp [ih]
  have h2 := run_build (P := P) w t (((parts.map (·.1)).zip vs)).toArray cells.toArray (by simpa using hb)
  simp only [execOp]
  rw [show (Array.map (fun x => match x with | (i, x) => (i, a.eval x)) parts.toArray) = (parts.toArray.map fun (p : Nat × Operand) => (p.1, a.eval p.2)) from rfl, h1]
  simp [h2]

def zeroOf (P : Program) (t : TypeId) : Option Value := (P.info? t).bind (·.zero)
/-- All parts given, in order. -/
theorem y_buildV {parts : List (Nat × Operand)} {vs : List Value} (ha : AE L (parts.map (·.2)) vs) (hb : P.built t ((parts.map (·.1)).zip vs) = some vs.toArray) :
    Y P n L w0 H ⟨d, .build t parts.toArray, ty, pos, af, g⟩ (.agg vs.toArray) := y_build ha hb
/-- No part given. -/
theorem y_build0 {cs : List Value} (hz : zeroOf P t = some (.agg cs.toArray)) (hb : (P.built t []).isSome = true) : Y P n L w0 H ⟨d, .build t #[], ty, pos, af, g⟩ (.agg cs.toArray) := by
  have h : P.built t [] = some cs.toArray := by
    unfold zeroOf at hz
    unfold Program.built at hb ⊢
    cases hi : P.info? t with
    | none => simp [hi] at hz
    | some it =>
      simp only [hi, Option.bind_some] at hz hb ⊢
      cases hu : P.underlying t with
      | none => simp [hu] at hb
      | some dsc =>
        cases dsc <;> simp only [hu, hz] at hb ⊢ <;> try (simp at hb; done)
        · rename_i e
          cases he : P.info? e with
          | none => simp [he] at hb
          | some ie => simp [Instr.fill, Value.cells]
        · rename_i fs
          generalize (fs.toList.mapM fun f => (P.info? f.type).map fun i => (f.offset, i.size)) = ps at hb ⊢
          cases ps with
          | none => simp at hb
          | some p => simp [Instr.fill, Value.cells]
  exact y_build (parts := []) (vs := []) rfl h

/-- A struct whose fields are single cells, one behind the other. -/
def flatStructB (P : Program) (t : TypeId) (k : Nat) : Bool := match P.underlying t with
  | some (.struct fs) => fs.size == k && (List.range k).all fun i => match fs[i]? with
    | some f => f.offset == i && (P.info? f.type).map (·.size) == some 1
    | none => false
  | _ => false
def setAll (zs : List Value) : List (Nat × Value) → List Value
  | [] => zs
  | p :: r => setAll (zs.set p.1 p.2) r
theorem setAll_length : ∀ (ps : List (Nat × Value)) (zs : List Value), (setAll zs ps).length = zs.length
  | [], _ => rfl
  | p :: r, zs => by rw [setAll, setAll_length r]; simp
theorem fill_setAll {place : Nat → Option (Nat × Nat)} : ∀ (ps : List (Nat × Value)) (zs : List Value), (∀ i, i < zs.length → place i = some (i, 1)) → (∀ p ∈ ps, p.1 < zs.length ∧ p.2.oneCell' = true) →
    Instr.fill place zs.toArray ps = some (setAll zs ps).toArray
  | [], zs, _, _ => rfl
  | (i, v) :: r, zs, hp, h => by
    have h1 := h (i, v) List.mem_cons_self
    have hc : v.cells = #[v] := by
      have := h1.2
      cases v <;> first | rfl | simp [Value.oneCell'] at this
    have ih := fill_setAll (place := place) r (zs.set i v) (by simpa using hp) (fun p hp' => by simpa using h p (List.mem_cons_of_mem _ hp'))
    have hlt : ¬ zs.length < i + 1 := by have := h1.1; simp only at this; omega
    simp [Instr.fill, hp i h1.1, hc, hlt, setAll, ih]
def idxB (is : List Nat) (k : Nat) : Bool := is.all (· < k)
theorem y_buildP {parts : List (Nat × Operand)} {zs cs vs : List Value} {k : Nat} (hz : zeroOf P t = some (.agg zs.toArray)) (ha : AE L (parts.map (·.2)) vs) (hl : LenIs zs k) (hb : (flatStructB P t k && idxB (parts.map (·.1)) k) = true)
    (h1 : vs.all (·.oneCell') = true) (hcs : setAll zs ((parts.map (·.1)).zip vs) = cs) : Y P n L w0 H ⟨d, .build t parts.toArray, ty, pos, af, g⟩ (.agg cs.toArray) := by
  refine y_build ha ?_
  have hk := hl.eq
  simp only [Bool.and_eq_true] at hb
  obtain ⟨hb, hi⟩ := hb
  unfold flatStructB at hb
  unfold zeroOf at hz
  unfold Program.built
  cases hit : P.info? t with
  | none => simp [hit] at hz
  | some it =>
    simp only [hit, Option.bind_some] at hz
    cases hu : P.underlying t with
    | none => simp [hu] at hb
    | some dsc =>
      cases dsc <;> simp [hu] at hb
      rename_i fs
      obtain ⟨hsz, hall⟩ := hb
      have hpl : ∀ (l : List Field) (k0 : Nat), (∀ j f, l[j]? = some f → f.offset = k0 + j ∧ (P.info? f.type).map (·.size) = some 1) →
          l.mapM (fun f => (P.info? f.type).map fun i => (f.offset, i.size)) = some ((List.range' k0 l.length).map fun i => (i, 1)) := by
        intro l
        induction l with
        | nil => intro k0 _; rfl
        | cons f l ih =>
          intro k0 hf
          have h0 := hf 0 f rfl
          have ih' := ih (k0 + 1) (fun j f' hj => by have := hf (j + 1) f' (by simpa using hj); exact ⟨by omega, this.2⟩)
          cases hi0 : P.info? f.type with
          | none => simp [hi0] at h0
          | some i0 =>
            have h0' := h0.2
            simp only [hi0, Option.map_some, Option.some.injEq] at h0'
            simp [List.mapM_cons, hi0, ih', h0.1, h0', List.range'_succ]
      have hp := hpl fs.toList 0 (fun j f hj => by
        have hj' : j < fs.size := by
          have := (List.getElem?_eq_some_iff.1 hj).1
          simpa using this
        have := hall j (by omega)
        rw [show fs[j]? = some f by simpa using hj] at this
        simpa using this)
      have hlen : fs.toList.length = zs.length := by simp [hsz, hk]
      simp only [hz, hp, Value.cells]
      rw [fill_setAll _ zs (fun i hi' => by simp [hlen, hi']) (fun p hp' => ?_), hcs]
      have hm : p.1 ∈ parts.map (·.1) ∧ p.2 ∈ vs := List.of_mem_zip (a := p.1) (b := p.2) hp'
      simp only [idxB, List.all_eq_true, decide_eq_true_eq] at hi h1
      exact ⟨by rw [hk]; exact hi _ hm.1, h1 _ hm.2⟩

section writes
variable {ops : Array Oper} {Qs : Exit → Act → World → Prop} {rest : List Oper} {dd : Nat}

theorem cells_toArray {u : Value} {cs : List Value} (hc : u.cells = cs.toArray) : u.cells.toList = cs := by rw [hc]

theorem RS.box {u : Value} {cs : List Value} (hx : evO L x = some u) (hc : u.cells = cs.toArray) (hd : Nat.blt dd n = true)
    (h : ∀ b, RS P ops Qs n ((dd, .pointer (some ⟨b, 0, none⟩)) :: L) w0 (.blk b t cs :: H) rest) : RS P ops Qs n L w0 H (⟨some dd, .box t x, ty, pos, af, none⟩ :: rest) := fun a w ha hw => by
  refine wpList_plain rfl fun K hK => ?_
  have e : (execOp a.eval ⟨some dd, .box t x, ty, pos, af, none⟩).run P w = .ok (.value (.pointer (some ⟨w.heap.size, 0, none⟩))) (w.alloc (.cells cs.toArray t)) := by
    simp [execOp, ha.eval hx, Instr.box, newVar, newRow, hc]
  unfold Oper.wp
  rw [e]
  exact hK _ _ (h w.heap.size _ _ (ha.put (by simpa [Nat.blt_eq] using hd)) (hw.alloc t cs))

theorem RS.alloc {u : Value} {cs : List Value} (hz : zeroOf P t = some u) (hc : u.cells = cs.toArray) (hd : Nat.blt dd n = true)
    (h : ∀ b, RS P ops Qs n ((dd, .pointer (some ⟨b, 0, none⟩)) :: L) w0 (.blk b t cs :: H) rest) : RS P ops Qs n L w0 H (⟨some dd, .alloc t, ty, pos, af, none⟩ :: rest) := fun a w ha hw => by
  refine wpList_plain rfl fun K hK => ?_
  have e : (execOp a.eval ⟨some dd, .alloc t, ty, pos, af, none⟩).run P w = .ok (.value (.pointer (some ⟨w.heap.size, 0, none⟩))) (w.alloc (.cells cs.toArray t)) := by
    unfold zeroOf at hz
    cases hi : P.info? t with
    | none => simp [hi] at hz
    | some inf =>
      simp only [hi, Option.bind_some] at hz
      simp [execOp, Instr.alloc, zeroValue, typeInfo, hi, hz, newVar, newRow, hc]
  unfold Oper.wp
  rw [e]
  exact hK _ _ (h w.heap.size _ _ (ha.put (by simpa [Nat.blt_eq] using hd)) (hw.alloc t cs))

theorem oneCell_cells {u : Value} (h : u.oneCell' = true) : u.cells = #[u] := by cases u <;> first | rfl | simp [Value.oneCell'] at h

theorem RS.store {b i : Nat} {cs : List Value} {H' : List Hl} {u : Value} (hx : evO L x = some (.pointer (some ⟨b, i, none⟩))) (hy : evO L y = some u) (hu : u.oneCell' = true)
    (hm : Upd (.blk b t' cs) (.blk b t' (cs.set i u)) H H') (hi : Nat.blt i cs.length = true) (hs : scalarB P t = true) (h : RS P ops Qs n L w0 H' rest) :
    RS P ops Qs n L w0 H (⟨none, .store t x y, ty, pos, af, none⟩ :: rest) := fun a w ha hw => by
  refine wpList_plain rfl fun K hK => ?_
  have hi' : i < cs.length := by simpa [Nat.blt_eq] using hi
  have hc : w.cell? ⟨b, i, none⟩ = some cs[i] := (hw.cell hm.mem i).trans (List.getElem?_eq_getElem hi')
  have hf := hw.free hm.mem i
  have hadd : (⟨b, i, none⟩ : Addr).add 0 = ⟨b, i, none⟩ := rfl
  have e : (execOp a.eval ⟨none, .store t x y, ty, pos, af, none⟩).run P w = .ok .skip (w.setCell ⟨b, i, none⟩ u) := by
    simp [execOp, ha.eval hx, ha.eval hy, Instr.storeAt, Instr.sureAddr, storeVar, oneCell_cells hu, run_sizeOf_of (info_of_scalarB hs), storeCells, hadd, run_store P w _ u _ hu, hc, hf]
  unfold Oper.wp
  rw [e]
  exact hK _ _ (h _ _ (by exact ha) (hw.setCell u hm))

theorem RS.storeRow {b : Nat} {cs us : List Value} {H' : List Hl} {k : Nat} (hx : evO L x = some (.pointer (some ⟨b, 0, none⟩))) (hy : evO L y = some (.agg us.toArray)) (hu : us.all (·.oneCell') = true)
    (hm : Upd (.blk b t' cs) (.blk b t' us) H H') (hl : LenIs cs k) (hl2 : LenIs us k) (hs : rowB P t k = true) (h : RS P ops Qs n L w0 H' rest) :
    RS P ops Qs n L w0 H (⟨none, .store t x y, ty, pos, af, none⟩ :: rest) := fun a w ha hw => by
  refine wpList_plain rfl fun K hK => ?_
  have hb := hw.blk hm.mem
  have hl' : cs.length = us.length := hl.eq.trans hl2.eq.symm
  rw [← hl2.eq] at hs
  have hr := run_storeVar_row (P := P) w b t' t cs.toArray us.toArray hb (by simpa using info_of_rowB hs) (by simpa using hl') (by simpa using hu)
  have e : (execOp a.eval ⟨none, .store t x y, ty, pos, af, none⟩).run P w = .ok .skip (w.setRow b us.toArray) := by
    simp [execOp, ha.eval hx, ha.eval hy, Instr.storeAt, Instr.sureAddr, hr]
  unfold Oper.wp
  rw [e]
  exact hK _ _ (h _ _ (by exact ha) (hw.change hm rfl rfl rfl (by simp) (setRow_heap w b cs.toArray us.toArray t' (0, 0) hb) (fun k hk => setRow_other w b k us.toArray hk)))
end writes
end

/-! ### Code -/
section
variable {P : Program} {Q : Exit → Act → World → Prop} {n : Nat} {L : FL} {w0 : World} {H : List Hl}

/-- From every state of this shape the code goes well. -/
def G (P : Program) (Q : Exit → Act → World → Prop) (n : Nat) (L : FL) (w0 : World) (H : List Hl) (c : Code) : Prop :=
  ∀ a w, Fr n L a → St w0 H w → c.wp P Q a w
/-- Every state of this shape is fine at this exit. -/
def X (Q : Exit → Act → World → Prop) (n : Nat) (L : FL) (w0 : World) (H : List Hl) (e : Exit) : Prop :=
  ∀ a w, Fr n L a → St w0 H w → Q e a w

theorem G.seq {x y : Code} (h : G P (Exit.then (fun a w => y.wp P Q a w) Q) n L w0 H x) : G P Q n L w0 H (.seq x y) := fun a w ha hw => wp_seq (h a w ha hw)
theorem G.cond {x y : Code} {c : Operand} {b : Bool} (hc : evO L c = some (.bool b)) (h1 : b = true → G P Q n L w0 H x) (h2 : b = false → G P Q n L w0 H y) : G P Q n L w0 H (.cond c x y) := fun a w ha hw =>
  wp_cond_split (ha.eval hc) (fun e => h1 e a w ha hw) (fun e => h2 e a w ha hw)
theorem G.block {id : Nat} {c : Code} (h : G P (Exit.inBlock id Q) n L w0 H c) : G P Q n L w0 H (.block id c) := fun a w ha hw => wp_block (h a w ha hw)
theorem G.skip (h : X Q n L w0 H .normal) : G P Q n L w0 H .skip := fun a w ha hw => wp_skip (h a w ha hw)
theorem G.exit {id : Nat} (h : X Q n L w0 H (.exit id)) : G P Q n L w0 H (.exit id) := fun a w ha hw => wp_exit (h a w ha hw)
theorem G.ret (h : X Q n L w0 H .ret) : G P Q n L w0 H .ret := fun a w ha hw => wp_ret (h a w ha hw)
theorem G.region {id : Nat} {l : List Oper} (h : RS P l.toArray Q n L w0 H l) : G P Q n L w0 H (.region id l.toArray false) := fun a w ha hw => wp_region_lit (h a w ha hw)
theorem G.drawn {id : Nat} {l : List Oper} (hm : P.follows .mixedOrders = true) (hB : Region.lexB .any l.toArray = true)
    (h : RQ P l.toArray (fun a => ∀ w, St w0 H w → Q .normal a w) n L w0 H l) : G P Q n L w0 H (.region id l.toArray true) := fun a w ha hw =>
  wp_region_quiet (C := St w0 H) hm hB hw.drew (by simpa using h a ha)
theorem RQ.finish {ops : Array Oper} (h : X Q n L w0 H .normal) : RQ P ops (fun a => ∀ w, St w0 H w → Q .normal a w) n L w0 H [] := RQ.done fun a ha w hw => h a w ha hw
theorem RS.finish {ops : Array Oper} (h : X Q n L w0 H .normal) : RS P ops Q n L w0 H [] := RS.done h

theorem X.then_normal {y : Code} (h : G P Q n L w0 H y) : X (Exit.then (fun a w => y.wp P Q a w) Q) n L w0 H .normal := h
theorem X.then_ret {K : Act → World → Prop} (h : X Q n L w0 H .ret) : X (Exit.then K Q) n L w0 H .ret := h
theorem X.then_exit {K : Act → World → Prop} {i : Nat} (h : X Q n L w0 H (.exit i)) : X (Exit.then K Q) n L w0 H (.exit i) := h
theorem X.block_normal {id : Nat} (h : X Q n L w0 H .normal) : X (Exit.inBlock id Q) n L w0 H .normal := h
theorem X.block_ret {id : Nat} (h : X Q n L w0 H .ret) : X (Exit.inBlock id Q) n L w0 H .ret := h
theorem X.block_out {id : Nat} (h : X Q n L w0 H .normal) : X (Exit.inBlock id Q) n L w0 H (.exit id) := fun a w ha hw => by simp only [Exit.inBlock, if_true]; exact h a w ha hw
theorem X.block_exit {id i : Nat} (hne : Nat.beq i id = false) (h : X Q n L w0 H (.exit i)) : X (Exit.inBlock id Q) n L w0 H (.exit i) := fun a w ha hw => by
  have : i ≠ id := fun e => by subst e; simp at hne
  simp only [Exit.inBlock, this, if_false]
  exact h a w ha hw

theorem least (p : Nat → Prop) (h : ∃ n, p n) : ∃ n, p n ∧ ∀ k, p k → n ≤ k := by
  obtain ⟨n, hn⟩ := h
  induction n using Nat.strongRecOn with
  | _ n ih =>
    by_cases hk : ∃ k, k < n ∧ p k
    · obtain ⟨k, hlt, hpk⟩ := hk
      exact ih k hlt hpk
    · exact ⟨n, hn, fun k hpk => Nat.le_of_not_lt fun hlt => hk ⟨k, hlt, hpk⟩⟩
/-- A loop: at the head of every round the state is that of some x : ι; each round lowers the measure. -/
theorem G.loop {ι : Type} {c : Code} (Lx : ι → FL) (Hx : ι → List Hl) (pre : ι → Prop) (μ : ι → Nat) (x0 : ι) (h0 : pre x0) (hL : Sub L (Lx x0)) (hH : Hx x0 = H)
    (round : ∀ x mx, pre x → μ x = mx → G P (Exit.then (fun a w => ∃ x', pre x' ∧ μ x' < mx ∧ Fr n (Lx x') a ∧ St w0 (Hx x') w) Q) n (Lx x) w0 (Hx x) c) : G P Q n L w0 H (.loop c) := fun a w ha hw => by
  classical
  let J (x : ι) (a : Act) (w : World) : Prop := pre x ∧ Fr n (Lx x) a ∧ St w0 (Hx x) w
  let p (a : Act) (w : World) (m : Nat) : Prop := ∃ x, J x a w ∧ μ x = m
  have hmin : ∀ a w, (∃ m, p a w m) → ∃ m, p a w m ∧ ∀ k, p a w k → m ≤ k := fun a w => least (p a w)
  refine wp_loop (fun a w => ∃ m, p a w m) (fun a w => if h : ∃ m, p a w m then Classical.choose (hmin a w h) else 0) ⟨_, x0, ⟨h0, ha.weaken hL.spec, hH ▸ hw⟩, rfl⟩ fun a w hI => ?_
  have hs := Classical.choose_spec (hmin a w hI)
  generalize hm : Classical.choose (hmin a w hI) = m at hs
  obtain ⟨⟨x, hx, hxm⟩, _⟩ := hs
  refine Code.wp_mono (fun e a' w' hq => ?_) (round x (μ x) hx.1 rfl a w hx.2.1 hx.2.2)
  cases e <;> first | exact hq | skip
  obtain ⟨x', hp, hlt, h1, h2⟩ := hq
  have hI' : ∃ m, p a' w' m := ⟨_, x', ⟨hp, h1, h2⟩, rfl⟩
  refine ⟨hI', ?_⟩
  rw [dif_pos hI', dif_pos hI, hm]
  have := (Classical.choose_spec (hmin a' w' hI')).2 _ ⟨x', ⟨hp, h1, h2⟩, rfl⟩
  omega
theorem X.again {ι : Type} {Lx : ι → FL} {Hx : ι → List Hl} {pre : ι → Prop} {μ : ι → Nat} {mx : Nat} (x' : ι) (hp : pre x') (hμ : μ x' < mx) (hL : Sub L (Lx x')) (hH : Hx x' = H) :
    X (Exit.then (fun a w => ∃ x', pre x' ∧ μ x' < mx ∧ Fr n (Lx x') a ∧ St w0 (Hx x') w) Q) n L w0 H .normal := fun _ _ ha hw =>
  ⟨x', hp, hμ, ha.weaken hL.spec, hH ▸ hw⟩

/-- The results of a return. -/
def RV (P : Program) (L : FL) (H : List Hl) : List ResultVar → List Value → Prop
  | [], vs => vs = []
  | r :: rs, vs => match vs with
    | [] => False
    | v :: vs => (match r with
      | .tmp t => lk L t = some v
      | .cell a t => ∃ b t' cs k, lk L a = some (.pointer (some ⟨b, 0, none⟩)) ∧ Hl.blk b t' cs ∈ H ∧ LenIs cs k ∧ rowB P t k = true ∧ v = .agg cs.toArray) ∧ RV P L H rs vs
def resOf (tmps : Array Value) : ResultVar → Sem Value
  | .tmp t => pure (tmps.getD t undef)
  | .cell a t => do loadVar t (← asAddr (tmps.getD a undef))
theorem run_RV {L : FL} {H : List Hl} {a : Act} {w : World} (ha : Fr n L a) (hw : St w0 H w) : ∀ {rs : List ResultVar} {vs : List Value}, RV P L H rs vs →
    (rs.mapM (resOf a.tmps)).run P w = .ok vs w
  | [], vs, h => by cases (show vs = [] from h); simp
  | r :: rs, vs, h => by
    cases vs with
    | nil => exact h.elim
    | cons v vs =>
      obtain ⟨h1, h2⟩ := h
      have ih := run_RV ha hw h2
      have h0 : (resOf a.tmps r).run P w = .ok v w := by
        cases r with
        | tmp t => simp only [resOf, ha.at_ t v h1, Sem.run_pure]
        | cell c t =>
          obtain ⟨b, t', cs, k, h3, h4, hl, h5, rfl⟩ := h1
          rw [← hl.eq] at h5
          have hl := run_loadCells_list (P := P) w ⟨b, 0, none⟩ cs (fun j u hu => by
            have e : (⟨b, 0, none⟩ : Addr).add j = ⟨b, j, none⟩ := by unfold Addr.add; split <;> simp_all
            rw [e]
            exact (hw.cell h4 j).trans hu)
          simp only [resOf, ha.at_ c _ h3]
          simp [asAddr, loadVar, run_isAgg_true h5, run_sizeOf_of (info_of_rowB h5), hl]
      simp [h0, ih]

theorem X.ret {fn : Func} {R : Ending → World → Prop} {rs : List ResultVar} {vs : List Value} {v : Value} (hf : fn.results = rs.toArray) (hr : RV P L H rs vs) (hv : (match vs with | [v] => v | _ => .tuple vs.toArray) = v)
    (h : ∀ w, St w0 H w → R (.returned v) w) : X (bodyPost P fn R) n L w0 H .ret := fun a w ha hw => by
  refine ⟨ha.defs, v, ?_, h w hw⟩
  have h1 := run_RV ha hw hr
  have h2 : (rs.toArray.mapM (resOf a.tmps)).run P w = .ok vs.toArray w := by
    rw [List.mapM_toArray]
    simp [h1]
  have h3 : results fn a.tmps = (do let vs ← fn.results.mapM (resOf a.tmps); pure (if h : vs.size = 1 then vs[0] else .tuple vs)) := rfl
  rw [h3, hf]
  subst hv
  simp only [Sem.run_bind, h2, Result.andThen_ok, Sem.run_pure]
  match vs with
  | [] => rfl
  | [u] => rfl
  | u :: u' :: r => simp

/-- A call begins. -/
def argsL : Nat → List Value → FL
  | _, [] => []
  | i, v :: r => (i, v) :: argsL (i + 1) r
theorem lk_argsL : ∀ (vs : List Value) (k i : Nat) (v : Value), lk (argsL k vs) i = some v → k ≤ i ∧ vs[i - k]? = some v
  | [], _, _, _, h => by simp [argsL, lk] at h
  | u :: r, k, i, v, h => by
    by_cases e : k = i
    · subst e
      rw [argsL, lk_cons_eq] at h
      simpa using h
    · rw [argsL, lk_cons_ne _ _ e] at h
      have := lk_argsL r (k + 1) i v h
      refine ⟨by omega, ?_⟩
      rw [show i - k = (i - (k + 1)) + 1 by omega]
      simpa using this.2
theorem enter {f : FuncId} {fn : Func} {c : Code} {vs : List Value} {w : World} {R : Ending → World → Prop} (hf : P.funcs[f]? = some fn) (hb : fn.body = some c) (hn : fn.ntmps = n) (hl : Nat.ble vs.length n = true)
    (h : G P (bodyPost P fn R) n (argsL 0 vs) w [] c) : Calls P f vs.toArray w R := by
  refine calls_of_wp hf hb (h _ _ ⟨?_, rfl, fun i v hi => ?_⟩ (St.start w))
  · have := Nat.le_of_ble_eq_true hl
    simp [hn]; omega
  · have := (lk_argsL vs 0 i v hi).2
    have hlt := (List.getElem?_eq_some_iff.1 this).1
    simp at this
    have hlt' : i < vs.length := by omega
    have h2 := (List.getElem?_eq_some_iff.1 this).2
    simpa [Array.getElem?_append, hlt'] using h2
end

/-! ### int, where the result fits -/
section
variable {P : Program} {n : Nat} {L : FL} {w0 : World} {H : List Hl} {d : Option Tmp} {ty : TypeId} {pos : String} {af : Array Edge} {g : Option (Nat × Bool)} {x y : Operand} {m m' : Int} {t t' : TypeId}
def In64 (n : Int) : Prop := -9223372036854775808 ≤ n ∧ n ≤ 9223372036854775807
theorem wrap_in {n : Int} (h : -9223372036854775808 ≤ n ∧ n ≤ 9223372036854775807) : IntKind.i64.wrap n = n := IntWalk.i64_in n h
section
variable (hx : evO L x = some (.int .i64 m)) (hy : evO L y = some (.int .i64 m'))
include hx hy
theorem y_add64 (h : -9223372036854775808 ≤ m + m' ∧ m + m' ≤ 9223372036854775807) : Y P n L w0 H ⟨d, .binOp .add t x y t', ty, pos, af, g⟩ (.int .i64 (m + m')) := by
  have := y_add (P := P) (n := n) (w0 := w0) (H := H) (d := d) (ty := ty) (pos := pos) (af := af) (g := g) (t := t) (t' := t') hx hy
  rwa [wrap_in h] at this
theorem y_sub64 (h : -9223372036854775808 ≤ m - m' ∧ m - m' ≤ 9223372036854775807) : Y P n L w0 H ⟨d, .binOp .sub t x y t', ty, pos, af, g⟩ (.int .i64 (m - m')) := by
  have := y_sub (P := P) (n := n) (w0 := w0) (H := H) (d := d) (ty := ty) (pos := pos) (af := af) (g := g) (t := t) (t' := t') hx hy
  rwa [wrap_in h] at this
theorem y_mul64 (h : -9223372036854775808 ≤ m * m' ∧ m * m' ≤ 9223372036854775807) : Y P n L w0 H ⟨d, .binOp .mul t x y t', ty, pos, af, g⟩ (.int .i64 (m * m')) := by
  have := y_mul (P := P) (n := n) (w0 := w0) (H := H) (d := d) (ty := ty) (pos := pos) (af := af) (g := g) (t := t) (t' := t') hx hy
  rwa [wrap_in h] at this
/-- Not negative by positive: Lean's own quotient. -/
theorem y_quo64 (h : 0 ≤ m ∧ m ≤ 9223372036854775807 ∧ 0 < m') : Y P n L w0 H ⟨d, .binOp .quo t x y t', ty, pos, af, g⟩ (.int .i64 (m / m')) := by
  have := y_quo (P := P) (n := n) (w0 := w0) (H := H) (d := d) (ty := ty) (pos := pos) (af := af) (g := g) (t := t) (t' := t') hx hy (by omega)
  have h1 : m.tdiv m' = m / m' := Int.tdiv_eq_ediv_of_nonneg h.1
  have h2 : 0 ≤ m / m' := Int.ediv_nonneg h.1 (by omega)
  have h3 : m / m' ≤ m := Int.ediv_le_self _ h.1
  rwa [h1, wrap_in ⟨by omega, by omega⟩] at this
theorem y_rem64 (h : 0 ≤ m ∧ 0 < m') : Y P n L w0 H ⟨d, .binOp .rem t x y t', ty, pos, af, g⟩ (.int .i64 (m % m')) := by
  have := y_rem (P := P) (n := n) (w0 := w0) (H := H) (d := d) (ty := ty) (pos := pos) (af := af) (g := g) (t := t) (t' := t') hx hy (by omega)
  rwa [Int.tmod_eq_emod_of_nonneg h.1] at this
end
theorem y_neg64 (hx : evO L x = some (.int .i64 m)) (h : -9223372036854775807 ≤ m ∧ m ≤ 9223372036854775807) : Y P n L w0 H ⟨d, .unOp .neg t x, ty, pos, af, g⟩ (.int .i64 (-m)) := by
  have := y_neg (P := P) (n := n) (w0 := w0) (H := H) (d := d) (ty := ty) (pos := pos) (af := af) (g := g) (t := t) hx
  rw [wrap_in ⟨by omega, by omega⟩] at this
  rwa [Int.zero_sub] at this
end

/-! ### More operations -/
section
variable {P : Program} {n : Nat} {L : FL} {w0 : World} {H : List Hl} {v : Value} {d : Option Tmp} {ty : TypeId} {pos : String} {af : Array Edge} {g : Option (Nat × Bool)} {x y : Operand} {k k' : IntKind} {m m' r : Int} {t t' : TypeId}

/-- An array's element: the index is known to lie in it. -/
def arrayB (P : Program) (t : TypeId) (len : Nat) : Bool := match P.underlying t with
  | some (.array l e) => l == len && scalarB P e
  | _ => false
theorem y_index {cs : List Value} {i : Nat} (hx : evO L x = some (.agg cs.toArray)) (hy : evO L y = some (.int k m)) (hi : m = (i : Int)) {l : Nat} (hv : cs[i]? = some v) (hl : LenIs cs l) (ha : arrayB P t l = true) :
    Y P n L w0 H ⟨d, .index t x y, ty, pos, af, g⟩ v := .value fun a w hfr _ => by
  have hlt := (List.getElem?_eq_some_iff.1 hv).1
  rw [← hl.eq] at ha
  unfold arrayB at ha
  cases hu : P.underlying t with
  | none => simp [hu] at ha
  | some dsc =>
    cases dsc <;> simp [hu] at ha
    rename_i l e
    obtain ⟨rfl, hs⟩ := ha
    subst hi
    simp [execOp, hfr.eval hx, hfr.eval hy, Instr.index, asIntOf, run_underlying hu, hlt, part, run_isAgg_false hs, run_sizeOf_of (info_of_scalarB hs)]
    have h2 : cs[i]? = some v := hv
    rw [List.getElem?_eq_getElem hlt] at h2
    injection h2

theorem y_conv (ht : P.underlying t' = some (.int k')) (hs : (P.underlying t).isSome = true) (hx : evO L x = some (.int k m)) (hw : k'.wrap m = r) :
    Y P n L w0 H ⟨d, .convert t t' x, ty, pos, af, g⟩ (.int k' r) := .value fun a w ha _ => by
  obtain ⟨dsc, hd⟩ := Option.isSome_iff_exists.1 hs
  simp [execOp, ha.eval hx, convert, run_underlying hd, run_underlying ht, Conv.intToInt, hw]
theorem y_shr {c : Int} {q : Int} (hx : evO L x = some (.int k m)) (hy : evO L y = some (.int k' c)) (hc : 0 ≤ c) (hq : (2 : Int) ^ (min c.toNat k.bits) = q) :
    Y P n L w0 H ⟨d, .binOp .shr t x y t', ty, pos, af, g⟩ (.int k (m / q)) := .value fun a w ha _ => by
  have hn : ¬ c < 0 := by omega
  have h2 : m.fdiv q = m / q := Int.fdiv_eq_ediv_of_nonneg m (by rw [← hq]; exact Int.le_of_lt (Int.pow_pos (by omega)))
  simp [execOp, ha.eval hx, ha.eval hy, eqGuard, binOp, Op.shift, hn, hq, h2]
theorem y_shl {c : Int} {q : Int} (hx : evO L x = some (.int k m)) (hy : evO L y = some (.int k' c)) (hc : 0 ≤ c) (hq : (2 : Int) ^ (min c.toNat k.bits) = q) (hw : k.wrap (m * q) = r) :
    Y P n L w0 H ⟨d, .binOp .shl t x y t', ty, pos, af, g⟩ (.int k r) := .value fun a w ha _ => by
  have hn : ¬ c < 0 := by omega
  simp [execOp, ha.eval hx, ha.eval hy, eqGuard, binOp, Op.shift, hn, hq, hw]

/-- What a function gives, called in a world of this class. -/
def ContIn (P : Program) (C : World → Prop) (f : FuncId) (args : List Value) (v : Value) : Prop :=
  ∀ w, C w → Calls P f args.toArray w fun e w' => e = .returned v ∧ Below w.heap.size w w'
theorem Cont.in_ {C : World → Prop} {f : FuncId} {vs : List Value} (h : Cont P f vs v) : ContIn P C f vs v := fun w _ => h w

theorem y_callIn {C : World → Prop} {f : FuncId} {xs : List Operand} {vs : List Value} {tys : Array TypeId} (hc : ContIn P C f vs v) (hC : ∀ w, St w0 H w → C w) (ha : AE L xs vs) (hg : isGo P f = true) :
    Y P n L w0 H ⟨d, .call { callee := .value (.func f), args := xs.toArray, argTypes := tys }, ty, pos, af, g⟩ v := fun a w hfr hw => by
  have e : (execOp a.eval ⟨d, .call { callee := .value (.func f), args := xs.toArray, argTypes := tys }, ty, pos, af, g⟩).run P w = .ok (.enter f vs.toArray) w := by
    rw [show execOp a.eval ⟨d, .call { callee := .value (.func f), args := xs.toArray, argTypes := tys }, ty, pos, af, g⟩ = callFunc f (#[] ++ xs.toArray.map a.eval ++ #[]) from rfl]
    have := ha.map hfr
    simp [this, run_isGo hg]
  unfold Oper.quietAt
  rw [e]
  exact ⟨rfl, (hc w (hC w hw)).mono fun _ _ ⟨h1, h2⟩ => ⟨h1, hw.step h2⟩⟩

/-- A call of a function value: a closure with what it captured. -/
theorem y_callV {C : World → Prop} {f : FuncId} {cap : Array Value} {fv : Operand} {xs : List Operand} {vs : List Value} {tys : Array TypeId} (hf : evO L fv = some (.func (.func f) #[] cap)) (hc : ContIn P C f (vs ++ cap.toList) v) (hC : ∀ w, St w0 H w → C w)
    (ha : AE L xs vs) (hg : isGo P f = true) : Y P n L w0 H ⟨d, .call { callee := .value fv, args := xs.toArray, argTypes := tys }, ty, pos, af, g⟩ v := fun a w hfr hw => by
  have e : (execOp a.eval ⟨d, .call { callee := .value fv, args := xs.toArray, argTypes := tys }, ty, pos, af, g⟩).run P w = .ok (.enter f (vs ++ cap.toList).toArray) w := by
    have h1 := ha.map hfr
    simp [execOp, resolve, hfr.eval hf, Deferred.ofValue, invoke, h1, run_isGo hg]
  unfold Oper.quietAt
  rw [e]
  exact ⟨rfl, (hc w (hC w hw)).mono fun _ _ ⟨h1, h2⟩ => ⟨h1, hw.step h2⟩⟩

/-! structs compared -/
def vEq : Value → Value → Bool
  | .int _ a, .int _ b => decide (a = b)
  | .bool a, .bool b => a == b
  | .string a, .string b => decide (a.data.toList = b.data.toList)
  | _, _ => false
inductive Kd where
  | int (k : IntKind)
  | bool
  | string
/-- Of which kinds values are. -/
inductive KdsAre : List Value → List Kd → Prop where
  | nil : KdsAre [] []
  | int (k : IntKind) (a : Int) {r : List Value} {ks : List Kd} (h : KdsAre r ks) : KdsAre (.int k a :: r) (.int k :: ks)
  | bool (a : Bool) {r : List Value} {ks : List Kd} (h : KdsAre r ks) : KdsAre (.bool a :: r) (.bool :: ks)
  | string (a : ByteArray) {r : List Value} {ks : List Kd} (h : KdsAre r ks) : KdsAre (.string a :: r) (.string :: ks)
def likeB (P : Program) (t : TypeId) : Kd → Bool
  | .int _ => match P.underlying t with | some (.int _) => true | _ => false
  | .bool => match P.underlying t with | some .bool => true | _ => false
  | .string => match P.underlying t with | some .string => true | _ => false
def eqCells : List Value → List Value → Bool
  | [], _ => true
  | _ :: _, [] => true
  | [a], [b] => vEq a b
  | a :: r, b :: s => vEq a b && eqCells r s
def flatFrom (P : Program) : Nat → List Field → List Kd → Bool
  | _, [], [] => true
  | i, f :: fs, k :: r => f.name != "_" && f.offset == i && scalarB P f.type && likeB P f.type k && flatFrom P (i + 1) fs r
  | _, _, _ => false
def flatB (P : Program) (t : TypeId) (ks : List Kd) : Bool := match P.underlying t with
  | some (.struct fs) => !P.stoodInHeld t && !P.eqGuardType P.depth t && flatFrom P 0 fs.toList ks
  | _ => false

theorem run_equalIn_like {w : World} {dd : Nat} {a b : Value} {k : Kd} {r s : List Value} {ks : List Kd} (h : likeB P t k = true) (h1 : KdsAre (a :: r) (k :: ks)) (h2 : KdsAre (b :: s) (k :: ks)) :
    (Op.equalIn (dd + 1) t a b).run P w = .ok (vEq a b) w ∧ KdsAre r ks ∧ KdsAre s ks := by
  cases h1 with
  | int k a h1 =>
    cases h2 with
    | int _ b h2 =>
      refine ⟨?_, h1, h2⟩
      simp only [likeB] at h
      split at h <;> simp at h
      rename_i hu
      rw [run_equalIn_int w dd t _ _ _ _ hu]; rfl
  | bool a h1 =>
    cases h2 with
    | bool b h2 =>
      refine ⟨?_, h1, h2⟩
      simp only [likeB] at h
      split at h <;> simp at h
      rename_i hu
      rw [run_equalIn_bool' w dd t _ _ hu]; rfl
  | string p h1 =>
    cases h2 with
    | string q h2 =>
      refine ⟨?_, h1, h2⟩
      simp only [likeB] at h
      split at h <;> simp at h
      rename_i hu
      rw [run_equalIn_string w dd t p q hu]
      have e : (p.toList == q.toList) = decide (p.data.toList = q.data.toList) := by
        rw [ByteArray.toList_eq, ByteArray.toList_eq, Bool.eq_iff_iff]
        simp only [beq_iff_eq, decide_eq_true_eq]
      simp only [vEq, e]

theorem run_eqFields_flat {w : World} {dd : Nat} : ∀ (fs : List Field) (i : Nat) (as bs r s : List Value) (ks : List Kd), as.length = i → bs.length = i → flatFrom P i fs ks = true → KdsAre r ks → KdsAre s ks →
    (Op.eqFields (dd + 1) (as ++ r).toArray (bs ++ s).toArray fs).run P w = .ok (eqCells r s) w
  | [], i, as, bs, r, s, ks, _, _, h, hr, hs => by
    cases ks <;> simp [flatFrom] at h
    cases hr; cases hs
    simp [Op.eqFields, eqCells]
  | f :: fs, i, as, bs, r, s, ks, ha, hb, h, hr, hs => by
    cases ks with
    | nil => simp [flatFrom] at h
    | cons k ks =>
      have hne : ∃ a r', r = a :: r' := by cases hr <;> exact ⟨_, _, rfl⟩
      have hne2 : ∃ b s', s = b :: s' := by cases hs <;> exact ⟨_, _, rfl⟩
      obtain ⟨a, r, rfl⟩ := hne
      obtain ⟨b, s, rfl⟩ := hne2
      simp only [flatFrom, Bool.and_eq_true, bne_iff_ne, ne_eq, beq_iff_eq] at h
      obtain ⟨⟨⟨⟨h1, h2⟩, h3⟩, h4⟩, h5⟩ := h
      obtain ⟨e3, hr', hs'⟩ := run_equalIn_like (P := P) (w := w) (dd := dd) h4 hr hs
      have ih := run_eqFields_flat (w := w) (dd := dd) fs (i + 1) (as ++ [a]) (bs ++ [b]) r s ks (by simp [ha]) (by simp [hb]) h5 hr' hs'
      simp only [List.append_assoc, List.singleton_append] at ih
      have e1 : (part f.type (as ++ a :: r).toArray f.offset).run P w = .ok a w := by
        simp [part, run_isAgg_false h3, h2, ← ha]
      have e2 : (part f.type (bs ++ b :: s).toArray f.offset).run P w = .ok b w := by
        simp [part, run_isAgg_false h3, h2, ← hb]
      have hc : eqCells (a :: r) (b :: s) = (vEq a b && eqCells r s) := by
        cases hr' <;> cases hs' <;> simp [eqCells]
      simp only [Op.eqFields, ne_eq, h1, not_false_eq_true, if_true, Sem.run_bind, e1, e2, e3, Result.andThen_ok, hc]
      cases hv : vEq a b with
      | true => simp only [Bool.not_true, Bool.false_eq_true, if_false, ih, Bool.true_and]
      | false => simp only [Bool.not_false, if_true, Sem.run_pure, Bool.false_and]

theorem run_equalIn_flat {w : World} {xs ys : List Value} {ks : List Kd} (h : flatB P t ks = true) (k1 : KdsAre xs ks) (k2 : KdsAre ys ks) : (Op.equalIn 10000 t (.agg xs.toArray) (.agg ys.toArray)).run P w = .ok (eqCells xs ys) w ∧ P.eqGuardType P.depth t = false := by
  unfold flatB at h
  cases hu : P.underlying t with
  | none => simp [hu] at h
  | some dsc =>
    cases dsc <;> simp [hu] at h
    rename_i fs
    obtain ⟨⟨h1, h2⟩, h3⟩ := h
    have hf : P.fieldsOf t = fs := by simp [Program.fieldsOf, hu]
    have := run_eqFields_flat (P := P) (w := w) (dd := 9998) fs.toList 0 [] [] xs ys ks rfl rfl h3 k1 k2
    simp only [List.nil_append] at this
    rw [run_equalIn_agg w 9999 t xs.toArray ys.toArray (by rw [hf]; exact hu) h1, hf]
    exact ⟨this, h2⟩

theorem y_eqlS {xs ys : List Value} {ks : List Kd} (hx : evO L x = some (.agg xs.toArray)) (hy : evO L y = some (.agg ys.toArray)) (k1 : KdsAre xs ks) (k2 : KdsAre ys ks) (h : flatB P t ks = true) :
    Y P n L w0 H ⟨d, .binOp .eql t x y t', ty, pos, af, g⟩ (.bool (eqCells xs ys)) := .value fun a w ha _ => by
  obtain ⟨h1, h2⟩ := run_equalIn_flat (w := w) h k1 k2
  have h3 := run_eqGuard_agg (P := P) w .eql t x y xs.toArray ys.toArray h2
  have h4 := run_eql_struct (P := P) w t xs.toArray ys.toArray
  rw [h1] at h4
  simp only [Result.andThen_ok] at h4
  simp [execOp, ha.eval hx, ha.eval hy, h3, h4]
theorem y_neqS {xs ys : List Value} {ks : List Kd} (hx : evO L x = some (.agg xs.toArray)) (hy : evO L y = some (.agg ys.toArray)) (k1 : KdsAre xs ks) (k2 : KdsAre ys ks) (h : flatB P t ks = true) :
    Y P n L w0 H ⟨d, .binOp .neq t x y t', ty, pos, af, g⟩ (.bool (!eqCells xs ys)) := .value fun a w ha _ => by
  obtain ⟨h1, h2⟩ := run_equalIn_flat (w := w) h k1 k2
  have h3 := run_eqGuard_agg (P := P) w .neq t x y xs.toArray ys.toArray h2
  have h4 := run_neq_struct (P := P) w t xs.toArray ys.toArray
  rw [h1] at h4
  simp only [Result.andThen_ok] at h4
  simp [execOp, ha.eval hx, ha.eval hy, h3, h4]
/-- A cell of a block that was there when the call began. -/
theorem y_loadX {a0 : Addr} (hx : evO L x = some (.pointer (some a0))) (h0 : w0.cell? a0 = some v) (hs : scalarB P t = true) : Y P n L w0 H ⟨d, .load t x, ty, pos, af, g⟩ v := .value fun a w ha hw => by
  have hc : w.cell? a0 = some v := (hw.ext.cell (World.block_lt_of_cell? w0 a0 h0)).trans h0
  simp [execOp, ha.eval hx, Instr.loadAt, Instr.sureAddr, loadVar, run_isAgg_false hs, hc]
theorem ret_int {k : IntKind} {a b : Int} (h : a = b) : Ending.returned (.int k a) = .returned (.int k b) := by rw [h]
theorem ret_bool {a b : Bool} (h : a = b) : Ending.returned (.bool a) = .returned (.bool b) := by rw [h]
end

/-! ### A region that draws its order, quiet up to a tail that writes -/
section
variable {P : Program} {ops : Array Oper} {md : Region.Mode} {C : World → Prop}
/-- The first n operations come up in whatever order, all of them before the others. -/
def headAny (P : Program) (md : Region.Mode) (ops : Array Oper) (C : World → Prop) (n : Nat) (D : Array Bool → Act → Prop) : Nat → Array Bool → Act → Prop
  | 0, listed, a => D listed a
  | f + 1, listed, a => Region.ready md ops listed ≠ [] ∧ ∀ i ∈ Region.ready md ops listed, i < n ∧ qOp P ops C i (headAny P md ops C n D f (listed.setIfInBounds i true)) a

theorem wpAny_of_headAny {n g : Nat} {D : Array Bool → Act → Prop} {Q : Exit → Act → World → Prop} (hD : ∀ listed a w, C w → D listed a → wpAny P md ops Q g listed a w) :
    ∀ (f : Nat) (listed : Array Bool) (a : Act) (w : World), C w → headAny P md ops C n D f listed a → wpAny P md ops Q (f + g) listed a w
  | 0, listed, a, w, hw, h => by rw [Nat.zero_add]; exact hD _ _ _ hw h
  | f + 1, listed, a, w, hw, h => by
    rw [show f + 1 + g = (f + g) + 1 by omega]
    exact ⟨fun e => absurd e h.1, fun i hi => wpOp_of_qOp hw (fun a' w' hw' h' => wpAny_of_headAny hD f _ a' w' hw' h') (h.2 i hi).2⟩

theorem headAny_first {n i : Nat} {oi : Oper} {v : Value} {D : Array Bool → Act → Prop} (hi : ops[i]? = some oi) (hsel : ∀ (j : Nat) (o : Oper) cs b, ops[j]? = some o → o.op ≠ .select cs b)
    (hs : Region.sinkB md ops n = true) (hc : Region.chainB md ops n = true) (hn : n < ops.size) (hin : i < n) (hdone : ∀ listed a, D listed a → ∀ j ∈ Region.ready md ops listed, n ≤ j) :
    ∀ (f : Nat) (listed : Array Bool) (a : Act), HeadInv md ops n listed →
      (∀ j oj, ops[j]? = some oj → j ≠ i → listed.getD j true = false → (∀ e ∈ oj.after, Region.binds md e = true → e.on ≠ i) → oi.apart ops oj = true) →
      i ∈ Region.ready md ops listed → YieldsIn P ops C oi v a →
      headAny P md ops C n D f (listed.setIfInBounds i true) (a.put oi.dst v) → headAny P md ops C n D (f + 1) listed a
  | 0, listed, a, inv, _, hr, hy, hK => by
    have hun := (mem_ready.1 hr).1
    refine ⟨List.ne_nil_of_mem hr, fun j hj => ?_⟩
    have hjn : j < n := Nat.lt_of_not_le fun hle => tail_waits hs hc hn inv _ i rfl hin hun j hle hj
    refine ⟨hjn, ?_⟩
    by_cases e : j = i
    · subst e; exact hy.qOp hi hK
    · have := hdone _ _ hK j (ready_mono hj e)
      omega
  | f + 1, listed, a, inv, hfree, hr, hy, hK => by
    have hun := (mem_ready.1 hr).1
    refine ⟨List.ne_nil_of_mem hr, fun j hj => ?_⟩
    have hjn : j < n := Nat.lt_of_not_le fun hle => tail_waits hs hc hn inv _ i rfl hin hun j hle hj
    refine ⟨hjn, ?_⟩
    by_cases e : j = i
    · subst e; exact hy.qOp hi hK
    · obtain ⟨hju, oj, hoj, hall⟩ := mem_ready.1 hj
      have hnot : ∀ e ∈ oj.after, Region.binds md e = true → e.on ≠ i := fun e he hb heq => by
        have h1 := hall e he hb
        rw [heq, getD_both hun] at h1
        cases h1
      have h2 := qOp_put hoj (hfree j oj hoj e hju hnot) (fun cs b => hsel i oi cs b hi) (fun cs b => hsel j oj cs b hoj) hy (hK.2 j (ready_mono hj e)).2
      refine qOp_mono (fun a' h3 => headAny_first hi hsel hs hc hn hin hdone f _ a' (inv.set hj hjn) ?_ (ready_mono hr (Ne.symm e)) h3.1 ?_) h2
      · intro k ok hk hki hku hno
        refine hfree k ok hk hki ?_ hno
        by_cases hjk : j = k
        · subst hjk; exact hju
        · rwa [getD_set_ne true hjk] at hku
      · rw [Array.setIfInBounds_comm _ _ e]
        exact h3.2

theorem headAny_lex {n g : Nat} {D : Act → Prop} (hsel : Region.noSelect ops = true) (hs : Region.sinkB md ops n = true) (hc : Region.chainB md ops n = true) (hn : n < ops.size) :
    ∀ (l : List Oper) (k : Nat) (listed : Array Bool) (a : Act), (∀ j, j < l.length → l[j]? = ops[k + j]?) → k + l.length = n → HeadInv md ops n listed →
    Region.lexHead md ops g l.length k listed = true → wpQuiet P ops C D l a → headAny P md ops C n (fun listed' a' => Region.seqB md ops g n listed' = true ∧ D a') l.length listed a
  | [], k, listed, a, _, hk, _, hB, h => by
    obtain rfl : k = n := by simpa using hk
    exact ⟨by simpa [Region.lexHead] using hB, h⟩
  | o :: l, k, listed, a, hl, hk, inv, hB, h => by
    have h0 : ops[k]? = some o := by simpa using (hl 0 (by simp)).symm
    simp only [List.length_cons, Region.lexHead, Bool.and_eq_true] at hB
    have hkn : k < n := by simp only [List.length_cons] at hk; omega
    have hr : k ∈ Region.ready md ops listed := by simpa using hB.1.1
    have hq : qOp P ops C k (wpQuiet P ops C D l) a := by unfold qOp; simp only [h0]; exact h
    obtain ⟨v, hy, hK⟩ := yieldsIn_of_qOp h0 hq
    exact headAny_first h0 (Region.noSelect_spec hsel) hs hc hn hkn (fun listed' a' hD => seqB_ready hD.1) l.length listed a inv (Region.free_spec h0 hB.1.2) hr hy
      (headAny_lex hsel hs hc hn l (k + 1) _ _ (fun j hj => by have := hl (j + 1) (by simp; omega); simpa [Nat.add_assoc, Nat.add_comm 1 j] using this) (by simp only [List.length_cons] at hk; omega) (inv.set hr hkn) hB.2 hK)

theorem wp_region_quiet_tail {id : Nat} {Q : Exit → Act → World → Prop} {a : Act} {w : World} {l : List Oper} (n : Nat) (hm : P.follows .mixedOrders = true) (hB : Region.lexTailB .any l.toArray n = true) (hC : C w.drew)
    (h : wpQuiet P l.toArray C (fun a' => ∀ w', C w' → wpList P l.toArray Q (l.drop n) a' w') (l.take n) a) : (Code.region id l.toArray true).wp P Q a w := by
  simp only [Region.lexTailB, Bool.and_eq_true, decide_eq_true_eq] at hB
  obtain ⟨⟨⟨⟨hsel, hn⟩, hs⟩, hc⟩, hlex⟩ := hB
  have hn' : n < l.length := by simpa using hn
  have htl : (l.take n).length = n := by simp; omega
  have hdl : (l.drop n).length = l.toArray.size - n := by simp
  have inv0 : HeadInv .any l.toArray n (Array.replicate l.toArray.size false) :=
    ⟨by simp, fun j oj _ hl => (by rw [getD_replicate_false] at hl; cases hl), fun t _ ht => getD_in (by simpa using ht) (getD_replicate_false _ _)⟩
  have hh := headAny_lex (md := .any) (g := l.toArray.size - n) hsel hs hc hn (l.take n) 0 _ a (fun j hj => by
    have hj' : j < n := by rw [htl] at hj; exact hj
    simp [hj']) (by simpa using htl) inv0 (by rw [htl]; exact hlex) h
  refine wp_region_any hm ?_
  have := wpAny_of_headAny (Q := Q) (g := l.toArray.size - n) (fun listed a' w' hw' hD => by
    have := wpAny_of_seq (md := .any) (Q' := Q) (l.drop n) n listed a' w' (fun j => by simp [List.getElem?_drop]) (by rw [hdl]; exact hD.1) (hD.2 w' hw')
    rwa [hdl] at this) _ _ _ _ hC hh
  rw [htl, show n + (l.toArray.size - n) = l.toArray.size by omega] at this
  exact this

/-- An operation that leaves memory as it is. -/
def Oper.readsB (o : Oper) : Bool := match o.op with
  | .move _ | .assign _ | .pick .. | .build .. | .load .. | .nilCheck _ | .binOp .. | .unOp .. | .convert .. | .makeInterface .. | .makeFunc .. | .slice .. | .fieldAddr .. | .field .. | .indexAddr .. | .index .. | .extract .. => true
  | .call c => match c.callee with
    | .builtin _ => false
    | _ => true
  | _ => false
def tailB (l : List Oper) (m : Nat) : Bool := (l.take (l.length - m)).all (fun o => Oper.readsB o) && Region.lexTailB .any l.toArray (l.length - m)
theorem G.drawnR {Q : Exit → Act → World → Prop} {n : Nat} {L : FL} {w0 : World} {H : List Hl} {id : Nat} {l : List Oper} (hm : P.follows .mixedOrders = true) (_hr : l.all (fun o => Oper.readsB o) = true) (hB : Region.lexB .any l.toArray = true)
    (h : RQ P l.toArray (fun a => ∀ w, St w0 H w → Q .normal a w) n L w0 H l) : G P Q n L w0 H (.region id l.toArray true) := G.drawn hm hB h
theorem G.drawnTail {Q : Exit → Act → World → Prop} {n : Nat} {L : FL} {w0 : World} {H : List Hl} {id : Nat} {l : List Oper} (m : Nat) (hm : P.follows .mixedOrders = true) (hB : tailB l m = true)
    (h : RQ P l.toArray (fun a => ∀ w, St w0 H w → wpList P l.toArray Q (l.drop (l.length - m)) a w) n L w0 H (l.take (l.length - m))) : G P Q n L w0 H (.region id l.toArray true) := fun a w ha hw => by
  unfold tailB at hB
  simp only [Bool.and_eq_true] at hB
  exact wp_region_quiet_tail (C := St w0 H) _ hm hB.2 hw.drew (h a ha)
theorem RQ.tail {Q : Exit → Act → World → Prop} {n : Nat} {L : FL} {w0 : World} {H : List Hl} {tl : List Oper} (h : RS P ops Q n L w0 H tl) : RQ P ops (fun a => ∀ w, St w0 H w → wpList P ops Q tl a w) n L w0 H [] :=
  RQ.done fun a ha w hw => h a w ha hw
end

/-! ### The rules with what is found by search -/
section
variable {P : Program} {n : Nat} {L : FL} {w0 : World} {H : List Hl} {o : Oper} {v : Value}
theorem yAuto (h : Y P n L w0 H o v := by
  first
    | (apply y_move; rfl; done)
    | (apply y_assign; rfl; done)
    | (apply y_pickT; rfl; (with_reducible rfl); rfl; done)
    | (apply y_pickF; rfl; (with_reducible rfl); rfl; done)
    | (apply y_and; rfl; rfl; done)
    | (apply y_or; rfl; rfl; done)
    | (apply y_pick; rfl; rfl; rfl; done)
    | (apply y_ext20; rfl; done)
    | (apply y_ext21; rfl; done)
    | (apply y_ext30; rfl; done)
    | (apply y_ext31; rfl; done)
    | (apply y_ext32; rfl; done)
    | (apply y_ext40; rfl; done)
    | (apply y_ext41; rfl; done)
    | (apply y_ext42; rfl; done)
    | (apply y_ext43; rfl; done)
    | (apply y_notT; rfl; with_reducible rfl; done)
    | (apply y_notF; rfl; with_reducible rfl; done)
    | (apply y_not; rfl; done)
    | (apply y_fieldAddr; rfl; (first | exact (show fieldAt _ _ _ _ = some 0 by decide +kernel) | exact (show fieldAt _ _ _ _ = some 1 by decide +kernel) | exact (show fieldAt _ _ _ _ = some 2 by decide +kernel) | exact (show fieldAt _ _ _ _ = some 3 by decide +kernel) | exact (show fieldAt _ _ _ _ = some 4 by decide +kernel) | exact (show fieldAt _ _ _ _ = some 5 by decide +kernel) | exact (show fieldAt _ _ _ _ = some 6 by decide +kernel) | exact (show fieldAt _ _ _ _ = some 7 by decide +kernel) | exact (show fieldAt _ _ _ _ = some 8 by decide +kernel) | exact (show fieldAt _ _ _ _ = some 9 by decide +kernel) | exact (show fieldAt _ _ _ _ = some 10 by decide +kernel) | exact (show fieldAt _ _ _ _ = some 11 by decide +kernel) | exact (show fieldAt _ _ _ _ = some 12 by decide +kernel) | exact (show fieldAt _ _ _ _ = some 13 by decide +kernel)); done)
    | (apply y_load; rfl; (first | exact .head _ | exact .tail _ (.head _) | exact .tail _ (.tail _ (.head _)) | exact .tail _ (.tail _ (.tail _ (.head _))) | exact .tail _ (.tail _ (.tail _ (.tail _ (.head _)))) | exact .tail _ (.tail _ (.tail _ (.tail _ (.tail _ (.head _))))) | exact .tail _ (.tail _ (.tail _ (.tail _ (.tail _ (.tail _ (.head _)))))) | exact .tail _ (.tail _ (.tail _ (.tail _ (.tail _ (.tail _ (.tail _ (.head _))))))) | exact .tail _ (.tail _ (.tail _ (.tail _ (.tail _ (.tail _ (.tail _ (.tail _ (.head _))))))))); rfl; decide +kernel; done)
    | (apply y_loadRow; rfl; (first | exact .head _ | exact .tail _ (.head _) | exact .tail _ (.tail _ (.head _)) | exact .tail _ (.tail _ (.tail _ (.head _))) | exact .tail _ (.tail _ (.tail _ (.tail _ (.head _)))) | exact .tail _ (.tail _ (.tail _ (.tail _ (.tail _ (.head _))))) | exact .tail _ (.tail _ (.tail _ (.tail _ (.tail _ (.tail _ (.head _)))))) | exact .tail _ (.tail _ (.tail _ (.tail _ (.tail _ (.tail _ (.tail _ (.head _))))))) | exact .tail _ (.tail _ (.tail _ (.tail _ (.tail _ (.tail _ (.tail _ (.tail _ (.head _))))))))); (repeat (first | exact .nil | apply LenIs.cons)); decide +kernel; done)
    | (apply y_loadPart; rfl; (first | exact .head _ | exact .tail _ (.head _) | exact .tail _ (.tail _ (.head _)) | exact .tail _ (.tail _ (.tail _ (.head _))) | exact .tail _ (.tail _ (.tail _ (.tail _ (.head _)))) | exact .tail _ (.tail _ (.tail _ (.tail _ (.tail _ (.head _))))) | exact .tail _ (.tail _ (.tail _ (.tail _ (.tail _ (.tail _ (.head _)))))) | exact .tail _ (.tail _ (.tail _ (.tail _ (.tail _ (.tail _ (.tail _ (.head _))))))) | exact .tail _ (.tail _ (.tail _ (.tail _ (.tail _ (.tail _ (.tail _ (.tail _ (.head _))))))))); decide +kernel; rfl; done)
    | (apply y_lss; rfl; rfl; done)
    | (apply y_leq; rfl; rfl; done)
    | (apply y_gtr; rfl; rfl; done)
    | (apply y_geq; rfl; rfl; done)
    | (apply y_eql; rfl; rfl; done)
    | (apply y_neq; rfl; rfl; done)
    | (apply y_eqlB; rfl; rfl; rfl; done)
    | (apply y_neqB; rfl; rfl; rfl; done)
    | (apply y_eqlS; rfl; rfl; (repeat (first | exact .nil | apply KdsAre.int | apply KdsAre.bool | apply KdsAre.string)); (repeat (first | exact .nil | apply KdsAre.int | apply KdsAre.bool | apply KdsAre.string)); decide +kernel; done)
    | (apply y_neqS; rfl; rfl; (repeat (first | exact .nil | apply KdsAre.int | apply KdsAre.bool | apply KdsAre.string)); (repeat (first | exact .nil | apply KdsAre.int | apply KdsAre.bool | apply KdsAre.string)); decide +kernel; done)
    | (apply y_conv; rfl; decide +kernel; rfl; (first | exact IntWalk.i64_in _ (by (first | omega | (simp at hb; omega))) | exact IntWalk.u64_in _ (by (first | omega | (simp at hb; omega))) | exact IntWalk.u8_in _ (by (first | omega | (simp at hb; omega))) | rfl); done)
    | (apply y_add64; rfl; rfl; (first | omega | (simp at hb; omega)); done)
    | (apply y_add; rfl; rfl; done)
    | (apply y_sub64; rfl; rfl; (first | omega | (simp at hb; omega)); done)
    | (apply y_sub; rfl; rfl; done)
    | (apply y_mul64; rfl; rfl; (first | omega | (simp at hb; omega)); done)
    | (apply y_mul; rfl; rfl; done)
    | (apply y_shr; rfl; rfl; decide; (first | exact (show _ = (2 : Int) by decide) | exact (show _ = (4 : Int) by decide) | exact (show _ = (8 : Int) by decide) | exact (show _ = (16 : Int) by decide) | exact (show _ = (256 : Int) by decide) | exact (show _ = (1024 : Int) by decide) | exact (show _ = (65536 : Int) by decide) | exact (show _ = (268435456 : Int) by decide) | exact (show _ = (1073741824 : Int) by decide) | exact (show _ = (2147483648 : Int) by decide) | exact (show _ = (4294967296 : Int) by decide) | exact (show _ = (1152921504606846976 : Int) by decide) | exact (show _ = (4611686018427387904 : Int) by decide) | exact (show _ = (9223372036854775808 : Int) by decide)); done)
    | (apply y_shl; rfl; rfl; decide; (first | exact (show _ = (2 : Int) by decide) | exact (show _ = (4 : Int) by decide) | exact (show _ = (8 : Int) by decide) | exact (show _ = (16 : Int) by decide) | exact (show _ = (256 : Int) by decide) | exact (show _ = (1024 : Int) by decide) | exact (show _ = (65536 : Int) by decide) | exact (show _ = (268435456 : Int) by decide) | exact (show _ = (1073741824 : Int) by decide) | exact (show _ = (2147483648 : Int) by decide) | exact (show _ = (4294967296 : Int) by decide) | exact (show _ = (1152921504606846976 : Int) by decide) | exact (show _ = (4611686018427387904 : Int) by decide) | exact (show _ = (9223372036854775808 : Int) by decide)); (first | exact IntWalk.i64_in _ (by (first | omega | (simp at hb; omega))) | exact IntWalk.u64_in _ (by (first | omega | (simp at hb; omega))) | rfl); done)
    | (apply y_neg64; rfl; (first | omega | (simp at hb; omega)); done)
    | (apply y_neg; rfl; done)
    | (apply y_quo64; rfl; rfl; (first | omega | (simp at hb; omega)); done)
    | (apply y_quo; rfl; rfl; (first | omega | (simp at hb; omega)); done)
    | (apply y_rem64; rfl; rfl; (first | omega | (simp at hb; omega)); done)
    | (apply y_rem; rfl; rfl; (first | omega | (simp at hb; omega)); done)
    | (apply y_buildP (vs := []); rfl; exact rfl; (repeat (first | exact .nil | apply LenIs.cons)); decide +kernel; rfl; (simp only [List.map_cons, List.map_nil, List.zip_cons_cons, List.zip_nil_right, List.zip_nil_left, setAll, List.set_cons_zero, List.set_cons_succ]; rfl); done)
    | (apply y_buildP (vs := [_]); rfl; exact ⟨rfl, rfl⟩; (repeat (first | exact .nil | apply LenIs.cons)); decide +kernel; rfl; (simp only [List.map_cons, List.map_nil, List.zip_cons_cons, List.zip_nil_right, List.zip_nil_left, setAll, List.set_cons_zero, List.set_cons_succ]; rfl); done)
    | (apply y_buildP (vs := [_, _]); rfl; exact ⟨rfl, rfl, rfl⟩; (repeat (first | exact .nil | apply LenIs.cons)); decide +kernel; rfl; (simp only [List.map_cons, List.map_nil, List.zip_cons_cons, List.zip_nil_right, List.zip_nil_left, setAll, List.set_cons_zero, List.set_cons_succ]; rfl); done)
    | (apply y_buildP (vs := [_, _, _]); rfl; exact ⟨rfl, rfl, rfl, rfl⟩; (repeat (first | exact .nil | apply LenIs.cons)); decide +kernel; rfl; (simp only [List.map_cons, List.map_nil, List.zip_cons_cons, List.zip_nil_right, List.zip_nil_left, setAll, List.set_cons_zero, List.set_cons_succ]; rfl); done)
    | (apply y_buildP (vs := [_, _, _, _]); rfl; exact ⟨rfl, rfl, rfl, rfl, rfl⟩; (repeat (first | exact .nil | apply LenIs.cons)); decide +kernel; rfl; (simp only [List.map_cons, List.map_nil, List.zip_cons_cons, List.zip_nil_right, List.zip_nil_left, setAll, List.set_cons_zero, List.set_cons_succ]; rfl); done)
    | (apply y_buildP (vs := [_, _, _, _, _]); rfl; exact ⟨rfl, rfl, rfl, rfl, rfl, rfl⟩; (repeat (first | exact .nil | apply LenIs.cons)); decide +kernel; rfl; (simp only [List.map_cons, List.map_nil, List.zip_cons_cons, List.zip_nil_right, List.zip_nil_left, setAll, List.set_cons_zero, List.set_cons_succ]; rfl); done)
    | (apply y_buildP (vs := [_, _, _, _, _, _]); rfl; exact ⟨rfl, rfl, rfl, rfl, rfl, rfl, rfl⟩; (repeat (first | exact .nil | apply LenIs.cons)); decide +kernel; rfl; (simp only [List.map_cons, List.map_nil, List.zip_cons_cons, List.zip_nil_right, List.zip_nil_left, setAll, List.set_cons_zero, List.set_cons_succ]; rfl); done)
    | (apply y_buildP (vs := [_, _, _, _, _, _, _]); rfl; exact ⟨rfl, rfl, rfl, rfl, rfl, rfl, rfl, rfl⟩; (repeat (first | exact .nil | apply LenIs.cons)); decide +kernel; rfl; (simp only [List.map_cons, List.map_nil, List.zip_cons_cons, List.zip_nil_right, List.zip_nil_left, setAll, List.set_cons_zero, List.set_cons_succ]; rfl); done)
    | exact y_makeFunc (vs := []) rfl
    | exact y_makeFunc (vs := [_]) ⟨rfl, rfl⟩
    | exact y_makeFunc (vs := [_, _]) ⟨rfl, rfl, rfl⟩
    | exact y_makeFunc (vs := [_, _, _]) ⟨rfl, rfl, rfl, rfl⟩) : Y P n L w0 H o v := h
theorem yIf {p : Prop} (h : p → Y P n L w0 H o v) : p → Y P n L w0 H o v := h
theorem yIf2 {p q : Prop} (h : p → q → Y P n L w0 H o v) : p → q → Y P n L w0 H o v := h
theorem y_callA {f : FuncId} {d : Option Tmp} {ty : TypeId} {pos : String} {af : Array Edge} {g : Option (Nat × Bool)} {xs : List Operand} {vs : List Value} {tys : Array TypeId} (hc : Cont P f vs v)
    (ha : AE L xs vs := by first | exact rfl | exact ⟨rfl, rfl⟩ | exact ⟨rfl, rfl, rfl⟩ | exact ⟨rfl, rfl, rfl, rfl⟩ | exact ⟨rfl, rfl, rfl, rfl, rfl⟩ | exact ⟨rfl, rfl, rfl, rfl, rfl, rfl⟩ | exact ⟨rfl, rfl, rfl, rfl, rfl, rfl, rfl⟩ | exact ⟨rfl, rfl, rfl, rfl, rfl, rfl, rfl, rfl⟩ | exact ⟨rfl, rfl, rfl, rfl, rfl, rfl, rfl, rfl, rfl⟩) (hg : isGo P f = true := by decide +kernel) :
    Y P n L w0 H ⟨d, .call { callee := .value (.func f), args := xs.toArray, argTypes := tys }, ty, pos, af, g⟩ v := y_call hc ha hg
variable {Q : Exit → Act → World → Prop} {ops : Array Oper} {rest : List Oper} {dd : Nat} {op : Op} {ty : TypeId} {pos : String} {af : Array Edge} {x y : Operand} {t t' : TypeId} {j : Nat}
theorem G.condN {x y : Code} {c : Operand} {b : Bool} {p q : Prop} (hc : evO L c = some (.bool b)) (h1 : p → G P Q n L w0 H x) (h2 : q → G P Q n L w0 H y)
    (hp : (b = true) ↔ p := by first | (simp only [eqCells, vEq, Bool.and_eq_true, Bool.or_eq_true, Bool.and_eq_false_iff, Bool.or_eq_false_iff, decide_eq_true_eq, decide_eq_false_iff_not, Bool.not_eq_true', Bool.not_eq_false', Int.not_le, Int.not_lt, Bool.not_true, Bool.not_false, beq_self_eq_true, Bool.or_false, Bool.false_or, Bool.or_self, Bool.and_true, Bool.true_and, Bool.and_self, Bool.or_true, Bool.true_or, Bool.and_false, Bool.false_and, decide_true, eq_self, Bool.false_eq_true, Bool.true_eq_false, reduceCtorEq]; exact Iff.rfl) | exact Iff.rfl) (hq : (b = false) ↔ q := by first | (simp only [eqCells, vEq, Bool.and_eq_true, Bool.or_eq_true, Bool.and_eq_false_iff, Bool.or_eq_false_iff, decide_eq_true_eq, decide_eq_false_iff_not, Bool.not_eq_true', Bool.not_eq_false', Int.not_le, Int.not_lt, Bool.not_true, Bool.not_false, beq_self_eq_true, Bool.or_false, Bool.false_or, Bool.or_self, Bool.and_true, Bool.true_and, Bool.and_self, Bool.or_true, Bool.true_or, Bool.and_false, Bool.false_and, decide_true, eq_self, Bool.false_eq_true, Bool.true_eq_false, reduceCtorEq]; exact Iff.rfl) | exact Iff.rfl) : G P Q n L w0 H (.cond c x y) := G.cond hc (fun h => h1 (hp.1 h)) (fun h => h2 (hq.1 h))
theorem G.drawnTA {id : Nat} {l : List Oper} {m : Nat} (h : RQ P l.toArray (fun a => ∀ w, St w0 H w → wpList P l.toArray Q (l.drop (l.length - m)) a w) n L w0 H (l.take (l.length - m)))
    (hB : tailB l m = true := by first | exact (show tailB _ 1 = true by decide +kernel) | exact (show tailB _ 2 = true by decide +kernel) | exact (show tailB _ 3 = true by decide +kernel) | exact (show tailB _ 4 = true by decide +kernel) | exact (show tailB _ 5 = true by decide +kernel) | exact (show tailB _ 6 = true by decide +kernel) | exact (show tailB _ 7 = true by decide +kernel) | exact (show tailB _ 8 = true by decide +kernel))
    (hm : P.follows .mixedOrders = true := by decide +kernel) : G P Q n L w0 H (.region id l.toArray true) := G.drawnTail m hm hB h
theorem RS.boxA {u : Value} {cs : List Value} (h : ∀ b, RS P ops Q n ((dd, .pointer (some ⟨b, 0, none⟩)) :: L) w0 (.blk b t cs :: H) rest) (hx : evO L x = some u := by rfl) (hc : u.cells = cs.toArray := by rfl) (hd : Nat.blt dd n = true := by rfl) :
    RS P ops Q n L w0 H (⟨some dd, .box t x, ty, pos, af, none⟩ :: rest) := RS.box hx hc hd h
theorem RS.allocA {u : Value} {cs : List Value} (h : ∀ b, RS P ops Q n ((dd, .pointer (some ⟨b, 0, none⟩)) :: L) w0 (.blk b t cs :: H) rest) (hz : zeroOf P t = some u := by rfl) (hc : u.cells = cs.toArray := by rfl) (hd : Nat.blt dd n = true := by rfl) :
    RS P ops Q n L w0 H (⟨some dd, .alloc t, ty, pos, af, none⟩ :: rest) := RS.alloc hz hc hd h
theorem RS.storeA {b i : Nat} {cs : List Value} {H' : List Hl} {u : Value} (h : RS P ops Q n L w0 H' rest) (hx : evO L x = some (.pointer (some ⟨b, i, none⟩)) := by rfl) (hy : evO L y = some u := by rfl) (hu : u.oneCell' = true := by rfl)
    (hm : Upd (.blk b t' cs) (.blk b t' (cs.set i u)) H H' := by (first | exact .here _ | exact .there _ (.here _) | exact .there _ (.there _ (.here _)) | exact .there _ (.there _ (.there _ (.here _))) | exact .there _ (.there _ (.there _ (.there _ (.here _)))) | exact .there _ (.there _ (.there _ (.there _ (.there _ (.here _))))) | exact .there _ (.there _ (.there _ (.there _ (.there _ (.there _ (.here _)))))) | exact .there _ (.there _ (.there _ (.there _ (.there _ (.there _ (.there _ (.here _))))))) | exact .there _ (.there _ (.there _ (.there _ (.there _ (.there _ (.there _ (.there _ (.here _)))))))))) (hi : Nat.blt i cs.length = true := by rfl) (hs : scalarB P t = true := by decide +kernel) :
    RS P ops Q n L w0 H (⟨none, .store t x y, ty, pos, af, none⟩ :: rest) := RS.store hx hy hu hm hi hs h
theorem RS.storeRowA {b : Nat} {cs us : List Value} {H' : List Hl} {k : Nat} (h : RS P ops Q n L w0 H' rest) (hx : evO L x = some (.pointer (some ⟨b, 0, none⟩)) := by rfl) (hy : evO L y = some (.agg us.toArray) := by rfl) (hu : us.all (·.oneCell') = true := by rfl)
    (hm : Upd (.blk b t' cs) (.blk b t' us) H H' := by (first | exact .here _ | exact .there _ (.here _) | exact .there _ (.there _ (.here _)) | exact .there _ (.there _ (.there _ (.here _))) | exact .there _ (.there _ (.there _ (.there _ (.here _)))) | exact .there _ (.there _ (.there _ (.there _ (.there _ (.here _))))) | exact .there _ (.there _ (.there _ (.there _ (.there _ (.there _ (.here _)))))) | exact .there _ (.there _ (.there _ (.there _ (.there _ (.there _ (.there _ (.here _))))))) | exact .there _ (.there _ (.there _ (.there _ (.there _ (.there _ (.there _ (.there _ (.here _)))))))))) (hl : LenIs cs k := by (repeat (first | exact .nil | apply LenIs.cons))) (hl2 : LenIs us k := by (repeat (first | exact .nil | apply LenIs.cons))) (hs : rowB P t k = true := by decide +kernel) :
    RS P ops Q n L w0 H (⟨none, .store t x y, ty, pos, af, none⟩ :: rest) := RS.storeRow hx hy hu hm hl hl2 hs h
/-- It is known that it does not come up. -/
theorem RS.xT {Q : Exit → Act → World → Prop} {g : Nat} {b : Bool} (h : RS P ops Q n ((dd, undef) :: L) w0 H rest) (hj : (ops[j]?).bind (·.dst) = some g := by rfl) (hg : lk L g = some (.bool b) := by rfl) (hb : b = false := by with_reducible rfl) (hd : Nat.blt dd n = true := by rfl) :
    RS P ops Q n L w0 H (⟨some dd, op, ty, pos, af, some (j, true)⟩ :: rest) := by
  subst hb
  exact RS.gT (v := undef) hj hg hd (fun h => by cases h) (by simpa using h)
/-- It is known that it does not come up. -/
theorem RS.xF {Q : Exit → Act → World → Prop} {g : Nat} {b : Bool} (h : RS P ops Q n ((dd, undef) :: L) w0 H rest) (hj : (ops[j]?).bind (·.dst) = some g := by rfl) (hg : lk L g = some (.bool b) := by rfl) (hb : b = true := by with_reducible rfl) (hd : Nat.blt dd n = true := by rfl) :
    RS P ops Q n L w0 H (⟨some dd, op, ty, pos, af, some (j, false)⟩ :: rest) := by
  subst hb
  exact RS.gF (v := undef) hj hg hd (fun h => by cases h) (by simpa using h)
/-- It is known that it does not come up. -/
theorem RQ.xT {Q : Act → Prop} {g : Nat} {b : Bool} (h : RQ P ops Q n ((dd, undef) :: L) w0 H rest) (hj : (ops[j]?).bind (·.dst) = some g := by rfl) (hg : lk L g = some (.bool b) := by rfl) (hb : b = false := by with_reducible rfl) (hd : Nat.blt dd n = true := by rfl) :
    RQ P ops Q n L w0 H (⟨some dd, op, ty, pos, af, some (j, true)⟩ :: rest) := by
  subst hb
  exact RQ.gT (v := undef) hj hg hd (fun h => by cases h) (by simpa using h)
/-- It is known that it does not come up. -/
theorem RQ.xF {Q : Act → Prop} {g : Nat} {b : Bool} (h : RQ P ops Q n ((dd, undef) :: L) w0 H rest) (hj : (ops[j]?).bind (·.dst) = some g := by rfl) (hg : lk L g = some (.bool b) := by rfl) (hb : b = true := by with_reducible rfl) (hd : Nat.blt dd n = true := by rfl) :
    RQ P ops Q n L w0 H (⟨some dd, op, ty, pos, af, some (j, false)⟩ :: rest) := by
  subst hb
  exact RQ.gF (v := undef) hj hg hd (fun h => by cases h) (by simpa using h)
end

/-- Some value is left, and with it all goes well from there. -/
def YK (P : Program) (n : Nat) (L : FL) (w0 : World) (H : List Hl) (o : Oper) (K : Value → Prop) : Prop := ∃ v, Y P n L w0 H o v ∧ K v
def YG (p : Prop) (P : Program) (n : Nat) (L : FL) (w0 : World) (H : List Hl) (o : Oper) (K : Value → Prop) : Prop := ∃ v, (p → Y P n L w0 H o v) ∧ K v
section
variable {P : Program} {n : Nat} {L : FL} {w0 : World} {H : List Hl} {o : Oper} {v : Value} {K : Value → Prop} {p : Prop}
theorem YK.mk (hy : Y P n L w0 H o v) (h : K v) : YK P n L w0 H o K := ⟨v, hy, h⟩
theorem YG.mk (hy : p → Y P n L w0 H o v) (h : K v) : YG p P n L w0 H o K := ⟨v, hy, h⟩
variable {ops : Array Oper} {rest : List Oper} {d g j : Nat} {op : Op} {ty : TypeId} {pos : String} {af : Array Edge} {b c : Bool} {Qs : Exit → Act → World → Prop} {Q : Act → Prop}
theorem RS.stepK (hr : Oper.readsB ⟨some d, op, ty, pos, af, none⟩ = true) (hd : Nat.blt d n = true) (h : YK P n L w0 H ⟨some d, op, ty, pos, af, none⟩ fun v => RS P ops Qs n ((d, v) :: L) w0 H rest) :
    RS P ops Qs n L w0 H (⟨some d, op, ty, pos, af, none⟩ :: rest) := have _ := hr; let ⟨_, h1, h2⟩ := h; RS.step h1 hd h2
theorem RQ.stepK (hd : Nat.blt d n = true) (h : YK P n L w0 H ⟨some d, op, ty, pos, af, none⟩ fun v => RQ P ops Q n ((d, v) :: L) w0 H rest) :
    RQ P ops Q n L w0 H (⟨some d, op, ty, pos, af, none⟩ :: rest) := let ⟨_, h1, h2⟩ := h; RQ.step h1 hd h2
theorem RS.lTK (hj : (ops[j]?).bind (·.dst) = some g) (hg : lk L g = some (.bool b)) (hb : b = true) (hd : Nat.blt d n = true) (h : YK P n L w0 H ⟨some d, op, ty, pos, af, some (j, true)⟩ fun v => RS P ops Qs n ((d, v) :: L) w0 H rest) :
    RS P ops Qs n L w0 H (⟨some d, op, ty, pos, af, some (j, true)⟩ :: rest) := let ⟨_, h1, h2⟩ := h; RS.lT hj hg hb hd h1 h2
theorem RS.gTK (hj : (ops[j]?).bind (·.dst) = some g) (hg : lk L g = some (.bool b)) (hd : Nat.blt d n = true) (h : YG (b = true) P n L w0 H ⟨some d, op, ty, pos, af, some (j, true)⟩ fun v => RS P ops Qs n ((d, bif b then v else undef) :: L) w0 H rest) :
    RS P ops Qs n L w0 H (⟨some d, op, ty, pos, af, some (j, true)⟩ :: rest) := let ⟨_, h1, h2⟩ := h; RS.gT hj hg hd h1 h2
theorem RS.gTcK (hj : (ops[j]?).bind (·.dst) = some g) (hg : lk L g = some (bif c then .bool b else undef)) (hd : Nat.blt d n = true)
    (h : YG (c = true ∧ b = true) P n L w0 H ⟨some d, op, ty, pos, af, some (j, true)⟩ fun v => RS P ops Qs n ((d, bif (c && b) then v else undef) :: L) w0 H rest) :
    RS P ops Qs n L w0 H (⟨some d, op, ty, pos, af, some (j, true)⟩ :: rest) := let ⟨_, h1, h2⟩ := h; RS.gTc hj hg hd (fun hc hb => h1 ⟨hc, hb⟩) h2
theorem RS.lFK (hj : (ops[j]?).bind (·.dst) = some g) (hg : lk L g = some (.bool b)) (hb : b = false) (hd : Nat.blt d n = true) (h : YK P n L w0 H ⟨some d, op, ty, pos, af, some (j, false)⟩ fun v => RS P ops Qs n ((d, v) :: L) w0 H rest) :
    RS P ops Qs n L w0 H (⟨some d, op, ty, pos, af, some (j, false)⟩ :: rest) := let ⟨_, h1, h2⟩ := h; RS.lF hj hg hb hd h1 h2
theorem RS.gFK (hj : (ops[j]?).bind (·.dst) = some g) (hg : lk L g = some (.bool b)) (hd : Nat.blt d n = true) (h : YG (b = false) P n L w0 H ⟨some d, op, ty, pos, af, some (j, false)⟩ fun v => RS P ops Qs n ((d, bif !b then v else undef) :: L) w0 H rest) :
    RS P ops Qs n L w0 H (⟨some d, op, ty, pos, af, some (j, false)⟩ :: rest) := let ⟨_, h1, h2⟩ := h; RS.gF hj hg hd h1 h2
theorem RS.gFcK (hj : (ops[j]?).bind (·.dst) = some g) (hg : lk L g = some (bif c then .bool b else undef)) (hd : Nat.blt d n = true)
    (h : YG (c = true ∧ b = false) P n L w0 H ⟨some d, op, ty, pos, af, some (j, false)⟩ fun v => RS P ops Qs n ((d, bif (c && !b) then v else undef) :: L) w0 H rest) :
    RS P ops Qs n L w0 H (⟨some d, op, ty, pos, af, some (j, false)⟩ :: rest) := let ⟨_, h1, h2⟩ := h; RS.gFc hj hg hd (fun hc hb => h1 ⟨hc, hb⟩) h2
theorem RQ.lTK (hj : (ops[j]?).bind (·.dst) = some g) (hg : lk L g = some (.bool b)) (hb : b = true) (hd : Nat.blt d n = true) (h : YK P n L w0 H ⟨some d, op, ty, pos, af, some (j, true)⟩ fun v => RQ P ops Q n ((d, v) :: L) w0 H rest) :
    RQ P ops Q n L w0 H (⟨some d, op, ty, pos, af, some (j, true)⟩ :: rest) := let ⟨_, h1, h2⟩ := h; RQ.lT hj hg hb hd h1 h2
theorem RQ.gTK (hj : (ops[j]?).bind (·.dst) = some g) (hg : lk L g = some (.bool b)) (hd : Nat.blt d n = true) (h : YG (b = true) P n L w0 H ⟨some d, op, ty, pos, af, some (j, true)⟩ fun v => RQ P ops Q n ((d, bif b then v else undef) :: L) w0 H rest) :
    RQ P ops Q n L w0 H (⟨some d, op, ty, pos, af, some (j, true)⟩ :: rest) := let ⟨_, h1, h2⟩ := h; RQ.gT hj hg hd h1 h2
theorem RQ.gTcK (hj : (ops[j]?).bind (·.dst) = some g) (hg : lk L g = some (bif c then .bool b else undef)) (hd : Nat.blt d n = true)
    (h : YG (c = true ∧ b = true) P n L w0 H ⟨some d, op, ty, pos, af, some (j, true)⟩ fun v => RQ P ops Q n ((d, bif (c && b) then v else undef) :: L) w0 H rest) :
    RQ P ops Q n L w0 H (⟨some d, op, ty, pos, af, some (j, true)⟩ :: rest) := let ⟨_, h1, h2⟩ := h; RQ.gTc hj hg hd (fun hc hb => h1 ⟨hc, hb⟩) h2
theorem RQ.lFK (hj : (ops[j]?).bind (·.dst) = some g) (hg : lk L g = some (.bool b)) (hb : b = false) (hd : Nat.blt d n = true) (h : YK P n L w0 H ⟨some d, op, ty, pos, af, some (j, false)⟩ fun v => RQ P ops Q n ((d, v) :: L) w0 H rest) :
    RQ P ops Q n L w0 H (⟨some d, op, ty, pos, af, some (j, false)⟩ :: rest) := let ⟨_, h1, h2⟩ := h; RQ.lF hj hg hb hd h1 h2
theorem RQ.gFK (hj : (ops[j]?).bind (·.dst) = some g) (hg : lk L g = some (.bool b)) (hd : Nat.blt d n = true) (h : YG (b = false) P n L w0 H ⟨some d, op, ty, pos, af, some (j, false)⟩ fun v => RQ P ops Q n ((d, bif !b then v else undef) :: L) w0 H rest) :
    RQ P ops Q n L w0 H (⟨some d, op, ty, pos, af, some (j, false)⟩ :: rest) := let ⟨_, h1, h2⟩ := h; RQ.gF hj hg hd h1 h2
theorem RQ.gFcK (hj : (ops[j]?).bind (·.dst) = some g) (hg : lk L g = some (bif c then .bool b else undef)) (hd : Nat.blt d n = true)
    (h : YG (c = true ∧ b = false) P n L w0 H ⟨some d, op, ty, pos, af, some (j, false)⟩ fun v => RQ P ops Q n ((d, bif (c && !b) then v else undef) :: L) w0 H rest) :
    RQ P ops Q n L w0 H (⟨some d, op, ty, pos, af, some (j, false)⟩ :: rest) := let ⟨_, h1, h2⟩ := h; RQ.gFc hj hg hd (fun hc hb => h1 ⟨hc, hb⟩) h2
end

attribute [irreducible] G RS RQ X Y YK YG

end Go.Proofs.Ytnmiflblagdfeaa
