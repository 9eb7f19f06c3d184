/- ratio.Median: what it returns. -/
import Derived.Test.YtnanempkkeokbaaDoorMed3
set_option linter.unusedVariables false
set_option maxHeartbeats 4000000
namespace Go.Proofs.YtnanempkkeokbaaDoor
open Go.RowKit

theorem sortedF_s0 (v : Value) (B : Nat) (zs s0 : List VF) (hpos : 0 < zs.length) (hl : zs.length ≤ 1000000) (hs0 : ∀ ds, sortedP zs ds → ds = s0) : ContX Tryd.prog [Hl.rd (boxV B) c1V 1 [v], Hl.rd v cF 2 (zs.map Subtype.val)] 51 [seqV B, .func (.func 49) #[] #[]]
    (fun _ : Sl => True) (fun x => x.v) (fun x => [Hl.nw x.v cF 2 (s0.map Subtype.val)]) := fun w hw => (sortedF_c v B zs hpos hl w hw).mono fun e w' ⟨z, hp, he, hb, hn⟩ => ⟨z.1, trivial, he, hb, by rw [← hs0 z.2 hp]; exact hn⟩
abbrev SortP (v : Value) (l s : List FrP) : Prop := ∀ B, ContX Tryd.prog [Hl.rd (boxV B) c1V 1 [v], Hl.rd v cF 2 l] 51 [seqV B, .func (.func 49) #[] #[]] (fun _ : Sl => True) (fun x => x.v) (fun x => [Hl.nw x.v cF 2 s])
theorem med_odd (a : Option Addr) (len cap : Nat) (l s : List FrP) (n : Nat) (hn : s.length = n) (hn2 : (0 < n ∧ n ≤ 1000) ∧ n % 2 = 1) (p1 : ContR Tryd.prog [Hl.rd (.slice a len cap) cF 2 l] 50 [.slice a len cap] (.int .i64 0)) (p2 : SortP (.slice a len cap) l s) :
    ContR Tryd.prog [Hl.rd (.slice a len cap) cF 2 l] 32 [.slice a len cap] (.tuple [frV (nth s ((n : Int) / 2)), .int .i64 0].toArray) := fun w hw0 => by
  subst hn
  refine enter Tryd.func32 rfl rfl rfl hw0 ?_
  repeat' (first
    | (show YK _ _ _ _ _ _ _; first | refine YK.mk (y_callRA (p1) ⟨rfl, rfl⟩) ?_)
    | (show YK _ _ _ _ _ _ _; refine YK.ofV vAuto ?_)
    | (show VK _ _ _ _ _ _ _; refine VK.mk vAuto ?_)
    | (show RS _ _ _ _ _ _ _ _; first | (refine RS.callX (p2 _) ⟨rfl, rfl, rfl⟩ ?_; rintro x _) | (refine RS.callXG (fun _ : True => p2 _) ⟨rfl, rfl, rfl⟩ ?_; rintro x _) | (refine RS.callX (values_c _ _ _) ⟨rfl, rfl⟩ ?_; rintro B _) | (refine RS.callXG (fun _ : True => values_c _ _ _) ⟨rfl, rfl⟩ ?_; rintro B _) | (refine nxRS ?_) | (refine nxRS1 fun _ => ?_))
    | (show RM _ _ _ _ _ _ _ _ _ _; first | (refine RM.callX (p2 _) ?_; rintro x _) | (refine RM.callXG (fun _ : True => p2 _) ?_; rintro x _) | (refine RM.callX (values_c _ _ _) ?_; rintro B _) | (refine RM.callXG (fun _ : True => values_c _ _ _) ?_; rintro B _) | (refine nxRM ?_) | (refine nxRM1 fun _ => ?_))
    | (show YG _ _ _ _ _ _ _ _; refine YG.mk (fun hb => by (try (have hc := And.left hb; have hb := And.right hb; rw [hc])); (try rw [hb]); first | exact (y_callRA (p1) ⟨rfl, rfl⟩) | exact V.y vAuto) ?_)
    | (show VG _ _ _ _ _ _ _ _; refine VG.mk (fun hb => by (try (have hc := And.left hb; have hb := And.right hb; rw [hc])); (try rw [hb]); exact vAuto) ?_)
    | (refine G.mixedA 8 [.go 0, .go 1, .go 2, .go 3, .go 4, .go 5, .go 6, .go 7, .pend 12, .go 8, .go 9, .go 10, .go 11, .done, .go 13, .go 14] ?_)
    | (refine nxX ?_)
    | (refine G.condN rfl (fun hc => ?_) (fun hc => ?_) <;> (try first | exact False.elim hc | (exfalso; omega))))
  exact X.ret (vs := [_, _]) rfl ⟨⟨_, _, _, _, rfl, (by exact memA), (by (repeat (first | exact .nil | apply LenIs.cons))), by decide +kernel, rfl⟩, rfl, rfl⟩ rfl (fun w hw => ⟨rfl, hw.ext⟩)
theorem med_err (a : Option Addr) (len cap : Nat) (l s : List FrP) (n : Nat) (hn : s.length = n) (hn2 : (0 < n ∧ n ≤ 1000) ∧ n % 2 = 0) (p1 : ContR Tryd.prog [Hl.rd (.slice a len cap) cF 2 l] 50 [.slice a len cap] (.int .i64 0)) (p2 : SortP (.slice a len cap) l s) {u : (Int × Int) × Int} (q1 : Cont Tryd.prog 19 [frV (nth s ((n : Int) / 2 - 1)), frV (nth s ((n : Int) / 2))] (mkV u)) (hu : u.2 ≠ 0) :
    ContR Tryd.prog [Hl.rd (.slice a len cap) cF 2 l] 32 [.slice a len cap] (mkV ((0, 0), u.2)) := fun w hw0 => by
  subst hn
  refine enter Tryd.func32 rfl rfl rfl hw0 ?_
  repeat' (first
    | (show YK _ _ _ _ _ _ _; first | refine YK.mk (y_callRA (p1) ⟨rfl, rfl⟩) ?_ | refine YK.mk (y_callA (q1) ⟨rfl, rfl, rfl⟩) ?_)
    | (show YK _ _ _ _ _ _ _; refine YK.ofV vAuto ?_)
    | (show VK _ _ _ _ _ _ _; refine VK.mk vAuto ?_)
    | (show RS _ _ _ _ _ _ _ _; first | (refine RS.callX (p2 _) ⟨rfl, rfl, rfl⟩ ?_; rintro x _) | (refine RS.callXG (fun _ : True => p2 _) ⟨rfl, rfl, rfl⟩ ?_; rintro x _) | (refine RS.callX (values_c _ _ _) ⟨rfl, rfl⟩ ?_; rintro B _) | (refine RS.callXG (fun _ : True => values_c _ _ _) ⟨rfl, rfl⟩ ?_; rintro B _) | (refine nxRS ?_) | (refine nxRS1 fun _ => ?_))
    | (show RM _ _ _ _ _ _ _ _ _ _; first | (refine RM.callX (p2 _) ?_; rintro x _) | (refine RM.callXG (fun _ : True => p2 _) ?_; rintro x _) | (refine RM.callX (values_c _ _ _) ?_; rintro B _) | (refine RM.callXG (fun _ : True => values_c _ _ _) ?_; rintro B _) | (refine nxRM ?_) | (refine nxRM1 fun _ => ?_))
    | (show YG _ _ _ _ _ _ _ _; refine YG.mk (fun hb => by (try (have hc := And.left hb; have hb := And.right hb; rw [hc])); (try rw [hb]); first | exact (y_callRA (p1) ⟨rfl, rfl⟩) | exact (y_callA (q1) ⟨rfl, rfl, rfl⟩) | exact V.y vAuto) ?_)
    | (show VG _ _ _ _ _ _ _ _; refine VG.mk (fun hb => by (try (have hc := And.left hb; have hb := And.right hb; rw [hc])); (try rw [hb]); exact vAuto) ?_)
    | (refine G.mixedA 8 [.go 0, .go 1, .go 2, .go 3, .go 4, .go 5, .go 6, .go 7, .pend 12, .go 8, .go 9, .go 10, .go 11, .done, .go 13, .go 14] ?_)
    | (refine nxX ?_)
    | (refine G.condN rfl (fun hc => ?_) (fun hc => ?_) <;> (try first | exact False.elim hc | (exfalso; omega))))
  exact X.ret (vs := [_, _]) rfl ⟨⟨_, _, _, _, rfl, (by exact memA), (by (repeat (first | exact .nil | apply LenIs.cons))), by decide +kernel, rfl⟩, rfl, rfl⟩ rfl (fun w hw => ⟨rfl, hw.ext⟩)
theorem med_even (a : Option Addr) (len cap : Nat) (l s : List FrP) (n : Nat) (hn : s.length = n) (hn2 : (0 < n ∧ n ≤ 1000) ∧ n % 2 = 0) (p1 : ContR Tryd.prog [Hl.rd (.slice a len cap) cF 2 l] 50 [.slice a len cap] (.int .i64 0)) (p2 : SortP (.slice a len cap) l s) {u r : (Int × Int) × Int} (q1 : Cont Tryd.prog 19 [frV (nth s ((n : Int) / 2 - 1)), frV (nth s ((n : Int) / 2))] (mkV u)) (hu : u.2 = 0) (q2 : Cont Tryd.prog 22 [fracV u.1.1 u.1.2, fracV 2 1] (mkV r)) :
    ContR Tryd.prog [Hl.rd (.slice a len cap) cF 2 l] 32 [.slice a len cap] (mkV r) := fun w hw0 => by
  subst hn
  refine enter Tryd.func32 rfl rfl rfl hw0 ?_
  repeat' (first
    | (show YK _ _ _ _ _ _ _; first | refine YK.mk (y_callRA (p1) ⟨rfl, rfl⟩) ?_ | refine YK.mk (y_callA (q1) ⟨rfl, rfl, rfl⟩) ?_ | refine YK.mk (y_callA (q2) ⟨rfl, rfl, rfl⟩) ?_)
    | (show YK _ _ _ _ _ _ _; refine YK.ofV vAuto ?_)
    | (show VK _ _ _ _ _ _ _; refine VK.mk vAuto ?_)
    | (show RS _ _ _ _ _ _ _ _; first | (refine RS.callX (p2 _) ⟨rfl, rfl, rfl⟩ ?_; rintro x _) | (refine RS.callXG (fun _ : True => p2 _) ⟨rfl, rfl, rfl⟩ ?_; rintro x _) | (refine RS.callX (values_c _ _ _) ⟨rfl, rfl⟩ ?_; rintro B _) | (refine RS.callXG (fun _ : True => values_c _ _ _) ⟨rfl, rfl⟩ ?_; rintro B _) | (refine nxRS ?_) | (refine nxRS1 fun _ => ?_))
    | (show RM _ _ _ _ _ _ _ _ _ _; first | (refine RM.callX (p2 _) ?_; rintro x _) | (refine RM.callXG (fun _ : True => p2 _) ?_; rintro x _) | (refine RM.callX (values_c _ _ _) ?_; rintro B _) | (refine RM.callXG (fun _ : True => values_c _ _ _) ?_; rintro B _) | (refine nxRM ?_) | (refine nxRM1 fun _ => ?_))
    | (show YG _ _ _ _ _ _ _ _; refine YG.mk (fun hb => by (try (have hc := And.left hb; have hb := And.right hb; rw [hc])); (try rw [hb]); first | exact (y_callRA (p1) ⟨rfl, rfl⟩) | exact (y_callA (q1) ⟨rfl, rfl, rfl⟩) | exact (y_callA (q2) ⟨rfl, rfl, rfl⟩) | exact V.y vAuto) ?_)
    | (show VG _ _ _ _ _ _ _ _; refine VG.mk (fun hb => by (try (have hc := And.left hb; have hb := And.right hb; rw [hc])); (try rw [hb]); exact vAuto) ?_)
    | (refine G.mixedA 8 [.go 0, .go 1, .go 2, .go 3, .go 4, .go 5, .go 6, .go 7, .pend 12, .go 8, .go 9, .go 10, .go 11, .done, .go 13, .go 14] ?_)
    | (refine nxX ?_)
    | (refine G.condN rfl (fun hc => ?_) (fun hc => ?_) <;> (try first | exact False.elim hc | (exfalso; omega))))
  exact X.ret (vs := [_, _]) rfl ⟨⟨_, _, _, _, rfl, (by exact memA), (by (repeat (first | exact .nil | apply LenIs.cons))), by decide +kernel, rfl⟩, rfl, rfl⟩ rfl (fun w hw => ⟨rfl, hw.ext⟩)
theorem med_no (a : Option Addr) (len cap : Nat) (l : List FrP) {e : Int} (he : e ≠ 0) (p1 : ContR Tryd.prog [Hl.rd (.slice a len cap) cF 2 l] 50 [.slice a len cap] (.int .i64 e)) :
    ContR Tryd.prog [Hl.rd (.slice a len cap) cF 2 l] 32 [.slice a len cap] (mkV ((0, 0), e)) := fun w hw0 => by
  refine enter Tryd.func32 rfl rfl rfl hw0 ?_
  repeat' (first
    | (show YK _ _ _ _ _ _ _; first | refine YK.mk (y_callRA (p1) ⟨rfl, rfl⟩) ?_)
    | (show YK _ _ _ _ _ _ _; refine YK.ofV vAuto ?_)
    | (show VK _ _ _ _ _ _ _; refine VK.mk vAuto ?_)
    | (show RS _ _ _ _ _ _ _ _; first | (refine nxRS ?_) | (refine nxRS1 fun _ => ?_))
    | (show RM _ _ _ _ _ _ _ _ _ _; first | (refine nxRM ?_) | (refine nxRM1 fun _ => ?_))
    | (show YG _ _ _ _ _ _ _ _; refine YG.mk (fun hb => by (try (have hc := And.left hb; have hb := And.right hb; rw [hc])); (try rw [hb]); first | exact (y_callRA (p1) ⟨rfl, rfl⟩) | exact V.y vAuto) ?_)
    | (show VG _ _ _ _ _ _ _ _; refine VG.mk (fun hb => by (try (have hc := And.left hb; have hb := And.right hb; rw [hc])); (try rw [hb]); exact vAuto) ?_)
    | (refine G.mixedA 8 [.go 0, .go 1, .go 2, .go 3, .go 4, .go 5, .go 6, .go 7, .pend 12, .go 8, .go 9, .go 10, .go 11, .done, .go 13, .go 14] ?_)
    | (refine nxX ?_)
    | (refine G.condN rfl (fun hc => ?_) (fun hc => ?_) <;> (try first | exact False.elim hc | (exfalso; omega))))
  exact X.ret (vs := [_, _]) rfl ⟨⟨_, _, _, _, rfl, (by exact memA), (by (repeat (first | exact .nil | apply LenIs.cons))), by decide +kernel, rfl⟩, rfl, rfl⟩ rfl (fun w hw => ⟨rfl, hw.ext⟩)
end Go.Proofs.YtnanempkkeokbaaDoor
