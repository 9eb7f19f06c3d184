/- RatioLists gives true. -/
import Derived.Test.YtnanempkkeokbaaDoorLists3
import Derived.Test.YtnanempkkeokbaaDoorAwk3
set_option linter.unusedVariables false
set_option maxHeartbeats 4000000
namespace Go.Proofs.YtnanempkkeokbaaDoor
open Go.RowKit

abbrev RdF (v : Value) (l : List FrP) (w : World) : Prop := RO w v 2 l.length (l.flatMap cF)
theorem rl_far {v : Value} {l : List FrP} (hc : (40 < l.length ∧ l.length ≤ 1000) ∨ 3000 < l.length) (hm : l.length ≤ 9223372036854775807) : ContIn Tryd.prog (fun w => RdF v l w ∧ LaidT w) 10 [v] (.bool true) := fun w0 hw0 => by
  have hI := hw0.2
  refine enter Tryd.func10 rfl rfl rfl (Hp := [Hl.rd v cF 2 l]) (fun h hm => by
    rcases List.mem_singleton.1 hm with rfl
    exact ⟨⟨hw0.1, fun h => by cases h⟩, rfl⟩) ?_
  repeat' (first
    | (show YK _ _ _ _ _ _ _; first | refine YK.mk (y_callIn (awake3_c) (fun _ hw => hI.keep hw.ext) rfl (by decide +kernel)) ?_)
    | (show YK _ _ _ _ _ _ _; refine YK.ofV vAuto ?_)
    | (show VK _ _ _ _ _ _ _; refine VK.mk vAuto ?_)
    | (show RS _ _ _ _ _ _ _ _; first | (refine nxRS ?_) | (refine nxRS1 fun _ => ?_))
    | (show RM _ _ _ _ _ _ _ _ _ _; first | (refine nxRM ?_) | (refine nxRM1 fun _ => ?_))
    | (show YG _ _ _ _ _ _ _ _; refine YG.mk (fun hb => by (try (have hc := And.left hb; have hb := And.right hb; rw [hc])); (try rw [hb]); first | exact (y_callIn (awake3_c) (fun _ hw => hI.keep hw.ext) rfl (by decide +kernel)) | exact V.y vAuto) ?_)
    | (show VG _ _ _ _ _ _ _ _; refine VG.mk (fun hb => by (try (have hc := And.left hb; have hb := And.right hb; rw [hc])); (try rw [hb]); exact vAuto) ?_)
    | (refine nxX ?_)
    | (refine G.condN rfl (fun hc => ?_) (fun hc => ?_) <;> (try first | exact False.elim hc | (exfalso; omega))))
  exact X.ret (vs := [_]) rfl ⟨rfl, rfl⟩ rfl (fun w hw => ⟨rfl, hw.ext⟩)
theorem rl_near {A : Option Addr} {n c : Nat} {l : List FrP} (hc : ¬ ((40 < l.length ∧ l.length ≤ 1000) ∨ 3000 < l.length)) {u q : (Int × Int) × Int} (p1 : ContR Tryd.prog [Hl.rd (.slice A n c) cF 2 l] 32 [.slice A n c] (mkV u)) (p2 : ContR Tryd.prog [Hl.rd (.slice A n c) cF 2 l] 33 [.slice A n c] (mkV q)) (p3 : ContR Tryd.prog [Hl.rd (.slice A n c) cF 2 l] 37 [.slice A n c] (mkV u)) (p4 : ContR Tryd.prog [Hl.rd (.slice A n c) cF 2 l] 38 [.slice A n c] (mkV q)) : ContIn Tryd.prog (fun w => RdF (.slice A n c) l w ∧ LaidT w) 10 [.slice A n c] (.bool true) := fun w0 hw0 => by
  have hI := hw0.2
  have h1 := clone3_c A n c l (by omega)
  have h2 := fun v => equal3_c (.slice A n c) v l (by omega)
  refine enter Tryd.func10 rfl rfl rfl (Hp := [Hl.rd (.slice A n c) cF 2 l]) (fun h hm => by
    rcases List.mem_singleton.1 hm with rfl
    exact ⟨⟨hw0.1, fun h => by cases h⟩, rfl⟩) ?_
  repeat' (first
    | (show YK _ _ _ _ _ _ _; first | refine YK.mk (y_callIn (awake3_c) (fun _ hw => hI.keep hw.ext) rfl (by decide +kernel)) ?_ | refine YK.mk (y_callRA (p1) ⟨rfl, rfl⟩) ?_ | refine YK.mk (y_callRA (p2) ⟨rfl, rfl⟩) ?_ | refine YK.mk (y_callRA (p3) ⟨rfl, rfl⟩) ?_ | refine YK.mk (y_callRA (p4) ⟨rfl, rfl⟩) ?_ | refine YK.mk (y_callRA (h2 _) ⟨rfl, rfl, rfl⟩) ?_)
    | (show YK _ _ _ _ _ _ _; refine YK.ofV vAuto ?_)
    | (show VK _ _ _ _ _ _ _; refine VK.mk vAuto ?_)
    | (show RS _ _ _ _ _ _ _ _; first | (refine RS.callX (h1) ⟨rfl, rfl⟩ ?_; rintro z _) | (refine RS.callXG (fun _ : True => h1) ⟨rfl, rfl⟩ ?_; rintro z _) | (refine nxRS ?_) | (refine nxRS1 fun _ => ?_))
    | (show RM _ _ _ _ _ _ _ _ _ _; first | (refine RM.callX (h1) ?_; rintro z _) | (refine RM.callXG (fun _ : True => h1) ?_; rintro z _) | (refine nxRM ?_) | (refine nxRM1 fun _ => ?_))
    | (show YG _ _ _ _ _ _ _ _; refine YG.mk (fun hb => by (try (have hc := And.left hb; have hb := And.right hb; rw [hc])); (try rw [hb]); first | exact (y_callIn (awake3_c) (fun _ hw => hI.keep hw.ext) rfl (by decide +kernel)) | exact (y_callRA (p1) ⟨rfl, rfl⟩) | exact (y_callRA (p2) ⟨rfl, rfl⟩) | exact (y_callRA (p3) ⟨rfl, rfl⟩) | exact (y_callRA (p4) ⟨rfl, rfl⟩) | exact (y_callRA (h2 _) ⟨rfl, rfl, rfl⟩) | exact V.y vAuto) ?_)
    | (show VG _ _ _ _ _ _ _ _; refine VG.mk (fun hb => by (try (have hc := And.left hb; have hb := And.right hb; rw [hc])); (try rw [hb]); exact vAuto) ?_)
    | (refine nxX ?_)
    | (refine G.condN rfl (fun hc => ?_) (fun hc => ?_) <;> (try first | exact False.elim hc | (exfalso; omega))))
  refine X.ret (vs := [_]) rfl ⟨rfl, rfl⟩ rfl (fun w hw => ⟨ret_bool ?_, hw.ext⟩)
  simp [eqCells, vEq]
theorem ratioLists_c {A : Option Addr} {n c : Nat} {l : List FrP} (hm : l.length ≤ 9223372036854775807) (hj : allJ l) : ContIn Tryd.prog (fun w => RdF (.slice A n c) l w ∧ LaidT w) 10 [.slice A n c] (.bool true) := by
  by_cases hc : (40 < l.length ∧ l.length ≤ 1000) ∨ 3000 < l.length
  · exact rl_far hc hm
  · exact rl_near hc (median_c A n c l (by omega) hj) (mean_c _ l (by omega) hj) (median3_c _ l (by omega) hj) (mean3_c _ l (by omega) hj)
end Go.Proofs.YtnanempkkeokbaaDoor
