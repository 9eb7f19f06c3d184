/- 'Days follow one another', as a contract. -/
import Derived.Test.YtnmiflblagdfeaaCal4
set_option linter.unusedVariables false
namespace Go.Proofs.Ytnmiflblagdfeaa
open Go.RowKit

theorem steps_day {n y m d : Int} (hv : validB y m d = true) (hnum : num y m d = n) (hlt : n < 2921939) (h1 : d < dim y m) : Cont Try.prog 7 [.int .i64 n] (.bool true) := fun w => by
  have hb := num_bd hv
  have hwb := wd_bd y m d
  have hrt : rightB y m = true := by simp only [validB, Bool.and_eq_true] at hv; exact hv.1.1
  obtain ⟨hy, hm, hdd⟩ := valid_of hv
  have hdm := dim_bd y m
  have hcb := cum_bd y (m - 1).toNat
  have hdb : 1 ≤ doy y m d ∧ doy y m d ≤ 1000 := by unfold doy; omega
  obtain ⟨hv', hn', hdoy⟩ := next_day hv h1
  have hw7 := wd_next hn' hb.1
  have hcmp := cmp_next hn'
  refine enter Try.func7 rfl rfl rfl ?_
  repeat' (first
    | (show YK _ _ _ _ _ _ _; first | refine YK.mk (y_callA (awake_c) rfl) ?_ | refine YK.mk (y_callA (dateOf_t hv hnum) ⟨rfl, rfl⟩) ?_ | refine YK.mk (y_callA (Number_t hv) ⟨rfl, rfl⟩) ?_ | refine YK.mk (y_callA (Number_t hv') ⟨rfl, rfl⟩) ?_ | refine YK.mk (y_callA (valid_t hv) ⟨rfl, rfl⟩) ?_ | refine YK.mk (y_callA (add_t hv hv' (by omega)) ⟨rfl, rfl, rfl⟩) ?_ | refine YK.mk (y_callA (Weekday_t hv) ⟨rfl, rfl⟩) ?_ | refine YK.mk (y_callA (Weekday_t hv') ⟨rfl, rfl⟩) ?_ | refine YK.mk (y_callA (DayOfYear_t hv) ⟨rfl, rfl⟩) ?_ | refine YK.mk (y_callA (DayOfYear_t hv') ⟨rfl, rfl⟩) ?_ | refine YK.mk (y_callA (Cmp_t hv hv') ⟨rfl, rfl, rfl⟩) ?_ | refine YK.mk (y_callA (Days_t hrt) ⟨rfl, rfl, rfl⟩) ?_ | refine YK.mk (y_callA (leap_c _) ⟨rfl, rfl⟩) ?_ | refine YK.mk (yAuto) ?_)
    | (apply RS.stepK; (case hr => exact rfl); (case hd => exact rfl))
    | (apply RQ.stepK; (case hd => exact rfl))
    | (refine RS.boxA fun _ => ?_)
    | (refine RS.allocA fun _ => ?_)
    | (refine RS.storeA ?_)
    | (refine RS.storeRowA ?_)
    | (apply RS.lTK; (case hj => exact rfl); (case hg => exact rfl); (case hb => (with_reducible rfl)); (case hd => exact rfl))
    | (refine RS.xT ?_)
    | (apply RS.gTK; (case hj => exact rfl); (case hg => exact rfl); (case hd => exact rfl))
    | (apply RS.gTcK; (case hj => exact rfl); (case hg => exact rfl); (case hd => exact rfl))
    | (apply RS.lFK; (case hj => exact rfl); (case hg => exact rfl); (case hb => (with_reducible rfl)); (case hd => exact rfl))
    | (refine RS.xF ?_)
    | (apply RS.gFK; (case hj => exact rfl); (case hg => exact rfl); (case hd => exact rfl))
    | (apply RS.gFcK; (case hj => exact rfl); (case hg => exact rfl); (case hd => exact rfl))
    | (apply RQ.lTK; (case hj => exact rfl); (case hg => exact rfl); (case hb => (with_reducible rfl)); (case hd => exact rfl))
    | (refine RQ.xT ?_)
    | (apply RQ.gTK; (case hj => exact rfl); (case hg => exact rfl); (case hd => exact rfl))
    | (apply RQ.gTcK; (case hj => exact rfl); (case hg => exact rfl); (case hd => exact rfl))
    | (apply RQ.lFK; (case hj => exact rfl); (case hg => exact rfl); (case hb => (with_reducible rfl)); (case hd => exact rfl))
    | (refine RQ.xF ?_)
    | (apply RQ.gFK; (case hj => exact rfl); (case hg => exact rfl); (case hd => exact rfl))
    | (apply RQ.gFcK; (case hj => exact rfl); (case hg => exact rfl); (case hd => exact rfl))
    | (show YG _ _ _ _ _ _ _ _; refine YG.mk (fun hb => by (try (have hc := And.left hb; have hb := And.right hb; rw [hc])); (try rw [hb]); first | exact y_callA (awake_c) rfl | exact y_callA (dateOf_t hv hnum) ⟨rfl, rfl⟩ | exact y_callA (Number_t hv) ⟨rfl, rfl⟩ | exact y_callA (Number_t hv') ⟨rfl, rfl⟩ | exact y_callA (valid_t hv) ⟨rfl, rfl⟩ | exact y_callA (add_t hv hv' (by omega)) ⟨rfl, rfl, rfl⟩ | exact y_callA (Weekday_t hv) ⟨rfl, rfl⟩ | exact y_callA (Weekday_t hv') ⟨rfl, rfl⟩ | exact y_callA (DayOfYear_t hv) ⟨rfl, rfl⟩ | exact y_callA (DayOfYear_t hv') ⟨rfl, rfl⟩ | exact y_callA (Cmp_t hv hv') ⟨rfl, rfl, rfl⟩ | exact y_callA (Days_t hrt) ⟨rfl, rfl, rfl⟩ | exact y_callA (leap_c _) ⟨rfl, rfl⟩ | exact yAuto) ?_)
    | (apply RS.finish)
    | (apply RQ.finish)
    | (apply RQ.tail)
    | (apply G.seq)
    | (apply X.then_normal)
    | (apply G.region)
    | (refine G.drawnR (by decide +kernel) (by decide +kernel) (by decide +kernel) ?_)
    | (refine G.drawnTA ?_; simp only [List.length_cons, List.length_nil, Nat.reduceAdd, Nat.reduceSub, List.take_succ_cons, List.take_zero, List.drop_succ_cons, List.drop_zero])
    | (refine G.condN rfl (fun hc => ?_) (fun hc => ?_) <;> (try first | exact False.elim hc | (exfalso; omega)))
    | (apply G.block)
    | (apply G.skip)
    | (apply G.exit)
    | (apply G.ret)
    | (apply X.then_ret)
    | (apply X.then_exit)
    | (apply X.block_out)
    | (apply X.block_normal)
    | (apply X.block_ret)
    | (refine X.block_exit rfl ?_))
  exact X.ret (vs := [_]) rfl ⟨rfl, rfl⟩ rfl (fun w hw => ⟨ret_bool (by simp [eqCells, vEq, hdoy]), hw.ext⟩)

theorem steps_month {n y m d : Int} (hv : validB y m d = true) (hnum : num y m d = n) (hlt : n < 2921939) (h1 : ¬ d < dim y m) (h2 : m < 12) : Cont Try.prog 7 [.int .i64 n] (.bool true) := fun w => by
  have hb := num_bd hv
  have hwb := wd_bd y m d
  have hrt : rightB y m = true := by simp only [validB, Bool.and_eq_true] at hv; exact hv.1.1
  obtain ⟨hy, hm, hdd⟩ := valid_of hv
  have hdm := dim_bd y m
  have hcb := cum_bd y (m - 1).toNat
  have hdb : 1 ≤ doy y m d ∧ doy y m d ≤ 1000 := by unfold doy; omega
  obtain ⟨hv', hn', hdoy⟩ := next_month hv h1 h2
  have hw7 := wd_next hn' hb.1
  have hcmp := cmp_next hn'
  refine enter Try.func7 rfl rfl rfl ?_
  repeat' (first
    | (show YK _ _ _ _ _ _ _; first | refine YK.mk (y_callA (awake_c) rfl) ?_ | refine YK.mk (y_callA (dateOf_t hv hnum) ⟨rfl, rfl⟩) ?_ | refine YK.mk (y_callA (Number_t hv) ⟨rfl, rfl⟩) ?_ | refine YK.mk (y_callA (Number_t hv') ⟨rfl, rfl⟩) ?_ | refine YK.mk (y_callA (valid_t hv) ⟨rfl, rfl⟩) ?_ | refine YK.mk (y_callA (add_t hv hv' (by omega)) ⟨rfl, rfl, rfl⟩) ?_ | refine YK.mk (y_callA (Weekday_t hv) ⟨rfl, rfl⟩) ?_ | refine YK.mk (y_callA (Weekday_t hv') ⟨rfl, rfl⟩) ?_ | refine YK.mk (y_callA (DayOfYear_t hv) ⟨rfl, rfl⟩) ?_ | refine YK.mk (y_callA (DayOfYear_t hv') ⟨rfl, rfl⟩) ?_ | refine YK.mk (y_callA (Cmp_t hv hv') ⟨rfl, rfl, rfl⟩) ?_ | refine YK.mk (y_callA (Days_t hrt) ⟨rfl, rfl, rfl⟩) ?_ | refine YK.mk (y_callA (leap_c _) ⟨rfl, rfl⟩) ?_ | refine YK.mk (yAuto) ?_)
    | (apply RS.stepK; (case hr => exact rfl); (case hd => exact rfl))
    | (apply RQ.stepK; (case hd => exact rfl))
    | (refine RS.boxA fun _ => ?_)
    | (refine RS.allocA fun _ => ?_)
    | (refine RS.storeA ?_)
    | (refine RS.storeRowA ?_)
    | (apply RS.lTK; (case hj => exact rfl); (case hg => exact rfl); (case hb => (with_reducible rfl)); (case hd => exact rfl))
    | (refine RS.xT ?_)
    | (apply RS.gTK; (case hj => exact rfl); (case hg => exact rfl); (case hd => exact rfl))
    | (apply RS.gTcK; (case hj => exact rfl); (case hg => exact rfl); (case hd => exact rfl))
    | (apply RS.lFK; (case hj => exact rfl); (case hg => exact rfl); (case hb => (with_reducible rfl)); (case hd => exact rfl))
    | (refine RS.xF ?_)
    | (apply RS.gFK; (case hj => exact rfl); (case hg => exact rfl); (case hd => exact rfl))
    | (apply RS.gFcK; (case hj => exact rfl); (case hg => exact rfl); (case hd => exact rfl))
    | (apply RQ.lTK; (case hj => exact rfl); (case hg => exact rfl); (case hb => (with_reducible rfl)); (case hd => exact rfl))
    | (refine RQ.xT ?_)
    | (apply RQ.gTK; (case hj => exact rfl); (case hg => exact rfl); (case hd => exact rfl))
    | (apply RQ.gTcK; (case hj => exact rfl); (case hg => exact rfl); (case hd => exact rfl))
    | (apply RQ.lFK; (case hj => exact rfl); (case hg => exact rfl); (case hb => (with_reducible rfl)); (case hd => exact rfl))
    | (refine RQ.xF ?_)
    | (apply RQ.gFK; (case hj => exact rfl); (case hg => exact rfl); (case hd => exact rfl))
    | (apply RQ.gFcK; (case hj => exact rfl); (case hg => exact rfl); (case hd => exact rfl))
    | (show YG _ _ _ _ _ _ _ _; refine YG.mk (fun hb => by (try (have hc := And.left hb; have hb := And.right hb; rw [hc])); (try rw [hb]); first | exact y_callA (awake_c) rfl | exact y_callA (dateOf_t hv hnum) ⟨rfl, rfl⟩ | exact y_callA (Number_t hv) ⟨rfl, rfl⟩ | exact y_callA (Number_t hv') ⟨rfl, rfl⟩ | exact y_callA (valid_t hv) ⟨rfl, rfl⟩ | exact y_callA (add_t hv hv' (by omega)) ⟨rfl, rfl, rfl⟩ | exact y_callA (Weekday_t hv) ⟨rfl, rfl⟩ | exact y_callA (Weekday_t hv') ⟨rfl, rfl⟩ | exact y_callA (DayOfYear_t hv) ⟨rfl, rfl⟩ | exact y_callA (DayOfYear_t hv') ⟨rfl, rfl⟩ | exact y_callA (Cmp_t hv hv') ⟨rfl, rfl, rfl⟩ | exact y_callA (Days_t hrt) ⟨rfl, rfl, rfl⟩ | exact y_callA (leap_c _) ⟨rfl, rfl⟩ | exact yAuto) ?_)
    | (apply RS.finish)
    | (apply RQ.finish)
    | (apply RQ.tail)
    | (apply G.seq)
    | (apply X.then_normal)
    | (apply G.region)
    | (refine G.drawnR (by decide +kernel) (by decide +kernel) (by decide +kernel) ?_)
    | (refine G.drawnTA ?_; simp only [List.length_cons, List.length_nil, Nat.reduceAdd, Nat.reduceSub, List.take_succ_cons, List.take_zero, List.drop_succ_cons, List.drop_zero])
    | (refine G.condN rfl (fun hc => ?_) (fun hc => ?_) <;> (try first | exact False.elim hc | (exfalso; omega)))
    | (apply G.block)
    | (apply G.skip)
    | (apply G.exit)
    | (apply G.ret)
    | (apply X.then_ret)
    | (apply X.then_exit)
    | (apply X.block_out)
    | (apply X.block_normal)
    | (apply X.block_ret)
    | (refine X.block_exit rfl ?_))
  exact X.ret (vs := [_]) rfl ⟨rfl, rfl⟩ rfl (fun w hw => ⟨ret_bool (by simp [eqCells, vEq, hdoy]), hw.ext⟩)

theorem steps_year {n y m d : Int} (hv : validB y m d = true) (hnum : num y m d = n) (hlt : n < 2921939) (h1 : ¬ d < dim y m) (h2 : ¬ m < 12) (h3 : y < 9999) : Cont Try.prog 7 [.int .i64 n] (.bool true) := fun w => by
  have hb := num_bd hv
  have hwb := wd_bd y m d
  have hrt : rightB y m = true := by simp only [validB, Bool.and_eq_true] at hv; exact hv.1.1
  obtain ⟨hy, hm, hdd⟩ := valid_of hv
  have hdm := dim_bd y m
  have hcb := cum_bd y (m - 1).toNat
  have hdb : 1 ≤ doy y m d ∧ doy y m d ≤ 1000 := by unfold doy; omega
  obtain ⟨hv', hn', hdoy, hlast⟩ := next_year hv h1 h2 h3
  have hw7 := wd_next hn' hb.1
  have hcmp := cmp_next hn'
  refine enter Try.func7 rfl rfl rfl ?_
  repeat' (first
    | (show YK _ _ _ _ _ _ _; first | refine YK.mk (y_callA (awake_c) rfl) ?_ | refine YK.mk (y_callA (dateOf_t hv hnum) ⟨rfl, rfl⟩) ?_ | refine YK.mk (y_callA (Number_t hv) ⟨rfl, rfl⟩) ?_ | refine YK.mk (y_callA (Number_t hv') ⟨rfl, rfl⟩) ?_ | refine YK.mk (y_callA (valid_t hv) ⟨rfl, rfl⟩) ?_ | refine YK.mk (y_callA (add_t hv hv' (by omega)) ⟨rfl, rfl, rfl⟩) ?_ | refine YK.mk (y_callA (Weekday_t hv) ⟨rfl, rfl⟩) ?_ | refine YK.mk (y_callA (Weekday_t hv') ⟨rfl, rfl⟩) ?_ | refine YK.mk (y_callA (DayOfYear_t hv) ⟨rfl, rfl⟩) ?_ | refine YK.mk (y_callA (DayOfYear_t hv') ⟨rfl, rfl⟩) ?_ | refine YK.mk (y_callA (Cmp_t hv hv') ⟨rfl, rfl, rfl⟩) ?_ | refine YK.mk (y_callA (Days_t hrt) ⟨rfl, rfl, rfl⟩) ?_ | refine YK.mk (y_callA (leap_c _) ⟨rfl, rfl⟩) ?_ | refine YK.mk (yAuto) ?_)
    | (apply RS.stepK; (case hr => exact rfl); (case hd => exact rfl))
    | (apply RQ.stepK; (case hd => exact rfl))
    | (refine RS.boxA fun _ => ?_)
    | (refine RS.allocA fun _ => ?_)
    | (refine RS.storeA ?_)
    | (refine RS.storeRowA ?_)
    | (apply RS.lTK; (case hj => exact rfl); (case hg => exact rfl); (case hb => (with_reducible rfl)); (case hd => exact rfl))
    | (refine RS.xT ?_)
    | (apply RS.gTK; (case hj => exact rfl); (case hg => exact rfl); (case hd => exact rfl))
    | (apply RS.gTcK; (case hj => exact rfl); (case hg => exact rfl); (case hd => exact rfl))
    | (apply RS.lFK; (case hj => exact rfl); (case hg => exact rfl); (case hb => (with_reducible rfl)); (case hd => exact rfl))
    | (refine RS.xF ?_)
    | (apply RS.gFK; (case hj => exact rfl); (case hg => exact rfl); (case hd => exact rfl))
    | (apply RS.gFcK; (case hj => exact rfl); (case hg => exact rfl); (case hd => exact rfl))
    | (apply RQ.lTK; (case hj => exact rfl); (case hg => exact rfl); (case hb => (with_reducible rfl)); (case hd => exact rfl))
    | (refine RQ.xT ?_)
    | (apply RQ.gTK; (case hj => exact rfl); (case hg => exact rfl); (case hd => exact rfl))
    | (apply RQ.gTcK; (case hj => exact rfl); (case hg => exact rfl); (case hd => exact rfl))
    | (apply RQ.lFK; (case hj => exact rfl); (case hg => exact rfl); (case hb => (with_reducible rfl)); (case hd => exact rfl))
    | (refine RQ.xF ?_)
    | (apply RQ.gFK; (case hj => exact rfl); (case hg => exact rfl); (case hd => exact rfl))
    | (apply RQ.gFcK; (case hj => exact rfl); (case hg => exact rfl); (case hd => exact rfl))
    | (show YG _ _ _ _ _ _ _ _; refine YG.mk (fun hb => by (try (have hc := And.left hb; have hb := And.right hb; rw [hc])); (try rw [hb]); first | exact y_callA (awake_c) rfl | exact y_callA (dateOf_t hv hnum) ⟨rfl, rfl⟩ | exact y_callA (Number_t hv) ⟨rfl, rfl⟩ | exact y_callA (Number_t hv') ⟨rfl, rfl⟩ | exact y_callA (valid_t hv) ⟨rfl, rfl⟩ | exact y_callA (add_t hv hv' (by omega)) ⟨rfl, rfl, rfl⟩ | exact y_callA (Weekday_t hv) ⟨rfl, rfl⟩ | exact y_callA (Weekday_t hv') ⟨rfl, rfl⟩ | exact y_callA (DayOfYear_t hv) ⟨rfl, rfl⟩ | exact y_callA (DayOfYear_t hv') ⟨rfl, rfl⟩ | exact y_callA (Cmp_t hv hv') ⟨rfl, rfl, rfl⟩ | exact y_callA (Days_t hrt) ⟨rfl, rfl, rfl⟩ | exact y_callA (leap_c _) ⟨rfl, rfl⟩ | exact yAuto) ?_)
    | (apply RS.finish)
    | (apply RQ.finish)
    | (apply RQ.tail)
    | (apply G.seq)
    | (apply X.then_normal)
    | (apply G.region)
    | (refine G.drawnR (by decide +kernel) (by decide +kernel) (by decide +kernel) ?_)
    | (refine G.drawnTA ?_; simp only [List.length_cons, List.length_nil, Nat.reduceAdd, Nat.reduceSub, List.take_succ_cons, List.take_zero, List.drop_succ_cons, List.drop_zero])
    | (refine G.condN rfl (fun hc => ?_) (fun hc => ?_) <;> (try first | exact False.elim hc | (exfalso; omega)))
    | (apply G.block)
    | (apply G.skip)
    | (apply G.exit)
    | (apply G.ret)
    | (apply X.then_ret)
    | (apply X.then_exit)
    | (apply X.block_out)
    | (apply X.block_normal)
    | (apply X.block_ret)
    | (refine X.block_exit rfl ?_))
  all_goals exact X.ret (vs := [_]) rfl ⟨rfl, rfl⟩ rfl (fun w hw => ⟨ret_bool (by simp [eqCells, vEq, hdoy, hlast, hc]), hw.ext⟩)

theorem steps_c (n : Int) : Cont Try.prog 7 [.int .i64 n] (.bool true) := by
  by_cases hr : -730119 ≤ n ∧ n ≤ 2921939
  · obtain ⟨y, m, d, hv, hnum⟩ := date_ex n hr.1 hr.2
    by_cases hl : n = 2921939
    · intro w
      obtain ⟨rfl, rfl, rfl⟩ := last_num hv (hnum.trans hl)
      refine enter Try.func7 rfl rfl rfl ?_
      repeat' (first
    | (show YK _ _ _ _ _ _ _; first | refine YK.mk (y_callA (awake_c) rfl) ?_ | refine YK.mk (y_callA (dateOf_t hv hnum) ⟨rfl, rfl⟩) ?_ | refine YK.mk (y_callA (Number_t hv) ⟨rfl, rfl⟩) ?_ | refine YK.mk (y_callA (valid_t hv) ⟨rfl, rfl⟩) ?_ | refine YK.mk (y_callA (add_f hv (by omega)) ⟨rfl, rfl, rfl⟩) ?_ | refine YK.mk (yAuto) ?_)
    | (apply RS.stepK; (case hr => exact rfl); (case hd => exact rfl))
    | (apply RQ.stepK; (case hd => exact rfl))
    | (refine RS.boxA fun _ => ?_)
    | (refine RS.allocA fun _ => ?_)
    | (refine RS.storeA ?_)
    | (refine RS.storeRowA ?_)
    | (apply RS.lTK; (case hj => exact rfl); (case hg => exact rfl); (case hb => (with_reducible rfl)); (case hd => exact rfl))
    | (refine RS.xT ?_)
    | (apply RS.gTK; (case hj => exact rfl); (case hg => exact rfl); (case hd => exact rfl))
    | (apply RS.gTcK; (case hj => exact rfl); (case hg => exact rfl); (case hd => exact rfl))
    | (apply RS.lFK; (case hj => exact rfl); (case hg => exact rfl); (case hb => (with_reducible rfl)); (case hd => exact rfl))
    | (refine RS.xF ?_)
    | (apply RS.gFK; (case hj => exact rfl); (case hg => exact rfl); (case hd => exact rfl))
    | (apply RS.gFcK; (case hj => exact rfl); (case hg => exact rfl); (case hd => exact rfl))
    | (apply RQ.lTK; (case hj => exact rfl); (case hg => exact rfl); (case hb => (with_reducible rfl)); (case hd => exact rfl))
    | (refine RQ.xT ?_)
    | (apply RQ.gTK; (case hj => exact rfl); (case hg => exact rfl); (case hd => exact rfl))
    | (apply RQ.gTcK; (case hj => exact rfl); (case hg => exact rfl); (case hd => exact rfl))
    | (apply RQ.lFK; (case hj => exact rfl); (case hg => exact rfl); (case hb => (with_reducible rfl)); (case hd => exact rfl))
    | (refine RQ.xF ?_)
    | (apply RQ.gFK; (case hj => exact rfl); (case hg => exact rfl); (case hd => exact rfl))
    | (apply RQ.gFcK; (case hj => exact rfl); (case hg => exact rfl); (case hd => exact rfl))
    | (show YG _ _ _ _ _ _ _ _; refine YG.mk (fun hb => by (try (have hc := And.left hb; have hb := And.right hb; rw [hc])); (try rw [hb]); first | exact y_callA (awake_c) rfl | exact y_callA (dateOf_t hv hnum) ⟨rfl, rfl⟩ | exact y_callA (Number_t hv) ⟨rfl, rfl⟩ | exact y_callA (valid_t hv) ⟨rfl, rfl⟩ | exact y_callA (add_f hv (by omega)) ⟨rfl, rfl, rfl⟩ | exact yAuto) ?_)
    | (apply RS.finish)
    | (apply RQ.finish)
    | (apply RQ.tail)
    | (apply G.seq)
    | (apply X.then_normal)
    | (apply G.region)
    | (refine G.drawnR (by decide +kernel) (by decide +kernel) (by decide +kernel) ?_)
    | (refine G.drawnTA ?_; simp only [List.length_cons, List.length_nil, Nat.reduceAdd, Nat.reduceSub, List.take_succ_cons, List.take_zero, List.drop_succ_cons, List.drop_zero])
    | (refine G.condN rfl (fun hc => ?_) (fun hc => ?_) <;> (try first | exact False.elim hc | (exfalso; omega)))
    | (apply G.block)
    | (apply G.skip)
    | (apply G.exit)
    | (apply G.ret)
    | (apply X.then_ret)
    | (apply X.then_exit)
    | (apply X.block_out)
    | (apply X.block_normal)
    | (apply X.block_ret)
    | (refine X.block_exit rfl ?_))
      exact X.ret (vs := [_]) rfl ⟨rfl, rfl⟩ rfl (fun w hw => ⟨ret_bool (by simp [eqCells, vEq]), hw.ext⟩)
    · by_cases h1 : d < dim y m
      · exact steps_day hv hnum (by omega) h1
      · by_cases h2 : m < 12
        · exact steps_month hv hnum (by omega) h1 h2
        · refine steps_year hv hnum (by omega) h1 h2 ?_
          obtain ⟨hy, hm, hd⟩ := valid_of hv
          rcases Int.lt_or_eq_of_le hy.2 with h | h
          · exact h
          · exfalso
            have hin := num_in hv
            obtain rfl : m = 12 := by omega
            have h31 : dim y 12 = 31 := by simp [dim]
            obtain rfl : d = 31 := by omega
            subst h
            exact hl (hnum.symm.trans (by decide))
  · intro w
    refine enter Try.func7 rfl rfl rfl ?_
    repeat' (first
    | (show YK _ _ _ _ _ _ _; first | refine YK.mk (y_callA (awake_c) rfl) ?_ | refine YK.mk (y_callA (dateOf_f (by omega)) ⟨rfl, rfl⟩) ?_ | refine YK.mk (yAuto) ?_)
    | (apply RS.stepK; (case hr => exact rfl); (case hd => exact rfl))
    | (apply RQ.stepK; (case hd => exact rfl))
    | (refine RS.boxA fun _ => ?_)
    | (refine RS.allocA fun _ => ?_)
    | (refine RS.storeA ?_)
    | (refine RS.storeRowA ?_)
    | (apply RS.lTK; (case hj => exact rfl); (case hg => exact rfl); (case hb => (with_reducible rfl)); (case hd => exact rfl))
    | (refine RS.xT ?_)
    | (apply RS.gTK; (case hj => exact rfl); (case hg => exact rfl); (case hd => exact rfl))
    | (apply RS.gTcK; (case hj => exact rfl); (case hg => exact rfl); (case hd => exact rfl))
    | (apply RS.lFK; (case hj => exact rfl); (case hg => exact rfl); (case hb => (with_reducible rfl)); (case hd => exact rfl))
    | (refine RS.xF ?_)
    | (apply RS.gFK; (case hj => exact rfl); (case hg => exact rfl); (case hd => exact rfl))
    | (apply RS.gFcK; (case hj => exact rfl); (case hg => exact rfl); (case hd => exact rfl))
    | (apply RQ.lTK; (case hj => exact rfl); (case hg => exact rfl); (case hb => (with_reducible rfl)); (case hd => exact rfl))
    | (refine RQ.xT ?_)
    | (apply RQ.gTK; (case hj => exact rfl); (case hg => exact rfl); (case hd => exact rfl))
    | (apply RQ.gTcK; (case hj => exact rfl); (case hg => exact rfl); (case hd => exact rfl))
    | (apply RQ.lFK; (case hj => exact rfl); (case hg => exact rfl); (case hb => (with_reducible rfl)); (case hd => exact rfl))
    | (refine RQ.xF ?_)
    | (apply RQ.gFK; (case hj => exact rfl); (case hg => exact rfl); (case hd => exact rfl))
    | (apply RQ.gFcK; (case hj => exact rfl); (case hg => exact rfl); (case hd => exact rfl))
    | (show YG _ _ _ _ _ _ _ _; refine YG.mk (fun hb => by (try (have hc := And.left hb; have hb := And.right hb; rw [hc])); (try rw [hb]); first | exact y_callA (awake_c) rfl | exact y_callA (dateOf_f (by omega)) ⟨rfl, rfl⟩ | exact yAuto) ?_)
    | (apply RS.finish)
    | (apply RQ.finish)
    | (apply RQ.tail)
    | (apply G.seq)
    | (apply X.then_normal)
    | (apply G.region)
    | (refine G.drawnR (by decide +kernel) (by decide +kernel) (by decide +kernel) ?_)
    | (refine G.drawnTA ?_; simp only [List.length_cons, List.length_nil, Nat.reduceAdd, Nat.reduceSub, List.take_succ_cons, List.take_zero, List.drop_succ_cons, List.drop_zero])
    | (refine G.condN rfl (fun hc => ?_) (fun hc => ?_) <;> (try first | exact False.elim hc | (exfalso; omega)))
    | (apply G.block)
    | (apply G.skip)
    | (apply G.exit)
    | (apply G.ret)
    | (apply X.then_ret)
    | (apply X.then_exit)
    | (apply X.block_out)
    | (apply X.block_normal)
    | (apply X.block_ret)
    | (refine X.block_exit rfl ?_))
    exact X.ret (vs := [_]) rfl ⟨rfl, rfl⟩ rfl (fun w hw => ⟨ret_bool (by simp), hw.ext⟩)
end Go.Proofs.Ytnmiflblagdfeaa
